/- A FAULT TELLS ITS LINKS: of any fault, wrapped however often, its links, its code, where it is, and its text are what the chapter says; of nothing there is none. (part 3 of 5) -/
import Derived.Test.YtekldjimdmkgaaaDoorKTroubleTells2
import Derived.KernelRfl
import Derived.LaidEql
import Derived.RowKitTokens
import Derived.Stop.Asserts
import Derived.Test.YtekldjimdmkgaaaDoorProg
import Derived.WalkKit
namespace Go.Proofs.YtekldjimdmkgaaaDoor
open Go Go.Va
set_option linter.unusedSimpArgs false
def ty : TypeId → Option TI
  | 1 => some ⟨.func, 1, 8, .nilf⟩
  | 2 => some ⟨.int .i64, 1, 8, .int .i64 0⟩
  | 3 => some ⟨.int .i64, 1, 8, .int .i64 0⟩
  | 4 => some ⟨.bool, 1, 1, .bool false⟩
  | 5 => some ⟨.int .u8, 1, 1, .int .u8 0⟩
  | 6 => some ⟨.int .u8, 1, 1, .int .u8 0⟩
  | 7 => some ⟨.struct [(0, 2), (1, 3), (2, 4), (3, 6)], 4, 24, .agg [.int .i64 0, .int .i64 0, .bool false, .int .u8 0]⟩
  | 8 => some ⟨.struct [(0, 2), (1, 3), (2, 4), (3, 6)], 4, 24, .agg [.int .i64 0, .int .i64 0, .bool false, .int .u8 0]⟩
  | 9 => some ⟨.str, 1, 16, .str ⟨#[]⟩⟩
  | 10 => some ⟨.str, 1, 16, .str ⟨#[]⟩⟩
  | 11 => some ⟨.str, 1, 16, .str ⟨#[]⟩⟩
  | 12 => some ⟨.int .u64, 1, 8, .int .u64 0⟩
  | 13 => some ⟨.struct [(0, 9), (1, 12)], 2, 24, .agg [.str ⟨#[]⟩, .int .u64 0]⟩
  | 14 => some ⟨.struct [(0, 9), (1, 12)], 2, 24, .agg [.str ⟨#[]⟩, .int .u64 0]⟩
  | 15 => some ⟨.ptr 95, 1, 8, .nilp⟩
  | 16 => some ⟨.ptr 98, 1, 8, .nilp⟩
  | 17 => some ⟨.ptr 108, 1, 8, .nilp⟩
  | 18 => some ⟨.struct [(0, 17)], 1, 8, .agg [.nilp]⟩
  | 19 => some ⟨.struct [(0, 17)], 1, 8, .agg [.nilp]⟩
  | 20 => some ⟨.iface, 1, 16, .nili⟩
  | 21 => some ⟨.int .i32, 1, 4, .int .i32 0⟩
  | 22 => some ⟨.int .i64, 1, 8, .int .i64 0⟩
  | 23 => some ⟨.slice 32, 1, 24, .nils⟩
  | 24 => some ⟨.iface, 1, 16, .nili⟩
  | 25 => some ⟨.iface, 1, 16, .nili⟩
  | 26 => some ⟨.func, 1, 8, .nilf⟩
  | 27 => some ⟨.func, 1, 8, .nilf⟩
  | 28 => some ⟨.func, 1, 8, .nilf⟩
  | 29 => some ⟨.func, 1, 8, .nilf⟩
  | 30 => some ⟨.func, 1, 8, .nilf⟩
  | 31 => some ⟨.struct [(0, 9), (1, 3), (2, 22)], 3, 32, .agg [.str ⟨#[]⟩, .int .i64 0, .int .i64 0]⟩
  | 32 => some ⟨.struct [(0, 9), (1, 3), (2, 22)], 3, 32, .agg [.str ⟨#[]⟩, .int .i64 0, .int .i64 0]⟩
  | 33 => some ⟨.func, 1, 8, .nilf⟩
  | 35 => some ⟨.func, 1, 8, .nilf⟩
  | 36 => some ⟨.func, 1, 8, .nilf⟩
  | 37 => some ⟨.func, 1, 8, .nilf⟩
  | 38 => some ⟨.func, 1, 8, .nilf⟩
  | 39 => some ⟨.func, 1, 8, .nilf⟩
  | 40 => some ⟨.func, 1, 8, .nilf⟩
  | 41 => some ⟨.func, 1, 8, .nilf⟩
  | 43 => some ⟨.func, 1, 8, .nilf⟩
  | 44 => some ⟨.func, 1, 8, .nilf⟩
  | 45 => some ⟨.func, 1, 8, .nilf⟩
  | 46 => some ⟨.func, 1, 8, .nilf⟩
  | 47 => some ⟨.func, 1, 8, .nilf⟩
  | 48 => some ⟨.func, 1, 8, .nilf⟩
  | 49 => some ⟨.func, 1, 8, .nilf⟩
  | 50 => some ⟨.ptr 52, 1, 8, .nilp⟩
  | 51 => some ⟨.struct [(0, 9), (1, 3), (2, 22), (3, 25)], 4, 48, .agg [.str ⟨#[]⟩, .int .i64 0, .int .i64 0, .nili]⟩
  | 52 => some ⟨.struct [(0, 9), (1, 3), (2, 22), (3, 25)], 4, 48, .agg [.str ⟨#[]⟩, .int .i64 0, .int .i64 0, .nili]⟩
  | 53 => some ⟨.func, 1, 8, .nilf⟩
  | 54 => some ⟨.ptr 50, 1, 8, .nilp⟩
  | 55 => some ⟨.func, 1, 8, .nilf⟩
  | 56 => some ⟨.func, 1, 8, .nilf⟩
  | 57 => some ⟨.struct [(0, 22)], 1, 8, .agg [.int .i64 0]⟩
  | 58 => some ⟨.struct [(0, 22)], 1, 8, .agg [.int .i64 0]⟩
  | 59 => some ⟨.func, 1, 8, .nilf⟩
  | 61 => some ⟨.int .u64, 1, 8, .int .u64 0⟩
  | 64 => some ⟨.func, 1, 8, .nilf⟩
  | 65 => some ⟨.iface, 1, 16, .nili⟩
  | 66 => some ⟨.iface, 1, 16, .nili⟩
  | 67 => some ⟨.func, 1, 8, .nilf⟩
  | 68 => some ⟨.int .u8, 1, 1, .int .u8 0⟩
  | 69 => some ⟨.func, 1, 8, .nilf⟩
  | 70 => some ⟨.func, 1, 8, .nilf⟩
  | 71 => some ⟨.func, 1, 8, .nilf⟩
  | 72 => some ⟨.func, 1, 8, .nilf⟩
  | 73 => some ⟨.func, 1, 8, .nilf⟩
  | 74 => some ⟨.slice 25, 1, 24, .nils⟩
  | 75 => some ⟨.ptr 77, 1, 8, .nilp⟩
  | 76 => some ⟨.struct [(0, 74)], 1, 24, .agg [.nils]⟩
  | 77 => some ⟨.struct [(0, 74)], 1, 24, .agg [.nils]⟩
  | 78 => some ⟨.struct [(0, 17)], 1, 8, .agg [.nilp]⟩
  | 79 => some ⟨.struct [(0, 17)], 1, 8, .agg [.nilp]⟩
  | 80 => some ⟨.ptr 113, 1, 8, .nilp⟩
  | 81 => some ⟨.func, 1, 8, .nilf⟩
  | 82 => some ⟨.func, 1, 8, .nilf⟩
  | 83 => some ⟨.iface, 1, 16, .nili⟩
  | 85 => some ⟨.func, 1, 8, .nilf⟩
  | 86 => some ⟨.iface, 1, 16, .nili⟩
  | 87 => some ⟨.func, 1, 8, .nilf⟩
  | 88 => some ⟨.iface, 1, 16, .nili⟩
  | 89 => some ⟨.func, 1, 8, .nilf⟩
  | 90 => some ⟨.iface, 1, 16, .nili⟩
  | 92 => some ⟨.func, 1, 8, .nilf⟩
  | 93 => some ⟨.func, 1, 8, .nilf⟩
  | 94 => some ⟨.struct [(0, 17), (1, 17), (2, 17), (3, 9)], 4, 40, .agg [.nilp, .nilp, .nilp, .str ⟨#[]⟩]⟩
  | 95 => some ⟨.struct [(0, 17), (1, 17), (2, 17), (3, 9)], 4, 40, .agg [.nilp, .nilp, .nilp, .str ⟨#[]⟩]⟩
  | 99 => some ⟨.func, 1, 8, .nilf⟩
  | 100 => some ⟨.func, 1, 8, .nilf⟩
  | 101 => some ⟨.int .u32, 1, 4, .int .u32 0⟩
  | 102 => some ⟨.int .u8, 1, 1, .int .u8 0⟩
  | 103 => some ⟨.func, 1, 8, .nilf⟩
  | 104 => some ⟨.ptr 5, 1, 8, .nilp⟩
  | 105 => some ⟨.int .i32, 1, 4, .int .i32 0⟩
  | 106 => some ⟨.int .i32, 1, 4, .int .i32 0⟩
  | 107 => some ⟨.struct [(0, 12), (1, 12), (2, 101), (3, 102), (4, 5), (5, 5), (6, 68), (7, 103), (8, 104), (9, 105), (10, 106)], 11, 48, .agg [.int .u64 0, .int .u64 0, .int .u32 0, .int .u8 0, .int .u8 0, .int .u8 0, .int .u8 0, .nilf, .nilp, .int .i32 0, .int .i32 0]⟩
  | 108 => some ⟨.struct [(0, 12), (1, 12), (2, 101), (3, 102), (4, 5), (5, 5), (6, 68), (7, 103), (8, 104), (9, 105), (10, 106)], 11, 48, .agg [.int .u64 0, .int .u64 0, .int .u32 0, .int .u8 0, .int .u8 0, .int .u8 0, .int .u8 0, .nilf, .nilp, .int .i32 0, .int .i32 0]⟩
  | 110 => some ⟨.func, 1, 8, .nilf⟩
  | 111 => some ⟨.func, 1, 8, .nilf⟩
  | 112 => some ⟨.struct [(0, 9), (1, 68)], 2, 24, .agg [.str ⟨#[]⟩, .int .u8 0]⟩
  | 113 => some ⟨.struct [(0, 9), (1, 68)], 2, 24, .agg [.str ⟨#[]⟩, .int .u8 0]⟩
  | 114 => some ⟨.ptr 118, 1, 8, .nilp⟩
  | 115 => some ⟨.func, 1, 8, .nilf⟩
  | 116 => some ⟨.int .u16, 1, 2, .int .u16 0⟩
  | 117 => some ⟨.struct [(0, 105), (1, 116), (2, 116), (3, 101), (4, 101)], 5, 16, .agg [.int .i32 0, .int .u16 0, .int .u16 0, .int .u32 0, .int .u32 0]⟩
  | 118 => some ⟨.struct [(0, 105), (1, 116), (2, 116), (3, 101), (4, 101)], 5, 16, .agg [.int .i32 0, .int .u16 0, .int .u16 0, .int .u32 0, .int .u32 0]⟩
  | 119 => some ⟨.slice 122, 1, 24, .nils⟩
  | 120 => some ⟨.int .i32, 1, 4, .int .i32 0⟩
  | 121 => some ⟨.struct [(0, 105), (1, 106), (2, 120), (3, 120)], 4, 16, .agg [.int .i32 0, .int .i32 0, .int .i32 0, .int .i32 0]⟩
  | 122 => some ⟨.struct [(0, 105), (1, 106), (2, 120), (3, 120)], 4, 16, .agg [.int .i32 0, .int .i32 0, .int .i32 0, .int .i32 0]⟩
  | _ => none
theorem ty1 : ty 1 = some ⟨.func, 1, 8, .nilf⟩ := rfl
theorem td1 : tdOf ty 1 = .func := rfl
theorem sz1 : szOf ty 1 = 1 := rfl
theorem ty2 : ty 2 = some ⟨.int .i64, 1, 8, .int .i64 0⟩ := rfl
theorem td2 : tdOf ty 2 = .int .i64 := rfl
theorem sz2 : szOf ty 2 = 1 := rfl
theorem ty3 : ty 3 = some ⟨.int .i64, 1, 8, .int .i64 0⟩ := rfl
theorem td3 : tdOf ty 3 = .int .i64 := rfl
theorem sz3 : szOf ty 3 = 1 := rfl
theorem ty4 : ty 4 = some ⟨.bool, 1, 1, .bool false⟩ := rfl
theorem td4 : tdOf ty 4 = .bool := rfl
theorem sz4 : szOf ty 4 = 1 := rfl
theorem ty5 : ty 5 = some ⟨.int .u8, 1, 1, .int .u8 0⟩ := rfl
theorem td5 : tdOf ty 5 = .int .u8 := rfl
theorem sz5 : szOf ty 5 = 1 := rfl
theorem ty6 : ty 6 = some ⟨.int .u8, 1, 1, .int .u8 0⟩ := rfl
theorem td6 : tdOf ty 6 = .int .u8 := rfl
theorem sz6 : szOf ty 6 = 1 := rfl
theorem ty7 : ty 7 = some ⟨.struct [(0, 2), (1, 3), (2, 4), (3, 6)], 4, 24, .agg [.int .i64 0, .int .i64 0, .bool false, .int .u8 0]⟩ := rfl
theorem td7 : tdOf ty 7 = .struct [(0, 2), (1, 3), (2, 4), (3, 6)] := rfl
theorem sz7 : szOf ty 7 = 4 := rfl
theorem ty8 : ty 8 = some ⟨.struct [(0, 2), (1, 3), (2, 4), (3, 6)], 4, 24, .agg [.int .i64 0, .int .i64 0, .bool false, .int .u8 0]⟩ := rfl
theorem td8 : tdOf ty 8 = .struct [(0, 2), (1, 3), (2, 4), (3, 6)] := rfl
theorem sz8 : szOf ty 8 = 4 := rfl
theorem ty9 : ty 9 = some ⟨.str, 1, 16, .str ⟨#[]⟩⟩ := rfl
theorem td9 : tdOf ty 9 = .str := rfl
theorem sz9 : szOf ty 9 = 1 := rfl
theorem ty10 : ty 10 = some ⟨.str, 1, 16, .str ⟨#[]⟩⟩ := rfl
theorem td10 : tdOf ty 10 = .str := rfl
theorem sz10 : szOf ty 10 = 1 := rfl
theorem ty11 : ty 11 = some ⟨.str, 1, 16, .str ⟨#[]⟩⟩ := rfl
theorem td11 : tdOf ty 11 = .str := rfl
theorem sz11 : szOf ty 11 = 1 := rfl
theorem ty12 : ty 12 = some ⟨.int .u64, 1, 8, .int .u64 0⟩ := rfl
theorem td12 : tdOf ty 12 = .int .u64 := rfl
theorem sz12 : szOf ty 12 = 1 := rfl
theorem ty13 : ty 13 = some ⟨.struct [(0, 9), (1, 12)], 2, 24, .agg [.str ⟨#[]⟩, .int .u64 0]⟩ := rfl
theorem td13 : tdOf ty 13 = .struct [(0, 9), (1, 12)] := rfl
theorem sz13 : szOf ty 13 = 2 := rfl
theorem ty14 : ty 14 = some ⟨.struct [(0, 9), (1, 12)], 2, 24, .agg [.str ⟨#[]⟩, .int .u64 0]⟩ := rfl
theorem td14 : tdOf ty 14 = .struct [(0, 9), (1, 12)] := rfl
theorem sz14 : szOf ty 14 = 2 := rfl
theorem ty15 : ty 15 = some ⟨.ptr 95, 1, 8, .nilp⟩ := rfl
theorem td15 : tdOf ty 15 = .ptr 95 := rfl
theorem sz15 : szOf ty 15 = 1 := rfl
theorem ty16 : ty 16 = some ⟨.ptr 98, 1, 8, .nilp⟩ := rfl
theorem td16 : tdOf ty 16 = .ptr 98 := rfl
theorem sz16 : szOf ty 16 = 1 := rfl
theorem ty17 : ty 17 = some ⟨.ptr 108, 1, 8, .nilp⟩ := rfl
theorem td17 : tdOf ty 17 = .ptr 108 := rfl
theorem sz17 : szOf ty 17 = 1 := rfl
theorem ty18 : ty 18 = some ⟨.struct [(0, 17)], 1, 8, .agg [.nilp]⟩ := rfl
theorem td18 : tdOf ty 18 = .struct [(0, 17)] := rfl
theorem sz18 : szOf ty 18 = 1 := rfl
theorem ty19 : ty 19 = some ⟨.struct [(0, 17)], 1, 8, .agg [.nilp]⟩ := rfl
theorem td19 : tdOf ty 19 = .struct [(0, 17)] := rfl
theorem sz19 : szOf ty 19 = 1 := rfl
theorem ty20 : ty 20 = some ⟨.iface, 1, 16, .nili⟩ := rfl
theorem td20 : tdOf ty 20 = .iface := rfl
theorem sz20 : szOf ty 20 = 1 := rfl
theorem ty21 : ty 21 = some ⟨.int .i32, 1, 4, .int .i32 0⟩ := rfl
theorem td21 : tdOf ty 21 = .int .i32 := rfl
theorem sz21 : szOf ty 21 = 1 := rfl
theorem ty22 : ty 22 = some ⟨.int .i64, 1, 8, .int .i64 0⟩ := rfl
theorem td22 : tdOf ty 22 = .int .i64 := rfl
theorem sz22 : szOf ty 22 = 1 := rfl
theorem ty23 : ty 23 = some ⟨.slice 32, 1, 24, .nils⟩ := rfl
theorem td23 : tdOf ty 23 = .slice 32 := rfl
theorem sz23 : szOf ty 23 = 1 := rfl
theorem ty24 : ty 24 = some ⟨.iface, 1, 16, .nili⟩ := rfl
theorem td24 : tdOf ty 24 = .iface := rfl
theorem sz24 : szOf ty 24 = 1 := rfl
theorem ty25 : ty 25 = some ⟨.iface, 1, 16, .nili⟩ := rfl
theorem td25 : tdOf ty 25 = .iface := rfl
theorem sz25 : szOf ty 25 = 1 := rfl
theorem ty26 : ty 26 = some ⟨.func, 1, 8, .nilf⟩ := rfl
theorem td26 : tdOf ty 26 = .func := rfl
theorem sz26 : szOf ty 26 = 1 := rfl
theorem ty27 : ty 27 = some ⟨.func, 1, 8, .nilf⟩ := rfl
theorem td27 : tdOf ty 27 = .func := rfl
theorem sz27 : szOf ty 27 = 1 := rfl
theorem ty28 : ty 28 = some ⟨.func, 1, 8, .nilf⟩ := rfl
theorem td28 : tdOf ty 28 = .func := rfl
theorem sz28 : szOf ty 28 = 1 := rfl
theorem ty29 : ty 29 = some ⟨.func, 1, 8, .nilf⟩ := rfl
theorem td29 : tdOf ty 29 = .func := rfl
theorem sz29 : szOf ty 29 = 1 := rfl
theorem ty30 : ty 30 = some ⟨.func, 1, 8, .nilf⟩ := rfl
theorem td30 : tdOf ty 30 = .func := rfl
theorem sz30 : szOf ty 30 = 1 := rfl
theorem ty31 : ty 31 = some ⟨.struct [(0, 9), (1, 3), (2, 22)], 3, 32, .agg [.str ⟨#[]⟩, .int .i64 0, .int .i64 0]⟩ := rfl
theorem td31 : tdOf ty 31 = .struct [(0, 9), (1, 3), (2, 22)] := rfl
theorem sz31 : szOf ty 31 = 3 := rfl
theorem ty32 : ty 32 = some ⟨.struct [(0, 9), (1, 3), (2, 22)], 3, 32, .agg [.str ⟨#[]⟩, .int .i64 0, .int .i64 0]⟩ := rfl
theorem td32 : tdOf ty 32 = .struct [(0, 9), (1, 3), (2, 22)] := rfl
theorem sz32 : szOf ty 32 = 3 := rfl
theorem ty33 : ty 33 = some ⟨.func, 1, 8, .nilf⟩ := rfl
theorem td33 : tdOf ty 33 = .func := rfl
theorem sz33 : szOf ty 33 = 1 := rfl
theorem ty35 : ty 35 = some ⟨.func, 1, 8, .nilf⟩ := rfl
theorem td35 : tdOf ty 35 = .func := rfl
theorem sz35 : szOf ty 35 = 1 := rfl
theorem ty36 : ty 36 = some ⟨.func, 1, 8, .nilf⟩ := rfl
theorem td36 : tdOf ty 36 = .func := rfl
theorem sz36 : szOf ty 36 = 1 := rfl
theorem ty37 : ty 37 = some ⟨.func, 1, 8, .nilf⟩ := rfl
theorem td37 : tdOf ty 37 = .func := rfl
theorem sz37 : szOf ty 37 = 1 := rfl
theorem ty38 : ty 38 = some ⟨.func, 1, 8, .nilf⟩ := rfl
theorem td38 : tdOf ty 38 = .func := rfl
theorem sz38 : szOf ty 38 = 1 := rfl
theorem ty39 : ty 39 = some ⟨.func, 1, 8, .nilf⟩ := rfl
theorem td39 : tdOf ty 39 = .func := rfl
theorem sz39 : szOf ty 39 = 1 := rfl
theorem ty40 : ty 40 = some ⟨.func, 1, 8, .nilf⟩ := rfl
theorem td40 : tdOf ty 40 = .func := rfl
theorem sz40 : szOf ty 40 = 1 := rfl
theorem ty41 : ty 41 = some ⟨.func, 1, 8, .nilf⟩ := rfl
theorem td41 : tdOf ty 41 = .func := rfl
theorem sz41 : szOf ty 41 = 1 := rfl
theorem ty43 : ty 43 = some ⟨.func, 1, 8, .nilf⟩ := rfl
theorem td43 : tdOf ty 43 = .func := rfl
theorem sz43 : szOf ty 43 = 1 := rfl
theorem ty44 : ty 44 = some ⟨.func, 1, 8, .nilf⟩ := rfl
theorem td44 : tdOf ty 44 = .func := rfl
theorem sz44 : szOf ty 44 = 1 := rfl
theorem ty45 : ty 45 = some ⟨.func, 1, 8, .nilf⟩ := rfl
theorem td45 : tdOf ty 45 = .func := rfl
theorem sz45 : szOf ty 45 = 1 := rfl
theorem ty46 : ty 46 = some ⟨.func, 1, 8, .nilf⟩ := rfl
theorem td46 : tdOf ty 46 = .func := rfl
theorem sz46 : szOf ty 46 = 1 := rfl
theorem ty47 : ty 47 = some ⟨.func, 1, 8, .nilf⟩ := rfl
theorem td47 : tdOf ty 47 = .func := rfl
theorem sz47 : szOf ty 47 = 1 := rfl
theorem ty48 : ty 48 = some ⟨.func, 1, 8, .nilf⟩ := rfl
theorem td48 : tdOf ty 48 = .func := rfl
theorem sz48 : szOf ty 48 = 1 := rfl
theorem ty49 : ty 49 = some ⟨.func, 1, 8, .nilf⟩ := rfl
theorem td49 : tdOf ty 49 = .func := rfl
theorem sz49 : szOf ty 49 = 1 := rfl
theorem ty50 : ty 50 = some ⟨.ptr 52, 1, 8, .nilp⟩ := rfl
theorem td50 : tdOf ty 50 = .ptr 52 := rfl
theorem sz50 : szOf ty 50 = 1 := rfl
theorem ty51 : ty 51 = some ⟨.struct [(0, 9), (1, 3), (2, 22), (3, 25)], 4, 48, .agg [.str ⟨#[]⟩, .int .i64 0, .int .i64 0, .nili]⟩ := rfl
theorem td51 : tdOf ty 51 = .struct [(0, 9), (1, 3), (2, 22), (3, 25)] := rfl
theorem sz51 : szOf ty 51 = 4 := rfl
theorem ty52 : ty 52 = some ⟨.struct [(0, 9), (1, 3), (2, 22), (3, 25)], 4, 48, .agg [.str ⟨#[]⟩, .int .i64 0, .int .i64 0, .nili]⟩ := rfl
theorem td52 : tdOf ty 52 = .struct [(0, 9), (1, 3), (2, 22), (3, 25)] := rfl
theorem sz52 : szOf ty 52 = 4 := rfl
theorem ty53 : ty 53 = some ⟨.func, 1, 8, .nilf⟩ := rfl
theorem td53 : tdOf ty 53 = .func := rfl
theorem sz53 : szOf ty 53 = 1 := rfl
theorem ty54 : ty 54 = some ⟨.ptr 50, 1, 8, .nilp⟩ := rfl
theorem td54 : tdOf ty 54 = .ptr 50 := rfl
theorem sz54 : szOf ty 54 = 1 := rfl
theorem ty55 : ty 55 = some ⟨.func, 1, 8, .nilf⟩ := rfl
theorem td55 : tdOf ty 55 = .func := rfl
theorem sz55 : szOf ty 55 = 1 := rfl
theorem ty56 : ty 56 = some ⟨.func, 1, 8, .nilf⟩ := rfl
theorem td56 : tdOf ty 56 = .func := rfl
theorem sz56 : szOf ty 56 = 1 := rfl
theorem ty57 : ty 57 = some ⟨.struct [(0, 22)], 1, 8, .agg [.int .i64 0]⟩ := rfl
theorem td57 : tdOf ty 57 = .struct [(0, 22)] := rfl
theorem sz57 : szOf ty 57 = 1 := rfl
theorem ty58 : ty 58 = some ⟨.struct [(0, 22)], 1, 8, .agg [.int .i64 0]⟩ := rfl
theorem td58 : tdOf ty 58 = .struct [(0, 22)] := rfl
theorem sz58 : szOf ty 58 = 1 := rfl
theorem ty59 : ty 59 = some ⟨.func, 1, 8, .nilf⟩ := rfl
theorem td59 : tdOf ty 59 = .func := rfl
theorem sz59 : szOf ty 59 = 1 := rfl
theorem ty61 : ty 61 = some ⟨.int .u64, 1, 8, .int .u64 0⟩ := rfl
theorem td61 : tdOf ty 61 = .int .u64 := rfl
theorem sz61 : szOf ty 61 = 1 := rfl
theorem ty64 : ty 64 = some ⟨.func, 1, 8, .nilf⟩ := rfl
theorem td64 : tdOf ty 64 = .func := rfl
theorem sz64 : szOf ty 64 = 1 := rfl
theorem ty65 : ty 65 = some ⟨.iface, 1, 16, .nili⟩ := rfl
theorem td65 : tdOf ty 65 = .iface := rfl
theorem sz65 : szOf ty 65 = 1 := rfl
theorem ty66 : ty 66 = some ⟨.iface, 1, 16, .nili⟩ := rfl
theorem td66 : tdOf ty 66 = .iface := rfl
theorem sz66 : szOf ty 66 = 1 := rfl
theorem ty67 : ty 67 = some ⟨.func, 1, 8, .nilf⟩ := rfl
theorem td67 : tdOf ty 67 = .func := rfl
theorem sz67 : szOf ty 67 = 1 := rfl
theorem ty68 : ty 68 = some ⟨.int .u8, 1, 1, .int .u8 0⟩ := rfl
theorem td68 : tdOf ty 68 = .int .u8 := rfl
theorem sz68 : szOf ty 68 = 1 := rfl
theorem ty69 : ty 69 = some ⟨.func, 1, 8, .nilf⟩ := rfl
theorem td69 : tdOf ty 69 = .func := rfl
theorem sz69 : szOf ty 69 = 1 := rfl
theorem ty70 : ty 70 = some ⟨.func, 1, 8, .nilf⟩ := rfl
theorem td70 : tdOf ty 70 = .func := rfl
theorem sz70 : szOf ty 70 = 1 := rfl
theorem ty71 : ty 71 = some ⟨.func, 1, 8, .nilf⟩ := rfl
theorem td71 : tdOf ty 71 = .func := rfl
theorem sz71 : szOf ty 71 = 1 := rfl
theorem ty72 : ty 72 = some ⟨.func, 1, 8, .nilf⟩ := rfl
theorem td72 : tdOf ty 72 = .func := rfl
theorem sz72 : szOf ty 72 = 1 := rfl
theorem ty73 : ty 73 = some ⟨.func, 1, 8, .nilf⟩ := rfl
theorem td73 : tdOf ty 73 = .func := rfl
theorem sz73 : szOf ty 73 = 1 := rfl
theorem ty74 : ty 74 = some ⟨.slice 25, 1, 24, .nils⟩ := rfl
theorem td74 : tdOf ty 74 = .slice 25 := rfl
theorem sz74 : szOf ty 74 = 1 := rfl
theorem ty75 : ty 75 = some ⟨.ptr 77, 1, 8, .nilp⟩ := rfl
theorem td75 : tdOf ty 75 = .ptr 77 := rfl
theorem sz75 : szOf ty 75 = 1 := rfl
theorem ty76 : ty 76 = some ⟨.struct [(0, 74)], 1, 24, .agg [.nils]⟩ := rfl
theorem td76 : tdOf ty 76 = .struct [(0, 74)] := rfl
theorem sz76 : szOf ty 76 = 1 := rfl
theorem ty77 : ty 77 = some ⟨.struct [(0, 74)], 1, 24, .agg [.nils]⟩ := rfl
theorem td77 : tdOf ty 77 = .struct [(0, 74)] := rfl
theorem sz77 : szOf ty 77 = 1 := rfl
theorem ty78 : ty 78 = some ⟨.struct [(0, 17)], 1, 8, .agg [.nilp]⟩ := rfl
theorem td78 : tdOf ty 78 = .struct [(0, 17)] := rfl
theorem sz78 : szOf ty 78 = 1 := rfl
theorem ty79 : ty 79 = some ⟨.struct [(0, 17)], 1, 8, .agg [.nilp]⟩ := rfl
theorem td79 : tdOf ty 79 = .struct [(0, 17)] := rfl
theorem sz79 : szOf ty 79 = 1 := rfl
theorem ty80 : ty 80 = some ⟨.ptr 113, 1, 8, .nilp⟩ := rfl
theorem td80 : tdOf ty 80 = .ptr 113 := rfl
theorem sz80 : szOf ty 80 = 1 := rfl
theorem ty81 : ty 81 = some ⟨.func, 1, 8, .nilf⟩ := rfl
theorem td81 : tdOf ty 81 = .func := rfl
theorem sz81 : szOf ty 81 = 1 := rfl
theorem ty82 : ty 82 = some ⟨.func, 1, 8, .nilf⟩ := rfl
theorem td82 : tdOf ty 82 = .func := rfl
theorem sz82 : szOf ty 82 = 1 := rfl
theorem ty83 : ty 83 = some ⟨.iface, 1, 16, .nili⟩ := rfl
theorem td83 : tdOf ty 83 = .iface := rfl
theorem sz83 : szOf ty 83 = 1 := rfl
theorem ty85 : ty 85 = some ⟨.func, 1, 8, .nilf⟩ := rfl
theorem td85 : tdOf ty 85 = .func := rfl
theorem sz85 : szOf ty 85 = 1 := rfl
theorem ty86 : ty 86 = some ⟨.iface, 1, 16, .nili⟩ := rfl
theorem td86 : tdOf ty 86 = .iface := rfl
theorem sz86 : szOf ty 86 = 1 := rfl
theorem ty87 : ty 87 = some ⟨.func, 1, 8, .nilf⟩ := rfl
theorem td87 : tdOf ty 87 = .func := rfl
theorem sz87 : szOf ty 87 = 1 := rfl
theorem ty88 : ty 88 = some ⟨.iface, 1, 16, .nili⟩ := rfl
theorem td88 : tdOf ty 88 = .iface := rfl
theorem sz88 : szOf ty 88 = 1 := rfl
theorem ty89 : ty 89 = some ⟨.func, 1, 8, .nilf⟩ := rfl
theorem td89 : tdOf ty 89 = .func := rfl
theorem sz89 : szOf ty 89 = 1 := rfl
theorem ty90 : ty 90 = some ⟨.iface, 1, 16, .nili⟩ := rfl
theorem td90 : tdOf ty 90 = .iface := rfl
theorem sz90 : szOf ty 90 = 1 := rfl
theorem ty92 : ty 92 = some ⟨.func, 1, 8, .nilf⟩ := rfl
theorem td92 : tdOf ty 92 = .func := rfl
theorem sz92 : szOf ty 92 = 1 := rfl
theorem ty93 : ty 93 = some ⟨.func, 1, 8, .nilf⟩ := rfl
theorem td93 : tdOf ty 93 = .func := rfl
theorem sz93 : szOf ty 93 = 1 := rfl
theorem ty94 : ty 94 = some ⟨.struct [(0, 17), (1, 17), (2, 17), (3, 9)], 4, 40, .agg [.nilp, .nilp, .nilp, .str ⟨#[]⟩]⟩ := rfl
theorem td94 : tdOf ty 94 = .struct [(0, 17), (1, 17), (2, 17), (3, 9)] := rfl
theorem sz94 : szOf ty 94 = 4 := rfl
theorem ty95 : ty 95 = some ⟨.struct [(0, 17), (1, 17), (2, 17), (3, 9)], 4, 40, .agg [.nilp, .nilp, .nilp, .str ⟨#[]⟩]⟩ := rfl
theorem td95 : tdOf ty 95 = .struct [(0, 17), (1, 17), (2, 17), (3, 9)] := rfl
theorem sz95 : szOf ty 95 = 4 := rfl
theorem ty99 : ty 99 = some ⟨.func, 1, 8, .nilf⟩ := rfl
theorem td99 : tdOf ty 99 = .func := rfl
theorem sz99 : szOf ty 99 = 1 := rfl
theorem ty100 : ty 100 = some ⟨.func, 1, 8, .nilf⟩ := rfl
theorem td100 : tdOf ty 100 = .func := rfl
theorem sz100 : szOf ty 100 = 1 := rfl
theorem ty101 : ty 101 = some ⟨.int .u32, 1, 4, .int .u32 0⟩ := rfl
theorem td101 : tdOf ty 101 = .int .u32 := rfl
theorem sz101 : szOf ty 101 = 1 := rfl
theorem ty102 : ty 102 = some ⟨.int .u8, 1, 1, .int .u8 0⟩ := rfl
theorem td102 : tdOf ty 102 = .int .u8 := rfl
theorem sz102 : szOf ty 102 = 1 := rfl
theorem ty103 : ty 103 = some ⟨.func, 1, 8, .nilf⟩ := rfl
theorem td103 : tdOf ty 103 = .func := rfl
theorem sz103 : szOf ty 103 = 1 := rfl
theorem ty104 : ty 104 = some ⟨.ptr 5, 1, 8, .nilp⟩ := rfl
theorem td104 : tdOf ty 104 = .ptr 5 := rfl
theorem sz104 : szOf ty 104 = 1 := rfl
theorem ty105 : ty 105 = some ⟨.int .i32, 1, 4, .int .i32 0⟩ := rfl
theorem td105 : tdOf ty 105 = .int .i32 := rfl
theorem sz105 : szOf ty 105 = 1 := rfl
theorem ty106 : ty 106 = some ⟨.int .i32, 1, 4, .int .i32 0⟩ := rfl
theorem td106 : tdOf ty 106 = .int .i32 := rfl
theorem sz106 : szOf ty 106 = 1 := rfl
theorem ty107 : ty 107 = some ⟨.struct [(0, 12), (1, 12), (2, 101), (3, 102), (4, 5), (5, 5), (6, 68), (7, 103), (8, 104), (9, 105), (10, 106)], 11, 48, .agg [.int .u64 0, .int .u64 0, .int .u32 0, .int .u8 0, .int .u8 0, .int .u8 0, .int .u8 0, .nilf, .nilp, .int .i32 0, .int .i32 0]⟩ := rfl
theorem td107 : tdOf ty 107 = .struct [(0, 12), (1, 12), (2, 101), (3, 102), (4, 5), (5, 5), (6, 68), (7, 103), (8, 104), (9, 105), (10, 106)] := rfl
theorem sz107 : szOf ty 107 = 11 := rfl
theorem ty108 : ty 108 = some ⟨.struct [(0, 12), (1, 12), (2, 101), (3, 102), (4, 5), (5, 5), (6, 68), (7, 103), (8, 104), (9, 105), (10, 106)], 11, 48, .agg [.int .u64 0, .int .u64 0, .int .u32 0, .int .u8 0, .int .u8 0, .int .u8 0, .int .u8 0, .nilf, .nilp, .int .i32 0, .int .i32 0]⟩ := rfl
theorem td108 : tdOf ty 108 = .struct [(0, 12), (1, 12), (2, 101), (3, 102), (4, 5), (5, 5), (6, 68), (7, 103), (8, 104), (9, 105), (10, 106)] := rfl
theorem sz108 : szOf ty 108 = 11 := rfl
theorem ty110 : ty 110 = some ⟨.func, 1, 8, .nilf⟩ := rfl
theorem td110 : tdOf ty 110 = .func := rfl
theorem sz110 : szOf ty 110 = 1 := rfl
theorem ty111 : ty 111 = some ⟨.func, 1, 8, .nilf⟩ := rfl
theorem td111 : tdOf ty 111 = .func := rfl
theorem sz111 : szOf ty 111 = 1 := rfl
theorem ty112 : ty 112 = some ⟨.struct [(0, 9), (1, 68)], 2, 24, .agg [.str ⟨#[]⟩, .int .u8 0]⟩ := rfl
theorem td112 : tdOf ty 112 = .struct [(0, 9), (1, 68)] := rfl
theorem sz112 : szOf ty 112 = 2 := rfl
theorem ty113 : ty 113 = some ⟨.struct [(0, 9), (1, 68)], 2, 24, .agg [.str ⟨#[]⟩, .int .u8 0]⟩ := rfl
theorem td113 : tdOf ty 113 = .struct [(0, 9), (1, 68)] := rfl
theorem sz113 : szOf ty 113 = 2 := rfl
theorem ty114 : ty 114 = some ⟨.ptr 118, 1, 8, .nilp⟩ := rfl
theorem td114 : tdOf ty 114 = .ptr 118 := rfl
theorem sz114 : szOf ty 114 = 1 := rfl
theorem ty115 : ty 115 = some ⟨.func, 1, 8, .nilf⟩ := rfl
theorem td115 : tdOf ty 115 = .func := rfl
theorem sz115 : szOf ty 115 = 1 := rfl
theorem ty116 : ty 116 = some ⟨.int .u16, 1, 2, .int .u16 0⟩ := rfl
theorem td116 : tdOf ty 116 = .int .u16 := rfl
theorem sz116 : szOf ty 116 = 1 := rfl
theorem ty117 : ty 117 = some ⟨.struct [(0, 105), (1, 116), (2, 116), (3, 101), (4, 101)], 5, 16, .agg [.int .i32 0, .int .u16 0, .int .u16 0, .int .u32 0, .int .u32 0]⟩ := rfl
theorem td117 : tdOf ty 117 = .struct [(0, 105), (1, 116), (2, 116), (3, 101), (4, 101)] := rfl
theorem sz117 : szOf ty 117 = 5 := rfl
theorem ty118 : ty 118 = some ⟨.struct [(0, 105), (1, 116), (2, 116), (3, 101), (4, 101)], 5, 16, .agg [.int .i32 0, .int .u16 0, .int .u16 0, .int .u32 0, .int .u32 0]⟩ := rfl
theorem td118 : tdOf ty 118 = .struct [(0, 105), (1, 116), (2, 116), (3, 101), (4, 101)] := rfl
theorem sz118 : szOf ty 118 = 5 := rfl
theorem ty119 : ty 119 = some ⟨.slice 122, 1, 24, .nils⟩ := rfl
theorem td119 : tdOf ty 119 = .slice 122 := rfl
theorem sz119 : szOf ty 119 = 1 := rfl
theorem ty120 : ty 120 = some ⟨.int .i32, 1, 4, .int .i32 0⟩ := rfl
theorem td120 : tdOf ty 120 = .int .i32 := rfl
theorem sz120 : szOf ty 120 = 1 := rfl
theorem ty121 : ty 121 = some ⟨.struct [(0, 105), (1, 106), (2, 120), (3, 120)], 4, 16, .agg [.int .i32 0, .int .i32 0, .int .i32 0, .int .i32 0]⟩ := rfl
theorem td121 : tdOf ty 121 = .struct [(0, 105), (1, 106), (2, 120), (3, 120)] := rfl
theorem sz121 : szOf ty 121 = 4 := rfl
theorem ty122 : ty 122 = some ⟨.struct [(0, 105), (1, 106), (2, 120), (3, 120)], 4, 16, .agg [.int .i32 0, .int .i32 0, .int .i32 0, .int .i32 0]⟩ := rfl
theorem td122 : tdOf ty 122 = .struct [(0, 105), (1, 106), (2, 120), (3, 120)] := rfl
theorem sz122 : szOf ty 122 = 4 := rfl
theorem ok1 : TiOk Tryd.prog 1 ⟨.func, 1, 8, .nilf⟩ := tiOk_mk (.nilFunc) ⟨_, _, _, Tryd.underlying1⟩ (by kernel_rfl) rfl rfl rfl (by simp [Value.cells, Value.oneCell'])
theorem ok2 : TiOk Tryd.prog 2 ⟨.int .i64, 1, 8, .int .i64 0⟩ := tiOk_mk (.int .i64 0) Tryd.underlying2 (by kernel_rfl) rfl rfl rfl (by simp [Value.cells, Value.oneCell'])
theorem ok3 : TiOk Tryd.prog 3 ⟨.int .i64, 1, 8, .int .i64 0⟩ := tiOk_mk (.int .i64 0) Tryd.underlying3 (by kernel_rfl) rfl rfl rfl (by simp [Value.cells, Value.oneCell'])
theorem ok4 : TiOk Tryd.prog 4 ⟨.bool, 1, 1, .bool false⟩ := tiOk_mk (.bool false) Tryd.underlying4 (by kernel_rfl) rfl rfl rfl (by simp [Value.cells, Value.oneCell'])
theorem ok5 : TiOk Tryd.prog 5 ⟨.int .u8, 1, 1, .int .u8 0⟩ := tiOk_mk (.int .u8 0) Tryd.underlying5 (by kernel_rfl) rfl rfl rfl (by simp [Value.cells, Value.oneCell'])
theorem ok6 : TiOk Tryd.prog 6 ⟨.int .u8, 1, 1, .int .u8 0⟩ := tiOk_mk (.int .u8 0) Tryd.underlying6 (by kernel_rfl) rfl rfl rfl (by simp [Value.cells, Value.oneCell'])
theorem ok7 : TiOk Tryd.prog 7 ⟨.struct [(0, 2), (1, 3), (2, 4), (3, 6)], 4, 24, .agg [.int .i64 0, .int .i64 0, .bool false, .int .u8 0]⟩ := tiOk_mk (.agg #[.int .i64 0, .int .i64 0, .bool false, .int .u8 0]) ⟨_, Tryd.underlying7, rfl⟩ (by kernel_rfl) rfl rfl rfl (by simp [Value.cells, Value.oneCell'])
theorem ok8 : TiOk Tryd.prog 8 ⟨.struct [(0, 2), (1, 3), (2, 4), (3, 6)], 4, 24, .agg [.int .i64 0, .int .i64 0, .bool false, .int .u8 0]⟩ := tiOk_mk (.agg #[.int .i64 0, .int .i64 0, .bool false, .int .u8 0]) ⟨_, Tryd.underlying8, rfl⟩ (by kernel_rfl) rfl rfl rfl (by simp [Value.cells, Value.oneCell'])
theorem ok9 : TiOk Tryd.prog 9 ⟨.str, 1, 16, .str ⟨#[]⟩⟩ := tiOk_mk (.string ⟨#[]⟩) Tryd.underlying9 (by kernel_rfl) rfl rfl rfl (by simp [Value.cells, Value.oneCell'])
theorem ok10 : TiOk Tryd.prog 10 ⟨.str, 1, 16, .str ⟨#[]⟩⟩ := tiOk_mk (.string ⟨#[]⟩) Tryd.underlying10 (by kernel_rfl) rfl rfl rfl (by simp [Value.cells, Value.oneCell'])
theorem ok11 : TiOk Tryd.prog 11 ⟨.str, 1, 16, .str ⟨#[]⟩⟩ := tiOk_mk (.string ⟨#[]⟩) Tryd.underlying11 (by kernel_rfl) rfl rfl rfl (by simp [Value.cells, Value.oneCell'])
theorem ok12 : TiOk Tryd.prog 12 ⟨.int .u64, 1, 8, .int .u64 0⟩ := tiOk_mk (.int .u64 0) Tryd.underlying12 (by kernel_rfl) rfl rfl rfl (by simp [Value.cells, Value.oneCell'])
theorem ok13 : TiOk Tryd.prog 13 ⟨.struct [(0, 9), (1, 12)], 2, 24, .agg [.str ⟨#[]⟩, .int .u64 0]⟩ := tiOk_mk (.agg #[.string ⟨#[]⟩, .int .u64 0]) ⟨_, Tryd.underlying13, rfl⟩ (by kernel_rfl) rfl rfl rfl (by simp [Value.cells, Value.oneCell'])
theorem ok14 : TiOk Tryd.prog 14 ⟨.struct [(0, 9), (1, 12)], 2, 24, .agg [.str ⟨#[]⟩, .int .u64 0]⟩ := tiOk_mk (.agg #[.string ⟨#[]⟩, .int .u64 0]) ⟨_, Tryd.underlying14, rfl⟩ (by kernel_rfl) rfl rfl rfl (by simp [Value.cells, Value.oneCell'])
theorem ok15 : TiOk Tryd.prog 15 ⟨.ptr 95, 1, 8, .nilp⟩ := tiOk_mk (.pointer none) Tryd.underlying15 (by kernel_rfl) rfl rfl rfl (by simp [Value.cells, Value.oneCell'])
theorem ok16 : TiOk Tryd.prog 16 ⟨.ptr 98, 1, 8, .nilp⟩ := tiOk_mk (.pointer none) Tryd.underlying16 (by kernel_rfl) rfl rfl rfl (by simp [Value.cells, Value.oneCell'])
theorem ok17 : TiOk Tryd.prog 17 ⟨.ptr 108, 1, 8, .nilp⟩ := tiOk_mk (.pointer none) Tryd.underlying17 (by kernel_rfl) rfl rfl rfl (by simp [Value.cells, Value.oneCell'])
theorem ok18 : TiOk Tryd.prog 18 ⟨.struct [(0, 17)], 1, 8, .agg [.nilp]⟩ := tiOk_mk (.agg #[.pointer none]) ⟨_, Tryd.underlying18, rfl⟩ (by kernel_rfl) rfl rfl rfl (by simp [Value.cells, Value.oneCell'])
theorem ok19 : TiOk Tryd.prog 19 ⟨.struct [(0, 17)], 1, 8, .agg [.nilp]⟩ := tiOk_mk (.agg #[.pointer none]) ⟨_, Tryd.underlying19, rfl⟩ (by kernel_rfl) rfl rfl rfl (by simp [Value.cells, Value.oneCell'])
theorem ok20 : TiOk Tryd.prog 20 ⟨.iface, 1, 16, .nili⟩ := tiOk_mk (.nilIface) ⟨_, Tryd.underlying20⟩ (by kernel_rfl) rfl rfl rfl (by simp [Value.cells, Value.oneCell'])
theorem ok21 : TiOk Tryd.prog 21 ⟨.int .i32, 1, 4, .int .i32 0⟩ := tiOk_mk (.int .i32 0) Tryd.underlying21 (by kernel_rfl) rfl rfl rfl (by simp [Value.cells, Value.oneCell'])
theorem ok22 : TiOk Tryd.prog 22 ⟨.int .i64, 1, 8, .int .i64 0⟩ := tiOk_mk (.int .i64 0) Tryd.underlying22 (by kernel_rfl) rfl rfl rfl (by simp [Value.cells, Value.oneCell'])
theorem ok23 : TiOk Tryd.prog 23 ⟨.slice 32, 1, 24, .nils⟩ := tiOk_mk (.slice none 0 0) Tryd.underlying23 (by kernel_rfl) rfl rfl rfl (by simp [Value.cells, Value.oneCell'])
theorem ok24 : TiOk Tryd.prog 24 ⟨.iface, 1, 16, .nili⟩ := tiOk_mk (.nilIface) ⟨_, Tryd.underlying24⟩ (by kernel_rfl) rfl rfl rfl (by simp [Value.cells, Value.oneCell'])
theorem ok25 : TiOk Tryd.prog 25 ⟨.iface, 1, 16, .nili⟩ := tiOk_mk (.nilIface) ⟨_, Tryd.underlying25⟩ (by kernel_rfl) rfl rfl rfl (by simp [Value.cells, Value.oneCell'])
theorem ok26 : TiOk Tryd.prog 26 ⟨.func, 1, 8, .nilf⟩ := tiOk_mk (.nilFunc) ⟨_, _, _, Tryd.underlying26⟩ (by kernel_rfl) rfl rfl rfl (by simp [Value.cells, Value.oneCell'])
theorem ok27 : TiOk Tryd.prog 27 ⟨.func, 1, 8, .nilf⟩ := tiOk_mk (.nilFunc) ⟨_, _, _, Tryd.underlying27⟩ (by kernel_rfl) rfl rfl rfl (by simp [Value.cells, Value.oneCell'])
theorem ok28 : TiOk Tryd.prog 28 ⟨.func, 1, 8, .nilf⟩ := tiOk_mk (.nilFunc) ⟨_, _, _, Tryd.underlying28⟩ (by kernel_rfl) rfl rfl rfl (by simp [Value.cells, Value.oneCell'])
theorem ok29 : TiOk Tryd.prog 29 ⟨.func, 1, 8, .nilf⟩ := tiOk_mk (.nilFunc) ⟨_, _, _, Tryd.underlying29⟩ (by kernel_rfl) rfl rfl rfl (by simp [Value.cells, Value.oneCell'])
theorem ok30 : TiOk Tryd.prog 30 ⟨.func, 1, 8, .nilf⟩ := tiOk_mk (.nilFunc) ⟨_, _, _, Tryd.underlying30⟩ (by kernel_rfl) rfl rfl rfl (by simp [Value.cells, Value.oneCell'])
theorem ok31 : TiOk Tryd.prog 31 ⟨.struct [(0, 9), (1, 3), (2, 22)], 3, 32, .agg [.str ⟨#[]⟩, .int .i64 0, .int .i64 0]⟩ := tiOk_mk (.agg #[.string ⟨#[]⟩, .int .i64 0, .int .i64 0]) ⟨_, Tryd.underlying31, rfl⟩ (by kernel_rfl) rfl rfl rfl (by simp [Value.cells, Value.oneCell'])
theorem ok32 : TiOk Tryd.prog 32 ⟨.struct [(0, 9), (1, 3), (2, 22)], 3, 32, .agg [.str ⟨#[]⟩, .int .i64 0, .int .i64 0]⟩ := tiOk_mk (.agg #[.string ⟨#[]⟩, .int .i64 0, .int .i64 0]) ⟨_, Tryd.underlying32, rfl⟩ (by kernel_rfl) rfl rfl rfl (by simp [Value.cells, Value.oneCell'])
theorem ok33 : TiOk Tryd.prog 33 ⟨.func, 1, 8, .nilf⟩ := tiOk_mk (.nilFunc) ⟨_, _, _, Tryd.underlying33⟩ (by kernel_rfl) rfl rfl rfl (by simp [Value.cells, Value.oneCell'])
theorem ok35 : TiOk Tryd.prog 35 ⟨.func, 1, 8, .nilf⟩ := tiOk_mk (.nilFunc) ⟨_, _, _, Tryd.underlying35⟩ (by kernel_rfl) rfl rfl rfl (by simp [Value.cells, Value.oneCell'])
theorem ok36 : TiOk Tryd.prog 36 ⟨.func, 1, 8, .nilf⟩ := tiOk_mk (.nilFunc) ⟨_, _, _, Tryd.underlying36⟩ (by kernel_rfl) rfl rfl rfl (by simp [Value.cells, Value.oneCell'])
theorem ok37 : TiOk Tryd.prog 37 ⟨.func, 1, 8, .nilf⟩ := tiOk_mk (.nilFunc) ⟨_, _, _, Tryd.underlying37⟩ (by kernel_rfl) rfl rfl rfl (by simp [Value.cells, Value.oneCell'])
theorem ok38 : TiOk Tryd.prog 38 ⟨.func, 1, 8, .nilf⟩ := tiOk_mk (.nilFunc) ⟨_, _, _, Tryd.underlying38⟩ (by kernel_rfl) rfl rfl rfl (by simp [Value.cells, Value.oneCell'])
theorem ok39 : TiOk Tryd.prog 39 ⟨.func, 1, 8, .nilf⟩ := tiOk_mk (.nilFunc) ⟨_, _, _, Tryd.underlying39⟩ (by kernel_rfl) rfl rfl rfl (by simp [Value.cells, Value.oneCell'])
theorem ok40 : TiOk Tryd.prog 40 ⟨.func, 1, 8, .nilf⟩ := tiOk_mk (.nilFunc) ⟨_, _, _, Tryd.underlying40⟩ (by kernel_rfl) rfl rfl rfl (by simp [Value.cells, Value.oneCell'])
theorem ok41 : TiOk Tryd.prog 41 ⟨.func, 1, 8, .nilf⟩ := tiOk_mk (.nilFunc) ⟨_, _, _, Tryd.underlying41⟩ (by kernel_rfl) rfl rfl rfl (by simp [Value.cells, Value.oneCell'])
theorem ok43 : TiOk Tryd.prog 43 ⟨.func, 1, 8, .nilf⟩ := tiOk_mk (.nilFunc) ⟨_, _, _, Tryd.underlying43⟩ (by kernel_rfl) rfl rfl rfl (by simp [Value.cells, Value.oneCell'])
theorem ok44 : TiOk Tryd.prog 44 ⟨.func, 1, 8, .nilf⟩ := tiOk_mk (.nilFunc) ⟨_, _, _, Tryd.underlying44⟩ (by kernel_rfl) rfl rfl rfl (by simp [Value.cells, Value.oneCell'])
theorem ok45 : TiOk Tryd.prog 45 ⟨.func, 1, 8, .nilf⟩ := tiOk_mk (.nilFunc) ⟨_, _, _, Tryd.underlying45⟩ (by kernel_rfl) rfl rfl rfl (by simp [Value.cells, Value.oneCell'])
theorem ok46 : TiOk Tryd.prog 46 ⟨.func, 1, 8, .nilf⟩ := tiOk_mk (.nilFunc) ⟨_, _, _, Tryd.underlying46⟩ (by kernel_rfl) rfl rfl rfl (by simp [Value.cells, Value.oneCell'])
theorem ok47 : TiOk Tryd.prog 47 ⟨.func, 1, 8, .nilf⟩ := tiOk_mk (.nilFunc) ⟨_, _, _, Tryd.underlying47⟩ (by kernel_rfl) rfl rfl rfl (by simp [Value.cells, Value.oneCell'])
theorem ok48 : TiOk Tryd.prog 48 ⟨.func, 1, 8, .nilf⟩ := tiOk_mk (.nilFunc) ⟨_, _, _, Tryd.underlying48⟩ (by kernel_rfl) rfl rfl rfl (by simp [Value.cells, Value.oneCell'])
theorem ok49 : TiOk Tryd.prog 49 ⟨.func, 1, 8, .nilf⟩ := tiOk_mk (.nilFunc) ⟨_, _, _, Tryd.underlying49⟩ (by kernel_rfl) rfl rfl rfl (by simp [Value.cells, Value.oneCell'])
theorem ok50 : TiOk Tryd.prog 50 ⟨.ptr 52, 1, 8, .nilp⟩ := tiOk_mk (.pointer none) Tryd.underlying50 (by kernel_rfl) rfl rfl rfl (by simp [Value.cells, Value.oneCell'])
theorem ok51 : TiOk Tryd.prog 51 ⟨.struct [(0, 9), (1, 3), (2, 22), (3, 25)], 4, 48, .agg [.str ⟨#[]⟩, .int .i64 0, .int .i64 0, .nili]⟩ := tiOk_mk (.agg #[.string ⟨#[]⟩, .int .i64 0, .int .i64 0, .nilIface]) ⟨_, Tryd.underlying51, rfl⟩ (by kernel_rfl) rfl rfl rfl (by simp [Value.cells, Value.oneCell'])
theorem ok52 : TiOk Tryd.prog 52 ⟨.struct [(0, 9), (1, 3), (2, 22), (3, 25)], 4, 48, .agg [.str ⟨#[]⟩, .int .i64 0, .int .i64 0, .nili]⟩ := tiOk_mk (.agg #[.string ⟨#[]⟩, .int .i64 0, .int .i64 0, .nilIface]) ⟨_, Tryd.underlying52, rfl⟩ (by kernel_rfl) rfl rfl rfl (by simp [Value.cells, Value.oneCell'])
theorem ok53 : TiOk Tryd.prog 53 ⟨.func, 1, 8, .nilf⟩ := tiOk_mk (.nilFunc) ⟨_, _, _, Tryd.underlying53⟩ (by kernel_rfl) rfl rfl rfl (by simp [Value.cells, Value.oneCell'])
theorem ok54 : TiOk Tryd.prog 54 ⟨.ptr 50, 1, 8, .nilp⟩ := tiOk_mk (.pointer none) Tryd.underlying54 (by kernel_rfl) rfl rfl rfl (by simp [Value.cells, Value.oneCell'])
theorem ok55 : TiOk Tryd.prog 55 ⟨.func, 1, 8, .nilf⟩ := tiOk_mk (.nilFunc) ⟨_, _, _, Tryd.underlying55⟩ (by kernel_rfl) rfl rfl rfl (by simp [Value.cells, Value.oneCell'])
theorem ok56 : TiOk Tryd.prog 56 ⟨.func, 1, 8, .nilf⟩ := tiOk_mk (.nilFunc) ⟨_, _, _, Tryd.underlying56⟩ (by kernel_rfl) rfl rfl rfl (by simp [Value.cells, Value.oneCell'])
theorem ok57 : TiOk Tryd.prog 57 ⟨.struct [(0, 22)], 1, 8, .agg [.int .i64 0]⟩ := tiOk_mk (.agg #[.int .i64 0]) ⟨_, Tryd.underlying57, rfl⟩ (by kernel_rfl) rfl rfl rfl (by simp [Value.cells, Value.oneCell'])
theorem ok58 : TiOk Tryd.prog 58 ⟨.struct [(0, 22)], 1, 8, .agg [.int .i64 0]⟩ := tiOk_mk (.agg #[.int .i64 0]) ⟨_, Tryd.underlying58, rfl⟩ (by kernel_rfl) rfl rfl rfl (by simp [Value.cells, Value.oneCell'])
theorem ok59 : TiOk Tryd.prog 59 ⟨.func, 1, 8, .nilf⟩ := tiOk_mk (.nilFunc) ⟨_, _, _, Tryd.underlying59⟩ (by kernel_rfl) rfl rfl rfl (by simp [Value.cells, Value.oneCell'])
theorem ok61 : TiOk Tryd.prog 61 ⟨.int .u64, 1, 8, .int .u64 0⟩ := tiOk_mk (.int .u64 0) Tryd.underlying61 (by kernel_rfl) rfl rfl rfl (by simp [Value.cells, Value.oneCell'])
theorem ok64 : TiOk Tryd.prog 64 ⟨.func, 1, 8, .nilf⟩ := tiOk_mk (.nilFunc) ⟨_, _, _, Tryd.underlying64⟩ (by kernel_rfl) rfl rfl rfl (by simp [Value.cells, Value.oneCell'])
theorem ok65 : TiOk Tryd.prog 65 ⟨.iface, 1, 16, .nili⟩ := tiOk_mk (.nilIface) ⟨_, Tryd.underlying65⟩ (by kernel_rfl) rfl rfl rfl (by simp [Value.cells, Value.oneCell'])
theorem ok66 : TiOk Tryd.prog 66 ⟨.iface, 1, 16, .nili⟩ := tiOk_mk (.nilIface) ⟨_, Tryd.underlying66⟩ (by kernel_rfl) rfl rfl rfl (by simp [Value.cells, Value.oneCell'])
theorem ok67 : TiOk Tryd.prog 67 ⟨.func, 1, 8, .nilf⟩ := tiOk_mk (.nilFunc) ⟨_, _, _, Tryd.underlying67⟩ (by kernel_rfl) rfl rfl rfl (by simp [Value.cells, Value.oneCell'])
theorem ok68 : TiOk Tryd.prog 68 ⟨.int .u8, 1, 1, .int .u8 0⟩ := tiOk_mk (.int .u8 0) Tryd.underlying68 (by kernel_rfl) rfl rfl rfl (by simp [Value.cells, Value.oneCell'])
theorem ok69 : TiOk Tryd.prog 69 ⟨.func, 1, 8, .nilf⟩ := tiOk_mk (.nilFunc) ⟨_, _, _, Tryd.underlying69⟩ (by kernel_rfl) rfl rfl rfl (by simp [Value.cells, Value.oneCell'])
theorem ok70 : TiOk Tryd.prog 70 ⟨.func, 1, 8, .nilf⟩ := tiOk_mk (.nilFunc) ⟨_, _, _, Tryd.underlying70⟩ (by kernel_rfl) rfl rfl rfl (by simp [Value.cells, Value.oneCell'])
theorem ok71 : TiOk Tryd.prog 71 ⟨.func, 1, 8, .nilf⟩ := tiOk_mk (.nilFunc) ⟨_, _, _, Tryd.underlying71⟩ (by kernel_rfl) rfl rfl rfl (by simp [Value.cells, Value.oneCell'])
theorem ok72 : TiOk Tryd.prog 72 ⟨.func, 1, 8, .nilf⟩ := tiOk_mk (.nilFunc) ⟨_, _, _, Tryd.underlying72⟩ (by kernel_rfl) rfl rfl rfl (by simp [Value.cells, Value.oneCell'])
theorem ok73 : TiOk Tryd.prog 73 ⟨.func, 1, 8, .nilf⟩ := tiOk_mk (.nilFunc) ⟨_, _, _, Tryd.underlying73⟩ (by kernel_rfl) rfl rfl rfl (by simp [Value.cells, Value.oneCell'])
theorem ok74 : TiOk Tryd.prog 74 ⟨.slice 25, 1, 24, .nils⟩ := tiOk_mk (.slice none 0 0) Tryd.underlying74 (by kernel_rfl) rfl rfl rfl (by simp [Value.cells, Value.oneCell'])
theorem ok75 : TiOk Tryd.prog 75 ⟨.ptr 77, 1, 8, .nilp⟩ := tiOk_mk (.pointer none) Tryd.underlying75 (by kernel_rfl) rfl rfl rfl (by simp [Value.cells, Value.oneCell'])
theorem ok76 : TiOk Tryd.prog 76 ⟨.struct [(0, 74)], 1, 24, .agg [.nils]⟩ := tiOk_mk (.agg #[.slice none 0 0]) ⟨_, Tryd.underlying76, rfl⟩ (by kernel_rfl) rfl rfl rfl (by simp [Value.cells, Value.oneCell'])
theorem ok77 : TiOk Tryd.prog 77 ⟨.struct [(0, 74)], 1, 24, .agg [.nils]⟩ := tiOk_mk (.agg #[.slice none 0 0]) ⟨_, Tryd.underlying77, rfl⟩ (by kernel_rfl) rfl rfl rfl (by simp [Value.cells, Value.oneCell'])
theorem ok78 : TiOk Tryd.prog 78 ⟨.struct [(0, 17)], 1, 8, .agg [.nilp]⟩ := tiOk_mk (.agg #[.pointer none]) ⟨_, Tryd.underlying78, rfl⟩ (by kernel_rfl) rfl rfl rfl (by simp [Value.cells, Value.oneCell'])
theorem ok79 : TiOk Tryd.prog 79 ⟨.struct [(0, 17)], 1, 8, .agg [.nilp]⟩ := tiOk_mk (.agg #[.pointer none]) ⟨_, Tryd.underlying79, rfl⟩ (by kernel_rfl) rfl rfl rfl (by simp [Value.cells, Value.oneCell'])
theorem ok80 : TiOk Tryd.prog 80 ⟨.ptr 113, 1, 8, .nilp⟩ := tiOk_mk (.pointer none) Tryd.underlying80 (by kernel_rfl) rfl rfl rfl (by simp [Value.cells, Value.oneCell'])
theorem ok81 : TiOk Tryd.prog 81 ⟨.func, 1, 8, .nilf⟩ := tiOk_mk (.nilFunc) ⟨_, _, _, Tryd.underlying81⟩ (by kernel_rfl) rfl rfl rfl (by simp [Value.cells, Value.oneCell'])
theorem ok82 : TiOk Tryd.prog 82 ⟨.func, 1, 8, .nilf⟩ := tiOk_mk (.nilFunc) ⟨_, _, _, Tryd.underlying82⟩ (by kernel_rfl) rfl rfl rfl (by simp [Value.cells, Value.oneCell'])
theorem ok83 : TiOk Tryd.prog 83 ⟨.iface, 1, 16, .nili⟩ := tiOk_mk (.nilIface) ⟨_, Tryd.underlying83⟩ (by kernel_rfl) rfl rfl rfl (by simp [Value.cells, Value.oneCell'])
theorem ok85 : TiOk Tryd.prog 85 ⟨.func, 1, 8, .nilf⟩ := tiOk_mk (.nilFunc) ⟨_, _, _, Tryd.underlying85⟩ (by kernel_rfl) rfl rfl rfl (by simp [Value.cells, Value.oneCell'])
theorem ok86 : TiOk Tryd.prog 86 ⟨.iface, 1, 16, .nili⟩ := tiOk_mk (.nilIface) ⟨_, Tryd.underlying86⟩ (by kernel_rfl) rfl rfl rfl (by simp [Value.cells, Value.oneCell'])
theorem ok87 : TiOk Tryd.prog 87 ⟨.func, 1, 8, .nilf⟩ := tiOk_mk (.nilFunc) ⟨_, _, _, Tryd.underlying87⟩ (by kernel_rfl) rfl rfl rfl (by simp [Value.cells, Value.oneCell'])
theorem ok88 : TiOk Tryd.prog 88 ⟨.iface, 1, 16, .nili⟩ := tiOk_mk (.nilIface) ⟨_, Tryd.underlying88⟩ (by kernel_rfl) rfl rfl rfl (by simp [Value.cells, Value.oneCell'])
theorem ok89 : TiOk Tryd.prog 89 ⟨.func, 1, 8, .nilf⟩ := tiOk_mk (.nilFunc) ⟨_, _, _, Tryd.underlying89⟩ (by kernel_rfl) rfl rfl rfl (by simp [Value.cells, Value.oneCell'])
theorem ok90 : TiOk Tryd.prog 90 ⟨.iface, 1, 16, .nili⟩ := tiOk_mk (.nilIface) ⟨_, Tryd.underlying90⟩ (by kernel_rfl) rfl rfl rfl (by simp [Value.cells, Value.oneCell'])
theorem ok92 : TiOk Tryd.prog 92 ⟨.func, 1, 8, .nilf⟩ := tiOk_mk (.nilFunc) ⟨_, _, _, Tryd.underlying92⟩ (by kernel_rfl) rfl rfl rfl (by simp [Value.cells, Value.oneCell'])
theorem ok93 : TiOk Tryd.prog 93 ⟨.func, 1, 8, .nilf⟩ := tiOk_mk (.nilFunc) ⟨_, _, _, Tryd.underlying93⟩ (by kernel_rfl) rfl rfl rfl (by simp [Value.cells, Value.oneCell'])
theorem ok94 : TiOk Tryd.prog 94 ⟨.struct [(0, 17), (1, 17), (2, 17), (3, 9)], 4, 40, .agg [.nilp, .nilp, .nilp, .str ⟨#[]⟩]⟩ := tiOk_mk (.agg #[.pointer none, .pointer none, .pointer none, .string ⟨#[]⟩]) ⟨_, Tryd.underlying94, rfl⟩ (by kernel_rfl) rfl rfl rfl (by simp [Value.cells, Value.oneCell'])
theorem ok95 : TiOk Tryd.prog 95 ⟨.struct [(0, 17), (1, 17), (2, 17), (3, 9)], 4, 40, .agg [.nilp, .nilp, .nilp, .str ⟨#[]⟩]⟩ := tiOk_mk (.agg #[.pointer none, .pointer none, .pointer none, .string ⟨#[]⟩]) ⟨_, Tryd.underlying95, rfl⟩ (by kernel_rfl) rfl rfl rfl (by simp [Value.cells, Value.oneCell'])
theorem ok99 : TiOk Tryd.prog 99 ⟨.func, 1, 8, .nilf⟩ := tiOk_mk (.nilFunc) ⟨_, _, _, Tryd.underlying99⟩ (by kernel_rfl) rfl rfl rfl (by simp [Value.cells, Value.oneCell'])
theorem ok100 : TiOk Tryd.prog 100 ⟨.func, 1, 8, .nilf⟩ := tiOk_mk (.nilFunc) ⟨_, _, _, Tryd.underlying100⟩ (by kernel_rfl) rfl rfl rfl (by simp [Value.cells, Value.oneCell'])
theorem ok101 : TiOk Tryd.prog 101 ⟨.int .u32, 1, 4, .int .u32 0⟩ := tiOk_mk (.int .u32 0) Tryd.underlying101 (by kernel_rfl) rfl rfl rfl (by simp [Value.cells, Value.oneCell'])
theorem ok102 : TiOk Tryd.prog 102 ⟨.int .u8, 1, 1, .int .u8 0⟩ := tiOk_mk (.int .u8 0) Tryd.underlying102 (by kernel_rfl) rfl rfl rfl (by simp [Value.cells, Value.oneCell'])
theorem ok103 : TiOk Tryd.prog 103 ⟨.func, 1, 8, .nilf⟩ := tiOk_mk (.nilFunc) ⟨_, _, _, Tryd.underlying103⟩ (by kernel_rfl) rfl rfl rfl (by simp [Value.cells, Value.oneCell'])
theorem ok104 : TiOk Tryd.prog 104 ⟨.ptr 5, 1, 8, .nilp⟩ := tiOk_mk (.pointer none) Tryd.underlying104 (by kernel_rfl) rfl rfl rfl (by simp [Value.cells, Value.oneCell'])
theorem ok105 : TiOk Tryd.prog 105 ⟨.int .i32, 1, 4, .int .i32 0⟩ := tiOk_mk (.int .i32 0) Tryd.underlying105 (by kernel_rfl) rfl rfl rfl (by simp [Value.cells, Value.oneCell'])
theorem ok106 : TiOk Tryd.prog 106 ⟨.int .i32, 1, 4, .int .i32 0⟩ := tiOk_mk (.int .i32 0) Tryd.underlying106 (by kernel_rfl) rfl rfl rfl (by simp [Value.cells, Value.oneCell'])
theorem ok107 : TiOk Tryd.prog 107 ⟨.struct [(0, 12), (1, 12), (2, 101), (3, 102), (4, 5), (5, 5), (6, 68), (7, 103), (8, 104), (9, 105), (10, 106)], 11, 48, .agg [.int .u64 0, .int .u64 0, .int .u32 0, .int .u8 0, .int .u8 0, .int .u8 0, .int .u8 0, .nilf, .nilp, .int .i32 0, .int .i32 0]⟩ := tiOk_mk (.agg #[.int .u64 0, .int .u64 0, .int .u32 0, .int .u8 0, .int .u8 0, .int .u8 0, .int .u8 0, .nilFunc, .pointer none, .int .i32 0, .int .i32 0]) ⟨_, Tryd.underlying107, rfl⟩ (by kernel_rfl) rfl rfl rfl (by simp [Value.cells, Value.oneCell'])
theorem ok108 : TiOk Tryd.prog 108 ⟨.struct [(0, 12), (1, 12), (2, 101), (3, 102), (4, 5), (5, 5), (6, 68), (7, 103), (8, 104), (9, 105), (10, 106)], 11, 48, .agg [.int .u64 0, .int .u64 0, .int .u32 0, .int .u8 0, .int .u8 0, .int .u8 0, .int .u8 0, .nilf, .nilp, .int .i32 0, .int .i32 0]⟩ := tiOk_mk (.agg #[.int .u64 0, .int .u64 0, .int .u32 0, .int .u8 0, .int .u8 0, .int .u8 0, .int .u8 0, .nilFunc, .pointer none, .int .i32 0, .int .i32 0]) ⟨_, Tryd.underlying108, rfl⟩ (by kernel_rfl) rfl rfl rfl (by simp [Value.cells, Value.oneCell'])
theorem ok110 : TiOk Tryd.prog 110 ⟨.func, 1, 8, .nilf⟩ := tiOk_mk (.nilFunc) ⟨_, _, _, Tryd.underlying110⟩ (by kernel_rfl) rfl rfl rfl (by simp [Value.cells, Value.oneCell'])
theorem ok111 : TiOk Tryd.prog 111 ⟨.func, 1, 8, .nilf⟩ := tiOk_mk (.nilFunc) ⟨_, _, _, Tryd.underlying111⟩ (by kernel_rfl) rfl rfl rfl (by simp [Value.cells, Value.oneCell'])
theorem ok112 : TiOk Tryd.prog 112 ⟨.struct [(0, 9), (1, 68)], 2, 24, .agg [.str ⟨#[]⟩, .int .u8 0]⟩ := tiOk_mk (.agg #[.string ⟨#[]⟩, .int .u8 0]) ⟨_, Tryd.underlying112, rfl⟩ (by kernel_rfl) rfl rfl rfl (by simp [Value.cells, Value.oneCell'])
theorem ok113 : TiOk Tryd.prog 113 ⟨.struct [(0, 9), (1, 68)], 2, 24, .agg [.str ⟨#[]⟩, .int .u8 0]⟩ := tiOk_mk (.agg #[.string ⟨#[]⟩, .int .u8 0]) ⟨_, Tryd.underlying113, rfl⟩ (by kernel_rfl) rfl rfl rfl (by simp [Value.cells, Value.oneCell'])
theorem ok114 : TiOk Tryd.prog 114 ⟨.ptr 118, 1, 8, .nilp⟩ := tiOk_mk (.pointer none) Tryd.underlying114 (by kernel_rfl) rfl rfl rfl (by simp [Value.cells, Value.oneCell'])
theorem ok115 : TiOk Tryd.prog 115 ⟨.func, 1, 8, .nilf⟩ := tiOk_mk (.nilFunc) ⟨_, _, _, Tryd.underlying115⟩ (by kernel_rfl) rfl rfl rfl (by simp [Value.cells, Value.oneCell'])
theorem ok116 : TiOk Tryd.prog 116 ⟨.int .u16, 1, 2, .int .u16 0⟩ := tiOk_mk (.int .u16 0) Tryd.underlying116 (by kernel_rfl) rfl rfl rfl (by simp [Value.cells, Value.oneCell'])
theorem ok117 : TiOk Tryd.prog 117 ⟨.struct [(0, 105), (1, 116), (2, 116), (3, 101), (4, 101)], 5, 16, .agg [.int .i32 0, .int .u16 0, .int .u16 0, .int .u32 0, .int .u32 0]⟩ := tiOk_mk (.agg #[.int .i32 0, .int .u16 0, .int .u16 0, .int .u32 0, .int .u32 0]) ⟨_, Tryd.underlying117, rfl⟩ (by kernel_rfl) rfl rfl rfl (by simp [Value.cells, Value.oneCell'])
theorem ok118 : TiOk Tryd.prog 118 ⟨.struct [(0, 105), (1, 116), (2, 116), (3, 101), (4, 101)], 5, 16, .agg [.int .i32 0, .int .u16 0, .int .u16 0, .int .u32 0, .int .u32 0]⟩ := tiOk_mk (.agg #[.int .i32 0, .int .u16 0, .int .u16 0, .int .u32 0, .int .u32 0]) ⟨_, Tryd.underlying118, rfl⟩ (by kernel_rfl) rfl rfl rfl (by simp [Value.cells, Value.oneCell'])
theorem ok119 : TiOk Tryd.prog 119 ⟨.slice 122, 1, 24, .nils⟩ := tiOk_mk (.slice none 0 0) Tryd.underlying119 (by kernel_rfl) rfl rfl rfl (by simp [Value.cells, Value.oneCell'])
theorem ok120 : TiOk Tryd.prog 120 ⟨.int .i32, 1, 4, .int .i32 0⟩ := tiOk_mk (.int .i32 0) Tryd.underlying120 (by kernel_rfl) rfl rfl rfl (by simp [Value.cells, Value.oneCell'])
theorem ok121 : TiOk Tryd.prog 121 ⟨.struct [(0, 105), (1, 106), (2, 120), (3, 120)], 4, 16, .agg [.int .i32 0, .int .i32 0, .int .i32 0, .int .i32 0]⟩ := tiOk_mk (.agg #[.int .i32 0, .int .i32 0, .int .i32 0, .int .i32 0]) ⟨_, Tryd.underlying121, rfl⟩ (by kernel_rfl) rfl rfl rfl (by simp [Value.cells, Value.oneCell'])
theorem ok122 : TiOk Tryd.prog 122 ⟨.struct [(0, 105), (1, 106), (2, 120), (3, 120)], 4, 16, .agg [.int .i32 0, .int .i32 0, .int .i32 0, .int .i32 0]⟩ := tiOk_mk (.agg #[.int .i32 0, .int .i32 0, .int .i32 0, .int .i32 0]) ⟨_, Tryd.underlying122, rfl⟩ (by kernel_rfl) rfl rfl rfl (by simp [Value.cells, Value.oneCell'])
theorem tk : TyOk Tryd.prog ty := by
  intro t i h
  unfold ty at h
  split at h
  · cases h; exact ok1
  · cases h; exact ok2
  · cases h; exact ok3
  · cases h; exact ok4
  · cases h; exact ok5
  · cases h; exact ok6
  · cases h; exact ok7
  · cases h; exact ok8
  · cases h; exact ok9
  · cases h; exact ok10
  · cases h; exact ok11
  · cases h; exact ok12
  · cases h; exact ok13
  · cases h; exact ok14
  · cases h; exact ok15
  · cases h; exact ok16
  · cases h; exact ok17
  · cases h; exact ok18
  · cases h; exact ok19
  · cases h; exact ok20
  · cases h; exact ok21
  · cases h; exact ok22
  · cases h; exact ok23
  · cases h; exact ok24
  · cases h; exact ok25
  · cases h; exact ok26
  · cases h; exact ok27
  · cases h; exact ok28
  · cases h; exact ok29
  · cases h; exact ok30
  · cases h; exact ok31
  · cases h; exact ok32
  · cases h; exact ok33
  · cases h; exact ok35
  · cases h; exact ok36
  · cases h; exact ok37
  · cases h; exact ok38
  · cases h; exact ok39
  · cases h; exact ok40
  · cases h; exact ok41
  · cases h; exact ok43
  · cases h; exact ok44
  · cases h; exact ok45
  · cases h; exact ok46
  · cases h; exact ok47
  · cases h; exact ok48
  · cases h; exact ok49
  · cases h; exact ok50
  · cases h; exact ok51
  · cases h; exact ok52
  · cases h; exact ok53
  · cases h; exact ok54
  · cases h; exact ok55
  · cases h; exact ok56
  · cases h; exact ok57
  · cases h; exact ok58
  · cases h; exact ok59
  · cases h; exact ok61
  · cases h; exact ok64
  · cases h; exact ok65
  · cases h; exact ok66
  · cases h; exact ok67
  · cases h; exact ok68
  · cases h; exact ok69
  · cases h; exact ok70
  · cases h; exact ok71
  · cases h; exact ok72
  · cases h; exact ok73
  · cases h; exact ok74
  · cases h; exact ok75
  · cases h; exact ok76
  · cases h; exact ok77
  · cases h; exact ok78
  · cases h; exact ok79
  · cases h; exact ok80
  · cases h; exact ok81
  · cases h; exact ok82
  · cases h; exact ok83
  · cases h; exact ok85
  · cases h; exact ok86
  · cases h; exact ok87
  · cases h; exact ok88
  · cases h; exact ok89
  · cases h; exact ok90
  · cases h; exact ok92
  · cases h; exact ok93
  · cases h; exact ok94
  · cases h; exact ok95
  · cases h; exact ok99
  · cases h; exact ok100
  · cases h; exact ok101
  · cases h; exact ok102
  · cases h; exact ok103
  · cases h; exact ok104
  · cases h; exact ok105
  · cases h; exact ok106
  · cases h; exact ok107
  · cases h; exact ok108
  · cases h; exact ok110
  · cases h; exact ok111
  · cases h; exact ok112
  · cases h; exact ok113
  · cases h; exact ok114
  · cases h; exact ok115
  · cases h; exact ok116
  · cases h; exact ok117
  · cases h; exact ok118
  · cases h; exact ok119
  · cases h; exact ok120
  · cases h; exact ok121
  · cases h; exact ok122
  · cases h
theorem mixed : Tryd.prog.follows .mixedOrders = true := by kernel_rfl
end Go.Proofs.YtekldjimdmkgaaaDoor
namespace Go.Proofs.YtekldjimdmkgaaaDoor
open Go Go.Va
set_option linter.unusedSimpArgs false
set_option linter.unusedVariables false
/-- Errors, as values: none; a fault, with what is under it. -/
inductive Err where
  | nil
  | fault (op : List (BitVec 8)) (at_ : Int) (code : Int) (under : Err)
  deriving DecidableEq
def Err.isNil : Err → Bool
  | .nil => true
  | _ => false
def eErr : Err → AV
  | .nil => .nili
  | .fault o a c u => .iface 50 (.fptr [eS o, eI a, eI c, eErr u] 0)
theorem eErr_cut (nl nt : Nat → Option Nat) : ∀ e, cutAV nl nt (eErr e) = eErr e
  | .nil => rfl
  | .fault o a c u => by simp only [eErr, cutAV, cutL, eErr_cut nl nt u, eS, eI]
theorem eErr_flat (e : Err) : flatAV (eErr e) = true := by cases e <;> rfl
theorem nsp_err (e : Err) : spcl [eErr e] = false := by cases e <;> rfl
theorem encErr : Enc ty 25 1 eErr := ⟨sz25, by decide, fun x => (by cases x <;> rfl), fun h => (by cases h), fun _ x => (by cases x <;> rfl), fun x => (by cases x <;> rfl), eErr_cut⟩
structure runtime_boundsError where
  x : Int
  y : Int
  signed : Bool
  code : BitVec 8
  deriving DecidableEq
def c_runtime_boundsError (x : runtime_boundsError) : List AV := [eI x.x, eI x.y, eB x.signed, (@eU .u8 8) x.code]
def e_runtime_boundsError (x : runtime_boundsError) : AV := .agg (c_runtime_boundsError x)
def z_runtime_boundsError : runtime_boundsError := ⟨(0 : Int), (0 : Int), false, 0#8⟩
theorem c_runtime_boundsError_cut (nl nt : Nat → Option Nat) (x : runtime_boundsError) : cutL nl nt (c_runtime_boundsError x) = c_runtime_boundsError x := by simp only [cutL, e_runtime_boundsError, c_runtime_boundsError, cutAV, (enc_i64 td2 sz2).cut nl nt, (enc_i64 td3 sz3).cut nl nt, (enc_b td4 sz4).cut nl nt, (enc_u td6 sz6).cut nl nt]
theorem pc_runtime_boundsError (x : runtime_boundsError) : purL (c_runtime_boundsError x) = true := by simp only [c_runtime_boundsError, purL, purL_append, Bool.and_self, Bool.and_true, (show purA (eI x.x) = true from (fun _ => rfl) _), (show purA (eI x.y) = true from (fun _ => rfl) _), (show purA (eB x.signed) = true from (fun _ => rfl) _), (show purA ((@eU .u8 8) x.code) = true from (fun _ => rfl) _)]
theorem pur_runtime_boundsError (x : runtime_boundsError) : purA (e_runtime_boundsError x) = true := pc_runtime_boundsError x
theorem enc7 : Enc ty 7 4 e_runtime_boundsError := ⟨sz7, by decide, fun _ => rfl, fun _ _ => rfl, fun h => (by cases h), fun _ => rfl, fun nl nt x => by simp only [e_runtime_boundsError, cutAV, c_runtime_boundsError_cut]⟩
theorem enc8 : Enc ty 8 4 e_runtime_boundsError := ⟨sz8, by decide, fun _ => rfl, fun _ _ => rfl, fun h => (by cases h), fun _ => rfl, fun nl nt x => by simp only [e_runtime_boundsError, cutAV, c_runtime_boundsError_cut]⟩
structure runtime_errorAddressString where
  msg : List (BitVec 8)
  addr : BitVec 64
  deriving DecidableEq
def c_runtime_errorAddressString (x : runtime_errorAddressString) : List AV := [eS x.msg, (@eU .u64 64) x.addr]
def e_runtime_errorAddressString (x : runtime_errorAddressString) : AV := .agg (c_runtime_errorAddressString x)
def z_runtime_errorAddressString : runtime_errorAddressString := ⟨([] : List (BitVec 8)), 0#64⟩
theorem c_runtime_errorAddressString_cut (nl nt : Nat → Option Nat) (x : runtime_errorAddressString) : cutL nl nt (c_runtime_errorAddressString x) = c_runtime_errorAddressString x := by simp only [cutL, e_runtime_errorAddressString, c_runtime_errorAddressString, cutAV, (enc_s td9 sz9).cut nl nt, (enc_u td12 sz12).cut nl nt]
theorem pc_runtime_errorAddressString (x : runtime_errorAddressString) : purL (c_runtime_errorAddressString x) = true := by simp only [c_runtime_errorAddressString, purL, purL_append, Bool.and_self, Bool.and_true, (show purA (eS x.msg) = true from (fun _ => rfl) _), (show purA ((@eU .u64 64) x.addr) = true from (fun _ => rfl) _)]
theorem pur_runtime_errorAddressString (x : runtime_errorAddressString) : purA (e_runtime_errorAddressString x) = true := pc_runtime_errorAddressString x
theorem enc13 : Enc ty 13 2 e_runtime_errorAddressString := ⟨sz13, by decide, fun _ => rfl, fun _ _ => rfl, fun h => (by cases h), fun _ => rfl, fun nl nt x => by simp only [e_runtime_errorAddressString, cutAV, c_runtime_errorAddressString_cut]⟩
theorem enc14 : Enc ty 14 2 e_runtime_errorAddressString := ⟨sz14, by decide, fun _ => rfl, fun _ _ => rfl, fun h => (by cases h), fun _ => rfl, fun nl nt x => by simp only [e_runtime_errorAddressString, cutAV, c_runtime_errorAddressString_cut]⟩
structure api_Step where
  Op : List (BitVec 8)
  At : Int
  Code : Int
  deriving DecidableEq
def c_api_Step (x : api_Step) : List AV := [eS x.Op, eI x.At, eI x.Code]
def e_api_Step (x : api_Step) : AV := .agg (c_api_Step x)
def z_api_Step : api_Step := ⟨([] : List (BitVec 8)), (0 : Int), (0 : Int)⟩
theorem c_api_Step_cut (nl nt : Nat → Option Nat) (x : api_Step) : cutL nl nt (c_api_Step x) = c_api_Step x := by simp only [cutL, e_api_Step, c_api_Step, cutAV, (enc_s td9 sz9).cut nl nt, (enc_i64 td3 sz3).cut nl nt, (enc_i64 td22 sz22).cut nl nt]
theorem pc_api_Step (x : api_Step) : purL (c_api_Step x) = true := by simp only [c_api_Step, purL, purL_append, Bool.and_self, Bool.and_true, (show purA (eS x.Op) = true from (fun _ => rfl) _), (show purA (eI x.At) = true from (fun _ => rfl) _), (show purA (eI x.Code) = true from (fun _ => rfl) _)]
theorem pur_api_Step (x : api_Step) : purA (e_api_Step x) = true := pc_api_Step x
theorem enc31 : Enc ty 31 3 e_api_Step := ⟨sz31, by decide, fun _ => rfl, fun _ _ => rfl, fun h => (by cases h), fun _ => rfl, fun nl nt x => by simp only [e_api_Step, cutAV, c_api_Step_cut]⟩
theorem enc32 : Enc ty 32 3 e_api_Step := ⟨sz32, by decide, fun _ => rfl, fun _ _ => rfl, fun h => (by cases h), fun _ => rfl, fun nl nt x => by simp only [e_api_Step, cutAV, c_api_Step_cut]⟩
structure trouble_fault where
  op : List (BitVec 8)
  at_ : Int
  code : Int
  under : Err
  deriving DecidableEq
def c_trouble_fault (x : trouble_fault) : List AV := [eS x.op, eI x.at_, eI x.code, eErr x.under]
def e_trouble_fault (x : trouble_fault) : AV := .agg (c_trouble_fault x)
def z_trouble_fault : trouble_fault := ⟨([] : List (BitVec 8)), (0 : Int), (0 : Int), Err.nil⟩
theorem c_trouble_fault_cut (nl nt : Nat → Option Nat) (x : trouble_fault) : cutL nl nt (c_trouble_fault x) = c_trouble_fault x := by simp only [cutL, e_trouble_fault, c_trouble_fault, cutAV, (enc_s td9 sz9).cut nl nt, (enc_i64 td3 sz3).cut nl nt, (enc_i64 td22 sz22).cut nl nt, encErr.cut nl nt]
theorem enc51 : Enc ty 51 4 e_trouble_fault := ⟨sz51, by decide, fun _ => rfl, fun _ _ => rfl, fun h => (by cases h), fun x => (by simp only [e_trouble_fault, c_trouble_fault, AV.cells, List.all_cons, List.all_nil, eErr_flat]; rfl), fun nl nt x => by simp only [e_trouble_fault, cutAV, c_trouble_fault_cut]⟩
theorem enc52 : Enc ty 52 4 e_trouble_fault := ⟨sz52, by decide, fun _ => rfl, fun _ _ => rfl, fun h => (by cases h), fun x => (by simp only [e_trouble_fault, c_trouble_fault, AV.cells, List.all_cons, List.all_nil, eErr_flat]; rfl), fun nl nt x => by simp only [e_trouble_fault, cutAV, c_trouble_fault_cut]⟩
structure trouble_mark where
  code : Int
  deriving DecidableEq
def c_trouble_mark (x : trouble_mark) : List AV := [eI x.code]
def e_trouble_mark (x : trouble_mark) : AV := .agg (c_trouble_mark x)
def z_trouble_mark : trouble_mark := ⟨(0 : Int)⟩
theorem c_trouble_mark_cut (nl nt : Nat → Option Nat) (x : trouble_mark) : cutL nl nt (c_trouble_mark x) = c_trouble_mark x := by simp only [cutL, e_trouble_mark, c_trouble_mark, cutAV, (enc_i64 td22 sz22).cut nl nt]
theorem pc_trouble_mark (x : trouble_mark) : purL (c_trouble_mark x) = true := by simp only [c_trouble_mark, purL, purL_append, Bool.and_self, Bool.and_true, (show purA (eI x.code) = true from (fun _ => rfl) _)]
theorem pur_trouble_mark (x : trouble_mark) : purA (e_trouble_mark x) = true := pc_trouble_mark x
theorem enc57 : Enc ty 57 1 e_trouble_mark := ⟨sz57, by decide, fun _ => rfl, fun _ _ => rfl, fun h => (by cases h), fun _ => rfl, fun nl nt x => by simp only [e_trouble_mark, cutAV, c_trouble_mark_cut]⟩
theorem enc58 : Enc ty 58 1 e_trouble_mark := ⟨sz58, by decide, fun _ => rfl, fun _ _ => rfl, fun h => (by cases h), fun _ => rfl, fun nl nt x => by simp only [e_trouble_mark, cutAV, c_trouble_mark_cut]⟩
structure errors_joinError where
  errs : List Err
  deriving DecidableEq
def c_errors_joinError (x : errors_joinError) : List AV := [(eL 1 eErr) x.errs]
def e_errors_joinError (x : errors_joinError) : AV := .agg (c_errors_joinError x)
def z_errors_joinError : errors_joinError := ⟨([] : List Err)⟩
theorem c_errors_joinError_cut (nl nt : Nat → Option Nat) (x : errors_joinError) : cutL nl nt (c_errors_joinError x) = c_errors_joinError x := by simp only [cutL, e_errors_joinError, c_errors_joinError, cutAV, (enc_l td74 sz74 encErr.cut).cut nl nt]
theorem enc76 : Enc ty 76 1 e_errors_joinError := ⟨sz76, by decide, fun _ => rfl, fun _ _ => rfl, fun h => (by cases h), fun _ => rfl, fun nl nt x => by simp only [e_errors_joinError, cutAV, c_errors_joinError_cut]⟩
theorem enc77 : Enc ty 77 1 e_errors_joinError := ⟨sz77, by decide, fun _ => rfl, fun _ _ => rfl, fun h => (by cases h), fun _ => rfl, fun nl nt x => by simp only [e_errors_joinError, cutAV, c_errors_joinError_cut]⟩
structure reflectlite_ValueError where
  Method : List (BitVec 8)
  Kind : BitVec 8
  deriving DecidableEq
def c_reflectlite_ValueError (x : reflectlite_ValueError) : List AV := [eS x.Method, (@eU .u8 8) x.Kind]
def e_reflectlite_ValueError (x : reflectlite_ValueError) : AV := .agg (c_reflectlite_ValueError x)
def z_reflectlite_ValueError : reflectlite_ValueError := ⟨([] : List (BitVec 8)), 0#8⟩
theorem c_reflectlite_ValueError_cut (nl nt : Nat → Option Nat) (x : reflectlite_ValueError) : cutL nl nt (c_reflectlite_ValueError x) = c_reflectlite_ValueError x := by simp only [cutL, e_reflectlite_ValueError, c_reflectlite_ValueError, cutAV, (enc_s td9 sz9).cut nl nt, (enc_u td68 sz68).cut nl nt]
theorem pc_reflectlite_ValueError (x : reflectlite_ValueError) : purL (c_reflectlite_ValueError x) = true := by simp only [c_reflectlite_ValueError, purL, purL_append, Bool.and_self, Bool.and_true, (show purA (eS x.Method) = true from (fun _ => rfl) _), (show purA ((@eU .u8 8) x.Kind) = true from (fun _ => rfl) _)]
theorem pur_reflectlite_ValueError (x : reflectlite_ValueError) : purA (e_reflectlite_ValueError x) = true := pc_reflectlite_ValueError x
theorem enc112 : Enc ty 112 2 e_reflectlite_ValueError := ⟨sz112, by decide, fun _ => rfl, fun _ _ => rfl, fun h => (by cases h), fun _ => rfl, fun nl nt x => by simp only [e_reflectlite_ValueError, cutAV, c_reflectlite_ValueError_cut]⟩
theorem enc113 : Enc ty 113 2 e_reflectlite_ValueError := ⟨sz113, by decide, fun _ => rfl, fun _ _ => rfl, fun h => (by cases h), fun _ => rfl, fun nl nt x => by simp only [e_reflectlite_ValueError, cutAV, c_reflectlite_ValueError_cut]⟩
structure abi_Method where
  Name : Int
  Mtyp : Int
  Ifn : Int
  Tfn : Int
  deriving DecidableEq
def c_abi_Method (x : abi_Method) : List AV := [(eK .i32) x.Name, (eK .i32) x.Mtyp, (eK .i32) x.Ifn, (eK .i32) x.Tfn]
def e_abi_Method (x : abi_Method) : AV := .agg (c_abi_Method x)
def z_abi_Method : abi_Method := ⟨(0 : Int), (0 : Int), (0 : Int), (0 : Int)⟩
theorem c_abi_Method_cut (nl nt : Nat → Option Nat) (x : abi_Method) : cutL nl nt (c_abi_Method x) = c_abi_Method x := by simp only [cutL, e_abi_Method, c_abi_Method, cutAV, (enc_i td105 sz105).cut nl nt, (enc_i td106 sz106).cut nl nt, (enc_i td120 sz120).cut nl nt, (enc_i td120 sz120).cut nl nt]
theorem pc_abi_Method (x : abi_Method) : purL (c_abi_Method x) = true := by simp only [c_abi_Method, purL, purL_append, Bool.and_self, Bool.and_true, (show purA ((eK .i32) x.Name) = true from (fun _ => rfl) _), (show purA ((eK .i32) x.Mtyp) = true from (fun _ => rfl) _), (show purA ((eK .i32) x.Ifn) = true from (fun _ => rfl) _), (show purA ((eK .i32) x.Tfn) = true from (fun _ => rfl) _)]
theorem pur_abi_Method (x : abi_Method) : purA (e_abi_Method x) = true := pc_abi_Method x
theorem enc121 : Enc ty 121 4 e_abi_Method := ⟨sz121, by decide, fun _ => rfl, fun _ _ => rfl, fun h => (by cases h), fun _ => rfl, fun nl nt x => by simp only [e_abi_Method, cutAV, c_abi_Method_cut]⟩
theorem enc122 : Enc ty 122 4 e_abi_Method := ⟨sz122, by decide, fun _ => rfl, fun _ _ => rfl, fun h => (by cases h), fun _ => rfl, fun nl nt x => by simp only [e_abi_Method, cutAV, c_abi_Method_cut]⟩
end Go.Proofs.YtekldjimdmkgaaaDoor
namespace Go.Va
open Go
set_option linter.unusedVariables false
set_option linter.unusedSimpArgs false

theorem loopO_up {S X : Type} {body : S → Option (S ⊕ X)} (g : Nat → S) (n : Nat) {x : X} (h : ∀ i, i < n → body (g i) = some (.inl (g (i + 1)))) (hx : body (g n) = some (.inr x)) : loopO body (g 0) = some x := by
  have key : ∀ k, k ≤ n → loopO body (g (n - k)) = some x := by
    intro k
    induction k with
    | zero => intro _; exact loopO_out hx
    | succ k ih =>
      intro hk
      rw [loopO_in (h (n - (k + 1)) (by omega)), show n - (k + 1) + 1 = n - k by omega]
      exact ih (by omega)
  have := key n (Nat.le_refl _)
  rwa [Nat.sub_self] at this
/-- What a round comes to that may leave. -/
def nx {S X : Type} (o : Option X) (s : S) : S ⊕ X := match o with | none => .inl s | some y => .inr y
/-- A loop that leaves early, at the first round that says so. -/
theorem loopO_inv {S X : Type} {body : S → Option (S ⊕ X)} (I : S → Prop) (m : S → Nat) (Q : X → Prop) (h : ∀ s, I s → (∃ s', body s = some (.inl s') ∧ I s' ∧ m s' < m s) ∨ ∃ x, body s = some (.inr x) ∧ Q x) {s : S} (h0 : I s) : ∃ x, loopO body s = some x ∧ Q x := by
  generalize hk : m s = k
  induction k using Nat.strongRecOn generalizing s with
  | _ k ih =>
    rcases h s h0 with ⟨s', h1, h2, h3⟩ | ⟨x, h1, h2⟩
    · obtain ⟨x, k1, k2⟩ := ih (m s') (hk ▸ h3) h2 rfl
      exact ⟨x, by rw [loopO_in h1]; exact k1, k2⟩
    · exact ⟨x, loopO_out h1, h2⟩
/-- A number of rounds. -/
theorem ix_nat {α : Type} {l : List α} {i : Nat} (h : i < l.length) : ix l (i : Int) = some l[i] := by
  unfold ix
  rw [if_pos (by omega)]
  simp [h]
theorem ix_get {α : Type} (l : List α) (i : Nat) : ix l (i : Int) = l[i]? := by
  unfold ix
  rw [if_pos (by omega)]
  simp
theorem w64_nat {i : Nat} (h : i < 9223372036854775807) : w64 ((i : Int) + 1) = ((i + 1 : Nat) : Int) := by
  rw [w64_eq (by omega) (by omega)]; omega
theorem app_eq {α : Type} {b : Nat} {l m : List α} (h : (l.length + m.length) * b ≤ 140737488355328) : app b l m = some (l ++ m) := by simp [app, h]
end Go.Va
namespace Go.Proofs.YtekldjimdmkgaaaDoor
open Go Go.Va
set_option linter.unusedVariables false
set_option linter.unusedSimpArgs false
set_option maxRecDepth 20000
def trouble_Chain_b0 (s : Err × List api_Step) : Option ((Err × List api_Step) ⊕ List api_Step) := match s.1 with
  | .nil => some (.inr s.2)
  | .fault o a c u => (app 32 s.2 [⟨o, a, c⟩]).bind fun v => some (.inl (u, v))
noncomputable def trouble_Chain (x : Err) : Option (List api_Step) := loopO trouble_Chain_b0 (x, [])
end Go.Proofs.YtekldjimdmkgaaaDoor
namespace Go.Proofs.YtekldjimdmkgaaaDoor
open Go Go.Va
set_option linter.unusedVariables false
set_option linter.unusedSimpArgs false
set_option maxRecDepth 20000
noncomputable def trouble_Wrap (x0 : List (BitVec 8)) (x1 : Int) (x2 : Err) : Option (Err) :=
  lt (Err.isNil x2) fun v2 =>
  if v2 = true then
    some Err.nil
  else
    lt ((⟨x0, x1, (0 : Int), x2⟩ : trouble_fault)) fun v5 =>
    some (Err.fault v5.op v5.at_ v5.code v5.under)
end Go.Proofs.YtekldjimdmkgaaaDoor
namespace Go.Proofs.YtekldjimdmkgaaaDoor
open Go Go.Va
set_option linter.unusedVariables false
set_option linter.unusedSimpArgs false
set_option maxRecDepth 20000
noncomputable def butteryref01_Wrap (x0 : List api_Step) (x1 : List (BitVec 8)) (x2 : Int) : Option ((List api_Step)) :=
  lt (((x0).length : Int)) fun v2 =>
  lt (v2 == (0 : Int)) fun v4 =>
  if v4 = true then
    some []
  else
    lt ((⟨x1, x2, (0 : Int)⟩ : api_Step)) fun v7 =>
    lt (([v7] : List api_Step)) fun v9 =>
    (app 32 v9 x0).bind fun v11 =>
    some v11
end Go.Proofs.YtekldjimdmkgaaaDoor
namespace Go.Proofs.YtekldjimdmkgaaaDoor
open Go Go.Va
set_option linter.unusedVariables false
set_option linter.unusedSimpArgs false
set_option maxRecDepth 20000
noncomputable def trouble_Where (x0 : Err) : Option (Int × Bool) :=
  (trouble_Chain x0).bind fun v2 =>
  lt (((v2).length : Int)) fun v4 =>
  lt (v4 == (0 : Int)) fun v6 =>
  if v6 = true then
    some ((0 : Int), false)
  else
    lt (((v2).length : Int)) fun v9 =>
    lt (w64 (v9 - (1 : Int))) fun v11 =>
    (ix v2 v11).bind fun v13 =>
    some (v13.At, true)
end Go.Proofs.YtekldjimdmkgaaaDoor
namespace Go.Proofs.YtekldjimdmkgaaaDoor
open Go Go.Va
set_option linter.unusedVariables false
set_option linter.unusedSimpArgs false
set_option maxRecDepth 20000
/-- The code of a fault: of the first one under it that has one. -/
def codeOf : Err → Int
  | .nil => 0
  | .fault o a c u => if c = 0 then codeOf u else c
def trouble_Of_b0 : Err → Option (Err ⊕ (Unit ⊕ Int))
  | .nil => some (.inr (.inl ()))
  | .fault o a c u => if (c != 0) = true then some (.inr (.inr c)) else some (.inl u)
def trouble_Of (x : Err) : Option Int := some (codeOf x)
theorem trouble_Of_l0 : ∀ x : Err, loopO trouble_Of_b0 x = some (if codeOf x = 0 then .inl () else .inr (codeOf x))
  | .nil => loopO_out rfl
  | .fault o a c u => by
    by_cases hc : c = 0
    · rw [loopO_in (s' := u) (by simp [trouble_Of_b0, hc]), trouble_Of_l0 u]; simp [codeOf, hc]
    · rw [loopO_out (x := .inr c) (by simp [trouble_Of_b0, hc])]; simp [codeOf, hc]
end Go.Proofs.YtekldjimdmkgaaaDoor
namespace Go.Proofs.YtekldjimdmkgaaaDoor
open Go Go.Va
set_option linter.unusedVariables false
set_option linter.unusedSimpArgs false
set_option maxRecDepth 20000
noncomputable def butteryref01_Of_b0 (x0 : List api_Step) (c1 : Int) : Option ((Int) ⊕ (Unit ⊕ (Int))) :=
  lt (((x0).length : Int)) fun v12 =>
  lt (decide (c1 < v12)) fun v14 =>
  if v14 = true then
    (ix x0 c1).bind fun v17 =>
    lt (v17.Code != (0 : Int)) fun v19 =>
    if v19 = true then
      (ix x0 c1).bind fun v22 =>
      some (.inr (.inr v22.Code))
    else
      lt (w64 (c1 + (1 : Int))) fun v25 =>
      some (.inl v25)
  else
    some (.inr (.inl ()))
noncomputable def butteryref01_Of_l0 (x0 : List api_Step) (s : Int) : Option (Unit ⊕ (Int)) := loopO (fun s => butteryref01_Of_b0 x0 s) s
noncomputable def butteryref01_Of (x0 : List api_Step) : Option (Int) :=
  (butteryref01_Of_l0 x0 (0 : Int)).bind fun o2 =>
    Sum.elim (fun s9 : Unit =>
      some (0 : Int)
      ) (fun y => some y) o2
end Go.Proofs.YtekldjimdmkgaaaDoor
namespace Go.Proofs.YtekldjimdmkgaaaDoor
open Go Go.Va
set_option linter.unusedVariables false
set_option linter.unusedSimpArgs false
set_option maxRecDepth 20000
noncomputable def trouble_digits_b0  (c4 : Int) (c5 : List (BitVec 8)) : Option ((Int × (List (BitVec 8))) ⊕ (Int × (List (BitVec 8)))) :=
  lt (decide (c4 ≥ (10 : Int))) fun v16 =>
  if v16 = true then
    lt (Int.tmod c4 (10 : Int)) fun v19 =>
    lt (w64 ((48 : Int) + v19)) fun v21 =>
    lt (BitVec.ofInt 8 v21) fun v23 =>
    (chr1 v23).bind fun v25 =>
    (cat v25 c5).bind fun v27 =>
    lt (quo64 c4 (10 : Int)) fun v29 =>
    some (.inl (v29, v27))
  else
    some (.inr (c4, c5))
noncomputable def trouble_digits_l0  (s : Int × (List (BitVec 8))) : Option (Int × (List (BitVec 8))) := loopO (fun s => trouble_digits_b0 s.1 s.2) s
noncomputable def trouble_digits (x0 : Int) : Option ((List (BitVec 8))) :=
  lt (decide (x0 < (0 : Int))) fun v2 =>
  if v2 = true then
    some ([63#8] : List (BitVec 8))
  else
    (trouble_digits_l0 (x0, ([] : List (BitVec 8)))).bind fun s13 =>
      lt (w64 ((48 : Int) + s13.1)) fun v32 =>
      lt (BitVec.ofInt 8 v32) fun v34 =>
      (chr1 v34).bind fun v36 =>
      (cat v36 s13.2).bind fun v38 =>
      some v38
end Go.Proofs.YtekldjimdmkgaaaDoor
namespace Go.Proofs.YtekldjimdmkgaaaDoor
open Go Go.Va
set_option linter.unusedVariables false
set_option linter.unusedSimpArgs false
set_option maxRecDepth 20000
noncomputable def trouble_Text_b0 (v2 : List api_Step) (v4 : Int) (c5 : List (BitVec 8)) (c6 : Int) : Option (((List (BitVec 8)) × Int) ⊕ ((List (BitVec 8)))) :=
  lt (decide (c6 < v4)) fun v17 =>
  if v17 = true then
    (ix v2 c6).bind fun v20 =>
    lt ((v20 : api_Step)) fun c24 =>
    lt (decide (c6 > (0 : Int))) fun v27 =>
    (
      if v27 = true then
        (cat c5 ([58#8, 32#8] : List (BitVec 8))).bind fun v34 =>
        some v34
      else
        some c5
     : Option ((List (BitVec 8)))).bind fun s28 =>
      (cat s28 c24.Op).bind fun v37 =>
      lt (decide (c24.At ≥ (0 : Int))) fun v39 =>
      (
        if v39 = true then
          (trouble_digits c24.At).bind fun v46 =>
          (cat ([32#8] : List (BitVec 8)) v46).bind fun v48 =>
          (cat v37 v48).bind fun v50 =>
          some v50
        else
          some v37
       : Option ((List (BitVec 8)))).bind fun s40 =>
        lt (c24.Code != (0 : Int)) fun v53 =>
        if v53 = true then
          (trouble_digits c24.Code).bind fun v56 =>
          (cat ([32#8, 99#8, 111#8, 100#8, 101#8, 32#8] : List (BitVec 8)) v56).bind fun v58 =>
          (cat s40 v58).bind fun v60 =>
          lt (w64 (c6 + (1 : Int))) fun v62 =>
          some (.inl (v60, v62))
        else
          lt (w64 (c6 + (1 : Int))) fun v64 =>
          some (.inl (s40, v64))
  else
    some (.inr c5)
noncomputable def trouble_Text_l0 (v2 : List api_Step) (v4 : Int) (s : (List (BitVec 8)) × Int) : Option ((List (BitVec 8))) := loopO (fun s => trouble_Text_b0 v2 v4 s.1 s.2) s
noncomputable def trouble_Text (x0 : Err) : Option ((List (BitVec 8))) :=
  (trouble_Chain x0).bind fun v2 =>
  lt (((v2).length : Int)) fun v4 =>
  (trouble_Text_l0 v2 v4 (([] : List (BitVec 8)), (0 : Int))).bind fun s14 =>
    some s14
end Go.Proofs.YtekldjimdmkgaaaDoor
namespace Go.Proofs.YtekldjimdmkgaaaDoor
open Go Go.Va
set_option linter.unusedVariables false
set_option linter.unusedSimpArgs false
set_option maxRecDepth 20000
noncomputable def butteryref01_Digits_F (rec : Int → Option ((List (BitVec 8)))) (x0 : Int) : Option ((List (BitVec 8))) :=
  lt (decide (x0 < (0 : Int))) fun v2 =>
  if v2 = true then
    some ([63#8] : List (BitVec 8))
  else
    lt (decide (x0 < (10 : Int))) fun v5 =>
    if v5 = true then
      lt (w64 (x0 + (1 : Int))) fun v8 =>
      (cutO ([48#8, 49#8, 50#8, 51#8, 52#8, 53#8, 54#8, 55#8, 56#8, 57#8] : List (BitVec 8)) x0 v8).bind fun v10 =>
      some v10
    else
      lt (quo64 x0 (10 : Int)) fun v12 =>
      (rec v12).bind fun v14 =>
      lt (Int.tmod x0 (10 : Int)) fun v16 =>
      lt (Int.tmod x0 (10 : Int)) fun v18 =>
      lt (w64 (v18 + (1 : Int))) fun v20 =>
      (cutO ([48#8, 49#8, 50#8, 51#8, 52#8, 53#8, 54#8, 55#8, 56#8, 57#8] : List (BitVec 8)) v16 v20).bind fun v22 =>
      (cat v14 v22).bind fun v24 =>
      some v24
noncomputable def butteryref01_Digits_n : Nat → Int → Option ((List (BitVec 8)))
  | 0 => fun _ => none
  | k + 1 => butteryref01_Digits_F (butteryref01_Digits_n k)
noncomputable def butteryref01_Digits (x0 : Int) : Option ((List (BitVec 8))) := butteryref01_Digits_n 1000000 x0
end Go.Proofs.YtekldjimdmkgaaaDoor
namespace Go.Proofs.YtekldjimdmkgaaaDoor
open Go Go.Va
set_option linter.unusedVariables false
set_option linter.unusedSimpArgs false
set_option maxRecDepth 20000
noncomputable def butteryref01_Text_b0 (x0 : List api_Step) (c1 : List (BitVec 8)) (c2 : Int) : Option (((List (BitVec 8)) × Int) ⊕ ((List (BitVec 8)))) :=
  lt (((x0).length : Int)) fun v13 =>
  lt (decide (c2 < v13)) fun v15 =>
  if v15 = true then
    lt (decide (c2 > (0 : Int))) fun v18 =>
    (
      if v18 = true then
        (cat c1 ([58#8, 32#8] : List (BitVec 8))).bind fun v25 =>
        some v25
      else
        some c1
     : Option ((List (BitVec 8)))).bind fun s19 =>
      (ix x0 c2).bind fun v28 =>
      (cat s19 v28.Op).bind fun v30 =>
      (ix x0 c2).bind fun v32 =>
      lt (decide (v32.At ≥ (0 : Int))) fun v34 =>
      (
        if v34 = true then
          (cat v30 ([32#8] : List (BitVec 8))).bind fun v41 =>
          (ix x0 c2).bind fun v43 =>
          (butteryref01_Digits v43.At).bind fun v45 =>
          (cat v41 v45).bind fun v47 =>
          some v47
        else
          some v30
       : Option ((List (BitVec 8)))).bind fun s35 =>
        (ix x0 c2).bind fun v50 =>
        lt (v50.Code != (0 : Int)) fun v52 =>
        if v52 = true then
          (cat s35 ([32#8, 99#8, 111#8, 100#8, 101#8, 32#8] : List (BitVec 8))).bind fun v55 =>
          (ix x0 c2).bind fun v57 =>
          (butteryref01_Digits v57.Code).bind fun v59 =>
          (cat v55 v59).bind fun v61 =>
          lt (w64 (c2 + (1 : Int))) fun v63 =>
          some (.inl (v61, v63))
        else
          lt (w64 (c2 + (1 : Int))) fun v65 =>
          some (.inl (s35, v65))
  else
    some (.inr c1)
noncomputable def butteryref01_Text_l0 (x0 : List api_Step) (s : (List (BitVec 8)) × Int) : Option ((List (BitVec 8))) := loopO (fun s => butteryref01_Text_b0 x0 s.1 s.2) s
noncomputable def butteryref01_Text (x0 : List api_Step) : Option ((List (BitVec 8))) :=
  (butteryref01_Text_l0 x0 (([] : List (BitVec 8)), (0 : Int))).bind fun s10 =>
    some s10
end Go.Proofs.YtekldjimdmkgaaaDoor
namespace Go.Proofs.YtekldjimdmkgaaaDoor
open Go Go.Va
set_option linter.unusedVariables false
/-- Whether a fault, or any under it, is of a code. -/
def hasE : Err → Int → Bool
  | .nil, _ => false
  | .fault o a c u, k => (c == k && c != 0) || hasE u k
def trouble_Has (x : Err) (k : Int) : Option Bool := some (hasE x k)
end Go.Proofs.YtekldjimdmkgaaaDoor
namespace Go.Proofs.YtekldjimdmkgaaaDoor
open Go Go.Va
set_option linter.unusedVariables false
set_option linter.unusedSimpArgs false
set_option maxRecDepth 20000
noncomputable def trouble_New (x0 : List (BitVec 8)) (x1 : Int) (x2 : Int) : Option (Err) :=
  lt (x2 == (0 : Int)) fun v2 =>
  if v2 = true then
    some Err.nil
  else
    lt ((⟨x0, x1, x2, Err.nil⟩ : trouble_fault)) fun v5 =>
    some (Err.fault v5.op v5.at_ v5.code v5.under)
end Go.Proofs.YtekldjimdmkgaaaDoor
namespace Go.Proofs.YtekldjimdmkgaaaDoor
open Go Go.Va
set_option linter.unusedVariables false
set_option linter.unusedSimpArgs false
set_option maxRecDepth 20000
noncomputable def butterylaw01_works : Option (Bool) :=
  (trouble_New ([112#8, 97#8, 103#8, 101#8] : List (BitVec 8)) (7 : Int) (8 : Int)).bind fun v2 =>
  (trouble_Wrap ([114#8, 101#8, 97#8, 100#8] : List (BitVec 8)) (3 : Int) v2).bind fun v4 =>
  (trouble_Where v4).bind fun v6 =>
  (trouble_Of v4).bind fun v8 =>
  lt (v8 == (8 : Int)) fun v10 =>
  if v10 = true then
    (trouble_Has v4 (8 : Int)).bind fun v13 =>
    if v13 = true then
      (trouble_Has v4 (7 : Int)).bind fun v16 =>
      lt (!v16) fun v18 =>
      if v18 = true then
        lt (v6.1 == (7 : Int)) fun v21 =>
        if v21 = true then
          if v6.2 = true then
            (trouble_Text v4).bind fun v25 =>
            lt (v25 == ([114#8, 101#8, 97#8, 100#8, 32#8, 51#8, 58#8, 32#8, 112#8, 97#8, 103#8, 101#8, 32#8, 55#8, 32#8, 99#8, 111#8, 100#8, 101#8, 32#8, 56#8] : List (BitVec 8))) fun v27 =>
            if v27 = true then
              (trouble_New ([120#8] : List (BitVec 8)) (1 : Int) (0 : Int)).bind fun v30 =>
              lt (Err.isNil v30) fun v32 =>
              if v32 = true then
                (trouble_Chain v4).bind fun v35 =>
                lt (((v35).length : Int)) fun v37 =>
                lt (v37 == (2 : Int)) fun v39 =>
                some v39
              else
                some false
            else
              some false
          else
            some false
        else
          some false
      else
        some false
    else
      some false
  else
    some false
end Go.Proofs.YtekldjimdmkgaaaDoor
namespace Go.Proofs.YtekldjimdmkgaaaDoor
open Go Go.Va
set_option linter.unusedVariables false
set_option linter.unusedSimpArgs false
set_option maxRecDepth 20000
noncomputable def butteryref01_Fault (x0 : List (BitVec 8)) (x1 : Int) (x2 : Int) : Option ((List api_Step)) :=
  lt (x2 == (0 : Int)) fun v2 =>
  if v2 = true then
    some []
  else
    lt ((⟨x0, x1, x2⟩ : api_Step)) fun v5 =>
    lt (([v5] : List api_Step)) fun v7 =>
    some v7
end Go.Proofs.YtekldjimdmkgaaaDoor
namespace Go.Proofs.YtekldjimdmkgaaaDoor
open Go Go.Va
set_option linter.unusedVariables false
set_option linter.unusedSimpArgs false
set_option maxRecDepth 20000
noncomputable def butteryref01_Same_b0 (x0 : List api_Step) (x1 : List api_Step) (c8 : Int) : Option ((Int) ⊕ (Unit ⊕ (Bool))) :=
  lt (((x0).length : Int)) fun v19 =>
  lt (decide (c8 < v19)) fun v21 =>
  if v21 = true then
    (ix x0 c8).bind fun v24 =>
    (ix x1 c8).bind fun v26 =>
    lt (!(v24 == v26)) fun v28 =>
    if v28 = true then
      some (.inr (.inr false))
    else
      lt (w64 (c8 + (1 : Int))) fun v32 =>
      some (.inl v32)
  else
    some (.inr (.inl ()))
noncomputable def butteryref01_Same_l0 (x0 : List api_Step) (x1 : List api_Step) (s : Int) : Option (Unit ⊕ (Bool)) := loopO (fun s => butteryref01_Same_b0 x0 x1 s) s
noncomputable def butteryref01_Same (x0 : List api_Step) (x1 : List api_Step) : Option (Bool) :=
  lt (((x0).length : Int)) fun v2 =>
  lt (((x1).length : Int)) fun v4 =>
  lt (v2 != v4) fun v6 =>
  if v6 = true then
    some false
  else
    (butteryref01_Same_l0 x0 x1 (0 : Int)).bind fun o9 =>
      Sum.elim (fun s16 : Unit =>
        some true
        ) (fun y => some y) o9
end Go.Proofs.YtekldjimdmkgaaaDoor
namespace Go.Proofs.YtekldjimdmkgaaaDoor
open Go Go.Va
set_option linter.unusedVariables false
set_option linter.unusedSimpArgs false
set_option maxRecDepth 20000
noncomputable def butterylaw01_TroubleTells_b0 (x3 : List api_Step) (c26 : Err) (c27 : List api_Step) (c28 : Int) : Option ((Err × (List api_Step) × Int) ⊕ ((Err × (List api_Step)) ⊕ (Bool))) :=
  (
    lt (((x3).length : Int)) fun v43 =>
    lt (decide (c28 < v43)) fun v45 =>
    if v45 = true then
      lt (decide (c28 < (30 : Int))) fun v48 =>
      some v48
    else
      some false
   : Option (Bool)).bind fun s38 =>
    if s38 = true then
      (ix x3 c28).bind fun v52 =>
      (ix x3 c28).bind fun v54 =>
      (trouble_Wrap v52.Op v54.At c26).bind fun v56 =>
      (ix x3 c28).bind fun v58 =>
      (ix x3 c28).bind fun v60 =>
      (butteryref01_Wrap c27 v58.Op v60.At).bind fun v62 =>
      (trouble_Where v56).bind fun v64 =>
      (
        lt (((v62).length : Int)) fun v70 =>
        lt (decide (v70 > (0 : Int))) fun v72 =>
        lt (v64.2 != v72) fun v74 =>
        if v74 = true then
          some true
        else
          if v64.2 = true then
            lt (((v62).length : Int)) fun v78 =>
            lt (w64 (v78 - (1 : Int))) fun v80 =>
            (ix v62 v80).bind fun v82 =>
            lt (v64.1 != v82.At) fun v84 =>
            some v84
          else
            some false
       : Option (Bool)).bind fun s65 =>
        if s65 = true then
          some (.inr (.inr false))
        else
          lt (w64 (c28 + (1 : Int))) fun v89 =>
          some (.inl (v56, v62, v89))
    else
      some (.inr (.inl (c26, c27)))
noncomputable def butterylaw01_TroubleTells_l0 (x3 : List api_Step) (s : Err × (List api_Step) × Int) : Option ((Err × (List api_Step)) ⊕ (Bool)) := loopO (fun s => butterylaw01_TroubleTells_b0 x3 s.1 s.2.1 s.2.2) s
noncomputable def butterylaw01_TroubleTells (x0 : List (BitVec 8)) (x1 : Int) (x2 : Int) (x3 : List api_Step) : Option (Bool) :=
  (trouble_New x0 x1 x2).bind fun v2 =>
  (butteryref01_Fault x0 x1 x2).bind fun v4 =>
  (
    lt (Err.isNil v2) fun v10 =>
    lt (((v4).length : Int)) fun v12 =>
    lt (v12 == (0 : Int)) fun v14 =>
    lt (v10 != v14) fun v16 =>
    if v16 = true then
      some true
    else
      (trouble_Chain v2).bind fun v19 =>
      (butteryref01_Same v19 v4).bind fun v21 =>
      lt (!v21) fun v23 =>
      some v23
   : Option (Bool)).bind fun s5 =>
    if s5 = true then
      some false
    else
      (butterylaw01_TroubleTells_l0 x3 (v2, v4, (0 : Int))).bind fun o29 =>
        Sum.elim (fun s36 : Err × (List api_Step) =>
          lt (Err.isNil s36.1) fun v92 =>
          lt (((s36.2).length : Int)) fun v94 =>
          lt (v94 == (0 : Int)) fun v96 =>
          lt (v92 == v96) fun v98 =>
          if v98 = true then
            (trouble_Chain s36.1).bind fun v101 =>
            (butteryref01_Same v101 s36.2).bind fun v103 =>
            if v103 = true then
              (trouble_Of s36.1).bind fun v106 =>
              (butteryref01_Of s36.2).bind fun v108 =>
              lt (v106 == v108) fun v110 =>
              if v110 = true then
                (trouble_Text s36.1).bind fun v113 =>
                (butteryref01_Text s36.2).bind fun v115 =>
                lt (v113 == v115) fun v117 =>
                if v117 = true then
                  (butterylaw01_works).bind fun v120 =>
                  some v120
                else
                  some false
              else
                some false
            else
              some false
          else
            some false
          ) (fun y => some y) o29
end Go.Proofs.YtekldjimdmkgaaaDoor
namespace Go.Proofs.YtekldjimdmkgaaaDoor
open Go.RowKit Go.Extern.Stop Go.Stop Go.Extern
/-- errors.As(nil, target). -/
theorem as_nil (t : Value) (w : World) :
    Calls Tryd.prog 23 #[.nilIface, t] w fun e w' => e = .returned (.bool false) ∧ w' = w := by
  go_enter Tryd.func23, Tryd.ntmps23
  go_wp2
  go_ret
  exact ⟨rfl, rfl⟩

theorem Tryd.valueOf27 (t : Addr) (w : World) : (ReflectliteValue.unpack (.iface 54 (.pointer (some t)))).run Tryd.prog w
    = .ok (.agg #[.pointer (some ⟨1, 54, none⟩), .pointer (some ⟨w.heap.size, 0, none⟩), .int .u64 150]) (w.alloc (.cells #[.pointer (some t)] 54)) := by kernel_rfl
theorem Tryd.type27 (a : Addr) (w : World) : (ReflectliteValue.methodAny (ReflectliteValue.valueError "reflectlite.Value.Type" 0) (fun t _ _ _ => ReflectliteType.toType t) #[.agg #[.pointer (some ⟨1, 54, none⟩), .pointer (some a), .int .u64 150]]).run Tryd.prog w
    = .ok (.iface 79 (.agg #[.pointer (some ⟨1, 54, none⟩)])) w := by kernel_rfl
theorem Tryd.methodKind (h : Value) (w : World) : (Go.method 224 79 (.agg #[h]) "Kind").run Tryd.prog w = .ok (50, h) w := by kernel_rfl
theorem Tryd.kind27 (w : World) : ((ReflectliteType.abiMethod fun t => (fun a : Nat => Value.int IntKind.u8 (a : Int)) <$> Rtype.kind t) #[.pointer (some ⟨1, 54, none⟩)]).run Tryd.prog w = .ok (.int .u8 22) w := by kernel_rfl
theorem Tryd.kind25 (w : World) : ((ReflectliteType.abiMethod fun t => (fun a : Nat => Value.int IntKind.u8 (a : Int)) <$> Rtype.kind t) #[.pointer (some ⟨1, 50, none⟩)]).run Tryd.prog w = .ok (.int .u8 22) w := by kernel_rfl

theorem rlm (z : Sem Value) (f : TypeId → Addr → Nat → Nat → Sem Value) (v : Value) :
    ReflectliteValue.method z f #[v] = (do match ← ReflectliteValue.parts v with | none => z | some (t, a, fl) => f t a fl (fl % 32)) := rfl
theorem Tryd.parts27 (a : Addr) (w : World) : (ReflectliteValue.parts (.agg #[.pointer (some ⟨1, 54, none⟩), .pointer (some a), .int .u64 150])).run Tryd.prog w = .ok (some (54, a, 150)) w := by kernel_rfl
/-- (Value).IsNil at the Value of a **p.E that is not nil. -/
theorem Tryd.isNil27 (a p : Addr) (W : World) (ha : W.cell? a = some (.pointer (some p))) :
    (ReflectliteValue.method (ReflectliteValue.valueError "reflectlite.Value.IsNil" 0) ReflectliteValue.isNil #[.agg #[.pointer (some ⟨1, 54, none⟩), .pointer (some a), .int .u64 150]]).run Tryd.prog W = .ok (.bool false) W := by
  rw [rlm]
  simp only [Sem.run_bind, Tryd.parts27, Result.andThen]
  simp [ReflectliteValue.isNil, loadVar, isAgg, underlying, Tryd.underlying54, ha, Result.andThen]

theorem Tryd.methodElem (h : Value) (w : World) : (Go.method 224 79 (.agg #[h]) "Elem").run Tryd.prog w = .ok (65, .agg #[h]) w := by kernel_rfl
theorem Tryd.methodImplements (h : Value) (w : World) : (Go.method 224 79 (.agg #[h]) "Implements").run Tryd.prog w = .ok (66, .agg #[h]) w := by kernel_rfl
theorem Tryd.methodAssignableTo (h : Value) (w : World) : (Go.method 224 79 (.agg #[h]) "AssignableTo").run Tryd.prog w = .ok (63, .agg #[h]) w := by kernel_rfl
theorem Tryd.elem27 (w : World) : (ReflectliteType.method ReflectliteType.elem #[.agg #[.pointer (some ⟨1, 54, none⟩)]]).run Tryd.prog w = .ok (.iface 79 (.agg #[.pointer (some ⟨1, 50, none⟩)])) w := by kernel_rfl
theorem Tryd.implements25 (w : World) : (ReflectliteType.relation "Implements" ReflectliteType.implements_ #[.agg #[.pointer (some ⟨1, 50, none⟩)], .iface 79 (.agg #[.pointer (some ⟨1, 25, none⟩)])]).run Tryd.prog w = .ok (.bool true) w := by kernel_rfl
theorem Tryd.typeOf25 (v : Value) (w : World) : (ReflectliteType.typeOf #[.iface 50 v]).run Tryd.prog w = .ok (.iface 79 (.agg #[.pointer (some ⟨1, 50, none⟩)])) w := by kernel_rfl
theorem Tryd.assignable25 (w : World) : (ReflectliteType.relation "AssignableTo" ReflectliteType.assignableTo #[.agg #[.pointer (some ⟨1, 50, none⟩)], .iface 79 (.agg #[.pointer (some ⟨1, 50, none⟩)])]).run Tryd.prog w = .ok (.bool true) w := by kernel_rfl
theorem Tryd.valueOf25 (e : Addr) (w : World) : (ReflectliteValue.unpack (.iface 50 (.pointer (some e)))).run Tryd.prog w
    = .ok (.agg #[.pointer (some ⟨1, 50, none⟩), .pointer (some ⟨w.heap.size, 0, none⟩), .int .u64 150]) (w.alloc (.cells #[.pointer (some e)] 50)) := by kernel_rfl

theorem Tryd.elemOf27 (w : World) : (Rtype.elem? 54).run Tryd.prog w = .ok (some 50) w := by kernel_rfl
theorem Tryd.mk25 (p : Addr) (w : World) : (ReflectliteValue.mk 50 p ReflectliteValue.flagAddr).run Tryd.prog w = .ok (.agg #[.pointer (some ⟨1, 50, none⟩), .pointer (some p), .int .u64 406]) w := by kernel_rfl
/-- (Value).Elem at the Value of a **p.E that is not nil: the Value of the *p.E variable that it points to, addressable. -/
theorem Tryd.elemV27 (a p : Addr) (W : World) (ha : W.cell? a = some (.pointer (some p))) :
    (ReflectliteValue.method (ReflectliteValue.valueError "reflectlite.Value.Elem" 0) ReflectliteValue.elem #[.agg #[.pointer (some ⟨1, 54, none⟩), .pointer (some a), .int .u64 150]]).run Tryd.prog W
      = .ok (.agg #[.pointer (some ⟨1, 50, none⟩), .pointer (some p), .int .u64 406]) W := by
  rw [rlm]
  simp only [Sem.run_bind, Tryd.parts27, Result.andThen]
  simp [ReflectliteValue.elem, loadVar, isAgg, underlying, Tryd.underlying54, ha, Result.andThen, Tryd.elemOf27, Tryd.mk25]
theorem rls (v x : Value) : ReflectliteValue.set #[v, x] = (do
    let (some (dst, a, fl), some (src, b, _)) := (← ReflectliteValue.parts v, ← ReflectliteValue.parts x)
      | unsupported (.noEntry "extern/(internal/reflectlite.Value).Set.zeroValue")
    if fl / ReflectliteValue.flagAddr % 2 == 0 then unsupported (.noEntry "extern/(internal/reflectlite.Value).Set.unaddressable")
    let val ← loadVar src b
    if ← Rtype.directlyAssignable dst src then storeVar dst a val
    else if ← Rtype.implements dst src then
      if (← Rtype.kind src) == 20 then
        match val with
        | .nilIface => unsupported (.noEntry "extern/reflectlite: a nil value of one interface type handed on as a value of another")
        | _ => storeVar dst a val
      else storeVar dst a (.iface src val)
    else panicString ("reflectlite.Set: value of type " ++ (← Rtype.spelt src) ++ " is not assignable to type " ++ (← Rtype.spelt dst))
    pure (.tuple #[])) := rfl
theorem Tryd.parts25a (a : Addr) (w : World) : (ReflectliteValue.parts (.agg #[.pointer (some ⟨1, 50, none⟩), .pointer (some a), .int .u64 406])).run Tryd.prog w = .ok (some (50, a, 406)) w := by kernel_rfl
theorem Tryd.parts25 (a : Addr) (w : World) : (ReflectliteValue.parts (.agg #[.pointer (some ⟨1, 50, none⟩), .pointer (some a), .int .u64 150])).run Tryd.prog w = .ok (some (50, a, 150)) w := by kernel_rfl
theorem Tryd.direct25 (w : World) : (Rtype.directlyAssignable 50 50).run Tryd.prog w = .ok true w := by kernel_rfl
theorem Tryd.size25 (w : World) : (sizeOf 50).run Tryd.prog w = .ok 1 w := by kernel_rfl
/-- (Value).Set: the *p.E variable at 'ta' gets what the Value's own variable 'b' holds. -/
theorem Tryd.set25 (ta b e : Addr) (old : Value) (W : World) (hb : W.cell? b = some (.pointer (some e))) (ht : W.cell? ta = some old) (hf : W.frozen? ta = false) :
    (ReflectliteValue.set #[.agg #[.pointer (some ⟨1, 50, none⟩), .pointer (some ta), .int .u64 406], .agg #[.pointer (some ⟨1, 50, none⟩), .pointer (some b), .int .u64 150]]).run Tryd.prog W
      = .ok (.tuple #[]) (W.setCell ta (.pointer (some e))) := by
  rw [rls]
  simp only [Sem.run_bind, Tryd.parts25a, Tryd.parts25, Result.andThen]
  simp [ReflectliteValue.flagAddr, loadVar, isAgg, underlying, Tryd.underlying50, hb, Result.andThen, Tryd.direct25, storeVar, Value.cells, storeCells, Addr.add]
  rw [run_store Tryd.prog W ta _ _ (by rfl)]
  simp [ht, hf]

set_option maxHeartbeats 8000000 in
set_option maxRecDepth 100000 in
theorem as_hit (e t : Addr) (old : Value) (w : World) (hg : w.cell? ⟨0, 0, none⟩ = some (.iface 79 (.agg #[.pointer (some ⟨1, 25, none⟩)]))) (ht0 : w.cell? t = some old) (hf0 : w.frozen? t = false) :
    Calls Tryd.prog 23 #[.iface 50 (.pointer (some e)), .iface 54 (.pointer (some t))] w fun ev w' => ev = .returned (.bool true) ∧ w' = ((((w.alloc (.cells #[.pointer (some t)] 54)).alloc (.cells #[.pointer (some ⟨1, 54, none⟩), .pointer (some ⟨w.heap.size, 0, none⟩), .int .u64 150] 63)).alloc (.cells #[.pointer (some ⟨1, 54, none⟩), .pointer (some ⟨w.heap.size, 0, none⟩), .int .u64 150] 63)).alloc (.cells #[.pointer (some e)] 50)).setCell t (.pointer (some e)) := by
  have h6 := @run_callFunc_extern Tryd.prog 28 _ (fun args => ReflectliteValue.unpack (args.getD 0 (.tuple #[]))) Tryd.func28 (by kernel_rfl) (by kernel_rfl) (by kernel_rfl) (by kernel_rfl)
  have h7 := @run_callFunc_extern Tryd.prog 29 _ (ReflectliteValue.methodAny (ReflectliteValue.valueError "reflectlite.Value.Type" 0) (fun t _ _ _ => ReflectliteType.toType t)) Tryd.func29 (by kernel_rfl) (by kernel_rfl) (by kernel_rfl) (by kernel_rfl)
  have h8 := @run_callFunc_extern Tryd.prog 30 _ (ReflectliteValue.method (ReflectliteValue.valueError "reflectlite.Value.IsNil" 0) ReflectliteValue.isNil) Tryd.func30 (by kernel_rfl) (by kernel_rfl) (by kernel_rfl) (by kernel_rfl)
  have h27 := @run_callFunc_extern Tryd.prog 50 _ (ReflectliteType.abiMethod fun t => do pure (.int .u8 (← Rtype.kind t))) Tryd.func50 (by kernel_rfl) (by kernel_rfl) (by kernel_rfl) (by kernel_rfl)
  have h37 := @run_callFunc_extern Tryd.prog 65 _ (ReflectliteType.method ReflectliteType.elem) Tryd.func65 (by kernel_rfl) (by kernel_rfl) (by kernel_rfl) (by kernel_rfl)
  have h38 := @run_callFunc_extern Tryd.prog 66 _ (ReflectliteType.relation "Implements" ReflectliteType.implements_) Tryd.func66 (by kernel_rfl) (by kernel_rfl) (by kernel_rfl) (by kernel_rfl)
  have h10 := @run_callFunc_extern Tryd.prog 32 _ ReflectliteType.typeOf Tryd.func32 (by kernel_rfl) (by kernel_rfl) (by kernel_rfl) (by kernel_rfl)
  have h35 := @run_callFunc_extern Tryd.prog 63 _ (ReflectliteType.relation "AssignableTo" ReflectliteType.assignableTo) Tryd.func63 (by kernel_rfl) (by kernel_rfl) (by kernel_rfl) (by kernel_rfl)
  have h11 := @run_callFunc_extern Tryd.prog 34 _ (ReflectliteValue.method (ReflectliteValue.valueError "reflectlite.Value.Elem" 0) ReflectliteValue.elem) Tryd.func34 (by kernel_rfl) (by kernel_rfl) (by kernel_rfl) (by kernel_rfl)
  have h12 := @run_callFunc_extern Tryd.prog 35 _ ReflectliteValue.set Tryd.func35 (by kernel_rfl) (by kernel_rfl) (by kernel_rfl) (by kernel_rfl)
  have tO := Tryd.typeOf25
  have mA := Tryd.methodAssignableTo
  have a25 := Tryd.assignable25
  have v25 := Tryd.valueOf25
  have f6 := Tryd.valueOf27
  have f7 := Tryd.type27
  have mK := Tryd.methodKind
  have mE := Tryd.methodElem
  have mI := Tryd.methodImplements
  have k27 := Tryd.kind27
  have k25 := Tryd.kind25
  have e27 := Tryd.elem27
  have i25 := Tryd.implements25
  have n8 := Tryd.isNil27 ⟨w.heap.size, 0, none⟩ t ((w.alloc (.cells #[.pointer (some t)] 54)).alloc (.cells #[.pointer (some ⟨1, 54, none⟩), .pointer (some ⟨w.heap.size, 0, none⟩), .int .u64 150] 63)) (by simp)
  have hlt : 0 < w.heap.size := by
    rcases Nat.eq_zero_or_pos w.heap.size with h0 | h
    · simp [World.cell?, h0] at hg
    · exact h
  have hg2 : ((w.alloc (.cells #[.pointer (some t)] 54)).alloc (.cells #[.pointer (some ⟨1, 54, none⟩), .pointer (some ⟨w.heap.size, 0, none⟩), .int .u64 150] 63)).cell? ⟨0, 0, none⟩ = some (.iface 79 (.agg #[.pointer (some ⟨1, 25, none⟩)])) := by
    rw [World.cell?_alloc_lt _ _ ⟨0, 0, none⟩ (by simp), World.cell?_alloc_lt _ _ ⟨0, 0, none⟩ hlt]; exact hg
  have htl : t.block < w.heap.size := by
    rcases Nat.lt_or_ge t.block w.heap.size with h | h
    · exact h
    · simp [World.cell?, Array.getElem?_eq_none h] at ht0
  have el := Tryd.elemV27 ⟨w.heap.size, 0, none⟩ t (((w.alloc (.cells #[.pointer (some t)] 54)).alloc (.cells #[.pointer (some ⟨1, 54, none⟩), .pointer (some ⟨w.heap.size, 0, none⟩), .int .u64 150] 63)).alloc (.cells #[.pointer (some ⟨1, 54, none⟩), .pointer (some ⟨w.heap.size, 0, none⟩), .int .u64 150] 63)) (by rw [World.cell?_alloc_lt _ _ ⟨w.heap.size, 0, none⟩ (by simp; omega)]; simp)
  have st := Tryd.set25 t ⟨w.heap.size + 1 + 1 + 1, 0, none⟩ e old ((((w.alloc (.cells #[.pointer (some t)] 54)).alloc (.cells #[.pointer (some ⟨1, 54, none⟩), .pointer (some ⟨w.heap.size, 0, none⟩), .int .u64 150] 63)).alloc (.cells #[.pointer (some ⟨1, 54, none⟩), .pointer (some ⟨w.heap.size, 0, none⟩), .int .u64 150] 63)).alloc (.cells #[.pointer (some e)] 50))
    (by rw [World.cell?_alloc_at _ _ _ _ (by simp)]; rfl)
    (by rw [World.cell?_alloc_lt _ _ t (by simp; omega), World.cell?_alloc_lt _ _ t (by simp; omega), World.cell?_alloc_lt _ _ t (by simp; omega), World.cell?_alloc_lt _ _ t htl]; exact ht0)
    (by rw [World.frozen?_alloc_old _ _ t (by simp; omega), World.frozen?_alloc_old _ _ t (by simp; omega), World.frozen?_alloc_old _ _ t (by simp; omega), World.frozen?_alloc_old _ _ t (Nat.ne_of_lt htl)]; exact hf0)
  go_enter Tryd.func23, Tryd.ntmps23
  go_wp2
  refine wp_loop_rounds 1 ?_
  rw [rounds_succ]
  go_wp2
  go_ret
  exact ⟨rfl, rfl⟩
end Go.Proofs.YtekldjimdmkgaaaDoor
namespace Go.Proofs.YtekldjimdmkgaaaDoor
open Go Go.Va
set_option linter.unusedVariables false
set_option linter.unusedSimpArgs false
def gls : List (Addr × Value) := [(⟨0, 0, none⟩, .iface 79 (.agg #[.pointer (some ⟨1, 25, none⟩)]))]
section
variable {P : Program} {Ty : TypeId → Option TI} {fr : Nat → AV} {d : Option Tmp} {t : TypeId} {pos : String} {af : Array Edge} {g : Option (Nat × Bool)} {ox oy : Operand} {T T' : TypeId}
theorem o_err_eql (hT : TyOk P Ty) {x : Err} (ht : tdOf Ty T = .iface) (hx : aeval fr ox = eErr x) (hy : oy = .const .nilIface) : OpP P ⟨d, .binOp .eql T ox oy T', t, pos, af, g⟩ fr (eB x.isNil) := by
  subst hy
  refine OpP.of_aop' hT (mu := false) rfl (fun τ => ?_)
  have h2 : aeval fr (.const .nilIface) = .nili := rfl
  simp only [aop, hx, h2]
  cases x with
  | nil => simp [eErr, abin', abin, ht, isC, aeq, pairO, Err.isNil, eB]
  | fault o a c u => simp [eErr, abin', abin, ht, isC, aeq, pairO, Err.isNil, eB]
theorem o_err_neq (hT : TyOk P Ty) {x : Err} (ht : tdOf Ty T = .iface) (hx : aeval fr ox = eErr x) (hy : oy = .const .nilIface) : OpP P ⟨d, .binOp .neq T ox oy T', t, pos, af, g⟩ fr (eB (!x.isNil)) := by
  subst hy
  refine OpP.of_aop' hT (mu := false) rfl (fun τ => ?_)
  have h2 : aeval fr (.const .nilIface) = .nili := rfl
  simp only [aop, hx, h2]
  cases x with
  | nil => simp [eErr, abin', abin, ht, isC, aeq, pairO, Err.isNil, eB]
  | fault o a c u => simp [eErr, abin', abin, ht, isC, aeq, pairO, Err.isNil, eB]
end
/-- The pointer that an error holds. -/
def Err.ptr : Err → AV
  | .nil => .nilp
  | .fault o a c u => .fptr [eS o, eI a, eI c, eErr u] 0
theorem as_ok {x : Err} (hx : x.isNil = false) {σ : St} {id : Nat} (ho : σ.objs[id]? = some [.nilp]) (hg : σ.gl = gls) : ACall Tryd.prog 23 [eErr x, .iface 54 (.ref id 0)] σ (fun a τ => a = eB true ∧ τ = σ.puts [(id, [x.ptr])]) := by
  cases x with
  | nil => cases hx
  | fault o a c u =>
    refine ⟨⟨_, Tryd.func23, by decide, rfl⟩, fun w0 G w vs hI hr => ?_⟩
    obtain ⟨v0, h0, r0⟩ := hr.get (i := 0) rfl
    obtain ⟨v1, h1, r1⟩ := hr.get (i := 1) rfl
    have hvs : vs = #[v0, v1] := by
      obtain ⟨l⟩ := vs
      have hl := hr.len
      simp only [List.length_cons, List.length_nil] at hl h0 h1
      match l, hl, h0, h1 with
      | [x, y], _, h0, h1 => simp at h0 h1; subst h0; subst h1; rfl
    subst hvs
    simp only [eErr] at r0
    cases r0 with | iface _ v0 _ r0 =>
    cases r1 with | iface _ v1 _ r1 =>
    cases r0 with | fptr b o' off _ val hf hv =>
    cases r1 with | ref _ _ b1 hl =>
    obtain ⟨b2, T, cs, e1, e2, e3, e4, e5, e6⟩ := hI.loc id _ ho (by simp) rfl
    rw [hl] at e1
    cases e1
    obtain ⟨u1, hu1, ru1⟩ := e4.rel.get (i := 0) rfl
    have hcs : cs[0]? = some (.pointer none) := by
      cases ru1
      rw [List.getElem?_take] at hu1
      simpa using hu1
    have hsz : 1 ≤ cs.size := e4.le
    have hglob := hI.below
    have hg0 : w0.cell? ⟨0, 0, none⟩ = some (.iface 79 (.agg #[.pointer (some ⟨1, 25, none⟩)])) := hI.gl _ (by rw [hg]; exact List.mem_singleton.2 rfl)
    have hg1 : w.cell? ⟨0, 0, none⟩ = some (.iface 79 (.agg #[.pointer (some ⟨1, 25, none⟩)])) := by
      have hb := World.block_lt_of_cell? w0 _ hg0
      simp only [World.cell?] at hg0 ⊢
      rw [hI.below.block _ hb]; exact hg0
    have hc : w.cell? ⟨b1, 0, none⟩ = some (.pointer none) := by simp [World.cell?, e3, hcs]
    have hfz : w.frozen? ⟨b1, 0, none⟩ = false := by simp [World.frozen?, e3]
    refine (as_hit ⟨b, o' + 0, none⟩ ⟨b1, 0, none⟩ (.pointer none) w hg1 hc hfz).mono ?_
    rintro e w' ⟨rfl, rfl⟩
    have k1 := hI.alloc_fz #[.pointer (some ⟨b1, 0, none⟩)] 54 (by simp [Value.oneCell']) (0, 0)
    have k2 := k1.2.alloc_fz #[.pointer (some ⟨1, 54, none⟩), .pointer (some ⟨w.heap.size, 0, none⟩), .int .u64 150] 63 (by simp [Value.oneCell']) (0, 0)
    have k3 := k2.2.alloc_fz #[.pointer (some ⟨1, 54, none⟩), .pointer (some ⟨w.heap.size, 0, none⟩), .int .u64 150] 63 (by simp [Value.oneCell']) (0, 0)
    have k4 := k3.2.alloc_fz #[.pointer (some ⟨b, o' + 0, none⟩)] 50 (by simp [Value.oneCell']) (0, 0)
    have hle := k1.1.trans (k2.1.trans (k3.1.trans k4.1))
    have hb1 : b1 < w.heap.size := (Array.getElem?_eq_some_iff.1 e3).1
    have k5 := k4.2.write (id := id) (off := 0) (news := [.pointer (some ⟨b, o' + 0, none⟩)]) (nc := [.fptr [eS o, eI a, eI c, eErr u] 0]) ho (hle.loc _ _ hl) (by simp) rfl ((RelL.nil _).cons (.fptr b o' 0 _ val (fun j a h1 => hle.fz _ _ _ (hf j a h1)) (fun j a h1 => (hv j a h1).mono hle))) (by simp [Value.oneCell']) (by simp) (by rw [hle.bsz _ _ hl, ← e6]; simpa using hsz)
    refine ⟨.bool true, eB true, _, _, rfl, hle, ?_, .bool true, rfl, rfl⟩
    simp only [World.setCells, List.take_zero, List.nil_append, List.length_cons, List.length_nil, List.drop_succ_cons, List.drop_zero, List.drop_nil, List.append_nil] at k5
    exact k5
end Go.Proofs.YtekldjimdmkgaaaDoor
namespace Go.Proofs.YtekldjimdmkgaaaDoor
open Go Go.Va
set_option linter.unusedVariables false
set_option linter.unusedSimpArgs false
set_option maxRecDepth 20000
theorem trouble_Chain_app {x0 : Err} {r : List api_Step} (H : trouble_Chain x0 = some r) (σ : St) (hg : σ.gl = gls) : ACall Tryd.prog 10 [eErr x0] σ (fun a τ => a = .sl (.own σ.opn.length) 3 (r.map e_api_Step) ∧ τ = σ.more) := by
  unfold trouble_Chain at H
  refine ACall.app (fun ρ κ => cutL_enc enc32.cut ρ κ r) (acall_start tk Tryd.func10 (by decide) rfl (Nat.le_of_ble_eq_true rfl) ?_)
  have hH := Holds.init σ
  refine awp_seq ?_
  refine awp_region rfl ?_
  refine wpo_mv (a := AV.nils) rfl rfl rfl (o_as tk rfl (Wk.refl _)) ?_
  refine wpo_nil ?_
  refine awp_seq ?_
  refine awp_region rfl ?_
  refine wpo_mv (a := AV.nils) rfl rfl rfl (o_as tk rfl (Wk.refl _)) ?_
  refine wpo_nil ?_
  refine awp_seq ?_
  refine awp_block ?_
  refine AWP.tokN hH 3 3 rfl fun tk3 τ hH => ?_
  refine awp_cutx 0 (fun fr τ => ∃ tk_3, WkF fr (fm [(3, (eT tk_3 3 e_api_Step r))]) ∧ Holds σ [] [tk_3] τ) ?_ ?_
  · rintro fr τ ⟨tk_3, hfr, hH⟩
    refine AWP.fm [(3, (eT tk_3 3 e_api_Step r))] hfr ?_
    refine awp_seq ?_
    refine awp_region rfl ?_
    refine wpo_mv (a := (eT tk_3 3 e_api_Step r)) rfl rfl rfl (o_mv tk rfl (Wk.refl _)) ?_
    refine wpo_mv (a := (eT tk_3 3 e_api_Step r)) rfl rfl rfl (o_as tk rfl (Wk.refl _)) ?_
    refine wpo_nil ?_
    refine awp_ret ?_
    exact ⟨_, (eT tk_3 3 e_api_Step r), rfl, .of_eq rfl, tk_3, rfl, hH⟩
  · refine awp_loopO (body := trouble_Chain_b0) H (fun (s : Err × List api_Step) fr τ => ∃ tk_3, WkF fr (fm [(0, eErr s.1), (3, (eT tk_3 3 e_api_Step s.2))]) ∧ Holds σ [] [tk_3] τ) ⟨tk3, (wkf_cons (.of_eq rfl) (wkf_cons (.of_eq rfl) (wkf_nil _))), hH⟩ ?_
    rintro ⟨c1, c2⟩ fr τ y ⟨tk_3, hfr, hH⟩ hb hy
    refine AWP.fm [(0, eErr c1), (3, (eT tk_3 3 e_api_Step c2))] hfr ?_
    have hH : Holds σ [] [tk_3] τ := hH
    cases c1 with
    | nil =>
      refine awp_seq ?_
      refine awp_seq ?_
      refine awp_region rfl ?_
      refine wpo_mv (a := eErr .nil) rfl rfl rfl (o_mv tk rfl (Wk.refl _)) ?_
      refine wpo_mv (a := eB false) rfl rfl rfl (o_err_neq (x := .nil) tk rfl rfl rfl) ?_
      refine wpo_nil ?_
      refine awp_false rfl ?_
      refine awp_exit ?_
      have hb : some (Sum.inr c2) = some y := hb
      have hz := hy _ (Option.some.inj hb).symm
      subst hz
      exact ⟨⟨_, (Option.some.inj hb).symm⟩, tk_3, (wkf_cons (.of_eq rfl) (wkf_nil _)), hH⟩
    | fault o a c u =>
      have hb : ((app 32 c2 [(⟨o, a, c⟩ : api_Step)]).bind fun v => some (Sum.inl (u, v))) = some y := hb
      obtain ⟨v, hv, hb⟩ := Option.bind_eq_some_iff.1 hb
      refine awp_seq ?_
      refine awp_seq ?_
      refine awp_region rfl ?_
      refine wpo_mv (a := eErr (.fault o a c u)) rfl rfl rfl (o_mv tk rfl (Wk.refl _)) ?_
      refine wpo_mv (a := eB true) rfl rfl rfl (o_err_neq (x := .fault o a c u) tk rfl rfl rfl) ?_
      refine wpo_nil ?_
      refine awp_true rfl ?_
      refine awp_skip ?_
      refine awp_block ?_
      refine awp_seq ?_
      refine awp_region rfl ?_
      refine wpo_a (av := fun id => .ref id 0) rfl rfl rfl (h_alloc tk hH ty50 [.nilp] rfl) fun id τ ⟨hH, hn⟩ => ?_
      refine wpo_nil ?_
      refine awp_seq ?_
      refine awp_seq ?_
      refine awp_region rfl ?_
      refine wpo_mv (a := eErr (.fault o a c u)) rfl rfl rfl (o_mv tk rfl (Wk.refl _)) ?_
      refine wpo_mv (a := .iface 54 (.ref id 0)) rfl rfl rfl (o_c tk false rfl (fun _ => rfl)) ?_
      refine wpo_cb (α := Unit) (z := some ()) (k := fun _ => some ()) (r := ()) rfl (fun _ _ => eB true) rfl rfl rfl (fun v hv => h_call1 hH [(0, (id, [(Err.fault o a c u).ptr]))] ⟨⟨_, rfl⟩, trivial⟩ rfl rfl (.cons (.of_eq rfl) (.cons (.of_eq rfl) .nil)) (as_ok (x := .fault o a c u) rfl (hH.at_ 0 rfl) (hH.gl.trans hg))) fun _ _ τ _ _ hH => ?_
      refine wpo_mv (a := eB false) rfl rfl rfl (o_un tk rfl rfl) ?_
      refine wpo_nil ?_
      refine awp_false rfl ?_
      refine awp_skip ?_
      refine awp_seq ?_
      refine awp_drawS mixed [15] rfl (by decide +kernel) rfl rfl ?_
      refine wpdS_mv (a := (eT tk_3 3 e_api_Step c2)) rfl rfl rfl (o_mv tk rfl (Wk.refl _)) ?_
      refine wpdS_rd (a := (Err.fault o a c u).ptr) rfl (by decide +kernel) rfl rfl (h_ld tk hH 0 rfl rfl rfl) ?_
      refine wpdS_mv (a := (Err.fault o a c u).ptr) rfl rfl rfl (o_c tk false rfl (fun _ => rfl)) ?_
      refine wpdS_mv (a := .fptr [eS o, eI a, eI c, eErr u] 0) rfl rfl rfl (o_c tk false rfl (fun _ => rfl)) ?_
      refine wpdS_mv (a := eS o) rfl rfl rfl (o_ld tk rfl rfl) ?_
      refine wpdS_rd (a := (Err.fault o a c u).ptr) rfl (by decide +kernel) rfl rfl (h_ld tk hH 0 rfl rfl rfl) ?_
      refine wpdS_mv (a := (Err.fault o a c u).ptr) rfl rfl rfl (o_c tk false rfl (fun _ => rfl)) ?_
      refine wpdS_mv (a := .fptr [eS o, eI a, eI c, eErr u] 1) rfl rfl rfl (o_c tk false rfl (fun _ => rfl)) ?_
      refine wpdS_mv (a := eI a) rfl rfl rfl (o_ld tk rfl rfl) ?_
      refine wpdS_rd (a := (Err.fault o a c u).ptr) rfl (by decide +kernel) rfl rfl (h_ld tk hH 0 rfl rfl rfl) ?_
      refine wpdS_mv (a := (Err.fault o a c u).ptr) rfl rfl rfl (o_c tk false rfl (fun _ => rfl)) ?_
      refine wpdS_mv (a := .fptr [eS o, eI a, eI c, eErr u] 2) rfl rfl rfl (o_c tk false rfl (fun _ => rfl)) ?_
      refine wpdS_mv (a := eI c) rfl rfl rfl (o_ld tk rfl rfl) ?_
      refine wpdS_mv (a := e_api_Step ⟨o, a, c⟩) rfl rfl rfl (o_c tk false rfl (fun _ => rfl)) ?_
      refine wpdS_mv (a := eF 3 e_api_Step [(⟨o, a, c⟩ : api_Step)]) rfl rfl rfl (o_c tk false rfl (fun _ => rfl)) ?_
      refine wpdS_a (av := fun t => eT t 3 e_api_Step v) rfl rfl rfl (h_app tk hH 0 hv rfl td23 ty32 rfl (by decide) rfl (src_l td23 rfl)) fun tk30 τ hH => ?_
      refine wpdS_mv (a := (eT tk30 3 e_api_Step v)) rfl rfl rfl (o_as tk rfl (Wk.refl _)) ?_
      refine wpdS_nil ?_
      refine awp_region rfl ?_
      refine wpo_rd (a := (Err.fault o a c u).ptr) rfl rfl rfl (h_ld tk hH 0 rfl rfl rfl) ?_
      refine wpo_mv (a := (Err.fault o a c u).ptr) rfl rfl rfl (o_c tk false rfl (fun _ => rfl)) ?_
      refine wpo_mv (a := .fptr [eS o, eI a, eI c, eErr u] 3) rfl rfl rfl (o_c tk false rfl (fun _ => rfl)) ?_
      refine wpo_mv (a := eErr u) rfl rfl rfl (o_ld tk rfl (by cases u <;> rfl)) ?_
      refine wpo_mv (a := eErr u) rfl rfl rfl (o_as tk rfl (Wk.refl _)) ?_
      refine wpo_nil ?_
      exact ⟨(u, v), (Option.some.inj hb).symm, tk30, (wkf_cons (.of_eq rfl) (wkf_cons (.of_eq rfl) (wkf_nil _))), hH.drop hn⟩
theorem trouble_Chain_ok {x0 : Err} {r : List api_Step} (H : trouble_Chain x0 = some r) (σ : St) (hg : σ.gl = gls) : ACall Tryd.prog 10 [eErr x0] σ (fun a τ => a = (eL 3 e_api_Step) r ∧ τ = σ) := (trouble_Chain_app H σ hg).unapp (fun ρ κ => cutL_enc enc32.cut ρ κ r)
end Go.Proofs.YtekldjimdmkgaaaDoor
namespace Go.Proofs.YtekldjimdmkgaaaDoor
open Go Go.Va
set_option linter.unusedVariables false
set_option linter.unusedSimpArgs false
set_option maxRecDepth 20000
theorem trouble_Wrap_ok {x0 : List (BitVec 8)} {x1 : Int} {x2 : Err} {r : Err} (H : trouble_Wrap x0 x1 x2 = some r) (σ : St)  : ACall Tryd.prog 11 [(eS x0), (eI x1), (eErr x2)] σ (fun a τ => a = eErr r ∧ τ = σ) := by
  unfold trouble_Wrap at H
  refine ACall.pure (acall_start tk Tryd.func11 (by decide) rfl (Nat.le_of_ble_eq_true rfl) ?_)
  have hH := Holds.init σ
  refine awp_seq ?_
  refine awp_region rfl ?_
  refine wpo_mv (a := (eErr Err.nil)) rfl rfl rfl (o_as tk rfl (Wk.refl _)) ?_
  refine wpo_nil ?_
  refine awp_seq ?_
  refine awp_seq ?_
  refine awp_region rfl ?_
  refine wpo_mv (a := (eErr x2)) rfl rfl rfl (o_mv tk rfl (Wk.refl _)) ?_
  refine wpo_lt H eB rfl rfl rfl (o_err_eql tk rfl rfl rfl) fun v2 H1 => ?_
  refine wpo_nil ?_
  refine awp_if H1 rfl (fun H3 => ?_) (fun H3 => ?_)
  · refine awp_seq ?_
    refine awp_region rfl ?_
    refine wpo_mv (a := (eErr Err.nil)) rfl rfl rfl (o_as tk rfl (Wk.refl _)) ?_
    refine wpo_nil ?_
    refine awp_ret ?_
    obtain rfl := Option.some.inj H3
    exact ⟨_, (eErr Err.nil), rfl, (.of_eq rfl), .of_eq (encErr.cut _ _ _), hH.noT⟩
  · refine awp_skip ?_
    refine awp_seq ?_
    refine awp_region rfl ?_
    refine wpo_mv (a := (eS x0)) rfl rfl rfl (o_mv tk rfl (Wk.refl _)) ?_
    refine wpo_mv (a := (eI x1)) rfl rfl rfl (o_mv tk rfl (Wk.refl _)) ?_
    refine wpo_mv (a := (eErr x2)) rfl rfl rfl (o_mv tk rfl (Wk.refl _)) ?_
    refine wpo_lt H3 e_trouble_fault rfl rfl rfl (o_c tk false rfl (fun _ => by generalize x2 = z0; cases z0 <;> rfl)) fun v5 H4 => ?_
    refine wpo_mv (a := (.fptr (c_trouble_fault v5) 0)) rfl rfl rfl (o_boxf tk rfl (.of_eq rfl) (b := (e_trouble_fault v5)) (enc52.flat _)) ?_
    refine wpo_mv (a := (eErr (Err.fault v5.op v5.at_ v5.code v5.under))) rfl rfl rfl (o_c tk false rfl (fun _ => rfl)) ?_
    refine wpo_mv (a := (eErr (Err.fault v5.op v5.at_ v5.code v5.under))) rfl rfl rfl (o_as tk rfl (Wk.refl _)) ?_
    refine wpo_nil ?_
    refine awp_ret ?_
    obtain rfl := Option.some.inj H4
    exact ⟨_, (eErr (Err.fault v5.op v5.at_ v5.code v5.under)), rfl, (.of_eq rfl), .of_eq (encErr.cut _ _ _), hH.noT⟩
end Go.Proofs.YtekldjimdmkgaaaDoor
namespace Go.Proofs.YtekldjimdmkgaaaDoor
open Go Go.Va
set_option linter.unusedVariables false
set_option linter.unusedSimpArgs false
set_option maxRecDepth 20000
theorem butteryref01_Wrap_ok {x0 : List api_Step} {x1 : List (BitVec 8)} {x2 : Int} {r : (List api_Step)} (H : butteryref01_Wrap x0 x1 x2 = some r) (σ : St)  : ACall Tryd.prog 12 [((eL 3 e_api_Step) x0), (eS x1), (eI x2)] σ (fun a τ => a = (eL 3 e_api_Step) r ∧ τ = σ) := by
  unfold butteryref01_Wrap at H
  refine ACall.pure (acall_start tk Tryd.func12 (by decide) rfl (Nat.le_of_ble_eq_true rfl) ?_)
  have hH := Holds.init σ
  refine awp_seq ?_
  refine awp_region rfl ?_
  refine wpo_mv (a := AV.nils) rfl rfl rfl (o_as tk rfl (Wk.refl _)) ?_
  refine wpo_nil ?_
  refine awp_seq ?_
  refine awp_seq ?_
  refine awp_region rfl ?_
  refine wpo_mv (a := ((eL 3 e_api_Step) x0)) rfl rfl rfl (o_mv tk rfl (Wk.refl _)) ?_
  refine wpo_lt H eI rfl rfl rfl (o_len tk td23 rfl) fun v2 H1 => ?_
  refine wpo_lt H1 eB rfl rfl rfl (o_ar tk rfl rfl rfl) fun v4 H3 => ?_
  refine wpo_nil ?_
  refine awp_if H3 rfl (fun H5 => ?_) (fun H5 => ?_)
  · refine awp_seq ?_
    refine awp_region rfl ?_
    refine wpo_mv (a := AV.nils) rfl rfl rfl (o_as tk rfl (Wk.refl _)) ?_
    refine wpo_nil ?_
    refine awp_ret ?_
    obtain rfl := Option.some.inj H5
    exact ⟨_, ((eL 3 e_api_Step) []), rfl, (wk_nils _), .of_eq ((enc_l td23 sz23 enc32.cut).cut _ _ _), hH.noT⟩
  · refine awp_skip ?_
    refine awp_seq ?_
    refine awp_region rfl ?_
    refine wpo_mv (a := (eS x1)) rfl rfl rfl (o_mv tk rfl (Wk.refl _)) ?_
    refine wpo_mv (a := (eI x2)) rfl rfl rfl (o_mv tk rfl (Wk.refl _)) ?_
    refine wpo_lt H5 e_api_Step rfl rfl rfl (o_c tk false rfl (fun _ => rfl)) fun v7 H6 => ?_
    refine wpo_lt H6 (eF 3 e_api_Step) rfl rfl rfl (o_c tk false rfl (fun _ => rfl)) fun v9 H8 => ?_
    refine wpo_mv (a := (eF 3 e_api_Step v9)) rfl rfl rfl (o_as tk rfl (Wk.refl _)) ?_
    refine wpo_nil ?_
    refine awp_seq ?_
    refine awp_region rfl ?_
    refine wpo_mv (a := (eF 3 e_api_Step v9)) rfl rfl rfl (o_mv tk rfl (Wk.refl _)) ?_
    refine wpo_mv (a := ((eL 3 e_api_Step) x0)) rfl rfl rfl (o_mv tk rfl (Wk.refl _)) ?_
    obtain ⟨v11, hv12, H10⟩ := Option.bind_eq_some_iff.1 H8
    refine wpo_a (av := fun t => eT t 3 e_api_Step v11) rfl rfl rfl (h_app0 tk hH hv12 td23 ty32 rfl (by decide) (.inr rfl) (src_l td23 rfl)) fun tk13 τ hH => ?_
    refine wpo_mv (a := (eT tk13 3 e_api_Step v11)) rfl rfl rfl (o_as tk rfl (Wk.refl _)) ?_
    refine wpo_nil ?_
    refine awp_ret ?_
    obtain rfl := Option.some.inj H10
    exact ⟨_, ((eL 3 e_api_Step) v11), rfl, wk_no, .of_eq ((enc_l td23 sz23 enc32.cut).cut _ _ _), hH.noT⟩
end Go.Proofs.YtekldjimdmkgaaaDoor
namespace Go.Proofs.YtekldjimdmkgaaaDoor
open Go Go.Va
set_option linter.unusedVariables false
set_option linter.unusedSimpArgs false
set_option maxRecDepth 20000
theorem trouble_Where_ok {x0 : Err} {r : Int × Bool} (H : trouble_Where x0 = some r) (σ : St)  (hg : σ.gl = gls) : ACall Tryd.prog 13 [(eErr x0)] σ (fun a τ => a = .tup [eI r.1, eB r.2] ∧ τ = σ) := by
  unfold trouble_Where at H
  refine ACall.pure (acall_start tk Tryd.func13 (by decide) rfl (Nat.le_of_ble_eq_true rfl) ?_)
  have hH := Holds.init σ
  refine awp_seq ?_
  refine awp_region rfl ?_
  refine wpo_mv (a := (eI (0 : Int))) rfl rfl rfl (o_as tk rfl (Wk.refl _)) ?_
  refine wpo_mv (a := (eB false)) rfl rfl rfl (o_as tk rfl (Wk.refl _)) ?_
  refine wpo_nil ?_
  refine awp_seq ?_
  refine awp_region rfl ?_
  refine wpo_mv (a := (eErr x0)) rfl rfl rfl (o_mv tk rfl (Wk.refl _)) ?_
  refine wpo_bdr H (eL 3 e_api_Step) rfl rfl rfl (fun v2 hv => h_callr rfl rfl (.cons (.of_eq rfl) .nil) (trouble_Chain_ok hv _ (hH.gl.trans hg))) fun v2 hv2 H1 => ?_
  refine wpo_mv (a := ((eL 3 e_api_Step) v2)) rfl rfl rfl (o_as tk rfl (Wk.refl _)) ?_
  refine wpo_nil ?_
  refine awp_seq ?_
  refine awp_seq ?_
  refine awp_region rfl ?_
  refine wpo_mv (a := ((eL 3 e_api_Step) v2)) rfl rfl rfl (o_mv tk rfl (Wk.refl _)) ?_
  refine wpo_lt H1 eI rfl rfl rfl (o_len tk td23 rfl) fun v4 H3 => ?_
  refine wpo_lt H3 eB rfl rfl rfl (o_ar tk rfl rfl rfl) fun v6 H5 => ?_
  refine wpo_nil ?_
  refine awp_if H5 rfl (fun H7 => ?_) (fun H7 => ?_)
  · refine awp_seq ?_
    refine awp_region rfl ?_
    refine wpo_mv (a := (eI (0 : Int))) rfl rfl rfl (o_as tk rfl (Wk.refl _)) ?_
    refine wpo_mv (a := (eB false)) rfl rfl rfl (o_as tk rfl (Wk.refl _)) ?_
    refine wpo_nil ?_
    refine awp_ret ?_
    obtain rfl := Option.some.inj H7
    exact ⟨_, (.tup [(eI (0 : Int)), (eB false)]), rfl, (wk_tup (.cons (.of_eq rfl) (.cons (.of_eq rfl) .nil))), .of_eq (by simp only [cutAV, cutL, (enc_i64 td3 sz3).cut _ _ _, (enc_b td4 sz4).cut _ _ _]), hH.noT⟩
  · refine awp_skip ?_
    refine awp_seq ?_
    refine awp_region rfl ?_
    refine wpo_mv (a := ((eL 3 e_api_Step) v2)) rfl rfl rfl (o_mv tk rfl (Wk.refl _)) ?_
    refine wpo_mv (a := ((eL 3 e_api_Step) v2)) rfl rfl rfl (o_mv tk rfl (Wk.refl _)) ?_
    refine wpo_lt H7 eI rfl rfl rfl (o_len tk td23 rfl) fun v9 H8 => ?_
    refine wpo_lt H8 eI rfl rfl rfl (o_ar tk rfl rfl rfl) fun v11 H10 => ?_
    refine wpo_bd H10 (fun y => .fptr (e_api_Step y).cells 0) rfl rfl rfl (fun v13 hv => o_ixa tk hv td23 enc32 rfl rfl) fun v13 hv13 H12 => ?_
    refine wpo_mv (a := (.fptr (c_api_Step v13) 1)) rfl rfl rfl (o_c tk false rfl (fun _ => rfl)) ?_
    refine wpo_mv (a := (eI v13.At)) rfl rfl rfl (o_ld tk rfl rfl) ?_
    refine wpo_mv (a := (eI v13.At)) rfl rfl rfl (o_as tk rfl (Wk.refl _)) ?_
    refine wpo_mv (a := (eB true)) rfl rfl rfl (o_as tk rfl (Wk.refl _)) ?_
    refine wpo_nil ?_
    refine awp_ret ?_
    obtain rfl := Option.some.inj H12
    exact ⟨_, (.tup [(eI v13.At), (eB true)]), rfl, (wk_tup (.cons (.of_eq rfl) (.cons (.of_eq rfl) .nil))), .of_eq (by simp only [cutAV, cutL, (enc_i64 td3 sz3).cut _ _ _, (enc_b td4 sz4).cut _ _ _]), hH.noT⟩
end Go.Proofs.YtekldjimdmkgaaaDoor
namespace Go.Proofs.YtekldjimdmkgaaaDoor
open Go Go.Va
set_option linter.unusedVariables false
set_option linter.unusedSimpArgs false
set_option maxRecDepth 20000
theorem trouble_Of_ok {x0 : Err} {r : Int} (H : trouble_Of x0 = some r) (σ : St) (hg : σ.gl = gls) : ACall Tryd.prog 14 [eErr x0] σ (fun a τ => a = eI r ∧ τ = σ) := by
  obtain rfl := Option.some.inj H
  refine ACall.pure (acall_start tk Tryd.func14 (by decide) rfl (Nat.le_of_ble_eq_true rfl) ?_)
  have hH := Holds.init σ
  refine awp_seq ?_
  refine awp_region rfl ?_
  refine wpo_mv (a := (eI (0 : Int))) rfl rfl rfl (o_as tk rfl (Wk.refl _)) ?_
  refine wpo_nil ?_
  refine awp_seq ?_
  refine awp_block ?_
  have hs := trouble_Of_l0 x0
  refine awp_cutx 0 (fun fr τ => codeOf x0 = 0 ∧ WkF fr (fm []) ∧ Holds σ [] [] τ) ?_ ?_
  · rintro fr τ ⟨h0, hfr, hH⟩
    refine AWP.fm [] hfr ?_
    refine awp_seq ?_
    refine awp_region rfl ?_
    refine wpo_mv (a := (eI 0)) rfl rfl rfl (o_as tk rfl (Wk.refl _)) ?_
    refine wpo_nil ?_
    refine awp_ret ?_
    rw [h0]
    exact ⟨_, (eI 0), rfl, (.of_eq rfl), .of_eq rfl, hH.noT⟩
  · refine awp_loopO (body := trouble_Of_b0) hs (fun (s : Err) fr τ => WkF fr (fm [(0, eErr s)]) ∧ Holds σ [] [] τ) ⟨(wkf_cons (.of_eq rfl) (wkf_nil _)), hH⟩ ?_
    rintro c1 fr τ y ⟨hfr, hH⟩ hb hy
    refine AWP.fm [(0, eErr c1)] hfr ?_
    cases c1 with
    | nil =>
      refine awp_seq ?_
      refine awp_seq ?_
      refine awp_region rfl ?_
      refine wpo_mv (a := eErr .nil) rfl rfl rfl (o_mv tk rfl (Wk.refl _)) ?_
      refine wpo_mv (a := eB false) rfl rfl rfl (o_err_neq (x := .nil) tk rfl rfl rfl) ?_
      refine wpo_nil ?_
      refine awp_false rfl ?_
      refine awp_exit ?_
      have hb : some (Sum.inr (Sum.inl ())) = some y := hb
      have hz := hy _ (Option.some.inj hb).symm
      refine ⟨⟨_, (Option.some.inj hb).symm⟩, ?_, (wkf_nil _), hH⟩
      split at hz
      · assumption
      · cases hz
    | fault o a c u =>
      refine awp_seq ?_
      refine awp_seq ?_
      refine awp_region rfl ?_
      refine wpo_mv (a := eErr (.fault o a c u)) rfl rfl rfl (o_mv tk rfl (Wk.refl _)) ?_
      refine wpo_mv (a := eB true) rfl rfl rfl (o_err_neq (x := .fault o a c u) tk rfl rfl rfl) ?_
      refine wpo_nil ?_
      refine awp_true rfl ?_
      refine awp_skip ?_
      refine awp_block ?_
      refine awp_seq ?_
      refine awp_region rfl ?_
      refine wpo_a (av := fun id => .ref id 0) rfl rfl rfl (h_alloc tk hH ty50 [.nilp] rfl) fun id τ ⟨hH, hn⟩ => ?_
      refine wpo_nil ?_
      refine awp_seq ?_
      refine awp_seq ?_
      refine awp_region rfl ?_
      refine wpo_mv (a := eErr (.fault o a c u)) rfl rfl rfl (o_mv tk rfl (Wk.refl _)) ?_
      refine wpo_mv (a := .iface 54 (.ref id 0)) rfl rfl rfl (o_c tk false rfl (fun _ => rfl)) ?_
      refine wpo_cb (α := Unit) (z := some ()) (k := fun _ => some ()) (r := ()) rfl (fun _ _ => eB true) rfl rfl rfl (fun v hv => h_call1 hH [(0, (id, [(Err.fault o a c u).ptr]))] ⟨⟨_, rfl⟩, trivial⟩ rfl rfl (.cons (.of_eq rfl) (.cons (.of_eq rfl) .nil)) (as_ok (x := .fault o a c u) rfl (hH.at_ 0 rfl) (hH.gl.trans hg))) fun _ _ τ _ _ hH => ?_
      refine wpo_mv (a := eB false) rfl rfl rfl (o_un tk rfl rfl) ?_
      refine wpo_nil ?_
      refine awp_false rfl ?_
      refine awp_skip ?_
      refine awp_seq ?_
      refine awp_seq ?_
      refine awp_region rfl ?_
      refine wpo_rd (a := (Err.fault o a c u).ptr) rfl rfl rfl (h_ld tk hH 0 rfl rfl rfl) ?_
      refine wpo_mv (a := (Err.fault o a c u).ptr) rfl rfl rfl (o_c tk false rfl (fun _ => rfl)) ?_
      refine wpo_mv (a := .fptr [eS o, eI a, eI c, eErr u] 2) rfl rfl rfl (o_c tk false rfl (fun _ => rfl)) ?_
      refine wpo_mv (a := eI c) rfl rfl rfl (o_ld tk rfl rfl) ?_
      refine wpo_mv (a := eB (c != 0)) rfl rfl rfl (o_ar tk rfl rfl rfl) ?_
      refine wpo_nil ?_
      have hb : (if (c != 0) = true then some (.inr (.inr c)) else some (.inl u)) = some y := hb
      refine awp_if hb rfl (fun hb => ?_) (fun hb => ?_)
      · refine awp_seq ?_
        refine awp_region rfl ?_
        refine wpo_rd (a := (Err.fault o a c u).ptr) rfl rfl rfl (h_ld tk hH 0 rfl rfl rfl) ?_
        refine wpo_mv (a := (Err.fault o a c u).ptr) rfl rfl rfl (o_c tk false rfl (fun _ => rfl)) ?_
        refine wpo_mv (a := .fptr [eS o, eI a, eI c, eErr u] 2) rfl rfl rfl (o_c tk false rfl (fun _ => rfl)) ?_
        refine wpo_mv (a := eI c) rfl rfl rfl (o_ld tk rfl rfl) ?_
        refine wpo_mv (a := eI c) rfl rfl rfl (o_as tk rfl (Wk.refl _)) ?_
        refine wpo_nil ?_
        refine awp_ret ?_
        have hz := hy _ (Option.some.inj hb).symm
        refine ⟨⟨_, (Option.some.inj hb).symm⟩, ?_⟩
        have hc : codeOf x0 = c := by
          split at hz
          · cases hz
          · exact Sum.inr.inj hz.symm
        rw [hc]
        exact ⟨_, (eI c), rfl, (.of_eq rfl), .of_eq rfl, (hH.noT.drop hn)⟩
      · refine awp_skip ?_
        refine awp_region rfl ?_
        refine wpo_rd (a := (Err.fault o a c u).ptr) rfl rfl rfl (h_ld tk hH 0 rfl rfl rfl) ?_
        refine wpo_mv (a := (Err.fault o a c u).ptr) rfl rfl rfl (o_c tk false rfl (fun _ => rfl)) ?_
        refine wpo_mv (a := .fptr [eS o, eI a, eI c, eErr u] 3) rfl rfl rfl (o_c tk false rfl (fun _ => rfl)) ?_
        refine wpo_mv (a := eErr u) rfl rfl rfl (o_ld tk rfl (by cases u <;> rfl)) ?_
        refine wpo_mv (a := eErr u) rfl rfl rfl (o_as tk rfl (Wk.refl _)) ?_
        refine wpo_nil ?_
        exact ⟨u, (Option.some.inj hb).symm, (wkf_cons (.of_eq rfl) (wkf_nil _)), hH.drop hn⟩
end Go.Proofs.YtekldjimdmkgaaaDoor
namespace Go.Proofs.YtekldjimdmkgaaaDoor
open Go Go.Va
set_option linter.unusedVariables false
set_option linter.unusedSimpArgs false
set_option maxRecDepth 20000
theorem butteryref01_Of_ok {x0 : List api_Step} {r : Int} (H : butteryref01_Of x0 = some r) (σ : St)  : ACall Tryd.prog 15 [((eL 3 e_api_Step) x0)] σ (fun a τ => a = eI r ∧ τ = σ) := by
  unfold butteryref01_Of at H
  refine ACall.pure (acall_start tk Tryd.func15 (by decide) rfl (Nat.le_of_ble_eq_true rfl) ?_)
  have hH := Holds.init σ
  refine awp_seq ?_
  refine awp_region rfl ?_
  refine wpo_mv (a := (eI (0 : Int))) rfl rfl rfl (o_as tk rfl (Wk.refl _)) ?_
  refine wpo_nil ?_
  refine awp_seq ?_
  refine awp_seq ?_
  refine awp_region rfl ?_
  refine wpo_mv (a := (eI (0 : Int))) rfl rfl rfl (o_as tk rfl (Wk.refl _)) ?_
  refine wpo_nil ?_
  refine awp_block ?_
  obtain ⟨o2, hs3, hj4⟩ := Option.bind_eq_some_iff.1 H
  refine awp_cutx 0 (fun fr τ => ∃ s9 : Unit, o2 = .inl s9 ∧ WkF fr (fm []) ∧ Holds σ [] [] τ) ?_ ?_
  · rintro fr τ ⟨s9, rfl, hfr, hH⟩
    have H26 := hj4
    simp only [Sum.elim_inl] at H26
    refine AWP.fm [] hfr ?_
    refine awp_seq ?_
    refine awp_region rfl ?_
    refine wpo_mv (a := (eI (0 : Int))) rfl rfl rfl (o_as tk rfl (Wk.refl _)) ?_
    refine wpo_nil ?_
    refine awp_ret ?_
    obtain rfl := Option.some.inj H26
    exact ⟨_, (eI (0 : Int)), rfl, (.of_eq rfl), .of_eq ((enc_i64 td22 sz22).cut _ _ _), hH.noT⟩
  · refine awp_loopO (body := fun s => butteryref01_Of_b0 x0 s) hs3 (fun (s : Int) fr τ => WkF fr (fm [(0, ((eL 3 e_api_Step) x0)), (3, (eI s))]) ∧ Holds σ [] [] τ) ⟨(wkf_cons (.of_eq rfl) (wkf_cons (.of_eq rfl) (wkf_nil _))), hH⟩ ?_
    rintro c1 fr τ y5 ⟨hfr, hH⟩ hb7 hy8
    have H10 : butteryref01_Of_b0 x0 c1 = some y5 := hb7
    unfold butteryref01_Of_b0 at H10
    refine AWP.fm [(0, ((eL 3 e_api_Step) x0)), (3, (eI c1))] hfr ?_
    have hH : Holds σ [] [] τ := hH
    refine awp_seq ?_
    refine awp_seq ?_
    refine awp_region rfl ?_
    refine wpo_mv (a := (eI c1)) rfl rfl rfl (o_mv tk rfl (Wk.refl _)) ?_
    refine wpo_mv (a := ((eL 3 e_api_Step) x0)) rfl rfl rfl (o_mv tk rfl (Wk.refl _)) ?_
    refine wpo_lt H10 eI rfl rfl rfl (o_len tk td23 rfl) fun v12 H11 => ?_
    refine wpo_lt H11 eB rfl rfl rfl (o_ar tk rfl rfl rfl) fun v14 H13 => ?_
    refine wpo_nil ?_
    refine awp_if H13 rfl (fun H15 => ?_) (fun H15 => ?_)
    · refine awp_skip ?_
      refine awp_seq ?_
      refine awp_block ?_
      refine awp_seq ?_
      refine awp_region rfl ?_
      refine wpo_mv (a := ((eL 3 e_api_Step) x0)) rfl rfl rfl (o_mv tk rfl (Wk.refl _)) ?_
      refine wpo_mv (a := (eI c1)) rfl rfl rfl (o_mv tk rfl (Wk.refl _)) ?_
      refine wpo_bd H15 (fun y => .fptr (e_api_Step y).cells 0) rfl rfl rfl (fun v17 hv => o_ixa tk hv td23 enc32 rfl rfl) fun v17 hv17 H16 => ?_
      refine wpo_mv (a := (.fptr (c_api_Step v17) 2)) rfl rfl rfl (o_c tk false rfl (fun _ => rfl)) ?_
      refine wpo_mv (a := (eI v17.Code)) rfl rfl rfl (o_ld tk rfl rfl) ?_
      refine wpo_lt H16 eB rfl rfl rfl (o_ar tk rfl rfl rfl) fun v19 H18 => ?_
      refine wpo_nil ?_
      refine awp_if H18 rfl (fun H20 => ?_) (fun H20 => ?_)
      · refine awp_seq ?_
        refine awp_region rfl ?_
        refine wpo_mv (a := ((eL 3 e_api_Step) x0)) rfl rfl rfl (o_mv tk rfl (Wk.refl _)) ?_
        refine wpo_mv (a := (eI c1)) rfl rfl rfl (o_mv tk rfl (Wk.refl _)) ?_
        refine wpo_bd H20 (fun y => .fptr (e_api_Step y).cells 0) rfl rfl rfl (fun v22 hv => o_ixa tk hv td23 enc32 rfl rfl) fun v22 hv22 H21 => ?_
        refine wpo_mv (a := (.fptr (c_api_Step v22) 2)) rfl rfl rfl (o_c tk false rfl (fun _ => rfl)) ?_
        refine wpo_mv (a := (eI v22.Code)) rfl rfl rfl (o_ld tk rfl rfl) ?_
        refine wpo_mv (a := (eI v22.Code)) rfl rfl rfl (o_as tk rfl (Wk.refl _)) ?_
        refine wpo_nil ?_
        refine awp_ret ?_
        have hz := hy8 _ (inj_inr H21)
        refine ⟨⟨_, inj_inr H21⟩, ?_⟩
        rw [← hz] at hj4
        have H23 := (show some _ = some _ from hj4)
        obtain rfl := Option.some.inj H23
        exact ⟨_, (eI v22.Code), rfl, (.of_eq rfl), .of_eq ((enc_i64 td22 sz22).cut _ _ _), hH.noT⟩
      · refine awp_skip ?_
        refine awp_region rfl ?_
        refine wpo_mv (a := (eI c1)) rfl rfl rfl (o_mv tk rfl (Wk.refl _)) ?_
        refine wpo_lt H20 eI rfl rfl rfl (o_ar tk rfl rfl rfl) fun v25 H24 => ?_
        refine wpo_mv (a := (eI v25)) rfl rfl rfl (o_as tk rfl (Wk.refl _)) ?_
        refine wpo_nil ?_
        exact ⟨v25, inj_inl H24, (wkf_cons (.of_eq rfl) (wkf_cons (.of_eq rfl) (wkf_nil _))), hH⟩
    · refine awp_exit ?_
      have hz := hy8 _ (inj_inr H15)
      exact ⟨⟨_, inj_inr H15⟩, (), hz.symm, (wkf_nil _), hH⟩
end Go.Proofs.YtekldjimdmkgaaaDoor
namespace Go.Proofs.YtekldjimdmkgaaaDoor
open Go Go.Va
set_option linter.unusedVariables false
set_option linter.unusedSimpArgs false
set_option maxRecDepth 20000
theorem trouble_digits_ok {x0 : Int} {r : (List (BitVec 8))} (H : trouble_digits x0 = some r) (σ : St)  : ACall Tryd.prog 24 [(eI x0)] σ (fun a τ => a = eS r ∧ τ = σ) := by
  unfold trouble_digits at H
  refine ACall.pure (acall_start tk Tryd.func24 (by decide) rfl (Nat.le_of_ble_eq_true rfl) ?_)
  have hH := Holds.init σ
  refine awp_seq ?_
  refine awp_region rfl ?_
  refine wpo_mv (a := (eS ([] : List (BitVec 8)))) rfl rfl rfl (o_as tk rfl (Wk.refl _)) ?_
  refine wpo_nil ?_
  refine awp_seq ?_
  refine awp_seq ?_
  refine awp_region rfl ?_
  refine wpo_mv (a := (eI x0)) rfl rfl rfl (o_mv tk rfl (Wk.refl _)) ?_
  refine wpo_lt H eB rfl rfl rfl (o_ar tk rfl rfl rfl) fun v2 H1 => ?_
  refine wpo_nil ?_
  refine awp_if H1 rfl (fun H3 => ?_) (fun H3 => ?_)
  · refine awp_seq ?_
    refine awp_region rfl ?_
    refine wpo_mv (a := (eS ([63#8] : List (BitVec 8)))) rfl rfl rfl (o_as tk rfl (Wk.refl _)) ?_
    refine wpo_nil ?_
    refine awp_ret ?_
    obtain rfl := Option.some.inj H3
    exact ⟨_, (eS ([63#8] : List (BitVec 8))), rfl, (.of_eq rfl), .of_eq ((enc_s td9 sz9).cut _ _ _), hH.noT⟩
  · refine awp_skip ?_
    refine awp_seq ?_
    refine awp_region rfl ?_
    refine wpo_mv (a := (eS ([] : List (BitVec 8)))) rfl rfl rfl (o_as tk rfl (Wk.refl _)) ?_
    refine wpo_nil ?_
    refine awp_seq ?_
    refine awp_block ?_
    obtain ⟨s13, hs7, hj8⟩ := Option.bind_eq_some_iff.1 H3
    refine awp_cutx 0 (fun fr τ => WkF fr (fm [(0, (eI s13.1)), (3, (eS s13.2))]) ∧ Holds σ [] [] τ) ?_ ?_
    · rintro fr τ ⟨hfr, hH⟩
      have H30 := hj8
      refine AWP.fm [(0, (eI s13.1)), (3, (eS s13.2))] hfr ?_
      refine awp_seq ?_
      refine awp_region rfl ?_
      refine wpo_mv (a := (eI s13.1)) rfl rfl rfl (o_mv tk rfl (Wk.refl _)) ?_
      refine wpo_lt H30 eI rfl rfl rfl (o_ar tk rfl rfl rfl) fun v32 H31 => ?_
      refine wpo_lt H31 (@eU .u8 8) rfl rfl rfl (o_cv_iu tk td3 td5 rfl rfl) fun v34 H33 => ?_
      refine wpo_bd H33 eS rfl rfl rfl (fun v36 hv => o_chr tk hv td5 td9 rfl) fun v36 hv36 H35 => ?_
      refine wpo_mv (a := (eS s13.2)) rfl rfl rfl (o_mv tk rfl (Wk.refl _)) ?_
      refine wpo_bd H35 eS rfl rfl rfl (fun v38 hv => o_cat tk hv rfl rfl) fun v38 hv38 H37 => ?_
      refine wpo_mv (a := (eS v38)) rfl rfl rfl (o_as tk rfl (Wk.refl _)) ?_
      refine wpo_nil ?_
      refine awp_ret ?_
      obtain rfl := Option.some.inj H37
      exact ⟨_, (eS v38), rfl, (.of_eq rfl), .of_eq ((enc_s td9 sz9).cut _ _ _), hH.noT⟩
    · refine awp_loopO (body := fun s => trouble_digits_b0 s.1 s.2) hs7 (fun (s : Int × (List (BitVec 8))) fr τ => WkF fr (fm [(0, (eI s.1)), (3, (eS s.2))]) ∧ Holds σ [] [] τ) ⟨(wkf_cons (.of_eq rfl) (wkf_cons (.of_eq rfl) (wkf_nil _))), hH⟩ ?_
      rintro ⟨c4, c5⟩ fr τ y9 ⟨hfr, hH⟩ hb11 hy12
      have H14 : trouble_digits_b0 c4 c5 = some y9 := hb11
      unfold trouble_digits_b0 at H14
      refine AWP.fm [(0, (eI c4)), (3, (eS c5))] hfr ?_
      have hH : Holds σ [] [] τ := hH
      refine awp_seq ?_
      refine awp_seq ?_
      refine awp_region rfl ?_
      refine wpo_mv (a := (eI c4)) rfl rfl rfl (o_mv tk rfl (Wk.refl _)) ?_
      refine wpo_lt H14 eB rfl rfl rfl (o_ar tk rfl rfl rfl) fun v16 H15 => ?_
      refine wpo_nil ?_
      refine awp_if H15 rfl (fun H17 => ?_) (fun H17 => ?_)
      · refine awp_skip ?_
        refine awp_block ?_
        refine awp_seq ?_
        refine awp_region rfl ?_
        refine wpo_mv (a := (eI c4)) rfl rfl rfl (o_mv tk rfl (Wk.refl _)) ?_
        refine wpo_lt H17 eI rfl rfl rfl (o_rem tk (z := (10 : Int)) rfl rfl rfl) fun v19 H18 => ?_
        refine wpo_lt H18 eI rfl rfl rfl (o_ar tk rfl rfl rfl) fun v21 H20 => ?_
        refine wpo_lt H20 (@eU .u8 8) rfl rfl rfl (o_cv_iu tk td3 td5 rfl rfl) fun v23 H22 => ?_
        refine wpo_bd H22 eS rfl rfl rfl (fun v25 hv => o_chr tk hv td5 td9 rfl) fun v25 hv25 H24 => ?_
        refine wpo_mv (a := (eS c5)) rfl rfl rfl (o_mv tk rfl (Wk.refl _)) ?_
        refine wpo_bd H24 eS rfl rfl rfl (fun v27 hv => o_cat tk hv rfl rfl) fun v27 hv27 H26 => ?_
        refine wpo_mv (a := (eS v27)) rfl rfl rfl (o_as tk rfl (Wk.refl _)) ?_
        refine wpo_nil ?_
        refine awp_region rfl ?_
        refine wpo_mv (a := (eI c4)) rfl rfl rfl (o_mv tk rfl (Wk.refl _)) ?_
        refine wpo_lt H26 eI rfl rfl rfl (o_quo tk (z := (10 : Int)) rfl rfl rfl) fun v29 H28 => ?_
        refine wpo_mv (a := (eI v29)) rfl rfl rfl (o_as tk rfl (Wk.refl _)) ?_
        refine wpo_nil ?_
        exact ⟨(v29, v27), inj_inl H28, (wkf_cons (.of_eq rfl) (wkf_cons (.of_eq rfl) (wkf_nil _))), hH⟩
      · refine awp_exit ?_
        have hz := hy12 _ (inj_inr H17)
        subst hz
        exact ⟨⟨_, inj_inr H17⟩, (wkf_cons (.of_eq rfl) (wkf_cons (.of_eq rfl) (wkf_nil _))), hH⟩
end Go.Proofs.YtekldjimdmkgaaaDoor
namespace Go.Proofs.YtekldjimdmkgaaaDoor
open Go Go.Va
set_option linter.unusedVariables false
set_option linter.unusedSimpArgs false
set_option maxRecDepth 20000
theorem trouble_Text_ok {x0 : Err} {r : (List (BitVec 8))} (H : trouble_Text x0 = some r) (σ : St)  (hg : σ.gl = gls) : ACall Tryd.prog 16 [(eErr x0)] σ (fun a τ => a = eS r ∧ τ = σ) := by
  unfold trouble_Text at H
  refine ACall.pure (acall_start tk Tryd.func16 (by decide) rfl (Nat.le_of_ble_eq_true rfl) ?_)
  have hH := Holds.init σ
  refine awp_seq ?_
  refine awp_region rfl ?_
  refine wpo_mv (a := (eS ([] : List (BitVec 8)))) rfl rfl rfl (o_as tk rfl (Wk.refl _)) ?_
  refine wpo_nil ?_
  refine awp_seq ?_
  refine awp_region rfl ?_
  refine wpo_mv (a := (eS ([] : List (BitVec 8)))) rfl rfl rfl (o_as tk rfl (Wk.refl _)) ?_
  refine wpo_nil ?_
  refine awp_seq ?_
  refine awp_seq ?_
  refine awp_region rfl ?_
  refine wpo_mv (a := (eErr x0)) rfl rfl rfl (o_mv tk rfl (Wk.refl _)) ?_
  refine wpo_bdr H (eL 3 e_api_Step) rfl rfl rfl (fun v2 hv => h_callr rfl rfl (.cons (.of_eq rfl) .nil) (trouble_Chain_ok hv _ (hH.gl.trans hg))) fun v2 hv2 H1 => ?_
  refine wpo_lt H1 eI rfl rfl rfl (o_len tk td23 rfl) fun v4 H3 => ?_
  refine wpo_mv (a := (eI (0 : Int))) rfl rfl rfl (o_mv tk rfl (Wk.refl _)) ?_
  refine wpo_nil ?_
  refine awp_block ?_
  obtain ⟨s14, hs8, hj9⟩ := Option.bind_eq_some_iff.1 H3
  refine awp_cutx 0 (fun fr τ => WkF fr (fm [(3, (eS s14))]) ∧ Holds σ [] [] τ) ?_ ?_
  · rintro fr τ ⟨hfr, hH⟩
    have H65 := hj9
    refine AWP.fm [(3, (eS s14))] hfr ?_
    refine awp_seq ?_
    refine awp_region rfl ?_
    refine wpo_mv (a := (eS s14)) rfl rfl rfl (o_mv tk rfl (Wk.refl _)) ?_
    refine wpo_mv (a := (eS s14)) rfl rfl rfl (o_as tk rfl (Wk.refl _)) ?_
    refine wpo_nil ?_
    refine awp_ret ?_
    obtain rfl := Option.some.inj H65
    exact ⟨_, (eS s14), rfl, (.of_eq rfl), .of_eq ((enc_s td9 sz9).cut _ _ _), hH.noT⟩
  · refine awp_loopO (body := fun s => trouble_Text_b0 v2 v4 s.1 s.2) hs8 (fun (s : (List (BitVec 8)) × Int) fr τ => WkF fr (fm [(3, (eS s.1)), (7, ((eL 3 e_api_Step) v2)), (8, (eI v4)), (9, (eI s.2))]) ∧ Holds σ [] [] τ) ⟨(wkf_cons (.of_eq rfl) (wkf_cons (.of_eq rfl) (wkf_cons (.of_eq rfl) (wkf_cons (.of_eq rfl) (wkf_nil _))))), hH⟩ ?_
    rintro ⟨c5, c6⟩ fr τ y10 ⟨hfr, hH⟩ hb12 hy13
    have H15 : trouble_Text_b0 v2 v4 c5 c6 = some y10 := hb12
    unfold trouble_Text_b0 at H15
    refine AWP.fm [(3, (eS c5)), (7, ((eL 3 e_api_Step) v2)), (8, (eI v4)), (9, (eI c6))] hfr ?_
    have hH : Holds σ [] [] τ := hH
    refine awp_seq ?_
    refine awp_region rfl ?_
    refine wpo_lt H15 eB rfl rfl rfl (o_ar tk rfl rfl rfl) fun v17 H16 => ?_
    refine wpo_nil ?_
    refine awp_seq ?_
    refine awp_if H16 rfl (fun H18 => ?_) (fun H18 => ?_)
    · refine awp_skip ?_
      refine awp_seq ?_
      refine awp_block ?_
      refine awp_seq ?_
      refine awp_region rfl ?_
      refine wpo_mv (a := (eI c6)) rfl rfl rfl (o_mv tk rfl (Wk.refl _)) ?_
      refine wpo_bd H18 (fun y => .fptr (e_api_Step y).cells 0) rfl rfl rfl (fun v20 hv => o_ixa tk hv td23 enc32 rfl rfl) fun v20 hv20 H19 => ?_
      refine wpo_mv (a := (e_api_Step v20)) rfl rfl rfl (o_ld_e tk enc32 rfl rfl) ?_
      refine wpo_a (av := fun id => .ref id 0) rfl rfl rfl (h_alloc tk hH ty32 (c_api_Step z_api_Step) rfl) fun id21 τ ⟨hH, n22⟩ => ?_
      refine wpo_mv (a := (eI c6)) rfl rfl rfl (o_as tk rfl (Wk.refl _)) ?_
      obtain ⟨c24, hc25, H23⟩ := lt_ex H19
      refine wpo_z rfl rfl (h_st tk hH 0 rfl ty32 (by simp) rfl rfl (.of_eq rfl) (b := (e_api_Step v20)) (enc32.flat _) rfl (Nat.le_of_ble_eq_true rfl) (c_api_Step c24) (by rw [← hc25]; rfl)) fun τ hH => ?_
      refine wpo_nil ?_
      refine awp_seq ?_
      refine awp_seq ?_
      refine awp_region rfl ?_
      refine wpo_mv (a := (eI c6)) rfl rfl rfl (o_mv tk rfl (Wk.refl _)) ?_
      refine wpo_lt H23 eB rfl rfl rfl (o_ar tk rfl rfl rfl) fun v27 H26 => ?_
      refine wpo_nil ?_
      obtain ⟨s28, hs30, hj31⟩ := Option.bind_eq_some_iff.1 H26
      refine awp_cutn (fun fr τ => WkF fr (fm [(3, (eS s28)), (5, (.ref id21 0)), (7, ((eL 3 e_api_Step) v2)), (8, (eI v4)), (9, (eI c6))]) ∧ Holds σ [(id21, (c_api_Step c24))] [] τ) ?_ ?_
      · rintro fr τ ⟨hfr, hH⟩
        have H35 := hj31
        refine AWP.fm [(3, (eS s28)), (5, (.ref id21 0)), (7, ((eL 3 e_api_Step) v2)), (8, (eI v4)), (9, (eI c6))] hfr ?_
        refine awp_seq ?_
        refine awp_region rfl ?_
        refine wpo_mv (a := (eS s28)) rfl rfl rfl (o_mv tk rfl (Wk.refl _)) ?_
        refine wpo_mv (a := (.ref id21 0)) rfl rfl rfl (o_c tk false rfl (fun _ => rfl)) ?_
        refine wpo_rd (a := (eS c24.Op)) rfl rfl rfl (h_ld tk hH 0 rfl rfl rfl) ?_
        refine wpo_bd H35 eS rfl rfl rfl (fun v37 hv => o_cat tk hv rfl rfl) fun v37 hv37 H36 => ?_
        refine wpo_mv (a := (eS v37)) rfl rfl rfl (o_as tk rfl (Wk.refl _)) ?_
        refine wpo_nil ?_
        refine awp_seq ?_
        refine awp_seq ?_
        refine awp_region rfl ?_
        refine wpo_mv (a := (.ref id21 1)) rfl rfl rfl (o_c tk false rfl (fun _ => rfl)) ?_
        refine wpo_rd (a := (eI c24.At)) rfl rfl rfl (h_ld tk hH 0 rfl rfl rfl) ?_
        refine wpo_lt H36 eB rfl rfl rfl (o_ar tk rfl rfl rfl) fun v39 H38 => ?_
        refine wpo_nil ?_
        obtain ⟨s40, hs42, hj43⟩ := Option.bind_eq_some_iff.1 H38
        refine awp_cutn (fun fr τ => WkF fr (fm [(3, (eS s40)), (5, (.ref id21 0)), (7, ((eL 3 e_api_Step) v2)), (8, (eI v4)), (9, (eI c6))]) ∧ Holds σ [(id21, (c_api_Step c24))] [] τ) ?_ ?_
        · rintro fr τ ⟨hfr, hH⟩
          have H51 := hj43
          refine AWP.fm [(3, (eS s40)), (5, (.ref id21 0)), (7, ((eL 3 e_api_Step) v2)), (8, (eI v4)), (9, (eI c6))] hfr ?_
          refine awp_seq ?_
          refine awp_region rfl ?_
          refine wpo_mv (a := (.ref id21 2)) rfl rfl rfl (o_c tk false rfl (fun _ => rfl)) ?_
          refine wpo_rd (a := (eI c24.Code)) rfl rfl rfl (h_ld tk hH 0 rfl rfl rfl) ?_
          refine wpo_lt H51 eB rfl rfl rfl (o_ar tk rfl rfl rfl) fun v53 H52 => ?_
          refine wpo_nil ?_
          refine awp_if H52 rfl (fun H54 => ?_) (fun H54 => ?_)
          · refine awp_region rfl ?_
            refine wpo_mv (a := (eS s40)) rfl rfl rfl (o_mv tk rfl (Wk.refl _)) ?_
            refine wpo_mv (a := (.ref id21 2)) rfl rfl rfl (o_c tk false rfl (fun _ => rfl)) ?_
            refine wpo_rd (a := (eI c24.Code)) rfl rfl rfl (h_ld tk hH 0 rfl rfl rfl) ?_
            refine wpo_bd H54 eS rfl rfl rfl (fun v56 hv => OpP.of_call rfl rfl (.cons (.of_eq rfl) .nil) (trouble_digits_ok hv)) fun v56 hv56 H55 => ?_
            refine wpo_bd H55 eS rfl rfl rfl (fun v58 hv => o_cat tk hv rfl rfl) fun v58 hv58 H57 => ?_
            refine wpo_bd H57 eS rfl rfl rfl (fun v60 hv => o_cat tk hv rfl rfl) fun v60 hv60 H59 => ?_
            refine wpo_mv (a := (eS v60)) rfl rfl rfl (o_as tk rfl (Wk.refl _)) ?_
            refine wpo_nil ?_
            refine awp_region rfl ?_
            refine wpo_lt H59 eI rfl rfl rfl (o_ar tk rfl rfl rfl) fun v62 H61 => ?_
            refine wpo_mv (a := (eI v62)) rfl rfl rfl (o_mv tk rfl (Wk.refl _)) ?_
            refine wpo_nil ?_
            exact ⟨(v60, v62), inj_inl H61, (wkf_cons (.of_eq rfl) (wkf_cons (.of_eq rfl) (wkf_cons (.of_eq rfl) (wkf_cons (.of_eq rfl) (wkf_nil _))))), (hH.drop n22)⟩
          · refine awp_skip ?_
            refine awp_region rfl ?_
            refine wpo_lt H54 eI rfl rfl rfl (o_ar tk rfl rfl rfl) fun v64 H63 => ?_
            refine wpo_mv (a := (eI v64)) rfl rfl rfl (o_mv tk rfl (Wk.refl _)) ?_
            refine wpo_nil ?_
            exact ⟨(s40, v64), inj_inl H63, (wkf_cons (.of_eq rfl) (wkf_cons (.of_eq rfl) (wkf_cons (.of_eq rfl) (wkf_cons (.of_eq rfl) (wkf_nil _))))), (hH.drop n22)⟩
        · refine awp_if hs42 rfl (fun H44 => ?_) (fun H44 => ?_)
          · refine awp_region rfl ?_
            refine wpo_mv (a := (eS v37)) rfl rfl rfl (o_mv tk rfl (Wk.refl _)) ?_
            refine wpo_mv (a := (.ref id21 1)) rfl rfl rfl (o_c tk false rfl (fun _ => rfl)) ?_
            refine wpo_rd (a := (eI c24.At)) rfl rfl rfl (h_ld tk hH 0 rfl rfl rfl) ?_
            refine wpo_bd H44 eS rfl rfl rfl (fun v46 hv => OpP.of_call rfl rfl (.cons (.of_eq rfl) .nil) (trouble_digits_ok hv)) fun v46 hv46 H45 => ?_
            refine wpo_bd H45 eS rfl rfl rfl (fun v48 hv => o_cat tk hv rfl rfl) fun v48 hv48 H47 => ?_
            refine wpo_bd H47 eS rfl rfl rfl (fun v50 hv => o_cat tk hv rfl rfl) fun v50 hv50 H49 => ?_
            refine wpo_mv (a := (eS v50)) rfl rfl rfl (o_as tk rfl (Wk.refl _)) ?_
            refine wpo_nil ?_
            have e := Option.some.inj H49
            subst e
            exact ⟨(wkf_cons (.of_eq rfl) (wkf_cons (.of_eq rfl) (wkf_cons (.of_eq rfl) (wkf_cons (.of_eq rfl) (wkf_cons (.of_eq rfl) (wkf_nil _)))))), hH⟩
          · refine awp_skip ?_
            have e := Option.some.inj H44
            subst e
            exact ⟨(wkf_cons (.of_eq rfl) (wkf_cons (.of_eq rfl) (wkf_cons (.of_eq rfl) (wkf_cons (.of_eq rfl) (wkf_cons (.of_eq rfl) (wkf_nil _)))))), hH⟩
      · refine awp_if hs30 rfl (fun H32 => ?_) (fun H32 => ?_)
        · refine awp_region rfl ?_
          refine wpo_mv (a := (eS c5)) rfl rfl rfl (o_mv tk rfl (Wk.refl _)) ?_
          refine wpo_bd H32 eS rfl rfl rfl (fun v34 hv => o_cat tk hv rfl rfl) fun v34 hv34 H33 => ?_
          refine wpo_mv (a := (eS v34)) rfl rfl rfl (o_as tk rfl (Wk.refl _)) ?_
          refine wpo_nil ?_
          have e := Option.some.inj H33
          subst e
          exact ⟨(wkf_cons (.of_eq rfl) (wkf_cons (.of_eq rfl) (wkf_cons (.of_eq rfl) (wkf_cons (.of_eq rfl) (wkf_cons (.of_eq rfl) (wkf_nil _)))))), hH⟩
        · refine awp_skip ?_
          have e := Option.some.inj H32
          subst e
          exact ⟨(wkf_cons (.of_eq rfl) (wkf_cons (.of_eq rfl) (wkf_cons (.of_eq rfl) (wkf_cons (.of_eq rfl) (wkf_cons (.of_eq rfl) (wkf_nil _)))))), hH⟩
    · refine awp_exit ?_
      have hz := hy13 _ (inj_inr H18)
      subst hz
      exact ⟨⟨_, inj_inr H18⟩, (wkf_cons (.of_eq rfl) (wkf_nil _)), hH⟩
end Go.Proofs.YtekldjimdmkgaaaDoor
namespace Go.Proofs.YtekldjimdmkgaaaDoor
open Go Go.Va
set_option linter.unusedVariables false
set_option linter.unusedSimpArgs false
set_option maxRecDepth 20000
theorem butteryref01_Digits_n_ok : ∀ (k : Nat) {x0 : Int} {r : (List (BitVec 8))} (H : butteryref01_Digits_n k x0 = some r) (σ : St) , ACall Tryd.prog 25 [(eI x0)] σ (fun a τ => a = eS r ∧ τ = σ) := by
  intro k
  induction k with
  | zero => intro x0 r H; cases H
  | succ k ih =>
    intro x0 r H σ
    replace H : butteryref01_Digits_F (butteryref01_Digits_n k) x0 = some r := H
    unfold butteryref01_Digits_F at H
    refine ACall.pure (acall_start tk Tryd.func25 (by decide) rfl (Nat.le_of_ble_eq_true rfl) ?_)
    have hH := Holds.init σ
    refine awp_seq ?_
    refine awp_region rfl ?_
    refine wpo_mv (a := (eS ([] : List (BitVec 8)))) rfl rfl rfl (o_as tk rfl (Wk.refl _)) ?_
    refine wpo_nil ?_
    refine awp_seq ?_
    refine awp_region rfl ?_
    refine wpo_mv (a := (eS ([48#8, 49#8, 50#8, 51#8, 52#8, 53#8, 54#8, 55#8, 56#8, 57#8] : List (BitVec 8)))) rfl rfl rfl (o_as tk rfl (Wk.refl _)) ?_
    refine wpo_nil ?_
    refine awp_seq ?_
    refine awp_seq ?_
    refine awp_region rfl ?_
    refine wpo_mv (a := (eI x0)) rfl rfl rfl (o_mv tk rfl (Wk.refl _)) ?_
    refine wpo_lt H eB rfl rfl rfl (o_ar tk rfl rfl rfl) fun v2 H1 => ?_
    refine wpo_nil ?_
    refine awp_if H1 rfl (fun H3 => ?_) (fun H3 => ?_)
    · refine awp_seq ?_
      refine awp_region rfl ?_
      refine wpo_mv (a := (eS ([63#8] : List (BitVec 8)))) rfl rfl rfl (o_as tk rfl (Wk.refl _)) ?_
      refine wpo_nil ?_
      refine awp_ret ?_
      obtain rfl := Option.some.inj H3
      exact ⟨_, (eS ([63#8] : List (BitVec 8))), rfl, (.of_eq rfl), .of_eq ((enc_s td9 sz9).cut _ _ _), hH.noT⟩
    · refine awp_skip ?_
      refine awp_seq ?_
      refine awp_seq ?_
      refine awp_region rfl ?_
      refine wpo_mv (a := (eI x0)) rfl rfl rfl (o_mv tk rfl (Wk.refl _)) ?_
      refine wpo_lt H3 eB rfl rfl rfl (o_ar tk rfl rfl rfl) fun v5 H4 => ?_
      refine wpo_nil ?_
      refine awp_if H4 rfl (fun H6 => ?_) (fun H6 => ?_)
      · refine awp_seq ?_
        refine awp_region rfl ?_
        refine wpo_mv (a := (eS ([48#8, 49#8, 50#8, 51#8, 52#8, 53#8, 54#8, 55#8, 56#8, 57#8] : List (BitVec 8)))) rfl rfl rfl (o_mv tk rfl (Wk.refl _)) ?_
        refine wpo_mv (a := (eI x0)) rfl rfl rfl (o_mv tk rfl (Wk.refl _)) ?_
        refine wpo_mv (a := (eI x0)) rfl rfl rfl (o_mv tk rfl (Wk.refl _)) ?_
        refine wpo_lt H6 eI rfl rfl rfl (o_ar tk rfl rfl rfl) fun v8 H7 => ?_
        refine wpo_bd H7 eS rfl rfl rfl (fun v10 hv => o_scut tk hv td9 rfl rfl rfl) fun v10 hv10 H9 => ?_
        refine wpo_mv (a := (eS v10)) rfl rfl rfl (o_as tk rfl (Wk.refl _)) ?_
        refine wpo_nil ?_
        refine awp_ret ?_
        obtain rfl := Option.some.inj H9
        exact ⟨_, (eS v10), rfl, (.of_eq rfl), .of_eq ((enc_s td9 sz9).cut _ _ _), hH.noT⟩
      · refine awp_skip ?_
        refine awp_seq ?_
        refine awp_drawS mixed [] rfl (by decide +kernel) rfl rfl ?_
        refine wpdS_mv (a := (eI x0)) rfl rfl rfl (o_mv tk rfl (Wk.refl _)) ?_
        refine wpdS_lt H6 eI rfl rfl rfl (o_quo tk (z := (10 : Int)) rfl rfl rfl) fun v12 H11 => ?_
        refine wpdS_bd H11 eS rfl rfl rfl (fun v14 hv => OpP.of_call rfl rfl (.cons (.of_eq rfl) .nil) (ih hv)) fun v14 hv14 H13 => ?_
        refine wpdS_mv (a := (eS ([48#8, 49#8, 50#8, 51#8, 52#8, 53#8, 54#8, 55#8, 56#8, 57#8] : List (BitVec 8)))) rfl rfl rfl (o_mv tk rfl (Wk.refl _)) ?_
        refine wpdS_mv (a := (eI x0)) rfl rfl rfl (o_mv tk rfl (Wk.refl _)) ?_
        refine wpdS_lt H13 eI rfl rfl rfl (o_rem tk (z := (10 : Int)) rfl rfl rfl) fun v16 H15 => ?_
        refine wpdS_mv (a := (eI x0)) rfl rfl rfl (o_mv tk rfl (Wk.refl _)) ?_
        refine wpdS_lt H15 eI rfl rfl rfl (o_rem tk (z := (10 : Int)) rfl rfl rfl) fun v18 H17 => ?_
        refine wpdS_lt H17 eI rfl rfl rfl (o_ar tk rfl rfl rfl) fun v20 H19 => ?_
        refine wpdS_bd H19 eS rfl rfl rfl (fun v22 hv => o_scut tk hv td9 rfl rfl rfl) fun v22 hv22 H21 => ?_
        refine wpdS_bd H21 eS rfl rfl rfl (fun v24 hv => o_cat tk hv rfl rfl) fun v24 hv24 H23 => ?_
        refine wpdS_mv (a := (eS v24)) rfl rfl rfl (o_as tk rfl (Wk.refl _)) ?_
        refine wpdS_nil ?_
        refine awp_ret ?_
        obtain rfl := Option.some.inj H23
        exact ⟨_, (eS v24), rfl, (.of_eq rfl), .of_eq ((enc_s td9 sz9).cut _ _ _), hH.noT⟩
theorem butteryref01_Digits_ok {x0 : Int} {r : (List (BitVec 8))} (H : butteryref01_Digits x0 = some r) (σ : St)  : ACall Tryd.prog 25 [(eI x0)] σ (fun a τ => a = eS r ∧ τ = σ) := butteryref01_Digits_n_ok _ H σ
end Go.Proofs.YtekldjimdmkgaaaDoor
namespace Go.Proofs.YtekldjimdmkgaaaDoor
open Go Go.Va
set_option linter.unusedVariables false
set_option linter.unusedSimpArgs false
set_option maxRecDepth 20000
theorem butteryref01_Text_ok {x0 : List api_Step} {r : (List (BitVec 8))} (H : butteryref01_Text x0 = some r) (σ : St)  : ACall Tryd.prog 17 [((eL 3 e_api_Step) x0)] σ (fun a τ => a = eS r ∧ τ = σ) := by
  unfold butteryref01_Text at H
  refine ACall.pure (acall_start tk Tryd.func17 (by decide) rfl (Nat.le_of_ble_eq_true rfl) ?_)
  have hH := Holds.init σ
  refine awp_seq ?_
  refine awp_region rfl ?_
  refine wpo_mv (a := (eS ([] : List (BitVec 8)))) rfl rfl rfl (o_as tk rfl (Wk.refl _)) ?_
  refine wpo_nil ?_
  refine awp_seq ?_
  refine awp_region rfl ?_
  refine wpo_mv (a := (eS ([] : List (BitVec 8)))) rfl rfl rfl (o_as tk rfl (Wk.refl _)) ?_
  refine wpo_nil ?_
  refine awp_seq ?_
  refine awp_seq ?_
  refine awp_region rfl ?_
  refine wpo_mv (a := (eI (0 : Int))) rfl rfl rfl (o_as tk rfl (Wk.refl _)) ?_
  refine wpo_nil ?_
  refine awp_block ?_
  obtain ⟨s10, hs4, hj5⟩ := Option.bind_eq_some_iff.1 H
  refine awp_cutx 0 (fun fr τ => WkF fr (fm [(3, (eS s10))]) ∧ Holds σ [] [] τ) ?_ ?_
  · rintro fr τ ⟨hfr, hH⟩
    have H66 := hj5
    refine AWP.fm [(3, (eS s10))] hfr ?_
    refine awp_seq ?_
    refine awp_region rfl ?_
    refine wpo_mv (a := (eS s10)) rfl rfl rfl (o_mv tk rfl (Wk.refl _)) ?_
    refine wpo_mv (a := (eS s10)) rfl rfl rfl (o_as tk rfl (Wk.refl _)) ?_
    refine wpo_nil ?_
    refine awp_ret ?_
    obtain rfl := Option.some.inj H66
    exact ⟨_, (eS s10), rfl, (.of_eq rfl), .of_eq ((enc_s td9 sz9).cut _ _ _), hH.noT⟩
  · refine awp_loopO (body := fun s => butteryref01_Text_b0 x0 s.1 s.2) hs4 (fun (s : (List (BitVec 8)) × Int) fr τ => WkF fr (fm [(0, ((eL 3 e_api_Step) x0)), (3, (eS s.1)), (4, (eI s.2))]) ∧ Holds σ [] [] τ) ⟨(wkf_cons (.of_eq rfl) (wkf_cons (.of_eq rfl) (wkf_cons (.of_eq rfl) (wkf_nil _)))), hH⟩ ?_
    rintro ⟨c1, c2⟩ fr τ y6 ⟨hfr, hH⟩ hb8 hy9
    have H11 : butteryref01_Text_b0 x0 c1 c2 = some y6 := hb8
    unfold butteryref01_Text_b0 at H11
    refine AWP.fm [(0, ((eL 3 e_api_Step) x0)), (3, (eS c1)), (4, (eI c2))] hfr ?_
    have hH : Holds σ [] [] τ := hH
    refine awp_seq ?_
    refine awp_seq ?_
    refine awp_region rfl ?_
    refine wpo_mv (a := (eI c2)) rfl rfl rfl (o_mv tk rfl (Wk.refl _)) ?_
    refine wpo_mv (a := ((eL 3 e_api_Step) x0)) rfl rfl rfl (o_mv tk rfl (Wk.refl _)) ?_
    refine wpo_lt H11 eI rfl rfl rfl (o_len tk td23 rfl) fun v13 H12 => ?_
    refine wpo_lt H12 eB rfl rfl rfl (o_ar tk rfl rfl rfl) fun v15 H14 => ?_
    refine wpo_nil ?_
    refine awp_if H14 rfl (fun H16 => ?_) (fun H16 => ?_)
    · refine awp_skip ?_
      refine awp_seq ?_
      refine awp_block ?_
      refine awp_seq ?_
      refine awp_seq ?_
      refine awp_region rfl ?_
      refine wpo_mv (a := (eI c2)) rfl rfl rfl (o_mv tk rfl (Wk.refl _)) ?_
      refine wpo_lt H16 eB rfl rfl rfl (o_ar tk rfl rfl rfl) fun v18 H17 => ?_
      refine wpo_nil ?_
      obtain ⟨s19, hs21, hj22⟩ := Option.bind_eq_some_iff.1 H17
      refine awp_cutn (fun fr τ => WkF fr (fm [(0, ((eL 3 e_api_Step) x0)), (3, (eS s19)), (4, (eI c2))]) ∧ Holds σ [] [] τ) ?_ ?_
      · rintro fr τ ⟨hfr, hH⟩
        have H26 := hj22
        refine AWP.fm [(0, ((eL 3 e_api_Step) x0)), (3, (eS s19)), (4, (eI c2))] hfr ?_
        refine awp_seq ?_
        refine awp_region rfl ?_
        refine wpo_mv (a := (eS s19)) rfl rfl rfl (o_mv tk rfl (Wk.refl _)) ?_
        refine wpo_mv (a := ((eL 3 e_api_Step) x0)) rfl rfl rfl (o_mv tk rfl (Wk.refl _)) ?_
        refine wpo_mv (a := (eI c2)) rfl rfl rfl (o_mv tk rfl (Wk.refl _)) ?_
        refine wpo_bd H26 (fun y => .fptr (e_api_Step y).cells 0) rfl rfl rfl (fun v28 hv => o_ixa tk hv td23 enc32 rfl rfl) fun v28 hv28 H27 => ?_
        refine wpo_mv (a := (.fptr (c_api_Step v28) 0)) rfl rfl rfl (o_c tk false rfl (fun _ => rfl)) ?_
        refine wpo_mv (a := (eS v28.Op)) rfl rfl rfl (o_ld tk rfl rfl) ?_
        refine wpo_bd H27 eS rfl rfl rfl (fun v30 hv => o_cat tk hv rfl rfl) fun v30 hv30 H29 => ?_
        refine wpo_mv (a := (eS v30)) rfl rfl rfl (o_as tk rfl (Wk.refl _)) ?_
        refine wpo_nil ?_
        refine awp_seq ?_
        refine awp_seq ?_
        refine awp_region rfl ?_
        refine wpo_mv (a := ((eL 3 e_api_Step) x0)) rfl rfl rfl (o_mv tk rfl (Wk.refl _)) ?_
        refine wpo_mv (a := (eI c2)) rfl rfl rfl (o_mv tk rfl (Wk.refl _)) ?_
        refine wpo_bd H29 (fun y => .fptr (e_api_Step y).cells 0) rfl rfl rfl (fun v32 hv => o_ixa tk hv td23 enc32 rfl rfl) fun v32 hv32 H31 => ?_
        refine wpo_mv (a := (.fptr (c_api_Step v32) 1)) rfl rfl rfl (o_c tk false rfl (fun _ => rfl)) ?_
        refine wpo_mv (a := (eI v32.At)) rfl rfl rfl (o_ld tk rfl rfl) ?_
        refine wpo_lt H31 eB rfl rfl rfl (o_ar tk rfl rfl rfl) fun v34 H33 => ?_
        refine wpo_nil ?_
        obtain ⟨s35, hs37, hj38⟩ := Option.bind_eq_some_iff.1 H33
        refine awp_cutn (fun fr τ => WkF fr (fm [(0, ((eL 3 e_api_Step) x0)), (3, (eS s35)), (4, (eI c2))]) ∧ Holds σ [] [] τ) ?_ ?_
        · rintro fr τ ⟨hfr, hH⟩
          have H48 := hj38
          refine AWP.fm [(0, ((eL 3 e_api_Step) x0)), (3, (eS s35)), (4, (eI c2))] hfr ?_
          refine awp_seq ?_
          refine awp_region rfl ?_
          refine wpo_mv (a := ((eL 3 e_api_Step) x0)) rfl rfl rfl (o_mv tk rfl (Wk.refl _)) ?_
          refine wpo_mv (a := (eI c2)) rfl rfl rfl (o_mv tk rfl (Wk.refl _)) ?_
          refine wpo_bd H48 (fun y => .fptr (e_api_Step y).cells 0) rfl rfl rfl (fun v50 hv => o_ixa tk hv td23 enc32 rfl rfl) fun v50 hv50 H49 => ?_
          refine wpo_mv (a := (.fptr (c_api_Step v50) 2)) rfl rfl rfl (o_c tk false rfl (fun _ => rfl)) ?_
          refine wpo_mv (a := (eI v50.Code)) rfl rfl rfl (o_ld tk rfl rfl) ?_
          refine wpo_lt H49 eB rfl rfl rfl (o_ar tk rfl rfl rfl) fun v52 H51 => ?_
          refine wpo_nil ?_
          refine awp_if H51 rfl (fun H53 => ?_) (fun H53 => ?_)
          · refine awp_region rfl ?_
            refine wpo_mv (a := (eS s35)) rfl rfl rfl (o_mv tk rfl (Wk.refl _)) ?_
            refine wpo_bd H53 eS rfl rfl rfl (fun v55 hv => o_cat tk hv rfl rfl) fun v55 hv55 H54 => ?_
            refine wpo_mv (a := ((eL 3 e_api_Step) x0)) rfl rfl rfl (o_mv tk rfl (Wk.refl _)) ?_
            refine wpo_mv (a := (eI c2)) rfl rfl rfl (o_mv tk rfl (Wk.refl _)) ?_
            refine wpo_bd H54 (fun y => .fptr (e_api_Step y).cells 0) rfl rfl rfl (fun v57 hv => o_ixa tk hv td23 enc32 rfl rfl) fun v57 hv57 H56 => ?_
            refine wpo_mv (a := (.fptr (c_api_Step v57) 2)) rfl rfl rfl (o_c tk false rfl (fun _ => rfl)) ?_
            refine wpo_mv (a := (eI v57.Code)) rfl rfl rfl (o_ld tk rfl rfl) ?_
            refine wpo_bd H56 eS rfl rfl rfl (fun v59 hv => OpP.of_call rfl rfl (.cons (.of_eq rfl) .nil) (butteryref01_Digits_ok hv)) fun v59 hv59 H58 => ?_
            refine wpo_bd H58 eS rfl rfl rfl (fun v61 hv => o_cat tk hv rfl rfl) fun v61 hv61 H60 => ?_
            refine wpo_mv (a := (eS v61)) rfl rfl rfl (o_as tk rfl (Wk.refl _)) ?_
            refine wpo_nil ?_
            refine awp_region rfl ?_
            refine wpo_mv (a := (eI c2)) rfl rfl rfl (o_mv tk rfl (Wk.refl _)) ?_
            refine wpo_lt H60 eI rfl rfl rfl (o_ar tk rfl rfl rfl) fun v63 H62 => ?_
            refine wpo_mv (a := (eI v63)) rfl rfl rfl (o_as tk rfl (Wk.refl _)) ?_
            refine wpo_nil ?_
            exact ⟨(v61, v63), inj_inl H62, (wkf_cons (.of_eq rfl) (wkf_cons (.of_eq rfl) (wkf_cons (.of_eq rfl) (wkf_nil _)))), hH⟩
          · refine awp_skip ?_
            refine awp_region rfl ?_
            refine wpo_mv (a := (eI c2)) rfl rfl rfl (o_mv tk rfl (Wk.refl _)) ?_
            refine wpo_lt H53 eI rfl rfl rfl (o_ar tk rfl rfl rfl) fun v65 H64 => ?_
            refine wpo_mv (a := (eI v65)) rfl rfl rfl (o_as tk rfl (Wk.refl _)) ?_
            refine wpo_nil ?_
            exact ⟨(s35, v65), inj_inl H64, (wkf_cons (.of_eq rfl) (wkf_cons (.of_eq rfl) (wkf_cons (.of_eq rfl) (wkf_nil _)))), hH⟩
        · refine awp_if hs37 rfl (fun H39 => ?_) (fun H39 => ?_)
          · refine awp_region rfl ?_
            refine wpo_mv (a := (eS v30)) rfl rfl rfl (o_mv tk rfl (Wk.refl _)) ?_
            refine wpo_bd H39 eS rfl rfl rfl (fun v41 hv => o_cat tk hv rfl rfl) fun v41 hv41 H40 => ?_
            refine wpo_mv (a := ((eL 3 e_api_Step) x0)) rfl rfl rfl (o_mv tk rfl (Wk.refl _)) ?_
            refine wpo_mv (a := (eI c2)) rfl rfl rfl (o_mv tk rfl (Wk.refl _)) ?_
            refine wpo_bd H40 (fun y => .fptr (e_api_Step y).cells 0) rfl rfl rfl (fun v43 hv => o_ixa tk hv td23 enc32 rfl rfl) fun v43 hv43 H42 => ?_
            refine wpo_mv (a := (.fptr (c_api_Step v43) 1)) rfl rfl rfl (o_c tk false rfl (fun _ => rfl)) ?_
            refine wpo_mv (a := (eI v43.At)) rfl rfl rfl (o_ld tk rfl rfl) ?_
            refine wpo_bd H42 eS rfl rfl rfl (fun v45 hv => OpP.of_call rfl rfl (.cons (.of_eq rfl) .nil) (butteryref01_Digits_ok hv)) fun v45 hv45 H44 => ?_
            refine wpo_bd H44 eS rfl rfl rfl (fun v47 hv => o_cat tk hv rfl rfl) fun v47 hv47 H46 => ?_
            refine wpo_mv (a := (eS v47)) rfl rfl rfl (o_as tk rfl (Wk.refl _)) ?_
            refine wpo_nil ?_
            have e := Option.some.inj H46
            subst e
            exact ⟨(wkf_cons (.of_eq rfl) (wkf_cons (.of_eq rfl) (wkf_cons (.of_eq rfl) (wkf_nil _)))), hH⟩
          · refine awp_skip ?_
            have e := Option.some.inj H39
            subst e
            exact ⟨(wkf_cons (.of_eq rfl) (wkf_cons (.of_eq rfl) (wkf_cons (.of_eq rfl) (wkf_nil _)))), hH⟩
      · refine awp_if hs21 rfl (fun H23 => ?_) (fun H23 => ?_)
        · refine awp_region rfl ?_
          refine wpo_mv (a := (eS c1)) rfl rfl rfl (o_mv tk rfl (Wk.refl _)) ?_
          refine wpo_bd H23 eS rfl rfl rfl (fun v25 hv => o_cat tk hv rfl rfl) fun v25 hv25 H24 => ?_
          refine wpo_mv (a := (eS v25)) rfl rfl rfl (o_as tk rfl (Wk.refl _)) ?_
          refine wpo_nil ?_
          have e := Option.some.inj H24
          subst e
          exact ⟨(wkf_cons (.of_eq rfl) (wkf_cons (.of_eq rfl) (wkf_cons (.of_eq rfl) (wkf_nil _)))), hH⟩
        · refine awp_skip ?_
          have e := Option.some.inj H23
          subst e
          exact ⟨(wkf_cons (.of_eq rfl) (wkf_cons (.of_eq rfl) (wkf_cons (.of_eq rfl) (wkf_nil _)))), hH⟩
    · refine awp_exit ?_
      have hz := hy9 _ (inj_inr H16)
      subst hz
      exact ⟨⟨_, inj_inr H16⟩, (wkf_cons (.of_eq rfl) (wkf_nil _)), hH⟩
end Go.Proofs.YtekldjimdmkgaaaDoor
namespace Go.Proofs.YtekldjimdmkgaaaDoor
open Go Go.Va Go.RowKit
set_option linter.unusedVariables false
set_option linter.unusedSimpArgs false
set_option maxRecDepth 20000
def mkE (k : Int) : AV := .iface 58 (.agg [eI k])
theorem fis_ok (o : List (BitVec 8)) (a c : Int) (u : Err) (k : Int) (σ : St) : ACall Tryd.prog 54 [.fptr [eS o, eI a, eI c, eErr u] 0, mkE k] σ (fun b τ => b = eB (c == k && c != 0) ∧ τ = σ) := by
  refine ACall.pure (acall_start tk Tryd.func54 (by decide) rfl (Nat.le_of_ble_eq_true rfl) ?_)
  have hH := Holds.init σ
  refine awp_seq ?_
  refine awp_region rfl ?_
  refine wpo_mv (a := eB false) rfl rfl rfl (o_as tk rfl (Wk.refl _)) ?_
  refine wpo_nil ?_
  refine awp_seq ?_
  refine awp_region rfl ?_
  refine wpo_mv (a := mkE k) rfl rfl rfl (o_mv tk rfl (Wk.refl _)) ?_
  refine wpo_mv (a := .tup [.agg [eI k], eB true]) rfl rfl rfl (o_ta (z := fun v => v) rfl (fun v w => by simp [Instr.typeAssert, run_underlying Tryd.underlying58, Result.andThen]) (fun G v h => h)) ?_
  refine wpo_mv (a := .tup [.agg [eI k], eB true]) rfl rfl rfl (o_mv tk rfl (Wk.refl _)) ?_
  refine wpo_mv (a := .agg [eI k]) rfl rfl rfl (o_ext tk rfl rfl) ?_
  refine wpo_mv (a := eB true) rfl rfl rfl (o_ext tk rfl rfl) ?_
  refine wpo_a (av := fun id => .ref id 0) rfl rfl rfl (h_alloc tk hH ty58 [eI 0] rfl) fun id τ ⟨hH, hn⟩ => ?_
  refine wpo_z rfl rfl (h_st tk hH 0 rfl ty58 (by simp) rfl rfl (Wk.refl _) rfl rfl (by decide) [eI k] rfl) fun τ hH => ?_
  refine wpo_mv (a := eB true) rfl rfl rfl (o_as tk rfl (Wk.refl _)) ?_
  refine wpo_nil ?_
  refine awp_seq ?_
  refine awp_drawS mixed [] rfl (by decide +kernel) rfl rfl ?_
  refine wpdS_mv (a := eB true) rfl rfl rfl (o_mv tk rfl (Wk.refl _)) ?_
  refine wpdS_mv (a := eB true) rfl rfl rfl (o_mv tk rfl (Wk.refl _)) ?_
  refine wpdS_mv (a := .fptr [eS o, eI a, eI c, eErr u] 0) rfl rfl rfl (o_mv tk rfl (Wk.refl _)) ?_
  refine wpdS_mv (a := .fptr [eS o, eI a, eI c, eErr u] 0) rfl rfl rfl (o_c tk false rfl (fun _ => rfl)) ?_
  refine wpdS_mv (a := .fptr [eS o, eI a, eI c, eErr u] 2) rfl rfl rfl (o_c tk false rfl (fun _ => rfl)) ?_
  refine wpdS_mv (a := eI c) rfl rfl rfl (o_ld tk rfl rfl) ?_
  refine wpdS_mv (a := .ref id 0) rfl rfl rfl (o_c tk false rfl (fun _ => rfl)) ?_
  refine wpdS_rd (a := eI k) rfl (by decide +kernel) rfl rfl (h_ld tk hH 0 rfl rfl rfl) ?_
  cases hck : (c == k) with
  | false =>
    refine wpdS_mv (a := eB false) rfl rfl rfl (by rw [← hck]; exact o_ar tk rfl rfl rfl) ?_
    refine wpdS_mv (a := eB false) rfl rfl rfl (o_pick_t tk rfl rfl (Wk.refl _)) ?_
    refine wpdS_mv (a := eB false) rfl rfl rfl (o_mv tk rfl (Wk.refl _)) ?_
    refine wpdS_skip rfl rfl rfl ?_
    refine wpdS_skip rfl rfl rfl ?_
    refine wpdS_skip rfl rfl rfl ?_
    refine wpdS_skip rfl rfl rfl ?_
    refine wpdS_skip rfl rfl rfl ?_
    refine wpdS_mv (a := eB false) rfl rfl rfl (o_pick_f tk rfl rfl (Wk.refl _)) ?_
    refine wpdS_mv (a := eB false) rfl rfl rfl (o_as tk rfl (Wk.refl _)) ?_
    refine wpdS_nil ?_
    refine awp_ret ?_
    exact ⟨_, (eB false), rfl, (.of_eq rfl), .of_eq rfl, (hH.noT.drop hn)⟩
  | true =>
    refine wpdS_mv (a := eB true) rfl rfl rfl (by rw [← hck]; exact o_ar tk rfl rfl rfl) ?_
    refine wpdS_mv (a := eB true) rfl rfl rfl (o_pick_t tk rfl rfl (Wk.refl _)) ?_
    refine wpdS_mv (a := eB true) rfl rfl rfl (o_mv tk rfl (Wk.refl _)) ?_
    refine wpdS_mv (a := .fptr [eS o, eI a, eI c, eErr u] 0) rfl rfl rfl (o_mv tk rfl (Wk.refl _)) ?_
    refine wpdS_mv (a := .fptr [eS o, eI a, eI c, eErr u] 0) rfl rfl rfl (o_c tk false rfl (fun _ => rfl)) ?_
    refine wpdS_mv (a := .fptr [eS o, eI a, eI c, eErr u] 2) rfl rfl rfl (o_c tk false rfl (fun _ => rfl)) ?_
    refine wpdS_mv (a := eI c) rfl rfl rfl (o_ld tk rfl rfl) ?_
    refine wpdS_mv (a := eB (c != 0)) rfl rfl rfl (o_ar tk rfl rfl rfl) ?_
    refine wpdS_mv (a := eB (c != 0)) rfl rfl rfl (o_pick_t tk rfl rfl (Wk.refl _)) ?_
    refine wpdS_mv (a := eB (c != 0)) rfl rfl rfl (o_as tk rfl (Wk.refl _)) ?_
    refine wpdS_nil ?_
    refine awp_ret ?_
    exact ⟨_, (eB (c != 0)), rfl, (.of_eq rfl), .of_eq rfl, (hH.noT.drop hn)⟩
theorem fun_ok (o : List (BitVec 8)) (a c : Int) (u : Err) (σ : St) : ACall Tryd.prog 55 [.fptr [eS o, eI a, eI c, eErr u] 0] σ (fun b τ => b = eErr u ∧ τ = σ) := by
  refine ACall.pure (acall_start tk Tryd.func55 (by decide) rfl (Nat.le_of_ble_eq_true rfl) ?_)
  have hH := Holds.init σ
  refine awp_seq ?_
  refine awp_region rfl ?_
  refine wpo_mv (a := .nili) rfl rfl rfl (o_as tk rfl (Wk.refl _)) ?_
  refine wpo_nil ?_
  refine awp_seq ?_
  refine awp_region rfl ?_
  refine wpo_mv (a := .fptr [eS o, eI a, eI c, eErr u] 0) rfl rfl rfl (o_mv tk rfl (Wk.refl _)) ?_
  refine wpo_mv (a := .fptr [eS o, eI a, eI c, eErr u] 0) rfl rfl rfl (o_c tk false rfl (fun _ => rfl)) ?_
  refine wpo_mv (a := .fptr [eS o, eI a, eI c, eErr u] 3) rfl rfl rfl (o_c tk false rfl (fun _ => rfl)) ?_
  refine wpo_mv (a := eErr u) rfl rfl rfl (o_ld tk rfl (by cases u <;> rfl)) ?_
  refine wpo_mv (a := eErr u) rfl rfl rfl (o_as tk rfl (Wk.refl _)) ?_
  refine wpo_nil ?_
  refine awp_ret ?_
  exact ⟨_, (eErr u), rfl, (.of_eq rfl), .of_eq (encErr.cut _ _ _), hH.noT⟩
end Go.Proofs.YtekldjimdmkgaaaDoor
namespace Go.Proofs.YtekldjimdmkgaaaDoor
open Go Go.Va Go.RowKit
set_option linter.unusedVariables false
set_option linter.unusedSimpArgs false
set_option maxRecDepth 20000
abbrev FltT := List (BitVec 8) × Int × Int × Err
def FltT.e (s : FltT) : Err := .fault s.1 s.2.1 s.2.2.1 s.2.2.2
def is_b0 (k : Int) (s : FltT) : Option (FltT ⊕ Bool) := if (s.2.2.1 == k && s.2.2.1 != 0) = true then some (.inr true) else match s.2.2.2 with
  | .nil => some (.inr false)
  | .fault o a c u => some (.inl (o, a, c, u))
theorem is_l0 (k : Int) : ∀ (u : Err) (o : List (BitVec 8)) (a c : Int), loopO (is_b0 k) (o, a, c, u) = some (hasE (.fault o a c u) k)
  | .nil, o, a, c => by
    refine loopO_out ?_
    unfold is_b0 hasE
    cases h : (c == k && c != 0) <;> simp [hasE, h]
  | .fault o' a' c' u', o, a, c => by
    cases h : (c == k && c != 0) with
    | true =>
      refine loopO_out ?_
      unfold is_b0 hasE
      simp [h]
    | false =>
      rw [loopO_in (s' := (o', a', c', u')) (by unfold is_b0; simp [h]), is_l0 k u' o' a' c']
      show _ = some ((c == k && c != 0) || hasE (.fault o' a' c' u') k)
      rw [h, Bool.false_or]
theorem Tryd.hasIsF (v : Value) (xT : TypeId) (w : World) : (Instr.typeAssert (.iface 50 v) xT 90 true).run Tryd.prog w = .ok (.tuple #[.iface 50 v, .bool true]) w := run_typeAssert_hasB Tryd.underlying90 (by kernel_rfl) v xT w
theorem Tryd.hasUnF (v : Value) (xT : TypeId) (w : World) : (Instr.typeAssert (.iface 50 v) xT 86 true).run Tryd.prog w = .ok (.tuple #[.iface 50 v, .bool true]) w := run_typeAssert_hasB Tryd.underlying86 (by kernel_rfl) v xT w
theorem Tryd.methodIsF (v : Value) (w : World) : (Go.method 224 50 v "Is").run Tryd.prog w = .ok (54, v) w := by kernel_rfl
theorem Tryd.methodUnF (v : Value) (w : World) : (Go.method 224 50 v "Unwrap").run Tryd.prog w = .ok (55, v) w := by kernel_rfl
theorem fuel_eq : Tryd.prog.types.size + Made.depth = 224 := by kernel_rfl
theorem is2_ok (o : List (BitVec 8)) (a c : Int) (u : Err) (k : Int) (σ : St) : ACall Tryd.prog 33 [eErr (.fault o a c u), mkE k, eB true] σ (fun b τ => b = eB (hasE (.fault o a c u) k) ∧ τ = σ) := by
  refine ACall.pure (acall_start tk Tryd.func33 (by decide) rfl (Nat.le_of_ble_eq_true rfl) ?_)
  have hH := Holds.init σ
  refine awp_seq ?_
  refine awp_region rfl ?_
  refine wpo_mv (a := eB false) rfl rfl rfl (o_as tk rfl (Wk.refl _)) ?_
  refine wpo_nil ?_
  refine awp_block ?_
  refine awp_loopO (body := is_b0 k) (is_l0 k u o a c) (fun (s : FltT) fr τ => WkF fr (fm [(0, eErr s.e), (1, mkE k), (2, eB true)]) ∧ Holds σ [] [] τ) ⟨(wkf_cons (.of_eq rfl) (wkf_cons (.of_eq rfl) (wkf_cons (.of_eq rfl) (wkf_nil _)))), hH⟩ ?_
  rintro ⟨o1, a1, c1, u1⟩ fr τ y ⟨hfr, hH⟩ hb hy
  have hfr : WkF fr (fm [(0, eErr (.fault o1 a1 c1 u1)), (1, mkE k), (2, eB true)]) := hfr
  refine AWP.fm [(0, eErr (.fault o1 a1 c1 u1)), (1, mkE k), (2, eB true)] hfr ?_
  have hb : (if (c1 == k && c1 != 0) = true then some (.inr true) else match u1 with
    | .nil => some (.inr false)
    | .fault o a c u => some (.inl (o, a, c, u))) = some y := hb
  refine awp_block ?_
  refine awp_seq ?_
  refine awp_seq ?_
  refine awp_region rfl ?_
  refine wpo_mv (a := eB true) rfl rfl rfl (o_mv tk rfl (Wk.refl _)) ?_
  refine wpo_mv (a := eB true) rfl rfl rfl (o_mv tk rfl (Wk.refl _)) ?_
  refine wpo_mv (a := eErr (.fault o1 a1 c1 u1)) rfl rfl rfl (o_mv tk rfl (Wk.refl _)) ?_
  refine wpo_mv (a := mkE k) rfl rfl rfl (o_mv tk rfl (Wk.refl _)) ?_
  refine wpo_mv (a := eB false) rfl rfl rfl (o_ifne tk td25 rfl rfl (by decide)) ?_
  refine wpo_mv (a := eB false) rfl rfl rfl (o_pick_t tk rfl rfl (Wk.refl _)) ?_
  refine wpo_nil ?_
  refine awp_false rfl ?_
  refine awp_skip ?_
  refine awp_seq ?_
  refine awp_seq ?_
  refine awp_region rfl ?_
  refine wpo_mv (a := eErr (.fault o1 a1 c1 u1)) rfl rfl rfl (o_mv tk rfl (Wk.refl _)) ?_
  refine wpo_mv (a := .tup [eErr (.fault o1 a1 c1 u1), eB true]) rfl rfl rfl (o_ta (z := fun v => .iface 50 v) rfl (fun v w => Tryd.hasIsF v _ w) (fun G v h => .iface _ _ _ h)) ?_
  refine wpo_mv (a := .tup [eErr (.fault o1 a1 c1 u1), eB true]) rfl rfl rfl (o_mv tk rfl (Wk.refl _)) ?_
  refine wpo_mv (a := eErr (.fault o1 a1 c1 u1)) rfl rfl rfl (o_ext tk rfl rfl) ?_
  refine wpo_mv (a := eB true) rfl rfl rfl (o_ext tk rfl rfl) ?_
  refine wpo_mv (a := eErr (.fault o1 a1 c1 u1)) rfl rfl rfl (o_as tk rfl (Wk.refl _)) ?_
  refine wpo_mv (a := eB true) rfl rfl rfl (o_as tk rfl (Wk.refl _)) ?_
  refine wpo_nil ?_
  refine awp_seq ?_
  refine awp_region rfl ?_
  refine wpo_mv (a := eB true) rfl rfl rfl (o_mv tk rfl (Wk.refl _)) ?_
  refine wpo_mv (a := eB true) rfl rfl rfl (o_mv tk rfl (Wk.refl _)) ?_
  refine wpo_mv (a := eErr (.fault o1 a1 c1 u1)) rfl rfl rfl (o_mv tk rfl (Wk.refl _)) ?_
  refine wpo_mv (a := mkE k) rfl rfl rfl (o_mv tk rfl (Wk.refl _)) ?_
  refine wpo_mv (a := eB (c1 == k && c1 != 0)) rfl rfl rfl (fun τ => OpS.of_invoke rfl rfl rfl fuel_eq Tryd.methodIsF (.cons (.of_eq rfl) (.cons (.of_eq rfl) .nil)) (fis_ok o1 a1 c1 u1 k τ)) ?_
  refine wpo_mv (a := eB (c1 == k && c1 != 0)) rfl rfl rfl (o_pick_t tk rfl rfl (Wk.refl _)) ?_
  refine wpo_nil ?_
  refine awp_if hb rfl (fun hb => ?_) (fun hb => ?_)
  · refine awp_seq ?_
    refine awp_region rfl ?_
    refine wpo_mv (a := eB true) rfl rfl rfl (o_as tk rfl (Wk.refl _)) ?_
    refine wpo_nil ?_
    refine awp_ret ?_
    have hz := hy _ (Option.some.inj hb).symm
    refine ⟨⟨_, (Option.some.inj hb).symm⟩, ?_⟩
    rw [← hz]
    exact ⟨_, (eB true), rfl, (.of_eq rfl), .of_eq rfl, hH.noT⟩
  · refine awp_skip ?_
    refine awp_seq ?_
    refine awp_region rfl ?_
    refine wpo_mv (a := eErr (.fault o1 a1 c1 u1)) rfl rfl rfl (o_mv tk rfl (Wk.refl _)) ?_
    refine wpo_nil ?_
    refine awp_block ?_
    refine awp_seq ?_
    refine awp_region rfl ?_
    refine wpo_mv (a := .tup [eErr (.fault o1 a1 c1 u1), eB true]) rfl rfl rfl (o_ta (z := fun v => .iface 50 v) rfl (fun v w => Tryd.hasUnF v _ w) (fun G v h => .iface _ _ _ h)) ?_
    refine wpo_mv (a := eB true) rfl rfl rfl (o_ext tk rfl rfl) ?_
    refine wpo_mv (a := eErr (.fault o1 a1 c1 u1)) rfl rfl rfl (o_ext tk rfl rfl) ?_
    refine wpo_nil ?_
    refine awp_true rfl ?_
    refine awp_seq ?_
    refine awp_region rfl ?_
    refine wpo_mv (a := eErr (.fault o1 a1 c1 u1)) rfl rfl rfl (o_as tk rfl (Wk.refl _)) ?_
    refine wpo_nil ?_
    refine awp_seq ?_
    refine awp_region rfl ?_
    refine wpo_mv (a := eErr (.fault o1 a1 c1 u1)) rfl rfl rfl (o_mv tk rfl (Wk.refl _)) ?_
    refine wpo_mv (a := eErr u1) rfl rfl rfl (fun τ => OpS.of_invoke rfl rfl rfl fuel_eq Tryd.methodUnF (.cons (.of_eq rfl) .nil) (fun_ok o1 a1 c1 u1 τ)) ?_
    refine wpo_mv (a := eErr u1) rfl rfl rfl (o_as tk rfl (Wk.refl _)) ?_
    refine wpo_nil ?_
    refine awp_seq ?_
    refine awp_region rfl ?_
    refine wpo_mv (a := eErr u1) rfl rfl rfl (o_mv tk rfl (Wk.refl _)) ?_
    refine wpo_mv (a := eB u1.isNil) rfl rfl rfl (o_err_eql tk td25 rfl rfl) ?_
    refine wpo_nil ?_
    cases u1 with
    | nil =>
      refine awp_true rfl ?_
      refine awp_seq ?_
      refine awp_region rfl ?_
      refine wpo_mv (a := eB false) rfl rfl rfl (o_as tk rfl (Wk.refl _)) ?_
      refine wpo_nil ?_
      refine awp_ret ?_
      have hz := hy _ (Option.some.inj hb).symm
      refine ⟨⟨_, (Option.some.inj hb).symm⟩, ?_⟩
      rw [← hz]
      exact ⟨_, (eB false), rfl, (.of_eq rfl), .of_eq rfl, hH.noT⟩
    | fault o2 a2 c2 u2 =>
      refine awp_false rfl ?_
      refine awp_skip ?_
      exact ⟨(o2, a2, c2, u2), (Option.some.inj hb).symm, (wkf_cons (.of_eq rfl) (wkf_cons (.of_eq rfl) (wkf_cons (.of_eq rfl) (wkf_nil _)))), hH⟩
end Go.Proofs.YtekldjimdmkgaaaDoor
namespace Go.Proofs.YtekldjimdmkgaaaDoor
open Go.RowKit Go.Extern.Stop Go.Stop Go.Extern
theorem Tryd.isTypeOf (v : Value) (w : World) : (Extern.ReflectliteType.typeOf #[.iface 58 v]).run Tryd.prog w = .ok (.iface 79 (.agg #[.pointer (some ⟨1, 58, none⟩)])) w := by kernel_rfl
def cmpF : Array Value → Sem Value := Extern.ReflectliteType.method fun t => do Extern.Rtype.noPackHeld "Comparable" t; pure (.bool (← typeInfo t).comparable)
theorem Tryd.isComparable (w : World) : (cmpF #[.agg #[.pointer (some ⟨1, 58, none⟩)]]).run Tryd.prog w = .ok (.bool true) w := by kernel_rfl
theorem Tryd.isMethodComparable (v : Value) (w : World) : (Go.method 224 79 v "Comparable").run Tryd.prog w = .ok (64, v) w := by kernel_rfl
theorem is_raw (v u : Value) (w : World) {r : Bool} {R : World → Prop} (h33 : Calls Tryd.prog 33 #[.iface 50 v, .iface 58 u, .bool true] w fun e w' => e = .returned (.bool r) ∧ R w') :
    Calls Tryd.prog 26 #[.iface 50 v, .iface 58 u] w fun e w' => e = .returned (.bool r) ∧ R w' := by
  have h8 := @run_callFunc_extern Tryd.prog 32 _ Extern.ReflectliteType.typeOf Tryd.func32 (by kernel_rfl) (by kernel_rfl) (by kernel_rfl) (by kernel_rfl)
  have h32 := @run_callFunc_extern Tryd.prog 64 _ cmpF Tryd.func64 (by kernel_rfl) (by kernel_rfl) (by kernel_rfl) (by kernel_rfl)
  have tT := Tryd.isTypeOf
  have cT := Tryd.isComparable
  have mR := Tryd.isMethodComparable
  go_enter Tryd.func26, Tryd.ntmps26
  go_wp2_with (go_at_call 33; refine h33.mono ?_; rintro e w' ⟨rfl, hR⟩)
  go_ret
  exact ⟨rfl, hR⟩
open Go.Va in
theorem Is_ok (o : List (BitVec 8)) (a c : Int) (u : Err) (k : Int) (σ : St) : ACall Tryd.prog 26 [eErr (.fault o a c u), mkE k] σ (fun b τ => b = eB (hasE (.fault o a c u) k) ∧ τ = σ) := by
  have h := is2_ok o a c u k σ
  refine ⟨⟨_, Tryd.func26, by decide, rfl⟩, fun w0 G w vs hI hr => ?_⟩
  obtain ⟨v0, h0, r0⟩ := hr.get (i := 0) rfl
  obtain ⟨v1, h1, r1⟩ := hr.get (i := 1) rfl
  have hvs : vs = #[v0, v1] := by
    obtain ⟨l⟩ := vs
    have hl := hr.len
    simp only [List.length_cons, List.length_nil] at hl h0 h1
    match l, hl, h0, h1 with
    | [x, y], _, h0, h1 => simp at h0 h1; subst h0; subst h1; rfl
  subst hvs
  simp only [eErr] at r0
  simp only [mkE] at r1
  cases r0 with | iface _ v0 _ r0 =>
  cases r1 with | iface _ v1 _ r1 =>
  have h2 := h.2 w0 G w #[.iface 50 v0, .iface 58 v1, .bool true] hI (by
    simp only [eErr, mkE]
    exact ((RelL.nil _).cons (.bool true)).cons (.iface _ _ _ r1) |>.cons (.iface _ _ _ r0))
  refine (is_raw v0 v1 w (r := hasE (.fault o a c u) k) (R := fun w' => ∃ G', G.Le G' ∧ Inv w0 G' w' σ) (h2.mono ?_)).mono ?_
  · rintro e w' ⟨v, x, σ', G', rfl, k1, k2, k3, rfl, rfl⟩
    cases k3
    exact ⟨rfl, G', k1, k2⟩
  · rintro e w' ⟨rfl, G', k1, k2⟩
    exact ⟨.bool _, eB (hasE (.fault o a c u) k), σ, G', rfl, k1, k2, .bool _, rfl, rfl⟩
end Go.Proofs.YtekldjimdmkgaaaDoor
namespace Go.Proofs.YtekldjimdmkgaaaDoor
open Go Go.Va
set_option linter.unusedVariables false
set_option linter.unusedSimpArgs false
set_option maxRecDepth 20000
theorem trouble_Has_ok {x : Err} {k : Int} {r : Bool} (H : trouble_Has x k = some r) (σ : St) : ACall Tryd.prog 20 [eErr x, eI k] σ (fun b τ => b = eB r ∧ τ = σ) := by
  obtain rfl := Option.some.inj H
  refine ACall.pure (acall_start tk Tryd.func20 (by decide) rfl (Nat.le_of_ble_eq_true rfl) ?_)
  have hH := Holds.init σ
  refine awp_seq ?_
  refine awp_region rfl ?_
  refine wpo_mv (a := eB false) rfl rfl rfl (o_as tk rfl (Wk.refl _)) ?_
  refine wpo_nil ?_
  refine awp_seq ?_
  refine awp_region rfl ?_
  refine wpo_mv (a := eErr x) rfl rfl rfl (o_mv tk rfl (Wk.refl _)) ?_
  cases x with
  | nil =>
    refine wpo_mv (a := eB false) rfl rfl rfl (o_err_neq (x := .nil) tk td25 rfl rfl) ?_
    refine wpo_mv (a := eB false) rfl rfl rfl (o_mv tk rfl (Wk.refl _)) ?_
    refine wpo_skip rfl rfl rfl ?_
    refine wpo_skip rfl rfl rfl ?_
    refine wpo_skip rfl rfl rfl ?_
    refine wpo_skip rfl rfl rfl ?_
    refine wpo_skip rfl rfl rfl ?_
    refine wpo_mv (a := eB false) rfl rfl rfl (o_pick_f tk rfl rfl (Wk.refl _)) ?_
    refine wpo_mv (a := eB false) rfl rfl rfl (o_as tk rfl (Wk.refl _)) ?_
    refine wpo_nil ?_
    refine awp_ret ?_
    exact ⟨_, (eB false), rfl, (.of_eq rfl), .of_eq rfl, hH.noT⟩
  | fault o a c u =>
    refine wpo_mv (a := eB true) rfl rfl rfl (o_err_neq (x := .fault o a c u) tk td25 rfl rfl) ?_
    refine wpo_mv (a := eB true) rfl rfl rfl (o_mv tk rfl (Wk.refl _)) ?_
    refine wpo_mv (a := eErr (.fault o a c u)) rfl rfl rfl (o_mv tk rfl (Wk.refl _)) ?_
    refine wpo_mv (a := eI k) rfl rfl rfl (o_mv tk rfl (Wk.refl _)) ?_
    refine wpo_mv (a := .agg [eI k]) rfl rfl rfl (o_c tk false rfl (fun _ => rfl)) ?_
    refine wpo_mv (a := mkE k) rfl rfl rfl (o_c tk false rfl (fun _ => rfl)) ?_
    refine wpo_mv (a := eB (hasE (.fault o a c u) k)) rfl rfl rfl (OpP.of_call rfl rfl (.cons (.of_eq rfl) (.cons (.of_eq rfl) .nil)) (Is_ok o a c u k)) ?_
    refine wpo_mv (a := eB (hasE (.fault o a c u) k)) rfl rfl rfl (o_pick_t tk rfl rfl (Wk.refl _)) ?_
    refine wpo_mv (a := eB (hasE (.fault o a c u) k)) rfl rfl rfl (o_as tk rfl (Wk.refl _)) ?_
    refine wpo_nil ?_
    refine awp_ret ?_
    exact ⟨_, (eB (hasE (.fault o a c u) k)), rfl, (.of_eq rfl), .of_eq rfl, hH.noT⟩
end Go.Proofs.YtekldjimdmkgaaaDoor
namespace Go.Proofs.YtekldjimdmkgaaaDoor
open Go Go.Va
set_option linter.unusedVariables false
set_option linter.unusedSimpArgs false
set_option maxRecDepth 20000
theorem trouble_New_ok {x0 : List (BitVec 8)} {x1 : Int} {x2 : Int} {r : Err} (H : trouble_New x0 x1 x2 = some r) (σ : St)  : ACall Tryd.prog 7 [(eS x0), (eI x1), (eI x2)] σ (fun a τ => a = eErr r ∧ τ = σ) := by
  unfold trouble_New at H
  refine ACall.pure (acall_start tk Tryd.func7 (by decide) rfl (Nat.le_of_ble_eq_true rfl) ?_)
  have hH := Holds.init σ
  refine awp_seq ?_
  refine awp_region rfl ?_
  refine wpo_mv (a := (eErr Err.nil)) rfl rfl rfl (o_as tk rfl (Wk.refl _)) ?_
  refine wpo_nil ?_
  refine awp_seq ?_
  refine awp_seq ?_
  refine awp_region rfl ?_
  refine wpo_mv (a := (eI x2)) rfl rfl rfl (o_mv tk rfl (Wk.refl _)) ?_
  refine wpo_lt H eB rfl rfl rfl (o_ar tk rfl rfl rfl) fun v2 H1 => ?_
  refine wpo_nil ?_
  refine awp_if H1 rfl (fun H3 => ?_) (fun H3 => ?_)
  · refine awp_seq ?_
    refine awp_region rfl ?_
    refine wpo_mv (a := (eErr Err.nil)) rfl rfl rfl (o_as tk rfl (Wk.refl _)) ?_
    refine wpo_nil ?_
    refine awp_ret ?_
    obtain rfl := Option.some.inj H3
    exact ⟨_, (eErr Err.nil), rfl, (.of_eq rfl), .of_eq (encErr.cut _ _ _), hH.noT⟩
  · refine awp_skip ?_
    refine awp_seq ?_
    refine awp_region rfl ?_
    refine wpo_mv (a := (eS x0)) rfl rfl rfl (o_mv tk rfl (Wk.refl _)) ?_
    refine wpo_mv (a := (eI x1)) rfl rfl rfl (o_mv tk rfl (Wk.refl _)) ?_
    refine wpo_mv (a := (eI x2)) rfl rfl rfl (o_mv tk rfl (Wk.refl _)) ?_
    refine wpo_lt H3 e_trouble_fault rfl rfl rfl (o_c tk false rfl (fun _ => rfl)) fun v5 H4 => ?_
    refine wpo_mv (a := (.fptr (c_trouble_fault v5) 0)) rfl rfl rfl (o_boxf tk rfl (.of_eq rfl) (b := (e_trouble_fault v5)) (enc52.flat _)) ?_
    refine wpo_mv (a := (eErr (Err.fault v5.op v5.at_ v5.code v5.under))) rfl rfl rfl (o_c tk false rfl (fun _ => rfl)) ?_
    refine wpo_mv (a := (eErr (Err.fault v5.op v5.at_ v5.code v5.under))) rfl rfl rfl (o_as tk rfl (Wk.refl _)) ?_
    refine wpo_nil ?_
    refine awp_ret ?_
    obtain rfl := Option.some.inj H4
    exact ⟨_, (eErr (Err.fault v5.op v5.at_ v5.code v5.under)), rfl, (.of_eq rfl), .of_eq (encErr.cut _ _ _), hH.noT⟩
end Go.Proofs.YtekldjimdmkgaaaDoor
namespace Go.Proofs.YtekldjimdmkgaaaDoor
open Go Go.Va
set_option linter.unusedVariables false
set_option linter.unusedSimpArgs false
set_option maxRecDepth 20000
theorem butterylaw01_works_ok  {r : Bool} (H : butterylaw01_works = some r) (σ : St)  (hg : σ.gl = gls) : ACall Tryd.prog 18 [] σ (fun a τ => a = eB r ∧ τ = σ) := by
  unfold butterylaw01_works at H
  refine ACall.pure (acall_start tk Tryd.func18 (by decide) rfl (Nat.le_of_ble_eq_true rfl) ?_)
  have hH := Holds.init σ
  refine awp_seq ?_
  refine awp_region rfl ?_
  refine wpo_mv (a := (eB false)) rfl rfl rfl (o_as tk rfl (Wk.refl _)) ?_
  refine wpo_nil ?_
  refine awp_seq ?_
  refine awp_region rfl ?_
  refine wpo_bd H eErr rfl rfl rfl (fun v2 hv => OpP.of_call rfl rfl (.cons (.of_eq rfl) (.cons (.of_eq rfl) (.cons (.of_eq rfl) .nil))) (trouble_New_ok hv)) fun v2 hv2 H1 => ?_
  refine wpo_bd H1 eErr rfl rfl rfl (fun v4 hv => OpP.of_call rfl rfl (.cons (.of_eq rfl) (.cons (.of_eq rfl) (.cons (.of_eq rfl) .nil))) (trouble_Wrap_ok hv)) fun v4 hv4 H3 => ?_
  refine wpo_mv (a := (eErr v4)) rfl rfl rfl (o_as tk rfl (Wk.refl _)) ?_
  refine wpo_nil ?_
  refine awp_seq ?_
  refine awp_region rfl ?_
  refine wpo_mv (a := (eErr v4)) rfl rfl rfl (o_mv tk rfl (Wk.refl _)) ?_
  refine wpo_bdr H3 (fun r => .tup [eI r.1, eB r.2]) rfl rfl rfl (fun v6 hv => h_callr rfl rfl (.cons (.of_eq rfl) .nil) (trouble_Where_ok hv _ (hH.gl.trans hg))) fun v6 hv6 H5 => ?_
  refine wpo_mv (a := (.tup [(eI v6.1), (eB v6.2)])) rfl rfl rfl (o_mv tk rfl (Wk.refl _)) ?_
  refine wpo_mv (a := (eI v6.1)) rfl rfl rfl (o_ext tk rfl rfl) ?_
  refine wpo_mv (a := (eB v6.2)) rfl rfl rfl (o_ext tk rfl rfl) ?_
  refine wpo_mv (a := (eI v6.1)) rfl rfl rfl (o_as tk rfl (Wk.refl _)) ?_
  refine wpo_mv (a := (eB v6.2)) rfl rfl rfl (o_as tk rfl (Wk.refl _)) ?_
  refine wpo_nil ?_
  refine awp_seq ?_
  refine awp_region rfl ?_
  refine wpo_mv (a := (eErr v4)) rfl rfl rfl (o_mv tk rfl (Wk.refl _)) ?_
  refine wpo_bdr H5 eI rfl rfl rfl (fun v8 hv => h_callr rfl rfl (.cons (.of_eq rfl) .nil) (trouble_Of_ok hv _ (hH.gl.trans hg))) fun v8 hv8 H7 => ?_
  refine wpo_lt H7 eB rfl rfl rfl (o_ar tk rfl rfl rfl) fun v10 H9 => ?_
  refine wpo_mv (a := (eB v10)) rfl rfl rfl (o_mv tk rfl (Wk.refl _)) ?_
  refine if_split H9 (fun hb H11 => ?_) (fun hb H11 => ?_)
  · subst hb
    refine wpo_mv (a := (eErr v4)) rfl rfl rfl (o_mv tk rfl (Wk.refl _)) ?_
    refine wpo_bd H11 eB rfl rfl rfl (fun v13 hv => OpP.of_call rfl rfl (.cons (.of_eq rfl) (.cons (.of_eq rfl) .nil)) (trouble_Has_ok hv)) fun v13 hv13 H12 => ?_
    refine wpo_mv (a := (eB v13)) rfl rfl rfl (o_pick_t tk rfl rfl (Wk.refl _)) ?_
    refine wpo_mv (a := (eB v13)) rfl rfl rfl (o_mv tk rfl (Wk.refl _)) ?_
    refine if_split H12 (fun hb H14 => ?_) (fun hb H14 => ?_)
    · subst hb
      refine wpo_mv (a := (eErr v4)) rfl rfl rfl (o_mv tk rfl (Wk.refl _)) ?_
      refine wpo_bd H14 eB rfl rfl rfl (fun v16 hv => OpP.of_call rfl rfl (.cons (.of_eq rfl) (.cons (.of_eq rfl) .nil)) (trouble_Has_ok hv)) fun v16 hv16 H15 => ?_
      refine wpo_lt H15 eB rfl rfl rfl (o_un tk rfl rfl) fun v18 H17 => ?_
      refine wpo_mv (a := (eB v18)) rfl rfl rfl (o_pick_t tk rfl rfl (Wk.refl _)) ?_
      refine wpo_mv (a := (eB v18)) rfl rfl rfl (o_mv tk rfl (Wk.refl _)) ?_
      refine if_split H17 (fun hb H19 => ?_) (fun hb H19 => ?_)
      · subst hb
        refine wpo_mv (a := (eI v6.1)) rfl rfl rfl (o_mv tk rfl (Wk.refl _)) ?_
        refine wpo_lt H19 eB rfl rfl rfl (o_ar tk rfl rfl rfl) fun v21 H20 => ?_
        refine wpo_mv (a := (eB v21)) rfl rfl rfl (o_pick_t tk rfl rfl (Wk.refl _)) ?_
        refine wpo_mv (a := (eB v21)) rfl rfl rfl (o_mv tk rfl (Wk.refl _)) ?_
        refine if_split H20 (fun hb H22 => ?_) (fun hb H22 => ?_)
        · subst hb
          refine wpo_mv (a := (eB v6.2)) rfl rfl rfl (o_mv tk rfl (Wk.refl _)) ?_
          refine wpo_mv (a := (eB v6.2)) rfl rfl rfl (o_pick_t tk rfl rfl (Wk.refl _)) ?_
          refine wpo_mv (a := (eB v6.2)) rfl rfl rfl (o_mv tk rfl (Wk.refl _)) ?_
          refine if_split H22 (fun hb H23 => ?_) (fun hb H23 => ?_)
          · rw [hb]
            refine wpo_mv (a := (eErr v4)) rfl rfl rfl (o_mv tk rfl (Wk.refl _)) ?_
            refine wpo_bdr H23 eS rfl rfl rfl (fun v25 hv => h_callr rfl rfl (.cons (.of_eq rfl) .nil) (trouble_Text_ok hv _ (hH.gl.trans hg))) fun v25 hv25 H24 => ?_
            refine wpo_lt H24 eB rfl rfl rfl (o_eql_s tk rfl rfl) fun v27 H26 => ?_
            refine wpo_mv (a := (eB v27)) rfl rfl rfl (o_pick_t tk rfl rfl (Wk.refl _)) ?_
            refine wpo_mv (a := (eB v27)) rfl rfl rfl (o_mv tk rfl (Wk.refl _)) ?_
            refine if_split H26 (fun hb H28 => ?_) (fun hb H28 => ?_)
            · subst hb
              refine wpo_bd H28 eErr rfl rfl rfl (fun v30 hv => OpP.of_call rfl rfl (.cons (.of_eq rfl) (.cons (.of_eq rfl) (.cons (.of_eq rfl) .nil))) (trouble_New_ok hv)) fun v30 hv30 H29 => ?_
              refine wpo_lt H29 eB rfl rfl rfl (o_err_eql tk rfl rfl rfl) fun v32 H31 => ?_
              refine wpo_mv (a := (eB v32)) rfl rfl rfl (o_pick_t tk rfl rfl (Wk.refl _)) ?_
              refine wpo_mv (a := (eB v32)) rfl rfl rfl (o_mv tk rfl (Wk.refl _)) ?_
              refine if_split H31 (fun hb H33 => ?_) (fun hb H33 => ?_)
              · subst hb
                refine wpo_mv (a := (eErr v4)) rfl rfl rfl (o_mv tk rfl (Wk.refl _)) ?_
                refine wpo_bdr H33 (eL 3 e_api_Step) rfl rfl rfl (fun v35 hv => h_callr rfl rfl (.cons (.of_eq rfl) .nil) (trouble_Chain_ok hv _ (hH.gl.trans hg))) fun v35 hv35 H34 => ?_
                refine wpo_lt H34 eI rfl rfl rfl (o_len tk td23 rfl) fun v37 H36 => ?_
                refine wpo_lt H36 eB rfl rfl rfl (o_ar tk rfl rfl rfl) fun v39 H38 => ?_
                refine wpo_mv (a := (eB v39)) rfl rfl rfl (o_pick_t tk rfl rfl (Wk.refl _)) ?_
                refine wpo_mv (a := (eB v39)) rfl rfl rfl (o_as tk rfl (Wk.refl _)) ?_
                refine wpo_nil ?_
                refine awp_ret ?_
                obtain rfl := Option.some.inj H38
                exact ⟨_, (eB v39), rfl, (.of_eq rfl), .of_eq ((enc_b td4 sz4).cut _ _ _), hH.noT⟩
              · subst hb
                refine wpo_skip rfl rfl rfl ?_
                refine wpo_skip rfl rfl rfl ?_
                refine wpo_skip rfl rfl rfl ?_
                refine wpo_skip rfl rfl rfl ?_
                refine wpo_mv (a := (eB false)) rfl rfl rfl (o_pick_f tk rfl rfl (Wk.refl _)) ?_
                refine wpo_mv (a := (eB false)) rfl rfl rfl (o_as tk rfl (Wk.refl _)) ?_
                refine wpo_nil ?_
                refine awp_ret ?_
                obtain rfl := Option.some.inj H33
                exact ⟨_, (eB false), rfl, (.of_eq rfl), .of_eq ((enc_b td4 sz4).cut _ _ _), hH.noT⟩
            · subst hb
              refine wpo_skip rfl rfl rfl ?_
              refine wpo_skip rfl rfl rfl ?_
              refine wpo_mv (a := (eB false)) rfl rfl rfl (o_pick_f tk rfl rfl (Wk.refl _)) ?_
              refine wpo_mv (a := (eB false)) rfl rfl rfl (o_mv tk rfl (Wk.refl _)) ?_
              refine wpo_skip rfl rfl rfl ?_
              refine wpo_skip rfl rfl rfl ?_
              refine wpo_skip rfl rfl rfl ?_
              refine wpo_skip rfl rfl rfl ?_
              refine wpo_mv (a := (eB false)) rfl rfl rfl (o_pick_f tk rfl rfl (Wk.refl _)) ?_
              refine wpo_mv (a := (eB false)) rfl rfl rfl (o_as tk rfl (Wk.refl _)) ?_
              refine wpo_nil ?_
              refine awp_ret ?_
              obtain rfl := Option.some.inj H28
              exact ⟨_, (eB false), rfl, (.of_eq rfl), .of_eq ((enc_b td4 sz4).cut _ _ _), hH.noT⟩
          · rw [hb]
            refine wpo_skip rfl rfl rfl ?_
            refine wpo_skip rfl rfl rfl ?_
            refine wpo_skip rfl rfl rfl ?_
            refine wpo_mv (a := (eB false)) rfl rfl rfl (o_pick_f tk rfl rfl (Wk.refl _)) ?_
            refine wpo_mv (a := (eB false)) rfl rfl rfl (o_mv tk rfl (Wk.refl _)) ?_
            refine wpo_skip rfl rfl rfl ?_
            refine wpo_skip rfl rfl rfl ?_
            refine wpo_mv (a := (eB false)) rfl rfl rfl (o_pick_f tk rfl rfl (Wk.refl _)) ?_
            refine wpo_mv (a := (eB false)) rfl rfl rfl (o_mv tk rfl (Wk.refl _)) ?_
            refine wpo_skip rfl rfl rfl ?_
            refine wpo_skip rfl rfl rfl ?_
            refine wpo_skip rfl rfl rfl ?_
            refine wpo_skip rfl rfl rfl ?_
            refine wpo_mv (a := (eB false)) rfl rfl rfl (o_pick_f tk rfl rfl (Wk.refl _)) ?_
            refine wpo_mv (a := (eB false)) rfl rfl rfl (o_as tk rfl (Wk.refl _)) ?_
            refine wpo_nil ?_
            refine awp_ret ?_
            obtain rfl := Option.some.inj H23
            exact ⟨_, (eB false), rfl, (.of_eq rfl), .of_eq ((enc_b td4 sz4).cut _ _ _), hH.noT⟩
        · subst hb
          refine wpo_skip rfl rfl rfl ?_
          refine wpo_mv (a := (eB false)) rfl rfl rfl (o_pick_f tk rfl rfl (Wk.refl _)) ?_
          refine wpo_mv (a := (eB false)) rfl rfl rfl (o_mv tk rfl (Wk.refl _)) ?_
          refine wpo_skip rfl rfl rfl ?_
          refine wpo_skip rfl rfl rfl ?_
          refine wpo_skip rfl rfl rfl ?_
          refine wpo_mv (a := (eB false)) rfl rfl rfl (o_pick_f tk rfl rfl (Wk.refl _)) ?_
          refine wpo_mv (a := (eB false)) rfl rfl rfl (o_mv tk rfl (Wk.refl _)) ?_
          refine wpo_skip rfl rfl rfl ?_
          refine wpo_skip rfl rfl rfl ?_
          refine wpo_mv (a := (eB false)) rfl rfl rfl (o_pick_f tk rfl rfl (Wk.refl _)) ?_
          refine wpo_mv (a := (eB false)) rfl rfl rfl (o_mv tk rfl (Wk.refl _)) ?_
          refine wpo_skip rfl rfl rfl ?_
          refine wpo_skip rfl rfl rfl ?_
          refine wpo_skip rfl rfl rfl ?_
          refine wpo_skip rfl rfl rfl ?_
          refine wpo_mv (a := (eB false)) rfl rfl rfl (o_pick_f tk rfl rfl (Wk.refl _)) ?_
          refine wpo_mv (a := (eB false)) rfl rfl rfl (o_as tk rfl (Wk.refl _)) ?_
          refine wpo_nil ?_
          refine awp_ret ?_
          obtain rfl := Option.some.inj H22
          exact ⟨_, (eB false), rfl, (.of_eq rfl), .of_eq ((enc_b td4 sz4).cut _ _ _), hH.noT⟩
      · subst hb
        refine wpo_skip rfl rfl rfl ?_
        refine wpo_skip rfl rfl rfl ?_
        refine wpo_mv (a := (eB false)) rfl rfl rfl (o_pick_f tk rfl rfl (Wk.refl _)) ?_
        refine wpo_mv (a := (eB false)) rfl rfl rfl (o_mv tk rfl (Wk.refl _)) ?_
        refine wpo_skip rfl rfl rfl ?_
        refine wpo_mv (a := (eB false)) rfl rfl rfl (o_pick_f tk rfl rfl (Wk.refl _)) ?_
        refine wpo_mv (a := (eB false)) rfl rfl rfl (o_mv tk rfl (Wk.refl _)) ?_
        refine wpo_skip rfl rfl rfl ?_
        refine wpo_skip rfl rfl rfl ?_
        refine wpo_skip rfl rfl rfl ?_
        refine wpo_mv (a := (eB false)) rfl rfl rfl (o_pick_f tk rfl rfl (Wk.refl _)) ?_
        refine wpo_mv (a := (eB false)) rfl rfl rfl (o_mv tk rfl (Wk.refl _)) ?_
        refine wpo_skip rfl rfl rfl ?_
        refine wpo_skip rfl rfl rfl ?_
        refine wpo_mv (a := (eB false)) rfl rfl rfl (o_pick_f tk rfl rfl (Wk.refl _)) ?_
        refine wpo_mv (a := (eB false)) rfl rfl rfl (o_mv tk rfl (Wk.refl _)) ?_
        refine wpo_skip rfl rfl rfl ?_
        refine wpo_skip rfl rfl rfl ?_
        refine wpo_skip rfl rfl rfl ?_
        refine wpo_skip rfl rfl rfl ?_
        refine wpo_mv (a := (eB false)) rfl rfl rfl (o_pick_f tk rfl rfl (Wk.refl _)) ?_
        refine wpo_mv (a := (eB false)) rfl rfl rfl (o_as tk rfl (Wk.refl _)) ?_
        refine wpo_nil ?_
        refine awp_ret ?_
        obtain rfl := Option.some.inj H19
        exact ⟨_, (eB false), rfl, (.of_eq rfl), .of_eq ((enc_b td4 sz4).cut _ _ _), hH.noT⟩
    · subst hb
      refine wpo_skip rfl rfl rfl ?_
      refine wpo_skip rfl rfl rfl ?_
      refine wpo_skip rfl rfl rfl ?_
      refine wpo_mv (a := (eB false)) rfl rfl rfl (o_pick_f tk rfl rfl (Wk.refl _)) ?_
      refine wpo_mv (a := (eB false)) rfl rfl rfl (o_mv tk rfl (Wk.refl _)) ?_
      refine wpo_skip rfl rfl rfl ?_
      refine wpo_skip rfl rfl rfl ?_
      refine wpo_mv (a := (eB false)) rfl rfl rfl (o_pick_f tk rfl rfl (Wk.refl _)) ?_
      refine wpo_mv (a := (eB false)) rfl rfl rfl (o_mv tk rfl (Wk.refl _)) ?_
      refine wpo_skip rfl rfl rfl ?_
      refine wpo_mv (a := (eB false)) rfl rfl rfl (o_pick_f tk rfl rfl (Wk.refl _)) ?_
      refine wpo_mv (a := (eB false)) rfl rfl rfl (o_mv tk rfl (Wk.refl _)) ?_
      refine wpo_skip rfl rfl rfl ?_
      refine wpo_skip rfl rfl rfl ?_
      refine wpo_skip rfl rfl rfl ?_
      refine wpo_mv (a := (eB false)) rfl rfl rfl (o_pick_f tk rfl rfl (Wk.refl _)) ?_
      refine wpo_mv (a := (eB false)) rfl rfl rfl (o_mv tk rfl (Wk.refl _)) ?_
      refine wpo_skip rfl rfl rfl ?_
      refine wpo_skip rfl rfl rfl ?_
      refine wpo_mv (a := (eB false)) rfl rfl rfl (o_pick_f tk rfl rfl (Wk.refl _)) ?_
      refine wpo_mv (a := (eB false)) rfl rfl rfl (o_mv tk rfl (Wk.refl _)) ?_
      refine wpo_skip rfl rfl rfl ?_
      refine wpo_skip rfl rfl rfl ?_
      refine wpo_skip rfl rfl rfl ?_
      refine wpo_skip rfl rfl rfl ?_
      refine wpo_mv (a := (eB false)) rfl rfl rfl (o_pick_f tk rfl rfl (Wk.refl _)) ?_
      refine wpo_mv (a := (eB false)) rfl rfl rfl (o_as tk rfl (Wk.refl _)) ?_
      refine wpo_nil ?_
      refine awp_ret ?_
      obtain rfl := Option.some.inj H14
      exact ⟨_, (eB false), rfl, (.of_eq rfl), .of_eq ((enc_b td4 sz4).cut _ _ _), hH.noT⟩
  · subst hb
    refine wpo_skip rfl rfl rfl ?_
    refine wpo_skip rfl rfl rfl ?_
    refine wpo_mv (a := (eB false)) rfl rfl rfl (o_pick_f tk rfl rfl (Wk.refl _)) ?_
    refine wpo_mv (a := (eB false)) rfl rfl rfl (o_mv tk rfl (Wk.refl _)) ?_
    refine wpo_skip rfl rfl rfl ?_
    refine wpo_skip rfl rfl rfl ?_
    refine wpo_skip rfl rfl rfl ?_
    refine wpo_mv (a := (eB false)) rfl rfl rfl (o_pick_f tk rfl rfl (Wk.refl _)) ?_
    refine wpo_mv (a := (eB false)) rfl rfl rfl (o_mv tk rfl (Wk.refl _)) ?_
    refine wpo_skip rfl rfl rfl ?_
    refine wpo_skip rfl rfl rfl ?_
    refine wpo_mv (a := (eB false)) rfl rfl rfl (o_pick_f tk rfl rfl (Wk.refl _)) ?_
    refine wpo_mv (a := (eB false)) rfl rfl rfl (o_mv tk rfl (Wk.refl _)) ?_
    refine wpo_skip rfl rfl rfl ?_
    refine wpo_mv (a := (eB false)) rfl rfl rfl (o_pick_f tk rfl rfl (Wk.refl _)) ?_
    refine wpo_mv (a := (eB false)) rfl rfl rfl (o_mv tk rfl (Wk.refl _)) ?_
    refine wpo_skip rfl rfl rfl ?_
    refine wpo_skip rfl rfl rfl ?_
    refine wpo_skip rfl rfl rfl ?_
    refine wpo_mv (a := (eB false)) rfl rfl rfl (o_pick_f tk rfl rfl (Wk.refl _)) ?_
    refine wpo_mv (a := (eB false)) rfl rfl rfl (o_mv tk rfl (Wk.refl _)) ?_
    refine wpo_skip rfl rfl rfl ?_
    refine wpo_skip rfl rfl rfl ?_
    refine wpo_mv (a := (eB false)) rfl rfl rfl (o_pick_f tk rfl rfl (Wk.refl _)) ?_
    refine wpo_mv (a := (eB false)) rfl rfl rfl (o_mv tk rfl (Wk.refl _)) ?_
    refine wpo_skip rfl rfl rfl ?_
    refine wpo_skip rfl rfl rfl ?_
    refine wpo_skip rfl rfl rfl ?_
    refine wpo_skip rfl rfl rfl ?_
    refine wpo_mv (a := (eB false)) rfl rfl rfl (o_pick_f tk rfl rfl (Wk.refl _)) ?_
    refine wpo_mv (a := (eB false)) rfl rfl rfl (o_as tk rfl (Wk.refl _)) ?_
    refine wpo_nil ?_
    refine awp_ret ?_
    obtain rfl := Option.some.inj H11
    exact ⟨_, (eB false), rfl, (.of_eq rfl), .of_eq ((enc_b td4 sz4).cut _ _ _), hH.noT⟩
end Go.Proofs.YtekldjimdmkgaaaDoor
namespace Go.Proofs.YtekldjimdmkgaaaDoor
open Go Go.Va
set_option linter.unusedVariables false
set_option linter.unusedSimpArgs false
set_option maxRecDepth 20000
theorem butteryref01_Fault_ok {x0 : List (BitVec 8)} {x1 : Int} {x2 : Int} {r : (List api_Step)} (H : butteryref01_Fault x0 x1 x2 = some r) (σ : St)  : ACall Tryd.prog 8 [(eS x0), (eI x1), (eI x2)] σ (fun a τ => a = (eL 3 e_api_Step) r ∧ τ = σ) := by
  unfold butteryref01_Fault at H
  refine ACall.pure (acall_start tk Tryd.func8 (by decide) rfl (Nat.le_of_ble_eq_true rfl) ?_)
  have hH := Holds.init σ
  refine awp_seq ?_
  refine awp_region rfl ?_
  refine wpo_mv (a := AV.nils) rfl rfl rfl (o_as tk rfl (Wk.refl _)) ?_
  refine wpo_nil ?_
  refine awp_seq ?_
  refine awp_seq ?_
  refine awp_region rfl ?_
  refine wpo_mv (a := (eI x2)) rfl rfl rfl (o_mv tk rfl (Wk.refl _)) ?_
  refine wpo_lt H eB rfl rfl rfl (o_ar tk rfl rfl rfl) fun v2 H1 => ?_
  refine wpo_nil ?_
  refine awp_if H1 rfl (fun H3 => ?_) (fun H3 => ?_)
  · refine awp_seq ?_
    refine awp_region rfl ?_
    refine wpo_mv (a := AV.nils) rfl rfl rfl (o_as tk rfl (Wk.refl _)) ?_
    refine wpo_nil ?_
    refine awp_ret ?_
    obtain rfl := Option.some.inj H3
    exact ⟨_, ((eL 3 e_api_Step) []), rfl, (wk_nils _), .of_eq ((enc_l td23 sz23 enc32.cut).cut _ _ _), hH.noT⟩
  · refine awp_skip ?_
    refine awp_seq ?_
    refine awp_region rfl ?_
    refine wpo_mv (a := (eS x0)) rfl rfl rfl (o_mv tk rfl (Wk.refl _)) ?_
    refine wpo_mv (a := (eI x1)) rfl rfl rfl (o_mv tk rfl (Wk.refl _)) ?_
    refine wpo_mv (a := (eI x2)) rfl rfl rfl (o_mv tk rfl (Wk.refl _)) ?_
    refine wpo_lt H3 e_api_Step rfl rfl rfl (o_c tk false rfl (fun _ => rfl)) fun v5 H4 => ?_
    refine wpo_lt H4 (eF 3 e_api_Step) rfl rfl rfl (o_c tk false rfl (fun _ => rfl)) fun v7 H6 => ?_
    refine wpo_mv (a := (eF 3 e_api_Step v7)) rfl rfl rfl (o_as tk rfl (Wk.refl _)) ?_
    refine wpo_nil ?_
    refine awp_ret ?_
    obtain rfl := Option.some.inj H6
    exact ⟨_, ((eL 3 e_api_Step) v7), rfl, wk_no, .of_eq ((enc_l td23 sz23 enc32.cut).cut _ _ _), hH.noT⟩
end Go.Proofs.YtekldjimdmkgaaaDoor
namespace Go.Proofs.YtekldjimdmkgaaaDoor
open Go Go.Va
set_option linter.unusedSimpArgs false
theorem stu32 : Tryd.prog.underlying 32 = some (.struct (Tryd.prog.fieldsOf 32)) := by simp only [Program.fieldsOf, Tryd.underlying32]
theorem sth32 : Tryd.prog.stoodInHeld 32 = false := by kernel_rfl
theorem stm32 : Tryd.prog.eqGuardType Tryd.prog.depth 32 = false := by kernel_rfl
theorem eqst32 (x y : api_Step) : eqCells Tryd.prog (Tryd.prog.fieldsOf 32).toList (c_api_Step x) (c_api_Step y) = some (x == y) := by
  obtain ⟨x0, x1, x2⟩ := x
  obtain ⟨y0, y1, y2⟩ := y
  simp only [Program.fieldsOf, Tryd.underlying32]
  simp [eqCells, c_api_Step, eU, eI, eB, eS, eK, mkB_inj, Tryd.underlying22, Tryd.underlying3, Tryd.underlying9]
  repeat' split
  all_goals simp_all [← BitVec.toNat_inj, Int.natCast_inj]
end Go.Proofs.YtekldjimdmkgaaaDoor
namespace Go.Proofs.YtekldjimdmkgaaaDoor
open Go Go.Va
set_option linter.unusedVariables false
set_option linter.unusedSimpArgs false
set_option maxRecDepth 20000
theorem butteryref01_Same_ok {x0 : List api_Step} {x1 : List api_Step} {r : Bool} (H : butteryref01_Same x0 x1 = some r) (σ : St)  : ACall Tryd.prog 9 [((eL 3 e_api_Step) x0), ((eL 3 e_api_Step) x1)] σ (fun a τ => a = eB r ∧ τ = σ) := by
  unfold butteryref01_Same at H
  refine ACall.pure (acall_start tk Tryd.func9 (by decide) rfl (Nat.le_of_ble_eq_true rfl) ?_)
  have hH := Holds.init σ
  refine awp_seq ?_
  refine awp_region rfl ?_
  refine wpo_mv (a := (eB false)) rfl rfl rfl (o_as tk rfl (Wk.refl _)) ?_
  refine wpo_nil ?_
  refine awp_seq ?_
  refine awp_seq ?_
  refine awp_region rfl ?_
  refine wpo_mv (a := ((eL 3 e_api_Step) x0)) rfl rfl rfl (o_mv tk rfl (Wk.refl _)) ?_
  refine wpo_lt H eI rfl rfl rfl (o_len tk td23 rfl) fun v2 H1 => ?_
  refine wpo_mv (a := ((eL 3 e_api_Step) x1)) rfl rfl rfl (o_mv tk rfl (Wk.refl _)) ?_
  refine wpo_lt H1 eI rfl rfl rfl (o_len tk td23 rfl) fun v4 H3 => ?_
  refine wpo_lt H3 eB rfl rfl rfl (o_ar tk rfl rfl rfl) fun v6 H5 => ?_
  refine wpo_nil ?_
  refine awp_if H5 rfl (fun H7 => ?_) (fun H7 => ?_)
  · refine awp_seq ?_
    refine awp_region rfl ?_
    refine wpo_mv (a := (eB false)) rfl rfl rfl (o_as tk rfl (Wk.refl _)) ?_
    refine wpo_nil ?_
    refine awp_ret ?_
    obtain rfl := Option.some.inj H7
    exact ⟨_, (eB false), rfl, (.of_eq rfl), .of_eq ((enc_b td4 sz4).cut _ _ _), hH.noT⟩
  · refine awp_skip ?_
    refine awp_seq ?_
    refine awp_seq ?_
    refine awp_region rfl ?_
    refine wpo_mv (a := (eI (0 : Int))) rfl rfl rfl (o_as tk rfl (Wk.refl _)) ?_
    refine wpo_nil ?_
    refine awp_block ?_
    obtain ⟨o9, hs10, hj11⟩ := Option.bind_eq_some_iff.1 H7
    refine awp_cutx 0 (fun fr τ => ∃ s16 : Unit, o9 = .inl s16 ∧ WkF fr (fm []) ∧ Holds σ [] [] τ) ?_ ?_
    · rintro fr τ ⟨s16, rfl, hfr, hH⟩
      have H33 := hj11
      simp only [Sum.elim_inl] at H33
      refine AWP.fm [] hfr ?_
      refine awp_seq ?_
      refine awp_region rfl ?_
      refine wpo_mv (a := (eB true)) rfl rfl rfl (o_as tk rfl (Wk.refl _)) ?_
      refine wpo_nil ?_
      refine awp_ret ?_
      obtain rfl := Option.some.inj H33
      exact ⟨_, (eB true), rfl, (.of_eq rfl), .of_eq ((enc_b td4 sz4).cut _ _ _), hH.noT⟩
    · refine awp_loopO (body := fun s => butteryref01_Same_b0 x0 x1 s) hs10 (fun (s : Int) fr τ => WkF fr (fm [(0, ((eL 3 e_api_Step) x0)), (1, ((eL 3 e_api_Step) x1)), (5, (eI s))]) ∧ Holds σ [] [] τ) ⟨(wkf_cons (.of_eq rfl) (wkf_cons (.of_eq rfl) (wkf_cons (.of_eq rfl) (wkf_nil _)))), hH⟩ ?_
      rintro c8 fr τ y12 ⟨hfr, hH⟩ hb14 hy15
      have H17 : butteryref01_Same_b0 x0 x1 c8 = some y12 := hb14
      unfold butteryref01_Same_b0 at H17
      refine AWP.fm [(0, ((eL 3 e_api_Step) x0)), (1, ((eL 3 e_api_Step) x1)), (5, (eI c8))] hfr ?_
      have hH : Holds σ [] [] τ := hH
      refine awp_seq ?_
      refine awp_seq ?_
      refine awp_region rfl ?_
      refine wpo_mv (a := (eI c8)) rfl rfl rfl (o_mv tk rfl (Wk.refl _)) ?_
      refine wpo_mv (a := ((eL 3 e_api_Step) x0)) rfl rfl rfl (o_mv tk rfl (Wk.refl _)) ?_
      refine wpo_lt H17 eI rfl rfl rfl (o_len tk td23 rfl) fun v19 H18 => ?_
      refine wpo_lt H18 eB rfl rfl rfl (o_ar tk rfl rfl rfl) fun v21 H20 => ?_
      refine wpo_nil ?_
      refine awp_if H20 rfl (fun H22 => ?_) (fun H22 => ?_)
      · refine awp_skip ?_
        refine awp_seq ?_
        refine awp_block ?_
        refine awp_seq ?_
        refine awp_drawS mixed [] rfl (by decide +kernel) rfl rfl ?_
        refine wpdS_mv (a := ((eL 3 e_api_Step) x0)) rfl rfl rfl (o_mv tk rfl (Wk.refl _)) ?_
        refine wpdS_mv (a := (eI c8)) rfl rfl rfl (o_mv tk rfl (Wk.refl _)) ?_
        refine wpdS_bd H22 (fun y => .fptr (e_api_Step y).cells 0) rfl rfl rfl (fun v24 hv => o_ixa tk hv td23 enc32 rfl rfl) fun v24 hv24 H23 => ?_
        refine wpdS_mv (a := (e_api_Step v24)) rfl rfl rfl (o_ld_e tk enc32 rfl rfl) ?_
        refine wpdS_mv (a := ((eL 3 e_api_Step) x1)) rfl rfl rfl (o_mv tk rfl (Wk.refl _)) ?_
        refine wpdS_mv (a := (eI c8)) rfl rfl rfl (o_mv tk rfl (Wk.refl _)) ?_
        refine wpdS_bd H23 (fun y => .fptr (e_api_Step y).cells 0) rfl rfl rfl (fun v26 hv => o_ixa tk hv td23 enc32 rfl rfl) fun v26 hv26 H25 => ?_
        refine wpdS_mv (a := (e_api_Step v26)) rfl rfl rfl (o_ld_e tk enc32 rfl rfl) ?_
        refine wpdS_lt H25 eB rfl rfl rfl (o_neq_st stu32 sth32 stm32 (eqst32 _ _) rfl rfl) fun v28 H27 => ?_
        refine wpdS_nil ?_
        refine awp_if H27 rfl (fun H29 => ?_) (fun H29 => ?_)
        · refine awp_seq ?_
          refine awp_region rfl ?_
          refine wpo_mv (a := (eB false)) rfl rfl rfl (o_as tk rfl (Wk.refl _)) ?_
          refine wpo_nil ?_
          refine awp_ret ?_
          have hz := hy15 _ (inj_inr H29)
          refine ⟨⟨_, inj_inr H29⟩, ?_⟩
          rw [← hz] at hj11
          have H30 := (show some _ = some _ from hj11)
          obtain rfl := Option.some.inj H30
          exact ⟨_, (eB false), rfl, (.of_eq rfl), .of_eq ((enc_b td4 sz4).cut _ _ _), hH.noT⟩
        · refine awp_skip ?_
          refine awp_region rfl ?_
          refine wpo_mv (a := (eI c8)) rfl rfl rfl (o_mv tk rfl (Wk.refl _)) ?_
          refine wpo_lt H29 eI rfl rfl rfl (o_ar tk rfl rfl rfl) fun v32 H31 => ?_
          refine wpo_mv (a := (eI v32)) rfl rfl rfl (o_as tk rfl (Wk.refl _)) ?_
          refine wpo_nil ?_
          exact ⟨v32, inj_inl H31, (wkf_cons (.of_eq rfl) (wkf_cons (.of_eq rfl) (wkf_cons (.of_eq rfl) (wkf_nil _)))), hH⟩
      · refine awp_exit ?_
        have hz := hy15 _ (inj_inr H22)
        exact ⟨⟨_, inj_inr H22⟩, (), hz.symm, (wkf_nil _), hH⟩
end Go.Proofs.YtekldjimdmkgaaaDoor
