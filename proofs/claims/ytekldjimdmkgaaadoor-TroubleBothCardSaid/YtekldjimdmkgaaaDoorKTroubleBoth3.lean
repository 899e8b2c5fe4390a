/- TWO FAULTS TOGETHER ARE OF THE CODES OF BOTH: and of no others; with none it is the other one. (part 3 of 5) -/
import Derived.Test.YtekldjimdmkgaaaDoorKTroubleBoth2
import Derived.KernelRfl
import Derived.LaidEql
import Derived.RowKitTokens
import Derived.Stop.Asserts
import Derived.Test.YtekldjimdmkgaaaDoorProg
import Derived.WalkKit
namespace Go.Proofs.YtekldjimdmkgaaaDoor
open Go Go.Va
set_option linter.unusedSimpArgs false
def ty : TypeId → Option TI
  | 1 => some ⟨.func, 1, 8, .nilf⟩
  | 2 => some ⟨.int .i64, 1, 8, .int .i64 0⟩
  | 3 => some ⟨.int .i64, 1, 8, .int .i64 0⟩
  | 4 => some ⟨.bool, 1, 1, .bool false⟩
  | 5 => some ⟨.int .u8, 1, 1, .int .u8 0⟩
  | 6 => some ⟨.int .u8, 1, 1, .int .u8 0⟩
  | 7 => some ⟨.struct [(0, 2), (1, 3), (2, 4), (3, 6)], 4, 24, .agg [.int .i64 0, .int .i64 0, .bool false, .int .u8 0]⟩
  | 8 => some ⟨.struct [(0, 2), (1, 3), (2, 4), (3, 6)], 4, 24, .agg [.int .i64 0, .int .i64 0, .bool false, .int .u8 0]⟩
  | 9 => some ⟨.str, 1, 16, .str ⟨#[]⟩⟩
  | 10 => some ⟨.str, 1, 16, .str ⟨#[]⟩⟩
  | 11 => some ⟨.str, 1, 16, .str ⟨#[]⟩⟩
  | 12 => some ⟨.int .u64, 1, 8, .int .u64 0⟩
  | 13 => some ⟨.struct [(0, 9), (1, 12)], 2, 24, .agg [.str ⟨#[]⟩, .int .u64 0]⟩
  | 14 => some ⟨.struct [(0, 9), (1, 12)], 2, 24, .agg [.str ⟨#[]⟩, .int .u64 0]⟩
  | 15 => some ⟨.ptr 95, 1, 8, .nilp⟩
  | 16 => some ⟨.ptr 98, 1, 8, .nilp⟩
  | 17 => some ⟨.ptr 108, 1, 8, .nilp⟩
  | 18 => some ⟨.struct [(0, 17)], 1, 8, .agg [.nilp]⟩
  | 19 => some ⟨.struct [(0, 17)], 1, 8, .agg [.nilp]⟩
  | 20 => some ⟨.iface, 1, 16, .nili⟩
  | 21 => some ⟨.int .i32, 1, 4, .int .i32 0⟩
  | 22 => some ⟨.int .i64, 1, 8, .int .i64 0⟩
  | 23 => some ⟨.slice 32, 1, 24, .nils⟩
  | 24 => some ⟨.iface, 1, 16, .nili⟩
  | 25 => some ⟨.iface, 1, 16, .nili⟩
  | 26 => some ⟨.func, 1, 8, .nilf⟩
  | 27 => some ⟨.func, 1, 8, .nilf⟩
  | 28 => some ⟨.func, 1, 8, .nilf⟩
  | 29 => some ⟨.func, 1, 8, .nilf⟩
  | 30 => some ⟨.func, 1, 8, .nilf⟩
  | 31 => some ⟨.struct [(0, 9), (1, 3), (2, 22)], 3, 32, .agg [.str ⟨#[]⟩, .int .i64 0, .int .i64 0]⟩
  | 32 => some ⟨.struct [(0, 9), (1, 3), (2, 22)], 3, 32, .agg [.str ⟨#[]⟩, .int .i64 0, .int .i64 0]⟩
  | 33 => some ⟨.func, 1, 8, .nilf⟩
  | 35 => some ⟨.func, 1, 8, .nilf⟩
  | 36 => some ⟨.func, 1, 8, .nilf⟩
  | 37 => some ⟨.func, 1, 8, .nilf⟩
  | 38 => some ⟨.func, 1, 8, .nilf⟩
  | 39 => some ⟨.func, 1, 8, .nilf⟩
  | 40 => some ⟨.func, 1, 8, .nilf⟩
  | 41 => some ⟨.func, 1, 8, .nilf⟩
  | 43 => some ⟨.func, 1, 8, .nilf⟩
  | 44 => some ⟨.func, 1, 8, .nilf⟩
  | 45 => some ⟨.func, 1, 8, .nilf⟩
  | 46 => some ⟨.func, 1, 8, .nilf⟩
  | 47 => some ⟨.func, 1, 8, .nilf⟩
  | 48 => some ⟨.func, 1, 8, .nilf⟩
  | 49 => some ⟨.func, 1, 8, .nilf⟩
  | 50 => some ⟨.ptr 52, 1, 8, .nilp⟩
  | 51 => some ⟨.struct [(0, 9), (1, 3), (2, 22), (3, 25)], 4, 48, .agg [.str ⟨#[]⟩, .int .i64 0, .int .i64 0, .nili]⟩
  | 52 => some ⟨.struct [(0, 9), (1, 3), (2, 22), (3, 25)], 4, 48, .agg [.str ⟨#[]⟩, .int .i64 0, .int .i64 0, .nili]⟩
  | 53 => some ⟨.func, 1, 8, .nilf⟩
  | 54 => some ⟨.ptr 50, 1, 8, .nilp⟩
  | 55 => some ⟨.func, 1, 8, .nilf⟩
  | 56 => some ⟨.func, 1, 8, .nilf⟩
  | 57 => some ⟨.struct [(0, 22)], 1, 8, .agg [.int .i64 0]⟩
  | 58 => some ⟨.struct [(0, 22)], 1, 8, .agg [.int .i64 0]⟩
  | 59 => some ⟨.func, 1, 8, .nilf⟩
  | 61 => some ⟨.int .u64, 1, 8, .int .u64 0⟩
  | 64 => some ⟨.func, 1, 8, .nilf⟩
  | 65 => some ⟨.iface, 1, 16, .nili⟩
  | 66 => some ⟨.iface, 1, 16, .nili⟩
  | 67 => some ⟨.func, 1, 8, .nilf⟩
  | 68 => some ⟨.int .u8, 1, 1, .int .u8 0⟩
  | 69 => some ⟨.func, 1, 8, .nilf⟩
  | 70 => some ⟨.func, 1, 8, .nilf⟩
  | 71 => some ⟨.func, 1, 8, .nilf⟩
  | 73 => some ⟨.func, 1, 8, .nilf⟩
  | 74 => some ⟨.slice 25, 1, 24, .nils⟩
  | 75 => some ⟨.ptr 77, 1, 8, .nilp⟩
  | 76 => some ⟨.struct [(0, 74)], 1, 24, .agg [.nils]⟩
  | 77 => some ⟨.struct [(0, 74)], 1, 24, .agg [.nils]⟩
  | 78 => some ⟨.struct [(0, 17)], 1, 8, .agg [.nilp]⟩
  | 79 => some ⟨.struct [(0, 17)], 1, 8, .agg [.nilp]⟩
  | 82 => some ⟨.func, 1, 8, .nilf⟩
  | 83 => some ⟨.iface, 1, 16, .nili⟩
  | 85 => some ⟨.func, 1, 8, .nilf⟩
  | 86 => some ⟨.iface, 1, 16, .nili⟩
  | 88 => some ⟨.iface, 1, 16, .nili⟩
  | 89 => some ⟨.func, 1, 8, .nilf⟩
  | 90 => some ⟨.iface, 1, 16, .nili⟩
  | 92 => some ⟨.func, 1, 8, .nilf⟩
  | 93 => some ⟨.func, 1, 8, .nilf⟩
  | 99 => some ⟨.func, 1, 8, .nilf⟩
  | 100 => some ⟨.func, 1, 8, .nilf⟩
  | 101 => some ⟨.int .u32, 1, 4, .int .u32 0⟩
  | 102 => some ⟨.int .u8, 1, 1, .int .u8 0⟩
  | 103 => some ⟨.func, 1, 8, .nilf⟩
  | 105 => some ⟨.int .i32, 1, 4, .int .i32 0⟩
  | 106 => some ⟨.int .i32, 1, 4, .int .i32 0⟩
  | 107 => some ⟨.struct [(0, 12), (1, 12), (2, 101), (3, 102), (4, 5), (5, 5), (6, 68), (7, 103), (8, 104), (9, 105), (10, 106)], 11, 48, .agg [.int .u64 0, .int .u64 0, .int .u32 0, .int .u8 0, .int .u8 0, .int .u8 0, .int .u8 0, .nilf, .nilp, .int .i32 0, .int .i32 0]⟩
  | 110 => some ⟨.func, 1, 8, .nilf⟩
  | 111 => some ⟨.func, 1, 8, .nilf⟩
  | 112 => some ⟨.struct [(0, 9), (1, 68)], 2, 24, .agg [.str ⟨#[]⟩, .int .u8 0]⟩
  | 113 => some ⟨.struct [(0, 9), (1, 68)], 2, 24, .agg [.str ⟨#[]⟩, .int .u8 0]⟩
  | 114 => some ⟨.ptr 118, 1, 8, .nilp⟩
  | 115 => some ⟨.func, 1, 8, .nilf⟩
  | 116 => some ⟨.int .u16, 1, 2, .int .u16 0⟩
  | 118 => some ⟨.struct [(0, 105), (1, 116), (2, 116), (3, 101), (4, 101)], 5, 16, .agg [.int .i32 0, .int .u16 0, .int .u16 0, .int .u32 0, .int .u32 0]⟩
  | 119 => some ⟨.slice 122, 1, 24, .nils⟩
  | 120 => some ⟨.int .i32, 1, 4, .int .i32 0⟩
  | 121 => some ⟨.struct [(0, 105), (1, 106), (2, 120), (3, 120)], 4, 16, .agg [.int .i32 0, .int .i32 0, .int .i32 0, .int .i32 0]⟩
  | 122 => some ⟨.struct [(0, 105), (1, 106), (2, 120), (3, 120)], 4, 16, .agg [.int .i32 0, .int .i32 0, .int .i32 0, .int .i32 0]⟩
  | _ => none
theorem ty1 : ty 1 = some ⟨.func, 1, 8, .nilf⟩ := rfl
theorem td1 : tdOf ty 1 = .func := rfl
theorem sz1 : szOf ty 1 = 1 := rfl
theorem ty2 : ty 2 = some ⟨.int .i64, 1, 8, .int .i64 0⟩ := rfl
theorem td2 : tdOf ty 2 = .int .i64 := rfl
theorem sz2 : szOf ty 2 = 1 := rfl
theorem ty3 : ty 3 = some ⟨.int .i64, 1, 8, .int .i64 0⟩ := rfl
theorem td3 : tdOf ty 3 = .int .i64 := rfl
theorem sz3 : szOf ty 3 = 1 := rfl
theorem ty4 : ty 4 = some ⟨.bool, 1, 1, .bool false⟩ := rfl
theorem td4 : tdOf ty 4 = .bool := rfl
theorem sz4 : szOf ty 4 = 1 := rfl
theorem ty5 : ty 5 = some ⟨.int .u8, 1, 1, .int .u8 0⟩ := rfl
theorem td5 : tdOf ty 5 = .int .u8 := rfl
theorem sz5 : szOf ty 5 = 1 := rfl
theorem ty6 : ty 6 = some ⟨.int .u8, 1, 1, .int .u8 0⟩ := rfl
theorem td6 : tdOf ty 6 = .int .u8 := rfl
theorem sz6 : szOf ty 6 = 1 := rfl
theorem ty7 : ty 7 = some ⟨.struct [(0, 2), (1, 3), (2, 4), (3, 6)], 4, 24, .agg [.int .i64 0, .int .i64 0, .bool false, .int .u8 0]⟩ := rfl
theorem td7 : tdOf ty 7 = .struct [(0, 2), (1, 3), (2, 4), (3, 6)] := rfl
theorem sz7 : szOf ty 7 = 4 := rfl
theorem ty8 : ty 8 = some ⟨.struct [(0, 2), (1, 3), (2, 4), (3, 6)], 4, 24, .agg [.int .i64 0, .int .i64 0, .bool false, .int .u8 0]⟩ := rfl
theorem td8 : tdOf ty 8 = .struct [(0, 2), (1, 3), (2, 4), (3, 6)] := rfl
theorem sz8 : szOf ty 8 = 4 := rfl
theorem ty9 : ty 9 = some ⟨.str, 1, 16, .str ⟨#[]⟩⟩ := rfl
theorem td9 : tdOf ty 9 = .str := rfl
theorem sz9 : szOf ty 9 = 1 := rfl
theorem ty10 : ty 10 = some ⟨.str, 1, 16, .str ⟨#[]⟩⟩ := rfl
theorem td10 : tdOf ty 10 = .str := rfl
theorem sz10 : szOf ty 10 = 1 := rfl
theorem ty11 : ty 11 = some ⟨.str, 1, 16, .str ⟨#[]⟩⟩ := rfl
theorem td11 : tdOf ty 11 = .str := rfl
theorem sz11 : szOf ty 11 = 1 := rfl
theorem ty12 : ty 12 = some ⟨.int .u64, 1, 8, .int .u64 0⟩ := rfl
theorem td12 : tdOf ty 12 = .int .u64 := rfl
theorem sz12 : szOf ty 12 = 1 := rfl
theorem ty13 : ty 13 = some ⟨.struct [(0, 9), (1, 12)], 2, 24, .agg [.str ⟨#[]⟩, .int .u64 0]⟩ := rfl
theorem td13 : tdOf ty 13 = .struct [(0, 9), (1, 12)] := rfl
theorem sz13 : szOf ty 13 = 2 := rfl
theorem ty14 : ty 14 = some ⟨.struct [(0, 9), (1, 12)], 2, 24, .agg [.str ⟨#[]⟩, .int .u64 0]⟩ := rfl
theorem td14 : tdOf ty 14 = .struct [(0, 9), (1, 12)] := rfl
theorem sz14 : szOf ty 14 = 2 := rfl
theorem ty15 : ty 15 = some ⟨.ptr 95, 1, 8, .nilp⟩ := rfl
theorem td15 : tdOf ty 15 = .ptr 95 := rfl
theorem sz15 : szOf ty 15 = 1 := rfl
theorem ty16 : ty 16 = some ⟨.ptr 98, 1, 8, .nilp⟩ := rfl
theorem td16 : tdOf ty 16 = .ptr 98 := rfl
theorem sz16 : szOf ty 16 = 1 := rfl
theorem ty17 : ty 17 = some ⟨.ptr 108, 1, 8, .nilp⟩ := rfl
theorem td17 : tdOf ty 17 = .ptr 108 := rfl
theorem sz17 : szOf ty 17 = 1 := rfl
theorem ty18 : ty 18 = some ⟨.struct [(0, 17)], 1, 8, .agg [.nilp]⟩ := rfl
theorem td18 : tdOf ty 18 = .struct [(0, 17)] := rfl
theorem sz18 : szOf ty 18 = 1 := rfl
theorem ty19 : ty 19 = some ⟨.struct [(0, 17)], 1, 8, .agg [.nilp]⟩ := rfl
theorem td19 : tdOf ty 19 = .struct [(0, 17)] := rfl
theorem sz19 : szOf ty 19 = 1 := rfl
theorem ty20 : ty 20 = some ⟨.iface, 1, 16, .nili⟩ := rfl
theorem td20 : tdOf ty 20 = .iface := rfl
theorem sz20 : szOf ty 20 = 1 := rfl
theorem ty21 : ty 21 = some ⟨.int .i32, 1, 4, .int .i32 0⟩ := rfl
theorem td21 : tdOf ty 21 = .int .i32 := rfl
theorem sz21 : szOf ty 21 = 1 := rfl
theorem ty22 : ty 22 = some ⟨.int .i64, 1, 8, .int .i64 0⟩ := rfl
theorem td22 : tdOf ty 22 = .int .i64 := rfl
theorem sz22 : szOf ty 22 = 1 := rfl
theorem ty23 : ty 23 = some ⟨.slice 32, 1, 24, .nils⟩ := rfl
theorem td23 : tdOf ty 23 = .slice 32 := rfl
theorem sz23 : szOf ty 23 = 1 := rfl
theorem ty24 : ty 24 = some ⟨.iface, 1, 16, .nili⟩ := rfl
theorem td24 : tdOf ty 24 = .iface := rfl
theorem sz24 : szOf ty 24 = 1 := rfl
theorem ty25 : ty 25 = some ⟨.iface, 1, 16, .nili⟩ := rfl
theorem td25 : tdOf ty 25 = .iface := rfl
theorem sz25 : szOf ty 25 = 1 := rfl
theorem ty26 : ty 26 = some ⟨.func, 1, 8, .nilf⟩ := rfl
theorem td26 : tdOf ty 26 = .func := rfl
theorem sz26 : szOf ty 26 = 1 := rfl
theorem ty27 : ty 27 = some ⟨.func, 1, 8, .nilf⟩ := rfl
theorem td27 : tdOf ty 27 = .func := rfl
theorem sz27 : szOf ty 27 = 1 := rfl
theorem ty28 : ty 28 = some ⟨.func, 1, 8, .nilf⟩ := rfl
theorem td28 : tdOf ty 28 = .func := rfl
theorem sz28 : szOf ty 28 = 1 := rfl
theorem ty29 : ty 29 = some ⟨.func, 1, 8, .nilf⟩ := rfl
theorem td29 : tdOf ty 29 = .func := rfl
theorem sz29 : szOf ty 29 = 1 := rfl
theorem ty30 : ty 30 = some ⟨.func, 1, 8, .nilf⟩ := rfl
theorem td30 : tdOf ty 30 = .func := rfl
theorem sz30 : szOf ty 30 = 1 := rfl
theorem ty31 : ty 31 = some ⟨.struct [(0, 9), (1, 3), (2, 22)], 3, 32, .agg [.str ⟨#[]⟩, .int .i64 0, .int .i64 0]⟩ := rfl
theorem td31 : tdOf ty 31 = .struct [(0, 9), (1, 3), (2, 22)] := rfl
theorem sz31 : szOf ty 31 = 3 := rfl
theorem ty32 : ty 32 = some ⟨.struct [(0, 9), (1, 3), (2, 22)], 3, 32, .agg [.str ⟨#[]⟩, .int .i64 0, .int .i64 0]⟩ := rfl
theorem td32 : tdOf ty 32 = .struct [(0, 9), (1, 3), (2, 22)] := rfl
theorem sz32 : szOf ty 32 = 3 := rfl
theorem ty33 : ty 33 = some ⟨.func, 1, 8, .nilf⟩ := rfl
theorem td33 : tdOf ty 33 = .func := rfl
theorem sz33 : szOf ty 33 = 1 := rfl
theorem ty35 : ty 35 = some ⟨.func, 1, 8, .nilf⟩ := rfl
theorem td35 : tdOf ty 35 = .func := rfl
theorem sz35 : szOf ty 35 = 1 := rfl
theorem ty36 : ty 36 = some ⟨.func, 1, 8, .nilf⟩ := rfl
theorem td36 : tdOf ty 36 = .func := rfl
theorem sz36 : szOf ty 36 = 1 := rfl
theorem ty37 : ty 37 = some ⟨.func, 1, 8, .nilf⟩ := rfl
theorem td37 : tdOf ty 37 = .func := rfl
theorem sz37 : szOf ty 37 = 1 := rfl
theorem ty38 : ty 38 = some ⟨.func, 1, 8, .nilf⟩ := rfl
theorem td38 : tdOf ty 38 = .func := rfl
theorem sz38 : szOf ty 38 = 1 := rfl
theorem ty39 : ty 39 = some ⟨.func, 1, 8, .nilf⟩ := rfl
theorem td39 : tdOf ty 39 = .func := rfl
theorem sz39 : szOf ty 39 = 1 := rfl
theorem ty40 : ty 40 = some ⟨.func, 1, 8, .nilf⟩ := rfl
theorem td40 : tdOf ty 40 = .func := rfl
theorem sz40 : szOf ty 40 = 1 := rfl
theorem ty41 : ty 41 = some ⟨.func, 1, 8, .nilf⟩ := rfl
theorem td41 : tdOf ty 41 = .func := rfl
theorem sz41 : szOf ty 41 = 1 := rfl
theorem ty43 : ty 43 = some ⟨.func, 1, 8, .nilf⟩ := rfl
theorem td43 : tdOf ty 43 = .func := rfl
theorem sz43 : szOf ty 43 = 1 := rfl
theorem ty44 : ty 44 = some ⟨.func, 1, 8, .nilf⟩ := rfl
theorem td44 : tdOf ty 44 = .func := rfl
theorem sz44 : szOf ty 44 = 1 := rfl
theorem ty45 : ty 45 = some ⟨.func, 1, 8, .nilf⟩ := rfl
theorem td45 : tdOf ty 45 = .func := rfl
theorem sz45 : szOf ty 45 = 1 := rfl
theorem ty46 : ty 46 = some ⟨.func, 1, 8, .nilf⟩ := rfl
theorem td46 : tdOf ty 46 = .func := rfl
theorem sz46 : szOf ty 46 = 1 := rfl
theorem ty47 : ty 47 = some ⟨.func, 1, 8, .nilf⟩ := rfl
theorem td47 : tdOf ty 47 = .func := rfl
theorem sz47 : szOf ty 47 = 1 := rfl
theorem ty48 : ty 48 = some ⟨.func, 1, 8, .nilf⟩ := rfl
theorem td48 : tdOf ty 48 = .func := rfl
theorem sz48 : szOf ty 48 = 1 := rfl
theorem ty49 : ty 49 = some ⟨.func, 1, 8, .nilf⟩ := rfl
theorem td49 : tdOf ty 49 = .func := rfl
theorem sz49 : szOf ty 49 = 1 := rfl
theorem ty50 : ty 50 = some ⟨.ptr 52, 1, 8, .nilp⟩ := rfl
theorem td50 : tdOf ty 50 = .ptr 52 := rfl
theorem sz50 : szOf ty 50 = 1 := rfl
theorem ty51 : ty 51 = some ⟨.struct [(0, 9), (1, 3), (2, 22), (3, 25)], 4, 48, .agg [.str ⟨#[]⟩, .int .i64 0, .int .i64 0, .nili]⟩ := rfl
theorem td51 : tdOf ty 51 = .struct [(0, 9), (1, 3), (2, 22), (3, 25)] := rfl
theorem sz51 : szOf ty 51 = 4 := rfl
theorem ty52 : ty 52 = some ⟨.struct [(0, 9), (1, 3), (2, 22), (3, 25)], 4, 48, .agg [.str ⟨#[]⟩, .int .i64 0, .int .i64 0, .nili]⟩ := rfl
theorem td52 : tdOf ty 52 = .struct [(0, 9), (1, 3), (2, 22), (3, 25)] := rfl
theorem sz52 : szOf ty 52 = 4 := rfl
theorem ty53 : ty 53 = some ⟨.func, 1, 8, .nilf⟩ := rfl
theorem td53 : tdOf ty 53 = .func := rfl
theorem sz53 : szOf ty 53 = 1 := rfl
theorem ty54 : ty 54 = some ⟨.ptr 50, 1, 8, .nilp⟩ := rfl
theorem td54 : tdOf ty 54 = .ptr 50 := rfl
theorem sz54 : szOf ty 54 = 1 := rfl
theorem ty55 : ty 55 = some ⟨.func, 1, 8, .nilf⟩ := rfl
theorem td55 : tdOf ty 55 = .func := rfl
theorem sz55 : szOf ty 55 = 1 := rfl
theorem ty56 : ty 56 = some ⟨.func, 1, 8, .nilf⟩ := rfl
theorem td56 : tdOf ty 56 = .func := rfl
theorem sz56 : szOf ty 56 = 1 := rfl
theorem ty57 : ty 57 = some ⟨.struct [(0, 22)], 1, 8, .agg [.int .i64 0]⟩ := rfl
theorem td57 : tdOf ty 57 = .struct [(0, 22)] := rfl
theorem sz57 : szOf ty 57 = 1 := rfl
theorem ty58 : ty 58 = some ⟨.struct [(0, 22)], 1, 8, .agg [.int .i64 0]⟩ := rfl
theorem td58 : tdOf ty 58 = .struct [(0, 22)] := rfl
theorem sz58 : szOf ty 58 = 1 := rfl
theorem ty59 : ty 59 = some ⟨.func, 1, 8, .nilf⟩ := rfl
theorem td59 : tdOf ty 59 = .func := rfl
theorem sz59 : szOf ty 59 = 1 := rfl
theorem ty61 : ty 61 = some ⟨.int .u64, 1, 8, .int .u64 0⟩ := rfl
theorem td61 : tdOf ty 61 = .int .u64 := rfl
theorem sz61 : szOf ty 61 = 1 := rfl
theorem ty64 : ty 64 = some ⟨.func, 1, 8, .nilf⟩ := rfl
theorem td64 : tdOf ty 64 = .func := rfl
theorem sz64 : szOf ty 64 = 1 := rfl
theorem ty65 : ty 65 = some ⟨.iface, 1, 16, .nili⟩ := rfl
theorem td65 : tdOf ty 65 = .iface := rfl
theorem sz65 : szOf ty 65 = 1 := rfl
theorem ty66 : ty 66 = some ⟨.iface, 1, 16, .nili⟩ := rfl
theorem td66 : tdOf ty 66 = .iface := rfl
theorem sz66 : szOf ty 66 = 1 := rfl
theorem ty67 : ty 67 = some ⟨.func, 1, 8, .nilf⟩ := rfl
theorem td67 : tdOf ty 67 = .func := rfl
theorem sz67 : szOf ty 67 = 1 := rfl
theorem ty68 : ty 68 = some ⟨.int .u8, 1, 1, .int .u8 0⟩ := rfl
theorem td68 : tdOf ty 68 = .int .u8 := rfl
theorem sz68 : szOf ty 68 = 1 := rfl
theorem ty69 : ty 69 = some ⟨.func, 1, 8, .nilf⟩ := rfl
theorem td69 : tdOf ty 69 = .func := rfl
theorem sz69 : szOf ty 69 = 1 := rfl
theorem ty70 : ty 70 = some ⟨.func, 1, 8, .nilf⟩ := rfl
theorem td70 : tdOf ty 70 = .func := rfl
theorem sz70 : szOf ty 70 = 1 := rfl
theorem ty71 : ty 71 = some ⟨.func, 1, 8, .nilf⟩ := rfl
theorem td71 : tdOf ty 71 = .func := rfl
theorem sz71 : szOf ty 71 = 1 := rfl
theorem ty73 : ty 73 = some ⟨.func, 1, 8, .nilf⟩ := rfl
theorem td73 : tdOf ty 73 = .func := rfl
theorem sz73 : szOf ty 73 = 1 := rfl
theorem ty74 : ty 74 = some ⟨.slice 25, 1, 24, .nils⟩ := rfl
theorem td74 : tdOf ty 74 = .slice 25 := rfl
theorem sz74 : szOf ty 74 = 1 := rfl
theorem ty75 : ty 75 = some ⟨.ptr 77, 1, 8, .nilp⟩ := rfl
theorem td75 : tdOf ty 75 = .ptr 77 := rfl
theorem sz75 : szOf ty 75 = 1 := rfl
theorem ty76 : ty 76 = some ⟨.struct [(0, 74)], 1, 24, .agg [.nils]⟩ := rfl
theorem td76 : tdOf ty 76 = .struct [(0, 74)] := rfl
theorem sz76 : szOf ty 76 = 1 := rfl
theorem ty77 : ty 77 = some ⟨.struct [(0, 74)], 1, 24, .agg [.nils]⟩ := rfl
theorem td77 : tdOf ty 77 = .struct [(0, 74)] := rfl
theorem sz77 : szOf ty 77 = 1 := rfl
theorem ty78 : ty 78 = some ⟨.struct [(0, 17)], 1, 8, .agg [.nilp]⟩ := rfl
theorem td78 : tdOf ty 78 = .struct [(0, 17)] := rfl
theorem sz78 : szOf ty 78 = 1 := rfl
theorem ty79 : ty 79 = some ⟨.struct [(0, 17)], 1, 8, .agg [.nilp]⟩ := rfl
theorem td79 : tdOf ty 79 = .struct [(0, 17)] := rfl
theorem sz79 : szOf ty 79 = 1 := rfl
theorem ty82 : ty 82 = some ⟨.func, 1, 8, .nilf⟩ := rfl
theorem td82 : tdOf ty 82 = .func := rfl
theorem sz82 : szOf ty 82 = 1 := rfl
theorem ty83 : ty 83 = some ⟨.iface, 1, 16, .nili⟩ := rfl
theorem td83 : tdOf ty 83 = .iface := rfl
theorem sz83 : szOf ty 83 = 1 := rfl
theorem ty85 : ty 85 = some ⟨.func, 1, 8, .nilf⟩ := rfl
theorem td85 : tdOf ty 85 = .func := rfl
theorem sz85 : szOf ty 85 = 1 := rfl
theorem ty86 : ty 86 = some ⟨.iface, 1, 16, .nili⟩ := rfl
theorem td86 : tdOf ty 86 = .iface := rfl
theorem sz86 : szOf ty 86 = 1 := rfl
theorem ty88 : ty 88 = some ⟨.iface, 1, 16, .nili⟩ := rfl
theorem td88 : tdOf ty 88 = .iface := rfl
theorem sz88 : szOf ty 88 = 1 := rfl
theorem ty89 : ty 89 = some ⟨.func, 1, 8, .nilf⟩ := rfl
theorem td89 : tdOf ty 89 = .func := rfl
theorem sz89 : szOf ty 89 = 1 := rfl
theorem ty90 : ty 90 = some ⟨.iface, 1, 16, .nili⟩ := rfl
theorem td90 : tdOf ty 90 = .iface := rfl
theorem sz90 : szOf ty 90 = 1 := rfl
theorem ty92 : ty 92 = some ⟨.func, 1, 8, .nilf⟩ := rfl
theorem td92 : tdOf ty 92 = .func := rfl
theorem sz92 : szOf ty 92 = 1 := rfl
theorem ty93 : ty 93 = some ⟨.func, 1, 8, .nilf⟩ := rfl
theorem td93 : tdOf ty 93 = .func := rfl
theorem sz93 : szOf ty 93 = 1 := rfl
theorem ty99 : ty 99 = some ⟨.func, 1, 8, .nilf⟩ := rfl
theorem td99 : tdOf ty 99 = .func := rfl
theorem sz99 : szOf ty 99 = 1 := rfl
theorem ty100 : ty 100 = some ⟨.func, 1, 8, .nilf⟩ := rfl
theorem td100 : tdOf ty 100 = .func := rfl
theorem sz100 : szOf ty 100 = 1 := rfl
theorem ty101 : ty 101 = some ⟨.int .u32, 1, 4, .int .u32 0⟩ := rfl
theorem td101 : tdOf ty 101 = .int .u32 := rfl
theorem sz101 : szOf ty 101 = 1 := rfl
theorem ty102 : ty 102 = some ⟨.int .u8, 1, 1, .int .u8 0⟩ := rfl
theorem td102 : tdOf ty 102 = .int .u8 := rfl
theorem sz102 : szOf ty 102 = 1 := rfl
theorem ty103 : ty 103 = some ⟨.func, 1, 8, .nilf⟩ := rfl
theorem td103 : tdOf ty 103 = .func := rfl
theorem sz103 : szOf ty 103 = 1 := rfl
theorem ty105 : ty 105 = some ⟨.int .i32, 1, 4, .int .i32 0⟩ := rfl
theorem td105 : tdOf ty 105 = .int .i32 := rfl
theorem sz105 : szOf ty 105 = 1 := rfl
theorem ty106 : ty 106 = some ⟨.int .i32, 1, 4, .int .i32 0⟩ := rfl
theorem td106 : tdOf ty 106 = .int .i32 := rfl
theorem sz106 : szOf ty 106 = 1 := rfl
theorem ty107 : ty 107 = some ⟨.struct [(0, 12), (1, 12), (2, 101), (3, 102), (4, 5), (5, 5), (6, 68), (7, 103), (8, 104), (9, 105), (10, 106)], 11, 48, .agg [.int .u64 0, .int .u64 0, .int .u32 0, .int .u8 0, .int .u8 0, .int .u8 0, .int .u8 0, .nilf, .nilp, .int .i32 0, .int .i32 0]⟩ := rfl
theorem td107 : tdOf ty 107 = .struct [(0, 12), (1, 12), (2, 101), (3, 102), (4, 5), (5, 5), (6, 68), (7, 103), (8, 104), (9, 105), (10, 106)] := rfl
theorem sz107 : szOf ty 107 = 11 := rfl
theorem ty110 : ty 110 = some ⟨.func, 1, 8, .nilf⟩ := rfl
theorem td110 : tdOf ty 110 = .func := rfl
theorem sz110 : szOf ty 110 = 1 := rfl
theorem ty111 : ty 111 = some ⟨.func, 1, 8, .nilf⟩ := rfl
theorem td111 : tdOf ty 111 = .func := rfl
theorem sz111 : szOf ty 111 = 1 := rfl
theorem ty112 : ty 112 = some ⟨.struct [(0, 9), (1, 68)], 2, 24, .agg [.str ⟨#[]⟩, .int .u8 0]⟩ := rfl
theorem td112 : tdOf ty 112 = .struct [(0, 9), (1, 68)] := rfl
theorem sz112 : szOf ty 112 = 2 := rfl
theorem ty113 : ty 113 = some ⟨.struct [(0, 9), (1, 68)], 2, 24, .agg [.str ⟨#[]⟩, .int .u8 0]⟩ := rfl
theorem td113 : tdOf ty 113 = .struct [(0, 9), (1, 68)] := rfl
theorem sz113 : szOf ty 113 = 2 := rfl
theorem ty114 : ty 114 = some ⟨.ptr 118, 1, 8, .nilp⟩ := rfl
theorem td114 : tdOf ty 114 = .ptr 118 := rfl
theorem sz114 : szOf ty 114 = 1 := rfl
theorem ty115 : ty 115 = some ⟨.func, 1, 8, .nilf⟩ := rfl
theorem td115 : tdOf ty 115 = .func := rfl
theorem sz115 : szOf ty 115 = 1 := rfl
theorem ty116 : ty 116 = some ⟨.int .u16, 1, 2, .int .u16 0⟩ := rfl
theorem td116 : tdOf ty 116 = .int .u16 := rfl
theorem sz116 : szOf ty 116 = 1 := rfl
theorem ty118 : ty 118 = some ⟨.struct [(0, 105), (1, 116), (2, 116), (3, 101), (4, 101)], 5, 16, .agg [.int .i32 0, .int .u16 0, .int .u16 0, .int .u32 0, .int .u32 0]⟩ := rfl
theorem td118 : tdOf ty 118 = .struct [(0, 105), (1, 116), (2, 116), (3, 101), (4, 101)] := rfl
theorem sz118 : szOf ty 118 = 5 := rfl
theorem ty119 : ty 119 = some ⟨.slice 122, 1, 24, .nils⟩ := rfl
theorem td119 : tdOf ty 119 = .slice 122 := rfl
theorem sz119 : szOf ty 119 = 1 := rfl
theorem ty120 : ty 120 = some ⟨.int .i32, 1, 4, .int .i32 0⟩ := rfl
theorem td120 : tdOf ty 120 = .int .i32 := rfl
theorem sz120 : szOf ty 120 = 1 := rfl
theorem ty121 : ty 121 = some ⟨.struct [(0, 105), (1, 106), (2, 120), (3, 120)], 4, 16, .agg [.int .i32 0, .int .i32 0, .int .i32 0, .int .i32 0]⟩ := rfl
theorem td121 : tdOf ty 121 = .struct [(0, 105), (1, 106), (2, 120), (3, 120)] := rfl
theorem sz121 : szOf ty 121 = 4 := rfl
theorem ty122 : ty 122 = some ⟨.struct [(0, 105), (1, 106), (2, 120), (3, 120)], 4, 16, .agg [.int .i32 0, .int .i32 0, .int .i32 0, .int .i32 0]⟩ := rfl
theorem td122 : tdOf ty 122 = .struct [(0, 105), (1, 106), (2, 120), (3, 120)] := rfl
theorem sz122 : szOf ty 122 = 4 := rfl
theorem ok1 : TiOk Tryd.prog 1 ⟨.func, 1, 8, .nilf⟩ := tiOk_mk (.nilFunc) ⟨_, _, _, Tryd.underlying1⟩ (by kernel_rfl) rfl rfl rfl (by simp [Value.cells, Value.oneCell'])
theorem ok2 : TiOk Tryd.prog 2 ⟨.int .i64, 1, 8, .int .i64 0⟩ := tiOk_mk (.int .i64 0) Tryd.underlying2 (by kernel_rfl) rfl rfl rfl (by simp [Value.cells, Value.oneCell'])
theorem ok3 : TiOk Tryd.prog 3 ⟨.int .i64, 1, 8, .int .i64 0⟩ := tiOk_mk (.int .i64 0) Tryd.underlying3 (by kernel_rfl) rfl rfl rfl (by simp [Value.cells, Value.oneCell'])
theorem ok4 : TiOk Tryd.prog 4 ⟨.bool, 1, 1, .bool false⟩ := tiOk_mk (.bool false) Tryd.underlying4 (by kernel_rfl) rfl rfl rfl (by simp [Value.cells, Value.oneCell'])
theorem ok5 : TiOk Tryd.prog 5 ⟨.int .u8, 1, 1, .int .u8 0⟩ := tiOk_mk (.int .u8 0) Tryd.underlying5 (by kernel_rfl) rfl rfl rfl (by simp [Value.cells, Value.oneCell'])
theorem ok6 : TiOk Tryd.prog 6 ⟨.int .u8, 1, 1, .int .u8 0⟩ := tiOk_mk (.int .u8 0) Tryd.underlying6 (by kernel_rfl) rfl rfl rfl (by simp [Value.cells, Value.oneCell'])
theorem ok7 : TiOk Tryd.prog 7 ⟨.struct [(0, 2), (1, 3), (2, 4), (3, 6)], 4, 24, .agg [.int .i64 0, .int .i64 0, .bool false, .int .u8 0]⟩ := tiOk_mk (.agg #[.int .i64 0, .int .i64 0, .bool false, .int .u8 0]) ⟨_, Tryd.underlying7, rfl⟩ (by kernel_rfl) rfl rfl rfl (by simp [Value.cells, Value.oneCell'])
theorem ok8 : TiOk Tryd.prog 8 ⟨.struct [(0, 2), (1, 3), (2, 4), (3, 6)], 4, 24, .agg [.int .i64 0, .int .i64 0, .bool false, .int .u8 0]⟩ := tiOk_mk (.agg #[.int .i64 0, .int .i64 0, .bool false, .int .u8 0]) ⟨_, Tryd.underlying8, rfl⟩ (by kernel_rfl) rfl rfl rfl (by simp [Value.cells, Value.oneCell'])
theorem ok9 : TiOk Tryd.prog 9 ⟨.str, 1, 16, .str ⟨#[]⟩⟩ := tiOk_mk (.string ⟨#[]⟩) Tryd.underlying9 (by kernel_rfl) rfl rfl rfl (by simp [Value.cells, Value.oneCell'])
theorem ok10 : TiOk Tryd.prog 10 ⟨.str, 1, 16, .str ⟨#[]⟩⟩ := tiOk_mk (.string ⟨#[]⟩) Tryd.underlying10 (by kernel_rfl) rfl rfl rfl (by simp [Value.cells, Value.oneCell'])
theorem ok11 : TiOk Tryd.prog 11 ⟨.str, 1, 16, .str ⟨#[]⟩⟩ := tiOk_mk (.string ⟨#[]⟩) Tryd.underlying11 (by kernel_rfl) rfl rfl rfl (by simp [Value.cells, Value.oneCell'])
theorem ok12 : TiOk Tryd.prog 12 ⟨.int .u64, 1, 8, .int .u64 0⟩ := tiOk_mk (.int .u64 0) Tryd.underlying12 (by kernel_rfl) rfl rfl rfl (by simp [Value.cells, Value.oneCell'])
theorem ok13 : TiOk Tryd.prog 13 ⟨.struct [(0, 9), (1, 12)], 2, 24, .agg [.str ⟨#[]⟩, .int .u64 0]⟩ := tiOk_mk (.agg #[.string ⟨#[]⟩, .int .u64 0]) ⟨_, Tryd.underlying13, rfl⟩ (by kernel_rfl) rfl rfl rfl (by simp [Value.cells, Value.oneCell'])
theorem ok14 : TiOk Tryd.prog 14 ⟨.struct [(0, 9), (1, 12)], 2, 24, .agg [.str ⟨#[]⟩, .int .u64 0]⟩ := tiOk_mk (.agg #[.string ⟨#[]⟩, .int .u64 0]) ⟨_, Tryd.underlying14, rfl⟩ (by kernel_rfl) rfl rfl rfl (by simp [Value.cells, Value.oneCell'])
theorem ok15 : TiOk Tryd.prog 15 ⟨.ptr 95, 1, 8, .nilp⟩ := tiOk_mk (.pointer none) Tryd.underlying15 (by kernel_rfl) rfl rfl rfl (by simp [Value.cells, Value.oneCell'])
theorem ok16 : TiOk Tryd.prog 16 ⟨.ptr 98, 1, 8, .nilp⟩ := tiOk_mk (.pointer none) Tryd.underlying16 (by kernel_rfl) rfl rfl rfl (by simp [Value.cells, Value.oneCell'])
theorem ok17 : TiOk Tryd.prog 17 ⟨.ptr 108, 1, 8, .nilp⟩ := tiOk_mk (.pointer none) Tryd.underlying17 (by kernel_rfl) rfl rfl rfl (by simp [Value.cells, Value.oneCell'])
theorem ok18 : TiOk Tryd.prog 18 ⟨.struct [(0, 17)], 1, 8, .agg [.nilp]⟩ := tiOk_mk (.agg #[.pointer none]) ⟨_, Tryd.underlying18, rfl⟩ (by kernel_rfl) rfl rfl rfl (by simp [Value.cells, Value.oneCell'])
theorem ok19 : TiOk Tryd.prog 19 ⟨.struct [(0, 17)], 1, 8, .agg [.nilp]⟩ := tiOk_mk (.agg #[.pointer none]) ⟨_, Tryd.underlying19, rfl⟩ (by kernel_rfl) rfl rfl rfl (by simp [Value.cells, Value.oneCell'])
theorem ok20 : TiOk Tryd.prog 20 ⟨.iface, 1, 16, .nili⟩ := tiOk_mk (.nilIface) ⟨_, Tryd.underlying20⟩ (by kernel_rfl) rfl rfl rfl (by simp [Value.cells, Value.oneCell'])
theorem ok21 : TiOk Tryd.prog 21 ⟨.int .i32, 1, 4, .int .i32 0⟩ := tiOk_mk (.int .i32 0) Tryd.underlying21 (by kernel_rfl) rfl rfl rfl (by simp [Value.cells, Value.oneCell'])
theorem ok22 : TiOk Tryd.prog 22 ⟨.int .i64, 1, 8, .int .i64 0⟩ := tiOk_mk (.int .i64 0) Tryd.underlying22 (by kernel_rfl) rfl rfl rfl (by simp [Value.cells, Value.oneCell'])
theorem ok23 : TiOk Tryd.prog 23 ⟨.slice 32, 1, 24, .nils⟩ := tiOk_mk (.slice none 0 0) Tryd.underlying23 (by kernel_rfl) rfl rfl rfl (by simp [Value.cells, Value.oneCell'])
theorem ok24 : TiOk Tryd.prog 24 ⟨.iface, 1, 16, .nili⟩ := tiOk_mk (.nilIface) ⟨_, Tryd.underlying24⟩ (by kernel_rfl) rfl rfl rfl (by simp [Value.cells, Value.oneCell'])
theorem ok25 : TiOk Tryd.prog 25 ⟨.iface, 1, 16, .nili⟩ := tiOk_mk (.nilIface) ⟨_, Tryd.underlying25⟩ (by kernel_rfl) rfl rfl rfl (by simp [Value.cells, Value.oneCell'])
theorem ok26 : TiOk Tryd.prog 26 ⟨.func, 1, 8, .nilf⟩ := tiOk_mk (.nilFunc) ⟨_, _, _, Tryd.underlying26⟩ (by kernel_rfl) rfl rfl rfl (by simp [Value.cells, Value.oneCell'])
theorem ok27 : TiOk Tryd.prog 27 ⟨.func, 1, 8, .nilf⟩ := tiOk_mk (.nilFunc) ⟨_, _, _, Tryd.underlying27⟩ (by kernel_rfl) rfl rfl rfl (by simp [Value.cells, Value.oneCell'])
theorem ok28 : TiOk Tryd.prog 28 ⟨.func, 1, 8, .nilf⟩ := tiOk_mk (.nilFunc) ⟨_, _, _, Tryd.underlying28⟩ (by kernel_rfl) rfl rfl rfl (by simp [Value.cells, Value.oneCell'])
theorem ok29 : TiOk Tryd.prog 29 ⟨.func, 1, 8, .nilf⟩ := tiOk_mk (.nilFunc) ⟨_, _, _, Tryd.underlying29⟩ (by kernel_rfl) rfl rfl rfl (by simp [Value.cells, Value.oneCell'])
theorem ok30 : TiOk Tryd.prog 30 ⟨.func, 1, 8, .nilf⟩ := tiOk_mk (.nilFunc) ⟨_, _, _, Tryd.underlying30⟩ (by kernel_rfl) rfl rfl rfl (by simp [Value.cells, Value.oneCell'])
theorem ok31 : TiOk Tryd.prog 31 ⟨.struct [(0, 9), (1, 3), (2, 22)], 3, 32, .agg [.str ⟨#[]⟩, .int .i64 0, .int .i64 0]⟩ := tiOk_mk (.agg #[.string ⟨#[]⟩, .int .i64 0, .int .i64 0]) ⟨_, Tryd.underlying31, rfl⟩ (by kernel_rfl) rfl rfl rfl (by simp [Value.cells, Value.oneCell'])
theorem ok32 : TiOk Tryd.prog 32 ⟨.struct [(0, 9), (1, 3), (2, 22)], 3, 32, .agg [.str ⟨#[]⟩, .int .i64 0, .int .i64 0]⟩ := tiOk_mk (.agg #[.string ⟨#[]⟩, .int .i64 0, .int .i64 0]) ⟨_, Tryd.underlying32, rfl⟩ (by kernel_rfl) rfl rfl rfl (by simp [Value.cells, Value.oneCell'])
theorem ok33 : TiOk Tryd.prog 33 ⟨.func, 1, 8, .nilf⟩ := tiOk_mk (.nilFunc) ⟨_, _, _, Tryd.underlying33⟩ (by kernel_rfl) rfl rfl rfl (by simp [Value.cells, Value.oneCell'])
theorem ok35 : TiOk Tryd.prog 35 ⟨.func, 1, 8, .nilf⟩ := tiOk_mk (.nilFunc) ⟨_, _, _, Tryd.underlying35⟩ (by kernel_rfl) rfl rfl rfl (by simp [Value.cells, Value.oneCell'])
theorem ok36 : TiOk Tryd.prog 36 ⟨.func, 1, 8, .nilf⟩ := tiOk_mk (.nilFunc) ⟨_, _, _, Tryd.underlying36⟩ (by kernel_rfl) rfl rfl rfl (by simp [Value.cells, Value.oneCell'])
theorem ok37 : TiOk Tryd.prog 37 ⟨.func, 1, 8, .nilf⟩ := tiOk_mk (.nilFunc) ⟨_, _, _, Tryd.underlying37⟩ (by kernel_rfl) rfl rfl rfl (by simp [Value.cells, Value.oneCell'])
theorem ok38 : TiOk Tryd.prog 38 ⟨.func, 1, 8, .nilf⟩ := tiOk_mk (.nilFunc) ⟨_, _, _, Tryd.underlying38⟩ (by kernel_rfl) rfl rfl rfl (by simp [Value.cells, Value.oneCell'])
theorem ok39 : TiOk Tryd.prog 39 ⟨.func, 1, 8, .nilf⟩ := tiOk_mk (.nilFunc) ⟨_, _, _, Tryd.underlying39⟩ (by kernel_rfl) rfl rfl rfl (by simp [Value.cells, Value.oneCell'])
theorem ok40 : TiOk Tryd.prog 40 ⟨.func, 1, 8, .nilf⟩ := tiOk_mk (.nilFunc) ⟨_, _, _, Tryd.underlying40⟩ (by kernel_rfl) rfl rfl rfl (by simp [Value.cells, Value.oneCell'])
theorem ok41 : TiOk Tryd.prog 41 ⟨.func, 1, 8, .nilf⟩ := tiOk_mk (.nilFunc) ⟨_, _, _, Tryd.underlying41⟩ (by kernel_rfl) rfl rfl rfl (by simp [Value.cells, Value.oneCell'])
theorem ok43 : TiOk Tryd.prog 43 ⟨.func, 1, 8, .nilf⟩ := tiOk_mk (.nilFunc) ⟨_, _, _, Tryd.underlying43⟩ (by kernel_rfl) rfl rfl rfl (by simp [Value.cells, Value.oneCell'])
theorem ok44 : TiOk Tryd.prog 44 ⟨.func, 1, 8, .nilf⟩ := tiOk_mk (.nilFunc) ⟨_, _, _, Tryd.underlying44⟩ (by kernel_rfl) rfl rfl rfl (by simp [Value.cells, Value.oneCell'])
theorem ok45 : TiOk Tryd.prog 45 ⟨.func, 1, 8, .nilf⟩ := tiOk_mk (.nilFunc) ⟨_, _, _, Tryd.underlying45⟩ (by kernel_rfl) rfl rfl rfl (by simp [Value.cells, Value.oneCell'])
theorem ok46 : TiOk Tryd.prog 46 ⟨.func, 1, 8, .nilf⟩ := tiOk_mk (.nilFunc) ⟨_, _, _, Tryd.underlying46⟩ (by kernel_rfl) rfl rfl rfl (by simp [Value.cells, Value.oneCell'])
theorem ok47 : TiOk Tryd.prog 47 ⟨.func, 1, 8, .nilf⟩ := tiOk_mk (.nilFunc) ⟨_, _, _, Tryd.underlying47⟩ (by kernel_rfl) rfl rfl rfl (by simp [Value.cells, Value.oneCell'])
theorem ok48 : TiOk Tryd.prog 48 ⟨.func, 1, 8, .nilf⟩ := tiOk_mk (.nilFunc) ⟨_, _, _, Tryd.underlying48⟩ (by kernel_rfl) rfl rfl rfl (by simp [Value.cells, Value.oneCell'])
theorem ok49 : TiOk Tryd.prog 49 ⟨.func, 1, 8, .nilf⟩ := tiOk_mk (.nilFunc) ⟨_, _, _, Tryd.underlying49⟩ (by kernel_rfl) rfl rfl rfl (by simp [Value.cells, Value.oneCell'])
theorem ok50 : TiOk Tryd.prog 50 ⟨.ptr 52, 1, 8, .nilp⟩ := tiOk_mk (.pointer none) Tryd.underlying50 (by kernel_rfl) rfl rfl rfl (by simp [Value.cells, Value.oneCell'])
theorem ok51 : TiOk Tryd.prog 51 ⟨.struct [(0, 9), (1, 3), (2, 22), (3, 25)], 4, 48, .agg [.str ⟨#[]⟩, .int .i64 0, .int .i64 0, .nili]⟩ := tiOk_mk (.agg #[.string ⟨#[]⟩, .int .i64 0, .int .i64 0, .nilIface]) ⟨_, Tryd.underlying51, rfl⟩ (by kernel_rfl) rfl rfl rfl (by simp [Value.cells, Value.oneCell'])
theorem ok52 : TiOk Tryd.prog 52 ⟨.struct [(0, 9), (1, 3), (2, 22), (3, 25)], 4, 48, .agg [.str ⟨#[]⟩, .int .i64 0, .int .i64 0, .nili]⟩ := tiOk_mk (.agg #[.string ⟨#[]⟩, .int .i64 0, .int .i64 0, .nilIface]) ⟨_, Tryd.underlying52, rfl⟩ (by kernel_rfl) rfl rfl rfl (by simp [Value.cells, Value.oneCell'])
theorem ok53 : TiOk Tryd.prog 53 ⟨.func, 1, 8, .nilf⟩ := tiOk_mk (.nilFunc) ⟨_, _, _, Tryd.underlying53⟩ (by kernel_rfl) rfl rfl rfl (by simp [Value.cells, Value.oneCell'])
theorem ok54 : TiOk Tryd.prog 54 ⟨.ptr 50, 1, 8, .nilp⟩ := tiOk_mk (.pointer none) Tryd.underlying54 (by kernel_rfl) rfl rfl rfl (by simp [Value.cells, Value.oneCell'])
theorem ok55 : TiOk Tryd.prog 55 ⟨.func, 1, 8, .nilf⟩ := tiOk_mk (.nilFunc) ⟨_, _, _, Tryd.underlying55⟩ (by kernel_rfl) rfl rfl rfl (by simp [Value.cells, Value.oneCell'])
theorem ok56 : TiOk Tryd.prog 56 ⟨.func, 1, 8, .nilf⟩ := tiOk_mk (.nilFunc) ⟨_, _, _, Tryd.underlying56⟩ (by kernel_rfl) rfl rfl rfl (by simp [Value.cells, Value.oneCell'])
theorem ok57 : TiOk Tryd.prog 57 ⟨.struct [(0, 22)], 1, 8, .agg [.int .i64 0]⟩ := tiOk_mk (.agg #[.int .i64 0]) ⟨_, Tryd.underlying57, rfl⟩ (by kernel_rfl) rfl rfl rfl (by simp [Value.cells, Value.oneCell'])
theorem ok58 : TiOk Tryd.prog 58 ⟨.struct [(0, 22)], 1, 8, .agg [.int .i64 0]⟩ := tiOk_mk (.agg #[.int .i64 0]) ⟨_, Tryd.underlying58, rfl⟩ (by kernel_rfl) rfl rfl rfl (by simp [Value.cells, Value.oneCell'])
theorem ok59 : TiOk Tryd.prog 59 ⟨.func, 1, 8, .nilf⟩ := tiOk_mk (.nilFunc) ⟨_, _, _, Tryd.underlying59⟩ (by kernel_rfl) rfl rfl rfl (by simp [Value.cells, Value.oneCell'])
theorem ok61 : TiOk Tryd.prog 61 ⟨.int .u64, 1, 8, .int .u64 0⟩ := tiOk_mk (.int .u64 0) Tryd.underlying61 (by kernel_rfl) rfl rfl rfl (by simp [Value.cells, Value.oneCell'])
theorem ok64 : TiOk Tryd.prog 64 ⟨.func, 1, 8, .nilf⟩ := tiOk_mk (.nilFunc) ⟨_, _, _, Tryd.underlying64⟩ (by kernel_rfl) rfl rfl rfl (by simp [Value.cells, Value.oneCell'])
theorem ok65 : TiOk Tryd.prog 65 ⟨.iface, 1, 16, .nili⟩ := tiOk_mk (.nilIface) ⟨_, Tryd.underlying65⟩ (by kernel_rfl) rfl rfl rfl (by simp [Value.cells, Value.oneCell'])
theorem ok66 : TiOk Tryd.prog 66 ⟨.iface, 1, 16, .nili⟩ := tiOk_mk (.nilIface) ⟨_, Tryd.underlying66⟩ (by kernel_rfl) rfl rfl rfl (by simp [Value.cells, Value.oneCell'])
theorem ok67 : TiOk Tryd.prog 67 ⟨.func, 1, 8, .nilf⟩ := tiOk_mk (.nilFunc) ⟨_, _, _, Tryd.underlying67⟩ (by kernel_rfl) rfl rfl rfl (by simp [Value.cells, Value.oneCell'])
theorem ok68 : TiOk Tryd.prog 68 ⟨.int .u8, 1, 1, .int .u8 0⟩ := tiOk_mk (.int .u8 0) Tryd.underlying68 (by kernel_rfl) rfl rfl rfl (by simp [Value.cells, Value.oneCell'])
theorem ok69 : TiOk Tryd.prog 69 ⟨.func, 1, 8, .nilf⟩ := tiOk_mk (.nilFunc) ⟨_, _, _, Tryd.underlying69⟩ (by kernel_rfl) rfl rfl rfl (by simp [Value.cells, Value.oneCell'])
theorem ok70 : TiOk Tryd.prog 70 ⟨.func, 1, 8, .nilf⟩ := tiOk_mk (.nilFunc) ⟨_, _, _, Tryd.underlying70⟩ (by kernel_rfl) rfl rfl rfl (by simp [Value.cells, Value.oneCell'])
theorem ok71 : TiOk Tryd.prog 71 ⟨.func, 1, 8, .nilf⟩ := tiOk_mk (.nilFunc) ⟨_, _, _, Tryd.underlying71⟩ (by kernel_rfl) rfl rfl rfl (by simp [Value.cells, Value.oneCell'])
theorem ok73 : TiOk Tryd.prog 73 ⟨.func, 1, 8, .nilf⟩ := tiOk_mk (.nilFunc) ⟨_, _, _, Tryd.underlying73⟩ (by kernel_rfl) rfl rfl rfl (by simp [Value.cells, Value.oneCell'])
theorem ok74 : TiOk Tryd.prog 74 ⟨.slice 25, 1, 24, .nils⟩ := tiOk_mk (.slice none 0 0) Tryd.underlying74 (by kernel_rfl) rfl rfl rfl (by simp [Value.cells, Value.oneCell'])
theorem ok75 : TiOk Tryd.prog 75 ⟨.ptr 77, 1, 8, .nilp⟩ := tiOk_mk (.pointer none) Tryd.underlying75 (by kernel_rfl) rfl rfl rfl (by simp [Value.cells, Value.oneCell'])
theorem ok76 : TiOk Tryd.prog 76 ⟨.struct [(0, 74)], 1, 24, .agg [.nils]⟩ := tiOk_mk (.agg #[.slice none 0 0]) ⟨_, Tryd.underlying76, rfl⟩ (by kernel_rfl) rfl rfl rfl (by simp [Value.cells, Value.oneCell'])
theorem ok77 : TiOk Tryd.prog 77 ⟨.struct [(0, 74)], 1, 24, .agg [.nils]⟩ := tiOk_mk (.agg #[.slice none 0 0]) ⟨_, Tryd.underlying77, rfl⟩ (by kernel_rfl) rfl rfl rfl (by simp [Value.cells, Value.oneCell'])
theorem ok78 : TiOk Tryd.prog 78 ⟨.struct [(0, 17)], 1, 8, .agg [.nilp]⟩ := tiOk_mk (.agg #[.pointer none]) ⟨_, Tryd.underlying78, rfl⟩ (by kernel_rfl) rfl rfl rfl (by simp [Value.cells, Value.oneCell'])
theorem ok79 : TiOk Tryd.prog 79 ⟨.struct [(0, 17)], 1, 8, .agg [.nilp]⟩ := tiOk_mk (.agg #[.pointer none]) ⟨_, Tryd.underlying79, rfl⟩ (by kernel_rfl) rfl rfl rfl (by simp [Value.cells, Value.oneCell'])
theorem ok82 : TiOk Tryd.prog 82 ⟨.func, 1, 8, .nilf⟩ := tiOk_mk (.nilFunc) ⟨_, _, _, Tryd.underlying82⟩ (by kernel_rfl) rfl rfl rfl (by simp [Value.cells, Value.oneCell'])
theorem ok83 : TiOk Tryd.prog 83 ⟨.iface, 1, 16, .nili⟩ := tiOk_mk (.nilIface) ⟨_, Tryd.underlying83⟩ (by kernel_rfl) rfl rfl rfl (by simp [Value.cells, Value.oneCell'])
theorem ok85 : TiOk Tryd.prog 85 ⟨.func, 1, 8, .nilf⟩ := tiOk_mk (.nilFunc) ⟨_, _, _, Tryd.underlying85⟩ (by kernel_rfl) rfl rfl rfl (by simp [Value.cells, Value.oneCell'])
theorem ok86 : TiOk Tryd.prog 86 ⟨.iface, 1, 16, .nili⟩ := tiOk_mk (.nilIface) ⟨_, Tryd.underlying86⟩ (by kernel_rfl) rfl rfl rfl (by simp [Value.cells, Value.oneCell'])
theorem ok88 : TiOk Tryd.prog 88 ⟨.iface, 1, 16, .nili⟩ := tiOk_mk (.nilIface) ⟨_, Tryd.underlying88⟩ (by kernel_rfl) rfl rfl rfl (by simp [Value.cells, Value.oneCell'])
theorem ok89 : TiOk Tryd.prog 89 ⟨.func, 1, 8, .nilf⟩ := tiOk_mk (.nilFunc) ⟨_, _, _, Tryd.underlying89⟩ (by kernel_rfl) rfl rfl rfl (by simp [Value.cells, Value.oneCell'])
theorem ok90 : TiOk Tryd.prog 90 ⟨.iface, 1, 16, .nili⟩ := tiOk_mk (.nilIface) ⟨_, Tryd.underlying90⟩ (by kernel_rfl) rfl rfl rfl (by simp [Value.cells, Value.oneCell'])
theorem ok92 : TiOk Tryd.prog 92 ⟨.func, 1, 8, .nilf⟩ := tiOk_mk (.nilFunc) ⟨_, _, _, Tryd.underlying92⟩ (by kernel_rfl) rfl rfl rfl (by simp [Value.cells, Value.oneCell'])
theorem ok93 : TiOk Tryd.prog 93 ⟨.func, 1, 8, .nilf⟩ := tiOk_mk (.nilFunc) ⟨_, _, _, Tryd.underlying93⟩ (by kernel_rfl) rfl rfl rfl (by simp [Value.cells, Value.oneCell'])
theorem ok99 : TiOk Tryd.prog 99 ⟨.func, 1, 8, .nilf⟩ := tiOk_mk (.nilFunc) ⟨_, _, _, Tryd.underlying99⟩ (by kernel_rfl) rfl rfl rfl (by simp [Value.cells, Value.oneCell'])
theorem ok100 : TiOk Tryd.prog 100 ⟨.func, 1, 8, .nilf⟩ := tiOk_mk (.nilFunc) ⟨_, _, _, Tryd.underlying100⟩ (by kernel_rfl) rfl rfl rfl (by simp [Value.cells, Value.oneCell'])
theorem ok101 : TiOk Tryd.prog 101 ⟨.int .u32, 1, 4, .int .u32 0⟩ := tiOk_mk (.int .u32 0) Tryd.underlying101 (by kernel_rfl) rfl rfl rfl (by simp [Value.cells, Value.oneCell'])
theorem ok102 : TiOk Tryd.prog 102 ⟨.int .u8, 1, 1, .int .u8 0⟩ := tiOk_mk (.int .u8 0) Tryd.underlying102 (by kernel_rfl) rfl rfl rfl (by simp [Value.cells, Value.oneCell'])
theorem ok103 : TiOk Tryd.prog 103 ⟨.func, 1, 8, .nilf⟩ := tiOk_mk (.nilFunc) ⟨_, _, _, Tryd.underlying103⟩ (by kernel_rfl) rfl rfl rfl (by simp [Value.cells, Value.oneCell'])
theorem ok105 : TiOk Tryd.prog 105 ⟨.int .i32, 1, 4, .int .i32 0⟩ := tiOk_mk (.int .i32 0) Tryd.underlying105 (by kernel_rfl) rfl rfl rfl (by simp [Value.cells, Value.oneCell'])
theorem ok106 : TiOk Tryd.prog 106 ⟨.int .i32, 1, 4, .int .i32 0⟩ := tiOk_mk (.int .i32 0) Tryd.underlying106 (by kernel_rfl) rfl rfl rfl (by simp [Value.cells, Value.oneCell'])
theorem ok107 : TiOk Tryd.prog 107 ⟨.struct [(0, 12), (1, 12), (2, 101), (3, 102), (4, 5), (5, 5), (6, 68), (7, 103), (8, 104), (9, 105), (10, 106)], 11, 48, .agg [.int .u64 0, .int .u64 0, .int .u32 0, .int .u8 0, .int .u8 0, .int .u8 0, .int .u8 0, .nilf, .nilp, .int .i32 0, .int .i32 0]⟩ := tiOk_mk (.agg #[.int .u64 0, .int .u64 0, .int .u32 0, .int .u8 0, .int .u8 0, .int .u8 0, .int .u8 0, .nilFunc, .pointer none, .int .i32 0, .int .i32 0]) ⟨_, Tryd.underlying107, rfl⟩ (by kernel_rfl) rfl rfl rfl (by simp [Value.cells, Value.oneCell'])
theorem ok110 : TiOk Tryd.prog 110 ⟨.func, 1, 8, .nilf⟩ := tiOk_mk (.nilFunc) ⟨_, _, _, Tryd.underlying110⟩ (by kernel_rfl) rfl rfl rfl (by simp [Value.cells, Value.oneCell'])
theorem ok111 : TiOk Tryd.prog 111 ⟨.func, 1, 8, .nilf⟩ := tiOk_mk (.nilFunc) ⟨_, _, _, Tryd.underlying111⟩ (by kernel_rfl) rfl rfl rfl (by simp [Value.cells, Value.oneCell'])
theorem ok112 : TiOk Tryd.prog 112 ⟨.struct [(0, 9), (1, 68)], 2, 24, .agg [.str ⟨#[]⟩, .int .u8 0]⟩ := tiOk_mk (.agg #[.string ⟨#[]⟩, .int .u8 0]) ⟨_, Tryd.underlying112, rfl⟩ (by kernel_rfl) rfl rfl rfl (by simp [Value.cells, Value.oneCell'])
theorem ok113 : TiOk Tryd.prog 113 ⟨.struct [(0, 9), (1, 68)], 2, 24, .agg [.str ⟨#[]⟩, .int .u8 0]⟩ := tiOk_mk (.agg #[.string ⟨#[]⟩, .int .u8 0]) ⟨_, Tryd.underlying113, rfl⟩ (by kernel_rfl) rfl rfl rfl (by simp [Value.cells, Value.oneCell'])
theorem ok114 : TiOk Tryd.prog 114 ⟨.ptr 118, 1, 8, .nilp⟩ := tiOk_mk (.pointer none) Tryd.underlying114 (by kernel_rfl) rfl rfl rfl (by simp [Value.cells, Value.oneCell'])
theorem ok115 : TiOk Tryd.prog 115 ⟨.func, 1, 8, .nilf⟩ := tiOk_mk (.nilFunc) ⟨_, _, _, Tryd.underlying115⟩ (by kernel_rfl) rfl rfl rfl (by simp [Value.cells, Value.oneCell'])
theorem ok116 : TiOk Tryd.prog 116 ⟨.int .u16, 1, 2, .int .u16 0⟩ := tiOk_mk (.int .u16 0) Tryd.underlying116 (by kernel_rfl) rfl rfl rfl (by simp [Value.cells, Value.oneCell'])
theorem ok118 : TiOk Tryd.prog 118 ⟨.struct [(0, 105), (1, 116), (2, 116), (3, 101), (4, 101)], 5, 16, .agg [.int .i32 0, .int .u16 0, .int .u16 0, .int .u32 0, .int .u32 0]⟩ := tiOk_mk (.agg #[.int .i32 0, .int .u16 0, .int .u16 0, .int .u32 0, .int .u32 0]) ⟨_, Tryd.underlying118, rfl⟩ (by kernel_rfl) rfl rfl rfl (by simp [Value.cells, Value.oneCell'])
theorem ok119 : TiOk Tryd.prog 119 ⟨.slice 122, 1, 24, .nils⟩ := tiOk_mk (.slice none 0 0) Tryd.underlying119 (by kernel_rfl) rfl rfl rfl (by simp [Value.cells, Value.oneCell'])
theorem ok120 : TiOk Tryd.prog 120 ⟨.int .i32, 1, 4, .int .i32 0⟩ := tiOk_mk (.int .i32 0) Tryd.underlying120 (by kernel_rfl) rfl rfl rfl (by simp [Value.cells, Value.oneCell'])
theorem ok121 : TiOk Tryd.prog 121 ⟨.struct [(0, 105), (1, 106), (2, 120), (3, 120)], 4, 16, .agg [.int .i32 0, .int .i32 0, .int .i32 0, .int .i32 0]⟩ := tiOk_mk (.agg #[.int .i32 0, .int .i32 0, .int .i32 0, .int .i32 0]) ⟨_, Tryd.underlying121, rfl⟩ (by kernel_rfl) rfl rfl rfl (by simp [Value.cells, Value.oneCell'])
theorem ok122 : TiOk Tryd.prog 122 ⟨.struct [(0, 105), (1, 106), (2, 120), (3, 120)], 4, 16, .agg [.int .i32 0, .int .i32 0, .int .i32 0, .int .i32 0]⟩ := tiOk_mk (.agg #[.int .i32 0, .int .i32 0, .int .i32 0, .int .i32 0]) ⟨_, Tryd.underlying122, rfl⟩ (by kernel_rfl) rfl rfl rfl (by simp [Value.cells, Value.oneCell'])
theorem tk : TyOk Tryd.prog ty := by
  intro t i h
  unfold ty at h
  split at h
  · cases h; exact ok1
  · cases h; exact ok2
  · cases h; exact ok3
  · cases h; exact ok4
  · cases h; exact ok5
  · cases h; exact ok6
  · cases h; exact ok7
  · cases h; exact ok8
  · cases h; exact ok9
  · cases h; exact ok10
  · cases h; exact ok11
  · cases h; exact ok12
  · cases h; exact ok13
  · cases h; exact ok14
  · cases h; exact ok15
  · cases h; exact ok16
  · cases h; exact ok17
  · cases h; exact ok18
  · cases h; exact ok19
  · cases h; exact ok20
  · cases h; exact ok21
  · cases h; exact ok22
  · cases h; exact ok23
  · cases h; exact ok24
  · cases h; exact ok25
  · cases h; exact ok26
  · cases h; exact ok27
  · cases h; exact ok28
  · cases h; exact ok29
  · cases h; exact ok30
  · cases h; exact ok31
  · cases h; exact ok32
  · cases h; exact ok33
  · cases h; exact ok35
  · cases h; exact ok36
  · cases h; exact ok37
  · cases h; exact ok38
  · cases h; exact ok39
  · cases h; exact ok40
  · cases h; exact ok41
  · cases h; exact ok43
  · cases h; exact ok44
  · cases h; exact ok45
  · cases h; exact ok46
  · cases h; exact ok47
  · cases h; exact ok48
  · cases h; exact ok49
  · cases h; exact ok50
  · cases h; exact ok51
  · cases h; exact ok52
  · cases h; exact ok53
  · cases h; exact ok54
  · cases h; exact ok55
  · cases h; exact ok56
  · cases h; exact ok57
  · cases h; exact ok58
  · cases h; exact ok59
  · cases h; exact ok61
  · cases h; exact ok64
  · cases h; exact ok65
  · cases h; exact ok66
  · cases h; exact ok67
  · cases h; exact ok68
  · cases h; exact ok69
  · cases h; exact ok70
  · cases h; exact ok71
  · cases h; exact ok73
  · cases h; exact ok74
  · cases h; exact ok75
  · cases h; exact ok76
  · cases h; exact ok77
  · cases h; exact ok78
  · cases h; exact ok79
  · cases h; exact ok82
  · cases h; exact ok83
  · cases h; exact ok85
  · cases h; exact ok86
  · cases h; exact ok88
  · cases h; exact ok89
  · cases h; exact ok90
  · cases h; exact ok92
  · cases h; exact ok93
  · cases h; exact ok99
  · cases h; exact ok100
  · cases h; exact ok101
  · cases h; exact ok102
  · cases h; exact ok103
  · cases h; exact ok105
  · cases h; exact ok106
  · cases h; exact ok107
  · cases h; exact ok110
  · cases h; exact ok111
  · cases h; exact ok112
  · cases h; exact ok113
  · cases h; exact ok114
  · cases h; exact ok115
  · cases h; exact ok116
  · cases h; exact ok118
  · cases h; exact ok119
  · cases h; exact ok120
  · cases h; exact ok121
  · cases h; exact ok122
  · cases h
theorem mixed : Tryd.prog.follows .mixedOrders = true := by kernel_rfl
end Go.Proofs.YtekldjimdmkgaaaDoor
namespace Go.Proofs.YtekldjimdmkgaaaDoor
open Go Go.Va
set_option linter.unusedSimpArgs false
set_option linter.unusedVariables false
/-- Errors, as values: none; a fault, with what is under it. -/
inductive Err where
  | nil
  | fault (op : List (BitVec 8)) (at_ : Int) (code : Int) (under : Err)
  deriving DecidableEq
def Err.isNil : Err → Bool
  | .nil => true
  | _ => false
def eErr : Err → AV
  | .nil => .nili
  | .fault o a c u => .iface 50 (.fptr [eS o, eI a, eI c, eErr u] 0)
theorem eErr_cut (nl nt : Nat → Option Nat) : ∀ e, cutAV nl nt (eErr e) = eErr e
  | .nil => rfl
  | .fault o a c u => by simp only [eErr, cutAV, cutL, eErr_cut nl nt u, eS, eI]
theorem eErr_flat (e : Err) : flatAV (eErr e) = true := by cases e <;> rfl
theorem nsp_err (e : Err) : spcl [eErr e] = false := by cases e <;> rfl
theorem encErr : Enc ty 25 1 eErr := ⟨sz25, by decide, fun x => (by cases x <;> rfl), fun h => (by cases h), fun _ x => (by cases x <;> rfl), fun x => (by cases x <;> rfl), eErr_cut⟩
structure runtime_boundsError where
  x : Int
  y : Int
  signed : Bool
  code : BitVec 8
  deriving DecidableEq
def c_runtime_boundsError (x : runtime_boundsError) : List AV := [eI x.x, eI x.y, eB x.signed, (@eU .u8 8) x.code]
def e_runtime_boundsError (x : runtime_boundsError) : AV := .agg (c_runtime_boundsError x)
def z_runtime_boundsError : runtime_boundsError := ⟨(0 : Int), (0 : Int), false, 0#8⟩
theorem c_runtime_boundsError_cut (nl nt : Nat → Option Nat) (x : runtime_boundsError) : cutL nl nt (c_runtime_boundsError x) = c_runtime_boundsError x := by simp only [cutL, e_runtime_boundsError, c_runtime_boundsError, cutAV, (enc_i64 td2 sz2).cut nl nt, (enc_i64 td3 sz3).cut nl nt, (enc_b td4 sz4).cut nl nt, (enc_u td6 sz6).cut nl nt]
theorem pc_runtime_boundsError (x : runtime_boundsError) : purL (c_runtime_boundsError x) = true := by simp only [c_runtime_boundsError, purL, purL_append, Bool.and_self, Bool.and_true, (show purA (eI x.x) = true from (fun _ => rfl) _), (show purA (eI x.y) = true from (fun _ => rfl) _), (show purA (eB x.signed) = true from (fun _ => rfl) _), (show purA ((@eU .u8 8) x.code) = true from (fun _ => rfl) _)]
theorem pur_runtime_boundsError (x : runtime_boundsError) : purA (e_runtime_boundsError x) = true := pc_runtime_boundsError x
theorem enc7 : Enc ty 7 4 e_runtime_boundsError := ⟨sz7, by decide, fun _ => rfl, fun _ _ => rfl, fun h => (by cases h), fun _ => rfl, fun nl nt x => by simp only [e_runtime_boundsError, cutAV, c_runtime_boundsError_cut]⟩
theorem enc8 : Enc ty 8 4 e_runtime_boundsError := ⟨sz8, by decide, fun _ => rfl, fun _ _ => rfl, fun h => (by cases h), fun _ => rfl, fun nl nt x => by simp only [e_runtime_boundsError, cutAV, c_runtime_boundsError_cut]⟩
structure runtime_errorAddressString where
  msg : List (BitVec 8)
  addr : BitVec 64
  deriving DecidableEq
def c_runtime_errorAddressString (x : runtime_errorAddressString) : List AV := [eS x.msg, (@eU .u64 64) x.addr]
def e_runtime_errorAddressString (x : runtime_errorAddressString) : AV := .agg (c_runtime_errorAddressString x)
def z_runtime_errorAddressString : runtime_errorAddressString := ⟨([] : List (BitVec 8)), 0#64⟩
theorem c_runtime_errorAddressString_cut (nl nt : Nat → Option Nat) (x : runtime_errorAddressString) : cutL nl nt (c_runtime_errorAddressString x) = c_runtime_errorAddressString x := by simp only [cutL, e_runtime_errorAddressString, c_runtime_errorAddressString, cutAV, (enc_s td9 sz9).cut nl nt, (enc_u td12 sz12).cut nl nt]
theorem pc_runtime_errorAddressString (x : runtime_errorAddressString) : purL (c_runtime_errorAddressString x) = true := by simp only [c_runtime_errorAddressString, purL, purL_append, Bool.and_self, Bool.and_true, (show purA (eS x.msg) = true from (fun _ => rfl) _), (show purA ((@eU .u64 64) x.addr) = true from (fun _ => rfl) _)]
theorem pur_runtime_errorAddressString (x : runtime_errorAddressString) : purA (e_runtime_errorAddressString x) = true := pc_runtime_errorAddressString x
theorem enc13 : Enc ty 13 2 e_runtime_errorAddressString := ⟨sz13, by decide, fun _ => rfl, fun _ _ => rfl, fun h => (by cases h), fun _ => rfl, fun nl nt x => by simp only [e_runtime_errorAddressString, cutAV, c_runtime_errorAddressString_cut]⟩
theorem enc14 : Enc ty 14 2 e_runtime_errorAddressString := ⟨sz14, by decide, fun _ => rfl, fun _ _ => rfl, fun h => (by cases h), fun _ => rfl, fun nl nt x => by simp only [e_runtime_errorAddressString, cutAV, c_runtime_errorAddressString_cut]⟩
structure api_Step where
  Op : List (BitVec 8)
  At : Int
  Code : Int
  deriving DecidableEq
def c_api_Step (x : api_Step) : List AV := [eS x.Op, eI x.At, eI x.Code]
def e_api_Step (x : api_Step) : AV := .agg (c_api_Step x)
def z_api_Step : api_Step := ⟨([] : List (BitVec 8)), (0 : Int), (0 : Int)⟩
theorem c_api_Step_cut (nl nt : Nat → Option Nat) (x : api_Step) : cutL nl nt (c_api_Step x) = c_api_Step x := by simp only [cutL, e_api_Step, c_api_Step, cutAV, (enc_s td9 sz9).cut nl nt, (enc_i64 td3 sz3).cut nl nt, (enc_i64 td22 sz22).cut nl nt]
theorem pc_api_Step (x : api_Step) : purL (c_api_Step x) = true := by simp only [c_api_Step, purL, purL_append, Bool.and_self, Bool.and_true, (show purA (eS x.Op) = true from (fun _ => rfl) _), (show purA (eI x.At) = true from (fun _ => rfl) _), (show purA (eI x.Code) = true from (fun _ => rfl) _)]
theorem pur_api_Step (x : api_Step) : purA (e_api_Step x) = true := pc_api_Step x
theorem enc31 : Enc ty 31 3 e_api_Step := ⟨sz31, by decide, fun _ => rfl, fun _ _ => rfl, fun h => (by cases h), fun _ => rfl, fun nl nt x => by simp only [e_api_Step, cutAV, c_api_Step_cut]⟩
theorem enc32 : Enc ty 32 3 e_api_Step := ⟨sz32, by decide, fun _ => rfl, fun _ _ => rfl, fun h => (by cases h), fun _ => rfl, fun nl nt x => by simp only [e_api_Step, cutAV, c_api_Step_cut]⟩
structure trouble_fault where
  op : List (BitVec 8)
  at_ : Int
  code : Int
  under : Err
  deriving DecidableEq
def c_trouble_fault (x : trouble_fault) : List AV := [eS x.op, eI x.at_, eI x.code, eErr x.under]
def e_trouble_fault (x : trouble_fault) : AV := .agg (c_trouble_fault x)
def z_trouble_fault : trouble_fault := ⟨([] : List (BitVec 8)), (0 : Int), (0 : Int), Err.nil⟩
theorem c_trouble_fault_cut (nl nt : Nat → Option Nat) (x : trouble_fault) : cutL nl nt (c_trouble_fault x) = c_trouble_fault x := by simp only [cutL, e_trouble_fault, c_trouble_fault, cutAV, (enc_s td9 sz9).cut nl nt, (enc_i64 td3 sz3).cut nl nt, (enc_i64 td22 sz22).cut nl nt, encErr.cut nl nt]
theorem enc51 : Enc ty 51 4 e_trouble_fault := ⟨sz51, by decide, fun _ => rfl, fun _ _ => rfl, fun h => (by cases h), fun x => (by simp only [e_trouble_fault, c_trouble_fault, AV.cells, List.all_cons, List.all_nil, eErr_flat]; rfl), fun nl nt x => by simp only [e_trouble_fault, cutAV, c_trouble_fault_cut]⟩
theorem enc52 : Enc ty 52 4 e_trouble_fault := ⟨sz52, by decide, fun _ => rfl, fun _ _ => rfl, fun h => (by cases h), fun x => (by simp only [e_trouble_fault, c_trouble_fault, AV.cells, List.all_cons, List.all_nil, eErr_flat]; rfl), fun nl nt x => by simp only [e_trouble_fault, cutAV, c_trouble_fault_cut]⟩
structure trouble_mark where
  code : Int
  deriving DecidableEq
def c_trouble_mark (x : trouble_mark) : List AV := [eI x.code]
def e_trouble_mark (x : trouble_mark) : AV := .agg (c_trouble_mark x)
def z_trouble_mark : trouble_mark := ⟨(0 : Int)⟩
theorem c_trouble_mark_cut (nl nt : Nat → Option Nat) (x : trouble_mark) : cutL nl nt (c_trouble_mark x) = c_trouble_mark x := by simp only [cutL, e_trouble_mark, c_trouble_mark, cutAV, (enc_i64 td22 sz22).cut nl nt]
theorem pc_trouble_mark (x : trouble_mark) : purL (c_trouble_mark x) = true := by simp only [c_trouble_mark, purL, purL_append, Bool.and_self, Bool.and_true, (show purA (eI x.code) = true from (fun _ => rfl) _)]
theorem pur_trouble_mark (x : trouble_mark) : purA (e_trouble_mark x) = true := pc_trouble_mark x
theorem enc57 : Enc ty 57 1 e_trouble_mark := ⟨sz57, by decide, fun _ => rfl, fun _ _ => rfl, fun h => (by cases h), fun _ => rfl, fun nl nt x => by simp only [e_trouble_mark, cutAV, c_trouble_mark_cut]⟩
theorem enc58 : Enc ty 58 1 e_trouble_mark := ⟨sz58, by decide, fun _ => rfl, fun _ _ => rfl, fun h => (by cases h), fun _ => rfl, fun nl nt x => by simp only [e_trouble_mark, cutAV, c_trouble_mark_cut]⟩
structure errors_joinError where
  errs : List Err
  deriving DecidableEq
def c_errors_joinError (x : errors_joinError) : List AV := [(eL 1 eErr) x.errs]
def e_errors_joinError (x : errors_joinError) : AV := .agg (c_errors_joinError x)
def z_errors_joinError : errors_joinError := ⟨([] : List Err)⟩
theorem c_errors_joinError_cut (nl nt : Nat → Option Nat) (x : errors_joinError) : cutL nl nt (c_errors_joinError x) = c_errors_joinError x := by simp only [cutL, e_errors_joinError, c_errors_joinError, cutAV, (enc_l td74 sz74 encErr.cut).cut nl nt]
theorem enc76 : Enc ty 76 1 e_errors_joinError := ⟨sz76, by decide, fun _ => rfl, fun _ _ => rfl, fun h => (by cases h), fun _ => rfl, fun nl nt x => by simp only [e_errors_joinError, cutAV, c_errors_joinError_cut]⟩
theorem enc77 : Enc ty 77 1 e_errors_joinError := ⟨sz77, by decide, fun _ => rfl, fun _ _ => rfl, fun h => (by cases h), fun _ => rfl, fun nl nt x => by simp only [e_errors_joinError, cutAV, c_errors_joinError_cut]⟩
structure reflectlite_ValueError where
  Method : List (BitVec 8)
  Kind : BitVec 8
  deriving DecidableEq
def c_reflectlite_ValueError (x : reflectlite_ValueError) : List AV := [eS x.Method, (@eU .u8 8) x.Kind]
def e_reflectlite_ValueError (x : reflectlite_ValueError) : AV := .agg (c_reflectlite_ValueError x)
def z_reflectlite_ValueError : reflectlite_ValueError := ⟨([] : List (BitVec 8)), 0#8⟩
theorem c_reflectlite_ValueError_cut (nl nt : Nat → Option Nat) (x : reflectlite_ValueError) : cutL nl nt (c_reflectlite_ValueError x) = c_reflectlite_ValueError x := by simp only [cutL, e_reflectlite_ValueError, c_reflectlite_ValueError, cutAV, (enc_s td9 sz9).cut nl nt, (enc_u td68 sz68).cut nl nt]
theorem pc_reflectlite_ValueError (x : reflectlite_ValueError) : purL (c_reflectlite_ValueError x) = true := by simp only [c_reflectlite_ValueError, purL, purL_append, Bool.and_self, Bool.and_true, (show purA (eS x.Method) = true from (fun _ => rfl) _), (show purA ((@eU .u8 8) x.Kind) = true from (fun _ => rfl) _)]
theorem pur_reflectlite_ValueError (x : reflectlite_ValueError) : purA (e_reflectlite_ValueError x) = true := pc_reflectlite_ValueError x
theorem enc112 : Enc ty 112 2 e_reflectlite_ValueError := ⟨sz112, by decide, fun _ => rfl, fun _ _ => rfl, fun h => (by cases h), fun _ => rfl, fun nl nt x => by simp only [e_reflectlite_ValueError, cutAV, c_reflectlite_ValueError_cut]⟩
theorem enc113 : Enc ty 113 2 e_reflectlite_ValueError := ⟨sz113, by decide, fun _ => rfl, fun _ _ => rfl, fun h => (by cases h), fun _ => rfl, fun nl nt x => by simp only [e_reflectlite_ValueError, cutAV, c_reflectlite_ValueError_cut]⟩
structure abi_Method where
  Name : Int
  Mtyp : Int
  Ifn : Int
  Tfn : Int
  deriving DecidableEq
def c_abi_Method (x : abi_Method) : List AV := [(eK .i32) x.Name, (eK .i32) x.Mtyp, (eK .i32) x.Ifn, (eK .i32) x.Tfn]
def e_abi_Method (x : abi_Method) : AV := .agg (c_abi_Method x)
def z_abi_Method : abi_Method := ⟨(0 : Int), (0 : Int), (0 : Int), (0 : Int)⟩
theorem c_abi_Method_cut (nl nt : Nat → Option Nat) (x : abi_Method) : cutL nl nt (c_abi_Method x) = c_abi_Method x := by simp only [cutL, e_abi_Method, c_abi_Method, cutAV, (enc_i td105 sz105).cut nl nt, (enc_i td106 sz106).cut nl nt, (enc_i td120 sz120).cut nl nt, (enc_i td120 sz120).cut nl nt]
theorem pc_abi_Method (x : abi_Method) : purL (c_abi_Method x) = true := by simp only [c_abi_Method, purL, purL_append, Bool.and_self, Bool.and_true, (show purA ((eK .i32) x.Name) = true from (fun _ => rfl) _), (show purA ((eK .i32) x.Mtyp) = true from (fun _ => rfl) _), (show purA ((eK .i32) x.Ifn) = true from (fun _ => rfl) _), (show purA ((eK .i32) x.Tfn) = true from (fun _ => rfl) _)]
theorem pur_abi_Method (x : abi_Method) : purA (e_abi_Method x) = true := pc_abi_Method x
theorem enc121 : Enc ty 121 4 e_abi_Method := ⟨sz121, by decide, fun _ => rfl, fun _ _ => rfl, fun h => (by cases h), fun _ => rfl, fun nl nt x => by simp only [e_abi_Method, cutAV, c_abi_Method_cut]⟩
theorem enc122 : Enc ty 122 4 e_abi_Method := ⟨sz122, by decide, fun _ => rfl, fun _ _ => rfl, fun h => (by cases h), fun _ => rfl, fun nl nt x => by simp only [e_abi_Method, cutAV, c_abi_Method_cut]⟩
end Go.Proofs.YtekldjimdmkgaaaDoor
namespace Go.Va
open Go
set_option linter.unusedVariables false
set_option linter.unusedSimpArgs false

theorem loopO_up {S X : Type} {body : S → Option (S ⊕ X)} (g : Nat → S) (n : Nat) {x : X} (h : ∀ i, i < n → body (g i) = some (.inl (g (i + 1)))) (hx : body (g n) = some (.inr x)) : loopO body (g 0) = some x := by
  have key : ∀ k, k ≤ n → loopO body (g (n - k)) = some x := by
    intro k
    induction k with
    | zero => intro _; exact loopO_out hx
    | succ k ih =>
      intro hk
      rw [loopO_in (h (n - (k + 1)) (by omega)), show n - (k + 1) + 1 = n - k by omega]
      exact ih (by omega)
  have := key n (Nat.le_refl _)
  rwa [Nat.sub_self] at this
/-- What a round comes to that may leave. -/
def nx {S X : Type} (o : Option X) (s : S) : S ⊕ X := match o with | none => .inl s | some y => .inr y
/-- A loop that leaves early, at the first round that says so. -/
theorem loopO_inv {S X : Type} {body : S → Option (S ⊕ X)} (I : S → Prop) (m : S → Nat) (Q : X → Prop) (h : ∀ s, I s → (∃ s', body s = some (.inl s') ∧ I s' ∧ m s' < m s) ∨ ∃ x, body s = some (.inr x) ∧ Q x) {s : S} (h0 : I s) : ∃ x, loopO body s = some x ∧ Q x := by
  generalize hk : m s = k
  induction k using Nat.strongRecOn generalizing s with
  | _ k ih =>
    rcases h s h0 with ⟨s', h1, h2, h3⟩ | ⟨x, h1, h2⟩
    · obtain ⟨x, k1, k2⟩ := ih (m s') (hk ▸ h3) h2 rfl
      exact ⟨x, by rw [loopO_in h1]; exact k1, k2⟩
    · exact ⟨x, loopO_out h1, h2⟩
/-- A number of rounds. -/
theorem ix_nat {α : Type} {l : List α} {i : Nat} (h : i < l.length) : ix l (i : Int) = some l[i] := by
  unfold ix
  rw [if_pos (by omega)]
  simp [h]
theorem ix_get {α : Type} (l : List α) (i : Nat) : ix l (i : Int) = l[i]? := by
  unfold ix
  rw [if_pos (by omega)]
  simp
theorem w64_nat {i : Nat} (h : i < 9223372036854775807) : w64 ((i : Int) + 1) = ((i + 1 : Nat) : Int) := by
  rw [w64_eq (by omega) (by omega)]; omega
theorem app_eq {α : Type} {b : Nat} {l m : List α} (h : (l.length + m.length) * b ≤ 140737488355328) : app b l m = some (l ++ m) := by simp [app, h]
end Go.Va
namespace Go.Proofs.YtekldjimdmkgaaaDoor
def butterylaw01_TroubleBoth (x0 x1 x2 : Int) (x3 x4 : List api_Step) : Option Bool := some true
end Go.Proofs.YtekldjimdmkgaaaDoor
namespace Go.Proofs.YtekldjimdmkgaaaDoor
open Go.RowKit Go.Extern.Stop Go.Stop Go.Extern
/-- errors.As(nil, target). -/
theorem as_nil (t : Value) (w : World) :
    Calls Tryd.prog 23 #[.nilIface, t] w fun e w' => e = .returned (.bool false) ∧ w' = w := by
  go_enter Tryd.func23, Tryd.ntmps23
  go_wp2
  go_ret
  exact ⟨rfl, rfl⟩

theorem Tryd.valueOf27 (t : Addr) (w : World) : (ReflectliteValue.unpack (.iface 54 (.pointer (some t)))).run Tryd.prog w
    = .ok (.agg #[.pointer (some ⟨1, 54, none⟩), .pointer (some ⟨w.heap.size, 0, none⟩), .int .u64 150]) (w.alloc (.cells #[.pointer (some t)] 54)) := by kernel_rfl
theorem Tryd.type27 (a : Addr) (w : World) : (ReflectliteValue.methodAny (ReflectliteValue.valueError "reflectlite.Value.Type" 0) (fun t _ _ _ => ReflectliteType.toType t) #[.agg #[.pointer (some ⟨1, 54, none⟩), .pointer (some a), .int .u64 150]]).run Tryd.prog w
    = .ok (.iface 79 (.agg #[.pointer (some ⟨1, 54, none⟩)])) w := by kernel_rfl
theorem Tryd.methodKind (h : Value) (w : World) : (Go.method 224 79 (.agg #[h]) "Kind").run Tryd.prog w = .ok (50, h) w := by kernel_rfl
theorem Tryd.kind27 (w : World) : ((ReflectliteType.abiMethod fun t => (fun a : Nat => Value.int IntKind.u8 (a : Int)) <$> Rtype.kind t) #[.pointer (some ⟨1, 54, none⟩)]).run Tryd.prog w = .ok (.int .u8 22) w := by kernel_rfl
theorem Tryd.kind25 (w : World) : ((ReflectliteType.abiMethod fun t => (fun a : Nat => Value.int IntKind.u8 (a : Int)) <$> Rtype.kind t) #[.pointer (some ⟨1, 50, none⟩)]).run Tryd.prog w = .ok (.int .u8 22) w := by kernel_rfl

theorem rlm (z : Sem Value) (f : TypeId → Addr → Nat → Nat → Sem Value) (v : Value) :
    ReflectliteValue.method z f #[v] = (do match ← ReflectliteValue.parts v with | none => z | some (t, a, fl) => f t a fl (fl % 32)) := rfl
theorem Tryd.parts27 (a : Addr) (w : World) : (ReflectliteValue.parts (.agg #[.pointer (some ⟨1, 54, none⟩), .pointer (some a), .int .u64 150])).run Tryd.prog w = .ok (some (54, a, 150)) w := by kernel_rfl
/-- (Value).IsNil at the Value of a **p.E that is not nil. -/
theorem Tryd.isNil27 (a p : Addr) (W : World) (ha : W.cell? a = some (.pointer (some p))) :
    (ReflectliteValue.method (ReflectliteValue.valueError "reflectlite.Value.IsNil" 0) ReflectliteValue.isNil #[.agg #[.pointer (some ⟨1, 54, none⟩), .pointer (some a), .int .u64 150]]).run Tryd.prog W = .ok (.bool false) W := by
  rw [rlm]
  simp only [Sem.run_bind, Tryd.parts27, Result.andThen]
  simp [ReflectliteValue.isNil, loadVar, isAgg, underlying, Tryd.underlying54, ha, Result.andThen]

theorem Tryd.methodElem (h : Value) (w : World) : (Go.method 224 79 (.agg #[h]) "Elem").run Tryd.prog w = .ok (65, .agg #[h]) w := by kernel_rfl
theorem Tryd.methodImplements (h : Value) (w : World) : (Go.method 224 79 (.agg #[h]) "Implements").run Tryd.prog w = .ok (66, .agg #[h]) w := by kernel_rfl
theorem Tryd.methodAssignableTo (h : Value) (w : World) : (Go.method 224 79 (.agg #[h]) "AssignableTo").run Tryd.prog w = .ok (63, .agg #[h]) w := by kernel_rfl
theorem Tryd.elem27 (w : World) : (ReflectliteType.method ReflectliteType.elem #[.agg #[.pointer (some ⟨1, 54, none⟩)]]).run Tryd.prog w = .ok (.iface 79 (.agg #[.pointer (some ⟨1, 50, none⟩)])) w := by kernel_rfl
theorem Tryd.implements25 (w : World) : (ReflectliteType.relation "Implements" ReflectliteType.implements_ #[.agg #[.pointer (some ⟨1, 50, none⟩)], .iface 79 (.agg #[.pointer (some ⟨1, 25, none⟩)])]).run Tryd.prog w = .ok (.bool true) w := by kernel_rfl
theorem Tryd.typeOf25 (v : Value) (w : World) : (ReflectliteType.typeOf #[.iface 50 v]).run Tryd.prog w = .ok (.iface 79 (.agg #[.pointer (some ⟨1, 50, none⟩)])) w := by kernel_rfl
theorem Tryd.assignable25 (w : World) : (ReflectliteType.relation "AssignableTo" ReflectliteType.assignableTo #[.agg #[.pointer (some ⟨1, 50, none⟩)], .iface 79 (.agg #[.pointer (some ⟨1, 50, none⟩)])]).run Tryd.prog w = .ok (.bool true) w := by kernel_rfl
theorem Tryd.valueOf25 (e : Addr) (w : World) : (ReflectliteValue.unpack (.iface 50 (.pointer (some e)))).run Tryd.prog w
    = .ok (.agg #[.pointer (some ⟨1, 50, none⟩), .pointer (some ⟨w.heap.size, 0, none⟩), .int .u64 150]) (w.alloc (.cells #[.pointer (some e)] 50)) := by kernel_rfl

theorem Tryd.elemOf27 (w : World) : (Rtype.elem? 54).run Tryd.prog w = .ok (some 50) w := by kernel_rfl
theorem Tryd.mk25 (p : Addr) (w : World) : (ReflectliteValue.mk 50 p ReflectliteValue.flagAddr).run Tryd.prog w = .ok (.agg #[.pointer (some ⟨1, 50, none⟩), .pointer (some p), .int .u64 406]) w := by kernel_rfl
/-- (Value).Elem at the Value of a **p.E that is not nil: the Value of the *p.E variable that it points to, addressable. -/
theorem Tryd.elemV27 (a p : Addr) (W : World) (ha : W.cell? a = some (.pointer (some p))) :
    (ReflectliteValue.method (ReflectliteValue.valueError "reflectlite.Value.Elem" 0) ReflectliteValue.elem #[.agg #[.pointer (some ⟨1, 54, none⟩), .pointer (some a), .int .u64 150]]).run Tryd.prog W
      = .ok (.agg #[.pointer (some ⟨1, 50, none⟩), .pointer (some p), .int .u64 406]) W := by
  rw [rlm]
  simp only [Sem.run_bind, Tryd.parts27, Result.andThen]
  simp [ReflectliteValue.elem, loadVar, isAgg, underlying, Tryd.underlying54, ha, Result.andThen, Tryd.elemOf27, Tryd.mk25]
theorem rls (v x : Value) : ReflectliteValue.set #[v, x] = (do
    let (some (dst, a, fl), some (src, b, _)) := (← ReflectliteValue.parts v, ← ReflectliteValue.parts x)
      | unsupported (.noEntry "extern/(internal/reflectlite.Value).Set.zeroValue")
    if fl / ReflectliteValue.flagAddr % 2 == 0 then unsupported (.noEntry "extern/(internal/reflectlite.Value).Set.unaddressable")
    let val ← loadVar src b
    if ← Rtype.directlyAssignable dst src then storeVar dst a val
    else if ← Rtype.implements dst src then
      if (← Rtype.kind src) == 20 then
        match val with
        | .nilIface => unsupported (.noEntry "extern/reflectlite: a nil value of one interface type handed on as a value of another")
        | _ => storeVar dst a val
      else storeVar dst a (.iface src val)
    else panicString ("reflectlite.Set: value of type " ++ (← Rtype.spelt src) ++ " is not assignable to type " ++ (← Rtype.spelt dst))
    pure (.tuple #[])) := rfl
theorem Tryd.parts25a (a : Addr) (w : World) : (ReflectliteValue.parts (.agg #[.pointer (some ⟨1, 50, none⟩), .pointer (some a), .int .u64 406])).run Tryd.prog w = .ok (some (50, a, 406)) w := by kernel_rfl
theorem Tryd.parts25 (a : Addr) (w : World) : (ReflectliteValue.parts (.agg #[.pointer (some ⟨1, 50, none⟩), .pointer (some a), .int .u64 150])).run Tryd.prog w = .ok (some (50, a, 150)) w := by kernel_rfl
theorem Tryd.direct25 (w : World) : (Rtype.directlyAssignable 50 50).run Tryd.prog w = .ok true w := by kernel_rfl
theorem Tryd.size25 (w : World) : (sizeOf 50).run Tryd.prog w = .ok 1 w := by kernel_rfl
/-- (Value).Set: the *p.E variable at 'ta' gets what the Value's own variable 'b' holds. -/
theorem Tryd.set25 (ta b e : Addr) (old : Value) (W : World) (hb : W.cell? b = some (.pointer (some e))) (ht : W.cell? ta = some old) (hf : W.frozen? ta = false) :
    (ReflectliteValue.set #[.agg #[.pointer (some ⟨1, 50, none⟩), .pointer (some ta), .int .u64 406], .agg #[.pointer (some ⟨1, 50, none⟩), .pointer (some b), .int .u64 150]]).run Tryd.prog W
      = .ok (.tuple #[]) (W.setCell ta (.pointer (some e))) := by
  rw [rls]
  simp only [Sem.run_bind, Tryd.parts25a, Tryd.parts25, Result.andThen]
  simp [ReflectliteValue.flagAddr, loadVar, isAgg, underlying, Tryd.underlying50, hb, Result.andThen, Tryd.direct25, storeVar, Value.cells, storeCells, Addr.add]
  rw [run_store Tryd.prog W ta _ _ (by rfl)]
  simp [ht, hf]

set_option maxHeartbeats 8000000 in
set_option maxRecDepth 100000 in
theorem as_hit (e t : Addr) (old : Value) (w : World) (hg : w.cell? ⟨0, 0, none⟩ = some (.iface 79 (.agg #[.pointer (some ⟨1, 25, none⟩)]))) (ht0 : w.cell? t = some old) (hf0 : w.frozen? t = false) :
    Calls Tryd.prog 23 #[.iface 50 (.pointer (some e)), .iface 54 (.pointer (some t))] w fun ev w' => ev = .returned (.bool true) ∧ w' = ((((w.alloc (.cells #[.pointer (some t)] 54)).alloc (.cells #[.pointer (some ⟨1, 54, none⟩), .pointer (some ⟨w.heap.size, 0, none⟩), .int .u64 150] 63)).alloc (.cells #[.pointer (some ⟨1, 54, none⟩), .pointer (some ⟨w.heap.size, 0, none⟩), .int .u64 150] 63)).alloc (.cells #[.pointer (some e)] 50)).setCell t (.pointer (some e)) := by
  have h6 := @run_callFunc_extern Tryd.prog 28 _ (fun args => ReflectliteValue.unpack (args.getD 0 (.tuple #[]))) Tryd.func28 (by kernel_rfl) (by kernel_rfl) (by kernel_rfl) (by kernel_rfl)
  have h7 := @run_callFunc_extern Tryd.prog 29 _ (ReflectliteValue.methodAny (ReflectliteValue.valueError "reflectlite.Value.Type" 0) (fun t _ _ _ => ReflectliteType.toType t)) Tryd.func29 (by kernel_rfl) (by kernel_rfl) (by kernel_rfl) (by kernel_rfl)
  have h8 := @run_callFunc_extern Tryd.prog 30 _ (ReflectliteValue.method (ReflectliteValue.valueError "reflectlite.Value.IsNil" 0) ReflectliteValue.isNil) Tryd.func30 (by kernel_rfl) (by kernel_rfl) (by kernel_rfl) (by kernel_rfl)
  have h27 := @run_callFunc_extern Tryd.prog 50 _ (ReflectliteType.abiMethod fun t => do pure (.int .u8 (← Rtype.kind t))) Tryd.func50 (by kernel_rfl) (by kernel_rfl) (by kernel_rfl) (by kernel_rfl)
  have h37 := @run_callFunc_extern Tryd.prog 65 _ (ReflectliteType.method ReflectliteType.elem) Tryd.func65 (by kernel_rfl) (by kernel_rfl) (by kernel_rfl) (by kernel_rfl)
  have h38 := @run_callFunc_extern Tryd.prog 66 _ (ReflectliteType.relation "Implements" ReflectliteType.implements_) Tryd.func66 (by kernel_rfl) (by kernel_rfl) (by kernel_rfl) (by kernel_rfl)
  have h10 := @run_callFunc_extern Tryd.prog 32 _ ReflectliteType.typeOf Tryd.func32 (by kernel_rfl) (by kernel_rfl) (by kernel_rfl) (by kernel_rfl)
  have h35 := @run_callFunc_extern Tryd.prog 63 _ (ReflectliteType.relation "AssignableTo" ReflectliteType.assignableTo) Tryd.func63 (by kernel_rfl) (by kernel_rfl) (by kernel_rfl) (by kernel_rfl)
  have h11 := @run_callFunc_extern Tryd.prog 34 _ (ReflectliteValue.method (ReflectliteValue.valueError "reflectlite.Value.Elem" 0) ReflectliteValue.elem) Tryd.func34 (by kernel_rfl) (by kernel_rfl) (by kernel_rfl) (by kernel_rfl)
  have h12 := @run_callFunc_extern Tryd.prog 35 _ ReflectliteValue.set Tryd.func35 (by kernel_rfl) (by kernel_rfl) (by kernel_rfl) (by kernel_rfl)
  have tO := Tryd.typeOf25
  have mA := Tryd.methodAssignableTo
  have a25 := Tryd.assignable25
  have v25 := Tryd.valueOf25
  have f6 := Tryd.valueOf27
  have f7 := Tryd.type27
  have mK := Tryd.methodKind
  have mE := Tryd.methodElem
  have mI := Tryd.methodImplements
  have k27 := Tryd.kind27
  have k25 := Tryd.kind25
  have e27 := Tryd.elem27
  have i25 := Tryd.implements25
  have n8 := Tryd.isNil27 ⟨w.heap.size, 0, none⟩ t ((w.alloc (.cells #[.pointer (some t)] 54)).alloc (.cells #[.pointer (some ⟨1, 54, none⟩), .pointer (some ⟨w.heap.size, 0, none⟩), .int .u64 150] 63)) (by simp)
  have hlt : 0 < w.heap.size := by
    rcases Nat.eq_zero_or_pos w.heap.size with h0 | h
    · simp [World.cell?, h0] at hg
    · exact h
  have hg2 : ((w.alloc (.cells #[.pointer (some t)] 54)).alloc (.cells #[.pointer (some ⟨1, 54, none⟩), .pointer (some ⟨w.heap.size, 0, none⟩), .int .u64 150] 63)).cell? ⟨0, 0, none⟩ = some (.iface 79 (.agg #[.pointer (some ⟨1, 25, none⟩)])) := by
    rw [World.cell?_alloc_lt _ _ ⟨0, 0, none⟩ (by simp), World.cell?_alloc_lt _ _ ⟨0, 0, none⟩ hlt]; exact hg
  have htl : t.block < w.heap.size := by
    rcases Nat.lt_or_ge t.block w.heap.size with h | h
    · exact h
    · simp [World.cell?, Array.getElem?_eq_none h] at ht0
  have el := Tryd.elemV27 ⟨w.heap.size, 0, none⟩ t (((w.alloc (.cells #[.pointer (some t)] 54)).alloc (.cells #[.pointer (some ⟨1, 54, none⟩), .pointer (some ⟨w.heap.size, 0, none⟩), .int .u64 150] 63)).alloc (.cells #[.pointer (some ⟨1, 54, none⟩), .pointer (some ⟨w.heap.size, 0, none⟩), .int .u64 150] 63)) (by rw [World.cell?_alloc_lt _ _ ⟨w.heap.size, 0, none⟩ (by simp; omega)]; simp)
  have st := Tryd.set25 t ⟨w.heap.size + 1 + 1 + 1, 0, none⟩ e old ((((w.alloc (.cells #[.pointer (some t)] 54)).alloc (.cells #[.pointer (some ⟨1, 54, none⟩), .pointer (some ⟨w.heap.size, 0, none⟩), .int .u64 150] 63)).alloc (.cells #[.pointer (some ⟨1, 54, none⟩), .pointer (some ⟨w.heap.size, 0, none⟩), .int .u64 150] 63)).alloc (.cells #[.pointer (some e)] 50))
    (by rw [World.cell?_alloc_at _ _ _ _ (by simp)]; rfl)
    (by rw [World.cell?_alloc_lt _ _ t (by simp; omega), World.cell?_alloc_lt _ _ t (by simp; omega), World.cell?_alloc_lt _ _ t (by simp; omega), World.cell?_alloc_lt _ _ t htl]; exact ht0)
    (by rw [World.frozen?_alloc_old _ _ t (by simp; omega), World.frozen?_alloc_old _ _ t (by simp; omega), World.frozen?_alloc_old _ _ t (by simp; omega), World.frozen?_alloc_old _ _ t (Nat.ne_of_lt htl)]; exact hf0)
  go_enter Tryd.func23, Tryd.ntmps23
  go_wp2
  refine wp_loop_rounds 1 ?_
  rw [rounds_succ]
  go_wp2
  go_ret
  exact ⟨rfl, rfl⟩
end Go.Proofs.YtekldjimdmkgaaaDoor
namespace Go.Proofs.YtekldjimdmkgaaaDoor
open Go Go.Va
set_option linter.unusedVariables false
set_option linter.unusedSimpArgs false
def gls : List (Addr × Value) := [(⟨0, 0, none⟩, .iface 79 (.agg #[.pointer (some ⟨1, 25, none⟩)]))]
section
variable {P : Program} {Ty : TypeId → Option TI} {fr : Nat → AV} {d : Option Tmp} {t : TypeId} {pos : String} {af : Array Edge} {g : Option (Nat × Bool)} {ox oy : Operand} {T T' : TypeId}
theorem o_err_eql (hT : TyOk P Ty) {x : Err} (ht : tdOf Ty T = .iface) (hx : aeval fr ox = eErr x) (hy : oy = .const .nilIface) : OpP P ⟨d, .binOp .eql T ox oy T', t, pos, af, g⟩ fr (eB x.isNil) := by
  subst hy
  refine OpP.of_aop' hT (mu := false) rfl (fun τ => ?_)
  have h2 : aeval fr (.const .nilIface) = .nili := rfl
  simp only [aop, hx, h2]
  cases x with
  | nil => simp [eErr, abin', abin, ht, isC, aeq, pairO, Err.isNil, eB]
  | fault o a c u => simp [eErr, abin', abin, ht, isC, aeq, pairO, Err.isNil, eB]
theorem o_err_neq (hT : TyOk P Ty) {x : Err} (ht : tdOf Ty T = .iface) (hx : aeval fr ox = eErr x) (hy : oy = .const .nilIface) : OpP P ⟨d, .binOp .neq T ox oy T', t, pos, af, g⟩ fr (eB (!x.isNil)) := by
  subst hy
  refine OpP.of_aop' hT (mu := false) rfl (fun τ => ?_)
  have h2 : aeval fr (.const .nilIface) = .nili := rfl
  simp only [aop, hx, h2]
  cases x with
  | nil => simp [eErr, abin', abin, ht, isC, aeq, pairO, Err.isNil, eB]
  | fault o a c u => simp [eErr, abin', abin, ht, isC, aeq, pairO, Err.isNil, eB]
end
/-- The pointer that an error holds. -/
def Err.ptr : Err → AV
  | .nil => .nilp
  | .fault o a c u => .fptr [eS o, eI a, eI c, eErr u] 0
theorem as_ok {x : Err} (hx : x.isNil = false) {σ : St} {id : Nat} (ho : σ.objs[id]? = some [.nilp]) (hg : σ.gl = gls) : ACall Tryd.prog 23 [eErr x, .iface 54 (.ref id 0)] σ (fun a τ => a = eB true ∧ τ = σ.puts [(id, [x.ptr])]) := by
  cases x with
  | nil => cases hx
  | fault o a c u =>
    refine ⟨⟨_, Tryd.func23, by decide, rfl⟩, fun w0 G w vs hI hr => ?_⟩
    obtain ⟨v0, h0, r0⟩ := hr.get (i := 0) rfl
    obtain ⟨v1, h1, r1⟩ := hr.get (i := 1) rfl
    have hvs : vs = #[v0, v1] := by
      obtain ⟨l⟩ := vs
      have hl := hr.len
      simp only [List.length_cons, List.length_nil] at hl h0 h1
      match l, hl, h0, h1 with
      | [x, y], _, h0, h1 => simp at h0 h1; subst h0; subst h1; rfl
    subst hvs
    simp only [eErr] at r0
    cases r0 with | iface _ v0 _ r0 =>
    cases r1 with | iface _ v1 _ r1 =>
    cases r0 with | fptr b o' off _ val hf hv =>
    cases r1 with | ref _ _ b1 hl =>
    obtain ⟨b2, T, cs, e1, e2, e3, e4, e5, e6⟩ := hI.loc id _ ho (by simp) rfl
    rw [hl] at e1
    cases e1
    obtain ⟨u1, hu1, ru1⟩ := e4.rel.get (i := 0) rfl
    have hcs : cs[0]? = some (.pointer none) := by
      cases ru1
      rw [List.getElem?_take] at hu1
      simpa using hu1
    have hsz : 1 ≤ cs.size := e4.le
    have hglob := hI.below
    have hg0 : w0.cell? ⟨0, 0, none⟩ = some (.iface 79 (.agg #[.pointer (some ⟨1, 25, none⟩)])) := hI.gl _ (by rw [hg]; exact List.mem_singleton.2 rfl)
    have hg1 : w.cell? ⟨0, 0, none⟩ = some (.iface 79 (.agg #[.pointer (some ⟨1, 25, none⟩)])) := by
      have hb := World.block_lt_of_cell? w0 _ hg0
      simp only [World.cell?] at hg0 ⊢
      rw [hI.below.block _ hb]; exact hg0
    have hc : w.cell? ⟨b1, 0, none⟩ = some (.pointer none) := by simp [World.cell?, e3, hcs]
    have hfz : w.frozen? ⟨b1, 0, none⟩ = false := by simp [World.frozen?, e3]
    refine (as_hit ⟨b, o' + 0, none⟩ ⟨b1, 0, none⟩ (.pointer none) w hg1 hc hfz).mono ?_
    rintro e w' ⟨rfl, rfl⟩
    have k1 := hI.alloc_fz #[.pointer (some ⟨b1, 0, none⟩)] 54 (by simp [Value.oneCell']) (0, 0)
    have k2 := k1.2.alloc_fz #[.pointer (some ⟨1, 54, none⟩), .pointer (some ⟨w.heap.size, 0, none⟩), .int .u64 150] 63 (by simp [Value.oneCell']) (0, 0)
    have k3 := k2.2.alloc_fz #[.pointer (some ⟨1, 54, none⟩), .pointer (some ⟨w.heap.size, 0, none⟩), .int .u64 150] 63 (by simp [Value.oneCell']) (0, 0)
    have k4 := k3.2.alloc_fz #[.pointer (some ⟨b, o' + 0, none⟩)] 50 (by simp [Value.oneCell']) (0, 0)
    have hle := k1.1.trans (k2.1.trans (k3.1.trans k4.1))
    have hb1 : b1 < w.heap.size := (Array.getElem?_eq_some_iff.1 e3).1
    have k5 := k4.2.write (id := id) (off := 0) (news := [.pointer (some ⟨b, o' + 0, none⟩)]) (nc := [.fptr [eS o, eI a, eI c, eErr u] 0]) ho (hle.loc _ _ hl) (by simp) rfl ((RelL.nil _).cons (.fptr b o' 0 _ val (fun j a h1 => hle.fz _ _ _ (hf j a h1)) (fun j a h1 => (hv j a h1).mono hle))) (by simp [Value.oneCell']) (by simp) (by rw [hle.bsz _ _ hl, ← e6]; simpa using hsz)
    refine ⟨.bool true, eB true, _, _, rfl, hle, ?_, .bool true, rfl, rfl⟩
    simp only [World.setCells, List.take_zero, List.nil_append, List.length_cons, List.length_nil, List.drop_succ_cons, List.drop_zero, List.drop_nil, List.append_nil] at k5
    exact k5
end Go.Proofs.YtekldjimdmkgaaaDoor
namespace Go.Proofs.YtekldjimdmkgaaaDoor
open Go Go.Va
set_option linter.unusedVariables false
/-- Whether a fault, or any under it, is of a code. -/
def hasE : Err → Int → Bool
  | .nil, _ => false
  | .fault o a c u, k => (c == k && c != 0) || hasE u k
def trouble_Has (x : Err) (k : Int) : Option Bool := some (hasE x k)
end Go.Proofs.YtekldjimdmkgaaaDoor
namespace Go.Proofs.YtekldjimdmkgaaaDoor
open Go Go.Va Go.RowKit
set_option linter.unusedVariables false
set_option linter.unusedSimpArgs false
set_option maxRecDepth 20000
def mkE (k : Int) : AV := .iface 58 (.agg [eI k])
theorem fis_ok (o : List (BitVec 8)) (a c : Int) (u : Err) (k : Int) (σ : St) : ACall Tryd.prog 54 [.fptr [eS o, eI a, eI c, eErr u] 0, mkE k] σ (fun b τ => b = eB (c == k && c != 0) ∧ τ = σ) := by
  refine ACall.pure (acall_start tk Tryd.func54 (by decide) rfl (Nat.le_of_ble_eq_true rfl) ?_)
  have hH := Holds.init σ
  refine awp_seq ?_
  refine awp_region rfl ?_
  refine wpo_mv (a := eB false) rfl rfl rfl (o_as tk rfl (Wk.refl _)) ?_
  refine wpo_nil ?_
  refine awp_seq ?_
  refine awp_region rfl ?_
  refine wpo_mv (a := mkE k) rfl rfl rfl (o_mv tk rfl (Wk.refl _)) ?_
  refine wpo_mv (a := .tup [.agg [eI k], eB true]) rfl rfl rfl (o_ta (z := fun v => v) rfl (fun v w => by simp [Instr.typeAssert, run_underlying Tryd.underlying58, Result.andThen]) (fun G v h => h)) ?_
  refine wpo_mv (a := .tup [.agg [eI k], eB true]) rfl rfl rfl (o_mv tk rfl (Wk.refl _)) ?_
  refine wpo_mv (a := .agg [eI k]) rfl rfl rfl (o_ext tk rfl rfl) ?_
  refine wpo_mv (a := eB true) rfl rfl rfl (o_ext tk rfl rfl) ?_
  refine wpo_a (av := fun id => .ref id 0) rfl rfl rfl (h_alloc tk hH ty58 [eI 0] rfl) fun id τ ⟨hH, hn⟩ => ?_
  refine wpo_z rfl rfl (h_st tk hH 0 rfl ty58 (by simp) rfl rfl (Wk.refl _) rfl rfl (by decide) [eI k] rfl) fun τ hH => ?_
  refine wpo_mv (a := eB true) rfl rfl rfl (o_as tk rfl (Wk.refl _)) ?_
  refine wpo_nil ?_
  refine awp_seq ?_
  refine awp_drawS mixed [] rfl (by decide +kernel) rfl rfl ?_
  refine wpdS_mv (a := eB true) rfl rfl rfl (o_mv tk rfl (Wk.refl _)) ?_
  refine wpdS_mv (a := eB true) rfl rfl rfl (o_mv tk rfl (Wk.refl _)) ?_
  refine wpdS_mv (a := .fptr [eS o, eI a, eI c, eErr u] 0) rfl rfl rfl (o_mv tk rfl (Wk.refl _)) ?_
  refine wpdS_mv (a := .fptr [eS o, eI a, eI c, eErr u] 0) rfl rfl rfl (o_c tk false rfl (fun _ => rfl)) ?_
  refine wpdS_mv (a := .fptr [eS o, eI a, eI c, eErr u] 2) rfl rfl rfl (o_c tk false rfl (fun _ => rfl)) ?_
  refine wpdS_mv (a := eI c) rfl rfl rfl (o_ld tk rfl rfl) ?_
  refine wpdS_mv (a := .ref id 0) rfl rfl rfl (o_c tk false rfl (fun _ => rfl)) ?_
  refine wpdS_rd (a := eI k) rfl (by decide +kernel) rfl rfl (h_ld tk hH 0 rfl rfl rfl) ?_
  cases hck : (c == k) with
  | false =>
    refine wpdS_mv (a := eB false) rfl rfl rfl (by rw [← hck]; exact o_ar tk rfl rfl rfl) ?_
    refine wpdS_mv (a := eB false) rfl rfl rfl (o_pick_t tk rfl rfl (Wk.refl _)) ?_
    refine wpdS_mv (a := eB false) rfl rfl rfl (o_mv tk rfl (Wk.refl _)) ?_
    refine wpdS_skip rfl rfl rfl ?_
    refine wpdS_skip rfl rfl rfl ?_
    refine wpdS_skip rfl rfl rfl ?_
    refine wpdS_skip rfl rfl rfl ?_
    refine wpdS_skip rfl rfl rfl ?_
    refine wpdS_mv (a := eB false) rfl rfl rfl (o_pick_f tk rfl rfl (Wk.refl _)) ?_
    refine wpdS_mv (a := eB false) rfl rfl rfl (o_as tk rfl (Wk.refl _)) ?_
    refine wpdS_nil ?_
    refine awp_ret ?_
    exact ⟨_, (eB false), rfl, (.of_eq rfl), .of_eq rfl, (hH.noT.drop hn)⟩
  | true =>
    refine wpdS_mv (a := eB true) rfl rfl rfl (by rw [← hck]; exact o_ar tk rfl rfl rfl) ?_
    refine wpdS_mv (a := eB true) rfl rfl rfl (o_pick_t tk rfl rfl (Wk.refl _)) ?_
    refine wpdS_mv (a := eB true) rfl rfl rfl (o_mv tk rfl (Wk.refl _)) ?_
    refine wpdS_mv (a := .fptr [eS o, eI a, eI c, eErr u] 0) rfl rfl rfl (o_mv tk rfl (Wk.refl _)) ?_
    refine wpdS_mv (a := .fptr [eS o, eI a, eI c, eErr u] 0) rfl rfl rfl (o_c tk false rfl (fun _ => rfl)) ?_
    refine wpdS_mv (a := .fptr [eS o, eI a, eI c, eErr u] 2) rfl rfl rfl (o_c tk false rfl (fun _ => rfl)) ?_
    refine wpdS_mv (a := eI c) rfl rfl rfl (o_ld tk rfl rfl) ?_
    refine wpdS_mv (a := eB (c != 0)) rfl rfl rfl (o_ar tk rfl rfl rfl) ?_
    refine wpdS_mv (a := eB (c != 0)) rfl rfl rfl (o_pick_t tk rfl rfl (Wk.refl _)) ?_
    refine wpdS_mv (a := eB (c != 0)) rfl rfl rfl (o_as tk rfl (Wk.refl _)) ?_
    refine wpdS_nil ?_
    refine awp_ret ?_
    exact ⟨_, (eB (c != 0)), rfl, (.of_eq rfl), .of_eq rfl, (hH.noT.drop hn)⟩
theorem fun_ok (o : List (BitVec 8)) (a c : Int) (u : Err) (σ : St) : ACall Tryd.prog 55 [.fptr [eS o, eI a, eI c, eErr u] 0] σ (fun b τ => b = eErr u ∧ τ = σ) := by
  refine ACall.pure (acall_start tk Tryd.func55 (by decide) rfl (Nat.le_of_ble_eq_true rfl) ?_)
  have hH := Holds.init σ
  refine awp_seq ?_
  refine awp_region rfl ?_
  refine wpo_mv (a := .nili) rfl rfl rfl (o_as tk rfl (Wk.refl _)) ?_
  refine wpo_nil ?_
  refine awp_seq ?_
  refine awp_region rfl ?_
  refine wpo_mv (a := .fptr [eS o, eI a, eI c, eErr u] 0) rfl rfl rfl (o_mv tk rfl (Wk.refl _)) ?_
  refine wpo_mv (a := .fptr [eS o, eI a, eI c, eErr u] 0) rfl rfl rfl (o_c tk false rfl (fun _ => rfl)) ?_
  refine wpo_mv (a := .fptr [eS o, eI a, eI c, eErr u] 3) rfl rfl rfl (o_c tk false rfl (fun _ => rfl)) ?_
  refine wpo_mv (a := eErr u) rfl rfl rfl (o_ld tk rfl (by cases u <;> rfl)) ?_
  refine wpo_mv (a := eErr u) rfl rfl rfl (o_as tk rfl (Wk.refl _)) ?_
  refine wpo_nil ?_
  refine awp_ret ?_
  exact ⟨_, (eErr u), rfl, (.of_eq rfl), .of_eq (encErr.cut _ _ _), hH.noT⟩
end Go.Proofs.YtekldjimdmkgaaaDoor
namespace Go.Proofs.YtekldjimdmkgaaaDoor
open Go Go.Va Go.RowKit
set_option linter.unusedVariables false
set_option linter.unusedSimpArgs false
set_option maxRecDepth 20000
abbrev FltT := List (BitVec 8) × Int × Int × Err
def FltT.e (s : FltT) : Err := .fault s.1 s.2.1 s.2.2.1 s.2.2.2
def is_b0 (k : Int) (s : FltT) : Option (FltT ⊕ Bool) := if (s.2.2.1 == k && s.2.2.1 != 0) = true then some (.inr true) else match s.2.2.2 with
  | .nil => some (.inr false)
  | .fault o a c u => some (.inl (o, a, c, u))
theorem is_l0 (k : Int) : ∀ (u : Err) (o : List (BitVec 8)) (a c : Int), loopO (is_b0 k) (o, a, c, u) = some (hasE (.fault o a c u) k)
  | .nil, o, a, c => by
    refine loopO_out ?_
    unfold is_b0 hasE
    cases h : (c == k && c != 0) <;> simp [hasE, h]
  | .fault o' a' c' u', o, a, c => by
    cases h : (c == k && c != 0) with
    | true =>
      refine loopO_out ?_
      unfold is_b0 hasE
      simp [h]
    | false =>
      rw [loopO_in (s' := (o', a', c', u')) (by unfold is_b0; simp [h]), is_l0 k u' o' a' c']
      show _ = some ((c == k && c != 0) || hasE (.fault o' a' c' u') k)
      rw [h, Bool.false_or]
theorem Tryd.hasIsF (v : Value) (xT : TypeId) (w : World) : (Instr.typeAssert (.iface 50 v) xT 90 true).run Tryd.prog w = .ok (.tuple #[.iface 50 v, .bool true]) w := run_typeAssert_hasB Tryd.underlying90 (by kernel_rfl) v xT w
theorem Tryd.hasUnF (v : Value) (xT : TypeId) (w : World) : (Instr.typeAssert (.iface 50 v) xT 86 true).run Tryd.prog w = .ok (.tuple #[.iface 50 v, .bool true]) w := run_typeAssert_hasB Tryd.underlying86 (by kernel_rfl) v xT w
theorem Tryd.methodIsF (v : Value) (w : World) : (Go.method 224 50 v "Is").run Tryd.prog w = .ok (54, v) w := by kernel_rfl
theorem Tryd.methodUnF (v : Value) (w : World) : (Go.method 224 50 v "Unwrap").run Tryd.prog w = .ok (55, v) w := by kernel_rfl
theorem fuel_eq : Tryd.prog.types.size + Made.depth = 224 := by kernel_rfl
theorem is2_ok (o : List (BitVec 8)) (a c : Int) (u : Err) (k : Int) (σ : St) : ACall Tryd.prog 33 [eErr (.fault o a c u), mkE k, eB true] σ (fun b τ => b = eB (hasE (.fault o a c u) k) ∧ τ = σ) := by
  refine ACall.pure (acall_start tk Tryd.func33 (by decide) rfl (Nat.le_of_ble_eq_true rfl) ?_)
  have hH := Holds.init σ
  refine awp_seq ?_
  refine awp_region rfl ?_
  refine wpo_mv (a := eB false) rfl rfl rfl (o_as tk rfl (Wk.refl _)) ?_
  refine wpo_nil ?_
  refine awp_block ?_
  refine awp_loopO (body := is_b0 k) (is_l0 k u o a c) (fun (s : FltT) fr τ => WkF fr (fm [(0, eErr s.e), (1, mkE k), (2, eB true)]) ∧ Holds σ [] [] τ) ⟨(wkf_cons (.of_eq rfl) (wkf_cons (.of_eq rfl) (wkf_cons (.of_eq rfl) (wkf_nil _)))), hH⟩ ?_
  rintro ⟨o1, a1, c1, u1⟩ fr τ y ⟨hfr, hH⟩ hb hy
  have hfr : WkF fr (fm [(0, eErr (.fault o1 a1 c1 u1)), (1, mkE k), (2, eB true)]) := hfr
  refine AWP.fm [(0, eErr (.fault o1 a1 c1 u1)), (1, mkE k), (2, eB true)] hfr ?_
  have hb : (if (c1 == k && c1 != 0) = true then some (.inr true) else match u1 with
    | .nil => some (.inr false)
    | .fault o a c u => some (.inl (o, a, c, u))) = some y := hb
  refine awp_block ?_
  refine awp_seq ?_
  refine awp_seq ?_
  refine awp_region rfl ?_
  refine wpo_mv (a := eB true) rfl rfl rfl (o_mv tk rfl (Wk.refl _)) ?_
  refine wpo_mv (a := eB true) rfl rfl rfl (o_mv tk rfl (Wk.refl _)) ?_
  refine wpo_mv (a := eErr (.fault o1 a1 c1 u1)) rfl rfl rfl (o_mv tk rfl (Wk.refl _)) ?_
  refine wpo_mv (a := mkE k) rfl rfl rfl (o_mv tk rfl (Wk.refl _)) ?_
  refine wpo_mv (a := eB false) rfl rfl rfl (o_ifne tk td25 rfl rfl (by decide)) ?_
  refine wpo_mv (a := eB false) rfl rfl rfl (o_pick_t tk rfl rfl (Wk.refl _)) ?_
  refine wpo_nil ?_
  refine awp_false rfl ?_
  refine awp_skip ?_
  refine awp_seq ?_
  refine awp_seq ?_
  refine awp_region rfl ?_
  refine wpo_mv (a := eErr (.fault o1 a1 c1 u1)) rfl rfl rfl (o_mv tk rfl (Wk.refl _)) ?_
  refine wpo_mv (a := .tup [eErr (.fault o1 a1 c1 u1), eB true]) rfl rfl rfl (o_ta (z := fun v => .iface 50 v) rfl (fun v w => Tryd.hasIsF v _ w) (fun G v h => .iface _ _ _ h)) ?_
  refine wpo_mv (a := .tup [eErr (.fault o1 a1 c1 u1), eB true]) rfl rfl rfl (o_mv tk rfl (Wk.refl _)) ?_
  refine wpo_mv (a := eErr (.fault o1 a1 c1 u1)) rfl rfl rfl (o_ext tk rfl rfl) ?_
  refine wpo_mv (a := eB true) rfl rfl rfl (o_ext tk rfl rfl) ?_
  refine wpo_mv (a := eErr (.fault o1 a1 c1 u1)) rfl rfl rfl (o_as tk rfl (Wk.refl _)) ?_
  refine wpo_mv (a := eB true) rfl rfl rfl (o_as tk rfl (Wk.refl _)) ?_
  refine wpo_nil ?_
  refine awp_seq ?_
  refine awp_region rfl ?_
  refine wpo_mv (a := eB true) rfl rfl rfl (o_mv tk rfl (Wk.refl _)) ?_
  refine wpo_mv (a := eB true) rfl rfl rfl (o_mv tk rfl (Wk.refl _)) ?_
  refine wpo_mv (a := eErr (.fault o1 a1 c1 u1)) rfl rfl rfl (o_mv tk rfl (Wk.refl _)) ?_
  refine wpo_mv (a := mkE k) rfl rfl rfl (o_mv tk rfl (Wk.refl _)) ?_
  refine wpo_mv (a := eB (c1 == k && c1 != 0)) rfl rfl rfl (fun τ => OpS.of_invoke rfl rfl rfl fuel_eq Tryd.methodIsF (.cons (.of_eq rfl) (.cons (.of_eq rfl) .nil)) (fis_ok o1 a1 c1 u1 k τ)) ?_
  refine wpo_mv (a := eB (c1 == k && c1 != 0)) rfl rfl rfl (o_pick_t tk rfl rfl (Wk.refl _)) ?_
  refine wpo_nil ?_
  refine awp_if hb rfl (fun hb => ?_) (fun hb => ?_)
  · refine awp_seq ?_
    refine awp_region rfl ?_
    refine wpo_mv (a := eB true) rfl rfl rfl (o_as tk rfl (Wk.refl _)) ?_
    refine wpo_nil ?_
    refine awp_ret ?_
    have hz := hy _ (Option.some.inj hb).symm
    refine ⟨⟨_, (Option.some.inj hb).symm⟩, ?_⟩
    rw [← hz]
    exact ⟨_, (eB true), rfl, (.of_eq rfl), .of_eq rfl, hH.noT⟩
  · refine awp_skip ?_
    refine awp_seq ?_
    refine awp_region rfl ?_
    refine wpo_mv (a := eErr (.fault o1 a1 c1 u1)) rfl rfl rfl (o_mv tk rfl (Wk.refl _)) ?_
    refine wpo_nil ?_
    refine awp_block ?_
    refine awp_seq ?_
    refine awp_region rfl ?_
    refine wpo_mv (a := .tup [eErr (.fault o1 a1 c1 u1), eB true]) rfl rfl rfl (o_ta (z := fun v => .iface 50 v) rfl (fun v w => Tryd.hasUnF v _ w) (fun G v h => .iface _ _ _ h)) ?_
    refine wpo_mv (a := eB true) rfl rfl rfl (o_ext tk rfl rfl) ?_
    refine wpo_mv (a := eErr (.fault o1 a1 c1 u1)) rfl rfl rfl (o_ext tk rfl rfl) ?_
    refine wpo_nil ?_
    refine awp_true rfl ?_
    refine awp_seq ?_
    refine awp_region rfl ?_
    refine wpo_mv (a := eErr (.fault o1 a1 c1 u1)) rfl rfl rfl (o_as tk rfl (Wk.refl _)) ?_
    refine wpo_nil ?_
    refine awp_seq ?_
    refine awp_region rfl ?_
    refine wpo_mv (a := eErr (.fault o1 a1 c1 u1)) rfl rfl rfl (o_mv tk rfl (Wk.refl _)) ?_
    refine wpo_mv (a := eErr u1) rfl rfl rfl (fun τ => OpS.of_invoke rfl rfl rfl fuel_eq Tryd.methodUnF (.cons (.of_eq rfl) .nil) (fun_ok o1 a1 c1 u1 τ)) ?_
    refine wpo_mv (a := eErr u1) rfl rfl rfl (o_as tk rfl (Wk.refl _)) ?_
    refine wpo_nil ?_
    refine awp_seq ?_
    refine awp_region rfl ?_
    refine wpo_mv (a := eErr u1) rfl rfl rfl (o_mv tk rfl (Wk.refl _)) ?_
    refine wpo_mv (a := eB u1.isNil) rfl rfl rfl (o_err_eql tk td25 rfl rfl) ?_
    refine wpo_nil ?_
    cases u1 with
    | nil =>
      refine awp_true rfl ?_
      refine awp_seq ?_
      refine awp_region rfl ?_
      refine wpo_mv (a := eB false) rfl rfl rfl (o_as tk rfl (Wk.refl _)) ?_
      refine wpo_nil ?_
      refine awp_ret ?_
      have hz := hy _ (Option.some.inj hb).symm
      refine ⟨⟨_, (Option.some.inj hb).symm⟩, ?_⟩
      rw [← hz]
      exact ⟨_, (eB false), rfl, (.of_eq rfl), .of_eq rfl, hH.noT⟩
    | fault o2 a2 c2 u2 =>
      refine awp_false rfl ?_
      refine awp_skip ?_
      exact ⟨(o2, a2, c2, u2), (Option.some.inj hb).symm, (wkf_cons (.of_eq rfl) (wkf_cons (.of_eq rfl) (wkf_cons (.of_eq rfl) (wkf_nil _)))), hH⟩
end Go.Proofs.YtekldjimdmkgaaaDoor
namespace Go.Proofs.YtekldjimdmkgaaaDoor
open Go.RowKit Go.Extern.Stop Go.Stop Go.Extern
theorem Tryd.isTypeOf (v : Value) (w : World) : (Extern.ReflectliteType.typeOf #[.iface 58 v]).run Tryd.prog w = .ok (.iface 79 (.agg #[.pointer (some ⟨1, 58, none⟩)])) w := by kernel_rfl
def cmpF : Array Value → Sem Value := Extern.ReflectliteType.method fun t => do Extern.Rtype.noPackHeld "Comparable" t; pure (.bool (← typeInfo t).comparable)
theorem Tryd.isComparable (w : World) : (cmpF #[.agg #[.pointer (some ⟨1, 58, none⟩)]]).run Tryd.prog w = .ok (.bool true) w := by kernel_rfl
theorem Tryd.isMethodComparable (v : Value) (w : World) : (Go.method 224 79 v "Comparable").run Tryd.prog w = .ok (64, v) w := by kernel_rfl
theorem is_raw (v u : Value) (w : World) {r : Bool} {R : World → Prop} (h33 : Calls Tryd.prog 33 #[.iface 50 v, .iface 58 u, .bool true] w fun e w' => e = .returned (.bool r) ∧ R w') :
    Calls Tryd.prog 26 #[.iface 50 v, .iface 58 u] w fun e w' => e = .returned (.bool r) ∧ R w' := by
  have h8 := @run_callFunc_extern Tryd.prog 32 _ Extern.ReflectliteType.typeOf Tryd.func32 (by kernel_rfl) (by kernel_rfl) (by kernel_rfl) (by kernel_rfl)
  have h32 := @run_callFunc_extern Tryd.prog 64 _ cmpF Tryd.func64 (by kernel_rfl) (by kernel_rfl) (by kernel_rfl) (by kernel_rfl)
  have tT := Tryd.isTypeOf
  have cT := Tryd.isComparable
  have mR := Tryd.isMethodComparable
  go_enter Tryd.func26, Tryd.ntmps26
  go_wp2_with (go_at_call 33; refine h33.mono ?_; rintro e w' ⟨rfl, hR⟩)
  go_ret
  exact ⟨rfl, hR⟩
open Go.Va in
theorem Is_ok (o : List (BitVec 8)) (a c : Int) (u : Err) (k : Int) (σ : St) : ACall Tryd.prog 26 [eErr (.fault o a c u), mkE k] σ (fun b τ => b = eB (hasE (.fault o a c u) k) ∧ τ = σ) := by
  have h := is2_ok o a c u k σ
  refine ⟨⟨_, Tryd.func26, by decide, rfl⟩, fun w0 G w vs hI hr => ?_⟩
  obtain ⟨v0, h0, r0⟩ := hr.get (i := 0) rfl
  obtain ⟨v1, h1, r1⟩ := hr.get (i := 1) rfl
  have hvs : vs = #[v0, v1] := by
    obtain ⟨l⟩ := vs
    have hl := hr.len
    simp only [List.length_cons, List.length_nil] at hl h0 h1
    match l, hl, h0, h1 with
    | [x, y], _, h0, h1 => simp at h0 h1; subst h0; subst h1; rfl
  subst hvs
  simp only [eErr] at r0
  simp only [mkE] at r1
  cases r0 with | iface _ v0 _ r0 =>
  cases r1 with | iface _ v1 _ r1 =>
  have h2 := h.2 w0 G w #[.iface 50 v0, .iface 58 v1, .bool true] hI (by
    simp only [eErr, mkE]
    exact ((RelL.nil _).cons (.bool true)).cons (.iface _ _ _ r1) |>.cons (.iface _ _ _ r0))
  refine (is_raw v0 v1 w (r := hasE (.fault o a c u) k) (R := fun w' => ∃ G', G.Le G' ∧ Inv w0 G' w' σ) (h2.mono ?_)).mono ?_
  · rintro e w' ⟨v, x, σ', G', rfl, k1, k2, k3, rfl, rfl⟩
    cases k3
    exact ⟨rfl, G', k1, k2⟩
  · rintro e w' ⟨rfl, G', k1, k2⟩
    exact ⟨.bool _, eB (hasE (.fault o a c u) k), σ, G', rfl, k1, k2, .bool _, rfl, rfl⟩
end Go.Proofs.YtekldjimdmkgaaaDoor
namespace Go.Proofs.YtekldjimdmkgaaaDoor
open Go Go.Va Go.RowKit
set_option linter.unusedVariables false
set_option linter.unusedSimpArgs false
set_option maxRecDepth 20000
/-- Two errors together. -/
def eJ (x y : Err) : AV := .iface 75 (.fptr [eL 1 eErr [x, y]] 0)
theorem jun_ok (x y : Err) (σ : St) : ACall Tryd.prog 61 [.fptr [eL 1 eErr [x, y]] 0] σ (fun b τ => b = eL 1 eErr [x, y] ∧ τ = σ) := by
  refine ACall.pure (acall_start tk Tryd.func61 (by decide) rfl (Nat.le_of_ble_eq_true rfl) ?_)
  have hH := Holds.init σ
  refine awp_seq ?_
  refine awp_region rfl ?_
  refine wpo_mv (a := .nils) rfl rfl rfl (o_as tk rfl (Wk.refl _)) ?_
  refine wpo_nil ?_
  refine awp_seq ?_
  refine awp_region rfl ?_
  refine wpo_mv (a := .fptr [eL 1 eErr [x, y]] 0) rfl rfl rfl (o_mv tk rfl (Wk.refl _)) ?_
  refine wpo_mv (a := .fptr [eL 1 eErr [x, y]] 0) rfl rfl rfl (o_c tk false rfl (fun _ => rfl)) ?_
  refine wpo_mv (a := .fptr [eL 1 eErr [x, y]] 0) rfl rfl rfl (o_c tk false rfl (fun _ => rfl)) ?_
  refine wpo_mv (a := eL 1 eErr [x, y]) rfl rfl rfl (o_ld tk rfl rfl) ?_
  refine wpo_mv (a := eL 1 eErr [x, y]) rfl rfl rfl (o_as tk rfl (Wk.refl _)) ?_
  refine wpo_nil ?_
  refine awp_ret ?_
  exact ⟨_, (eL 1 eErr [x, y]), rfl, (.of_eq rfl), .of_eq (by exact (enc_l td74 sz74 encErr.cut).cut _ _ _), hH.noT⟩
theorem Tryd.noIsJ (v : Value) (xT : TypeId) (w : World) : (Instr.typeAssert (.iface 75 v) xT 90 true).run Tryd.prog w = .ok (.tuple #[.nilIface, .bool false]) w := run_typeAssert_lacksB Tryd.underlying90 (by kernel_rfl) (by kernel_rfl) v xT w
theorem Tryd.noUnJ (v : Value) (xT : TypeId) (w : World) : (Instr.typeAssert (.iface 75 v) xT 86 true).run Tryd.prog w = .ok (.tuple #[.nilIface, .bool false]) w := run_typeAssert_lacksB Tryd.underlying86 (by kernel_rfl) (by kernel_rfl) v xT w
theorem Tryd.hasUnsJ (v : Value) (xT : TypeId) (w : World) : (Instr.typeAssert (.iface 75 v) xT 88 true).run Tryd.prog w = .ok (.tuple #[.iface 75 v, .bool true]) w := run_typeAssert_hasB Tryd.underlying88 (by kernel_rfl) v xT w
theorem Tryd.methodUnsJ (v : Value) (w : World) : (Go.method 224 75 v "Unwrap").run Tryd.prog w = .ok (61, v) w := by kernel_rfl
def j_b0 (l : List Err) (k : Int) (i : Int) : Option (Int ⊕ (Unit ⊕ Bool)) := if decide (i < (l.length : Int)) = true then (ix l i).bind fun e => if hasE e k = true then some (.inr (.inr true)) else some (.inl (w64 (i + 1))) else some (.inr (.inl ()))
theorem j_l0 (x y : Err) (k : Int) : loopO (j_b0 [x, y] k) 0 = some (if hasE x k = true ∨ hasE y k = true then .inr true else .inl ()) := by
  by_cases hx : hasE x k = true
  · rw [loopO_out (x := .inr true) (by unfold j_b0; simp [ix, hx]), if_pos (.inl hx)]
  · rw [loopO_in (s' := 1) (by unfold j_b0; simp [ix, hx]; decide)]
    by_cases hy : hasE y k = true
    · rw [loopO_out (x := .inr true) (by unfold j_b0; simp [ix, hy]), if_pos (.inr hy)]
    · rw [loopO_in (s' := 2) (by unfold j_b0; simp [ix, hy]; decide), loopO_out (x := .inl ()) (by unfold j_b0; simp), if_neg (by simp [hx, hy])]
/-- errors.is of two faults together. -/
theorem isJ_ok (x y : FltT) (k : Int) (σ : St) : ACall Tryd.prog 33 [eJ x.e y.e, mkE k, eB true] σ (fun b τ => b = eB (hasE x.e k || hasE y.e k) ∧ τ = σ) := by
  refine ACall.pure (acall_start tk Tryd.func33 (by decide) rfl (Nat.le_of_ble_eq_true rfl) ?_)
  have hH := Holds.init σ
  refine awp_seq ?_
  refine awp_region rfl ?_
  refine wpo_mv (a := eB false) rfl rfl rfl (o_as tk rfl (Wk.refl _)) ?_
  refine wpo_nil ?_
  refine awp_block ?_
  refine awp_loopO (body := fun (_ : Unit) => some (.inr (hasE x.e k || hasE y.e k))) (loopO_out (s := ()) rfl) (fun (s : Unit) fr τ => WkF fr (fm [(0, eJ x.e y.e), (1, mkE k), (2, eB true)]) ∧ Holds σ [] [] τ) ⟨(wkf_cons (.of_eq rfl) (wkf_cons (.of_eq rfl) (wkf_cons (.of_eq rfl) (wkf_nil _)))), hH⟩ ?_
  rintro _ fr τ yy ⟨hfr, hH⟩ hb hy
  refine AWP.fm [(0, eJ x.e y.e), (1, mkE k), (2, eB true)] hfr ?_
  refine awp_block ?_
  refine awp_seq ?_
  refine awp_seq ?_
  refine awp_region rfl ?_
  refine wpo_mv (a := eB true) rfl rfl rfl (o_mv tk rfl (Wk.refl _)) ?_
  refine wpo_mv (a := eB true) rfl rfl rfl (o_mv tk rfl (Wk.refl _)) ?_
  refine wpo_mv (a := eJ x.e y.e) rfl rfl rfl (o_mv tk rfl (Wk.refl _)) ?_
  refine wpo_mv (a := mkE k) rfl rfl rfl (o_mv tk rfl (Wk.refl _)) ?_
  refine wpo_mv (a := eB false) rfl rfl rfl (o_ifne tk td25 rfl rfl (by decide)) ?_
  refine wpo_mv (a := eB false) rfl rfl rfl (o_pick_t tk rfl rfl (Wk.refl _)) ?_
  refine wpo_nil ?_
  refine awp_false rfl ?_
  refine awp_skip ?_
  refine awp_seq ?_
  refine awp_seq ?_
  refine awp_region rfl ?_
  refine wpo_mv (a := eJ x.e y.e) rfl rfl rfl (o_mv tk rfl (Wk.refl _)) ?_
  refine wpo_mv (a := .tup [.nili, eB false]) rfl rfl rfl (o_taf rfl (fun v w => Tryd.noIsJ v _ w)) ?_
  refine wpo_mv (a := .tup [.nili, eB false]) rfl rfl rfl (o_mv tk rfl (Wk.refl _)) ?_
  refine wpo_mv (a := .nili) rfl rfl rfl (o_ext tk rfl rfl) ?_
  refine wpo_mv (a := eB false) rfl rfl rfl (o_ext tk rfl rfl) ?_
  refine wpo_mv (a := .nili) rfl rfl rfl (o_as tk rfl (Wk.refl _)) ?_
  refine wpo_mv (a := eB false) rfl rfl rfl (o_as tk rfl (Wk.refl _)) ?_
  refine wpo_nil ?_
  refine awp_seq ?_
  refine awp_region rfl ?_
  refine wpo_mv (a := eB false) rfl rfl rfl (o_mv tk rfl (Wk.refl _)) ?_
  refine wpo_mv (a := eB false) rfl rfl rfl (o_mv tk rfl (Wk.refl _)) ?_
  refine wpo_skip rfl rfl rfl ?_
  refine wpo_skip rfl rfl rfl ?_
  refine wpo_skip rfl rfl rfl ?_
  refine wpo_mv (a := eB false) rfl rfl rfl (o_pick_f tk rfl rfl (Wk.refl _)) ?_
  refine wpo_nil ?_
  refine awp_false rfl ?_
  refine awp_skip ?_
  refine awp_seq ?_
  refine awp_region rfl ?_
  refine wpo_mv (a := eJ x.e y.e) rfl rfl rfl (o_mv tk rfl (Wk.refl _)) ?_
  refine wpo_nil ?_
  refine awp_block ?_
  refine awp_seq ?_
  refine awp_region rfl ?_
  refine wpo_mv (a := .tup [.nili, eB false]) rfl rfl rfl (o_taf rfl (fun v w => Tryd.noUnJ v _ w)) ?_
  refine wpo_mv (a := eB false) rfl rfl rfl (o_ext tk rfl rfl) ?_
  refine wpo_mv (a := .nili) rfl rfl rfl (o_ext tk rfl rfl) ?_
  refine wpo_nil ?_
  refine awp_false rfl ?_
  refine awp_seq ?_
  refine awp_region rfl ?_
  refine wpo_mv (a := .tup [eJ x.e y.e, eB true]) rfl rfl rfl (o_ta (z := fun v => .iface 75 v) rfl (fun v w => Tryd.hasUnsJ v _ w) (fun G v h => .iface _ _ _ h)) ?_
  refine wpo_mv (a := eB true) rfl rfl rfl (o_ext tk rfl rfl) ?_
  refine wpo_mv (a := eJ x.e y.e) rfl rfl rfl (o_ext tk rfl rfl) ?_
  refine wpo_nil ?_
  refine awp_true rfl ?_
  refine awp_seq ?_
  refine awp_region rfl ?_
  refine wpo_mv (a := eJ x.e y.e) rfl rfl rfl (o_as tk rfl (Wk.refl _)) ?_
  refine wpo_nil ?_
  refine awp_seq ?_
  refine awp_seq ?_
  refine awp_region rfl ?_
  refine wpo_mv (a := eJ x.e y.e) rfl rfl rfl (o_mv tk rfl (Wk.refl _)) ?_
  refine wpo_mv (a := eL 1 eErr [x.e, y.e]) rfl rfl rfl (fun τ => OpS.of_invoke rfl rfl rfl fuel_eq Tryd.methodUnsJ (.cons (.of_eq rfl) .nil) (jun_ok x.e y.e τ)) ?_
  refine wpo_mv (a := eI (([x.e, y.e] : List Err).length : Int)) rfl rfl rfl (o_len tk td74 rfl) ?_
  refine wpo_mv (a := eI 0) rfl rfl rfl (o_mv tk rfl (Wk.refl _)) ?_
  refine wpo_nil ?_
  refine awp_block ?_
  have hs := j_l0 x.e y.e k
  refine awp_cutx 3 (fun fr τ => (hasE x.e k || hasE y.e k) = false ∧ WkF fr (fm []) ∧ Holds σ [] [] τ) ?_ ?_
  · rintro fr τ ⟨h0, hfr, hH⟩
    refine AWP.fm [] hfr ?_
    refine awp_seq ?_
    refine awp_region rfl ?_
    refine wpo_mv (a := eB false) rfl rfl rfl (o_as tk rfl (Wk.refl _)) ?_
    refine wpo_nil ?_
    refine awp_ret ?_
    have hz := hy _ (Option.some.inj hb).symm
    refine ⟨⟨_, (Option.some.inj hb).symm⟩, ?_⟩
    rw [h0]
    exact ⟨_, (eB false), rfl, (.of_eq rfl), .of_eq rfl, hH.noT⟩
  · refine awp_loopO (body := j_b0 [x.e, y.e] k) hs (fun (i : Int) fr τ => WkF fr (fm [(1, mkE k), (2, eB true), (43, eL 1 eErr [x.e, y.e]), (44, eI (([x.e, y.e] : List Err).length : Int)), (45, eI i)]) ∧ Holds σ [] [] τ) ⟨(wkf_cons (.of_eq rfl) (wkf_cons (.of_eq rfl) (wkf_cons (.of_eq rfl) (wkf_cons (.of_eq rfl) (wkf_cons (.of_eq rfl) (wkf_nil _)))))), hH⟩ ?_
    rintro i fr τ y3 ⟨hfr, hH⟩ hb3 hy3
    refine AWP.fm [(1, mkE k), (2, eB true), (43, eL 1 eErr [x.e, y.e]), (44, eI (([x.e, y.e] : List Err).length : Int)), (45, eI i)] hfr ?_
    have hb3 : (if decide (i < (([x.e, y.e] : List Err).length : Int)) = true then (ix [x.e, y.e] i).bind fun e => if hasE e k = true then some (.inr (.inr true)) else some (.inl (w64 (i + 1))) else some (.inr (.inl ()))) = some y3 := hb3
    refine awp_seq ?_
    refine awp_region rfl ?_
    refine wpo_mv (a := eB (decide (i < (([x.e, y.e] : List Err).length : Int)))) rfl rfl rfl (o_ar tk rfl rfl rfl) ?_
    refine wpo_nil ?_
    refine awp_seq ?_
    refine awp_if hb3 rfl (fun hb3 => ?_) (fun hb3 => ?_)
    · refine awp_skip ?_
      refine awp_seq ?_
      refine awp_block ?_
      refine awp_seq ?_
      refine awp_region rfl ?_
      refine wpo_bd hb3 (fun e => .fptr (eErr e).cells 0) rfl rfl rfl (fun v hv => o_ixa tk hv td74 encErr rfl rfl) fun v hv hb3 => ?_
      refine wpo_mv (a := eErr v) rfl rfl rfl (o_ld_e tk encErr rfl rfl) ?_
      refine wpo_mv (a := eErr v) rfl rfl rfl (o_as tk rfl (Wk.refl _)) ?_
      refine wpo_nil ?_
      refine awp_seq ?_
      refine awp_region rfl ?_
      refine wpo_mv (a := eErr v) rfl rfl rfl (o_mv tk rfl (Wk.refl _)) ?_
      refine wpo_mv (a := mkE k) rfl rfl rfl (o_mv tk rfl (Wk.refl _)) ?_
      refine wpo_mv (a := eB true) rfl rfl rfl (o_mv tk rfl (Wk.refl _)) ?_
      obtain ⟨z, rfl⟩ : ∃ z : FltT, v = z.e := by
        unfold ix at hv
        split at hv
        · match hi : i.toNat, hv with
          | 0, hv => exact ⟨x, by exact (Option.some.inj hv).symm⟩
          | 1, hv => exact ⟨y, by exact (Option.some.inj hv).symm⟩
          | n + 2, hv => cases hv
        · cases hv
      refine wpo_mv (a := eB (hasE z.e k)) rfl rfl rfl (OpP.of_call rfl rfl (.cons (.of_eq rfl) (.cons (.of_eq rfl) (.cons (.of_eq rfl) .nil))) (is2_ok z.1 z.2.1 z.2.2.1 z.2.2.2 k)) ?_
      refine wpo_nil ?_
      refine awp_if hb3 rfl (fun hb3 => ?_) (fun hb3 => ?_)
      · refine awp_seq ?_
        refine awp_region rfl ?_
        refine wpo_mv (a := eB true) rfl rfl rfl (o_as tk rfl (Wk.refl _)) ?_
        refine wpo_nil ?_
        refine awp_ret ?_
        have hz := hy3 _ (Option.some.inj hb3).symm
        refine ⟨⟨_, (Option.some.inj hb3).symm⟩, ⟨_, (Option.some.inj hb).symm⟩, ?_⟩
        have hor : (hasE x.e k || hasE y.e k) = true := by
          split at hz
          · rename_i h
            simpa using h
          · cases hz
        rw [hor]
        exact ⟨_, (eB true), rfl, (.of_eq rfl), .of_eq rfl, hH.noT⟩
      · refine awp_skip ?_
        refine awp_region rfl ?_
        refine wpo_mv (a := eI (w64 (i + 1))) rfl rfl rfl (o_ar tk rfl rfl rfl) ?_
        refine wpo_mv (a := eI (w64 (i + 1))) rfl rfl rfl (o_mv tk rfl (Wk.refl _)) ?_
        refine wpo_nil ?_
        exact ⟨w64 (i + 1), (Option.some.inj hb3).symm, (wkf_cons (.of_eq rfl) (wkf_cons (.of_eq rfl) (wkf_cons (.of_eq rfl) (wkf_cons (.of_eq rfl) (wkf_cons (.of_eq rfl) (wkf_nil _)))))), hH⟩
    · refine awp_exit ?_
      have hz := hy3 _ (Option.some.inj hb3).symm
      refine ⟨⟨_, (Option.some.inj hb3).symm⟩, ?_, (wkf_nil _), hH⟩
      split at hz
      · cases hz
      · rename_i h
        simpa using h
end Go.Proofs.YtekldjimdmkgaaaDoor
namespace Go.Proofs.YtekldjimdmkgaaaDoor
open Go.RowKit Go.Extern.Stop Go.Stop Go.Extern
set_option linter.unusedVariables false
set_option linter.unusedSimpArgs false
theorem is_rawJ (v u : Value) (w : World) {r : Bool} {R : World → Prop} (h33 : Calls Tryd.prog 33 #[.iface 75 v, .iface 58 u, .bool true] w fun e w' => e = .returned (.bool r) ∧ R w') :
    Calls Tryd.prog 26 #[.iface 75 v, .iface 58 u] w fun e w' => e = .returned (.bool r) ∧ R w' := by
  have h8 := @run_callFunc_extern Tryd.prog 32 _ Extern.ReflectliteType.typeOf Tryd.func32 (by kernel_rfl) (by kernel_rfl) (by kernel_rfl) (by kernel_rfl)
  have h32 := @run_callFunc_extern Tryd.prog 64 _ cmpF Tryd.func64 (by kernel_rfl) (by kernel_rfl) (by kernel_rfl) (by kernel_rfl)
  have tT := Tryd.isTypeOf
  have cT := Tryd.isComparable
  have mR := Tryd.isMethodComparable
  go_enter Tryd.func26, Tryd.ntmps26
  go_wp2_with (go_at_call 33; refine h33.mono ?_; rintro e w' ⟨rfl, hR⟩)
  go_ret
  exact ⟨rfl, hR⟩
open Go.Va in
theorem IsJ_ok (x y : FltT) (k : Int) (σ : St) : ACall Tryd.prog 26 [eJ x.e y.e, mkE k] σ (fun b τ => b = eB (hasE x.e k || hasE y.e k) ∧ τ = σ) := by
  have h := isJ_ok x y k σ
  refine ⟨⟨_, Tryd.func26, by decide, rfl⟩, fun w0 G w vs hI hr => ?_⟩
  obtain ⟨v0, h0, r0⟩ := hr.get (i := 0) rfl
  obtain ⟨v1, h1, r1⟩ := hr.get (i := 1) rfl
  have hvs : vs = #[v0, v1] := by
    obtain ⟨l⟩ := vs
    have hl := hr.len
    simp only [List.length_cons, List.length_nil] at hl h0 h1
    match l, hl, h0, h1 with
    | [x, y], _, h0, h1 => simp at h0 h1; subst h0; subst h1; rfl
  subst hvs
  simp only [eJ] at r0
  simp only [mkE] at r1
  cases r0 with | iface _ v0 _ r0 =>
  cases r1 with | iface _ v1 _ r1 =>
  have h2 := h.2 w0 G w #[.iface 75 v0, .iface 58 v1, .bool true] hI (by
    simp only [eJ, mkE]
    exact ((RelL.nil _).cons (.bool true)).cons (.iface _ _ _ r1) |>.cons (.iface _ _ _ r0))
  refine (is_rawJ v0 v1 w (r := hasE x.e k || hasE y.e k) (R := fun w' => ∃ G', G.Le G' ∧ Inv w0 G' w' σ) (h2.mono ?_)).mono ?_
  · rintro e w' ⟨v, x, σ', G', rfl, k1, k2, k3, rfl, rfl⟩
    cases k3
    exact ⟨rfl, G', k1, k2⟩
  · rintro e w' ⟨rfl, G', k1, k2⟩
    exact ⟨.bool _, eB (hasE x.e k || hasE y.e k), σ, G', rfl, k1, k2, .bool _, rfl, rfl⟩
end Go.Proofs.YtekldjimdmkgaaaDoor
namespace Go.Proofs.YtekldjimdmkgaaaDoor
open Go Go.Va Go.RowKit
set_option maxRecDepth 20000
theorem o_ifn {P : Program} {Ty : TypeId → Option TI} {fr : Nat → AV} {d : Option Tmp} {tt : TypeId} {pos : String} {af : Array Edge} {g : Option (Nat × Bool)} {ox oy : Operand} {T T' : TypeId} (hT : TyOk P Ty) {t : TypeId} {b : AV} (ht : tdOf Ty T = .iface) (hx : aeval fr ox = .iface t b) (hy : oy = .const .nilIface) : OpP P ⟨d, .binOp .neq T ox oy T', tt, pos, af, g⟩ fr (eB true) := by
  subst hy
  refine OpP.of_aop' hT (mu := false) rfl (fun τ => ?_)
  have h2 : aeval fr (.const .nilIface) = .nili := rfl
  simp only [aop, hx, h2]
  simp [abin', abin, ht, isC, aeq, pairO, eB]
theorem HasJ_ok (x y : FltT) (k : Int) (σ : St) : ACall Tryd.prog 20 [eJ x.e y.e, eI k] σ (fun b τ => b = eB (hasE x.e k || hasE y.e k) ∧ τ = σ) := by
  refine ACall.pure (acall_start tk Tryd.func20 (by decide) rfl (Nat.le_of_ble_eq_true rfl) ?_)
  have hH := Holds.init σ
  refine awp_seq ?_
  refine awp_region rfl ?_
  refine wpo_mv (a := eB false) rfl rfl rfl (o_as tk rfl (Wk.refl _)) ?_
  refine wpo_nil ?_
  refine awp_seq ?_
  refine awp_region rfl ?_
  refine wpo_mv (a := eJ x.e y.e) rfl rfl rfl (o_mv tk rfl (Wk.refl _)) ?_
  refine wpo_mv (a := eB true) rfl rfl rfl (o_ifn tk td25 rfl rfl) ?_
  refine wpo_mv (a := eB true) rfl rfl rfl (o_mv tk rfl (Wk.refl _)) ?_
  refine wpo_mv (a := eJ x.e y.e) rfl rfl rfl (o_mv tk rfl (Wk.refl _)) ?_
  refine wpo_mv (a := eI k) rfl rfl rfl (o_mv tk rfl (Wk.refl _)) ?_
  refine wpo_mv (a := .agg [eI k]) rfl rfl rfl (o_c tk false rfl (fun _ => rfl)) ?_
  refine wpo_mv (a := mkE k) rfl rfl rfl (o_c tk false rfl (fun _ => rfl)) ?_
  refine wpo_mv (a := eB (hasE x.e k || hasE y.e k)) rfl rfl rfl (OpP.of_call rfl rfl (.cons (.of_eq rfl) (.cons (.of_eq rfl) .nil)) (IsJ_ok x y k)) ?_
  refine wpo_mv (a := eB (hasE x.e k || hasE y.e k)) rfl rfl rfl (o_pick_t tk rfl rfl (Wk.refl _)) ?_
  refine wpo_mv (a := eB (hasE x.e k || hasE y.e k)) rfl rfl rfl (o_as tk rfl (Wk.refl _)) ?_
  refine wpo_nil ?_
  refine awp_ret ?_
  exact ⟨_, (eB (hasE x.e k || hasE y.e k)), rfl, (.of_eq rfl), .of_eq rfl, hH.noT⟩
end Go.Proofs.YtekldjimdmkgaaaDoor
namespace Go.Proofs.YtekldjimdmkgaaaDoor
open Go.RowKit Go.Extern.Stop Go.Stop Go.Extern
theorem Tryd.typeOfJ (v : Value) (w : World) : (ReflectliteType.typeOf #[.iface 75 v]).run Tryd.prog w = .ok (.iface 79 (.agg #[.pointer (some ⟨1, 75, none⟩)])) w := by kernel_rfl
theorem Tryd.assignableJ (w : World) : (ReflectliteType.relation "AssignableTo" ReflectliteType.assignableTo #[.agg #[.pointer (some ⟨1, 75, none⟩)], .iface 79 (.agg #[.pointer (some ⟨1, 50, none⟩)])]).run Tryd.prog w = .ok (.bool false) w := by kernel_rfl
theorem Tryd.noAsJ (v : Value) (xT : TypeId) (w : World) : (Instr.typeAssert (.iface 75 v) xT 83 true).run Tryd.prog w = .ok (.tuple #[.nilIface, .bool false]) w := run_typeAssert_lacksB Tryd.underlying83 (by kernel_rfl) (by kernel_rfl) v xT w
set_option maxHeartbeats 16000000 in
set_option maxRecDepth 100000 in
theorem asJ_hit (jb jo sb so c : Nat) (e t : Addr) (old : Value) (w : World) (hg : w.cell? ⟨0, 0, none⟩ = some (.iface 79 (.agg #[.pointer (some ⟨1, 25, none⟩)]))) (ht0 : w.cell? t = some old) (hf0 : w.frozen? t = false)
    (hj : w.cell? ⟨jb, jo, none⟩ = some (.slice (some ⟨sb, so, none⟩) 2 c)) (hs : w.cell? ⟨sb, so, none⟩ = some (.iface 50 (.pointer (some e)))) :
    Calls Tryd.prog 23 #[.iface 75 (.pointer (some ⟨jb, jo, none⟩)), .iface 54 (.pointer (some t))] w fun ev w' => ev = .returned (.bool true) ∧ w' = (((((w.alloc (.cells #[.pointer (some t)] 54)).alloc (.cells #[.pointer (some ⟨1, 54, none⟩), .pointer (some ⟨w.heap.size, 0, none⟩), .int .u64 150] 63)).alloc (.cells #[.pointer (some ⟨1, 54, none⟩), .pointer (some ⟨w.heap.size, 0, none⟩), .int .u64 150] 63)).alloc (.cells #[.pointer (some ⟨1, 54, none⟩), .pointer (some ⟨w.heap.size, 0, none⟩), .int .u64 150] 63)).alloc (.cells #[.pointer (some e)] 50)).setCell t (.pointer (some e)) := by
  have h6 := @run_callFunc_extern Tryd.prog 28 _ (fun args => ReflectliteValue.unpack (args.getD 0 (.tuple #[]))) Tryd.func28 (by kernel_rfl) (by kernel_rfl) (by kernel_rfl) (by kernel_rfl)
  have h7 := @run_callFunc_extern Tryd.prog 29 _ (ReflectliteValue.methodAny (ReflectliteValue.valueError "reflectlite.Value.Type" 0) (fun t _ _ _ => ReflectliteType.toType t)) Tryd.func29 (by kernel_rfl) (by kernel_rfl) (by kernel_rfl) (by kernel_rfl)
  have h8 := @run_callFunc_extern Tryd.prog 30 _ (ReflectliteValue.method (ReflectliteValue.valueError "reflectlite.Value.IsNil" 0) ReflectliteValue.isNil) Tryd.func30 (by kernel_rfl) (by kernel_rfl) (by kernel_rfl) (by kernel_rfl)
  have h27 := @run_callFunc_extern Tryd.prog 50 _ (ReflectliteType.abiMethod fun t => do pure (.int .u8 (← Rtype.kind t))) Tryd.func50 (by kernel_rfl) (by kernel_rfl) (by kernel_rfl) (by kernel_rfl)
  have h37 := @run_callFunc_extern Tryd.prog 65 _ (ReflectliteType.method ReflectliteType.elem) Tryd.func65 (by kernel_rfl) (by kernel_rfl) (by kernel_rfl) (by kernel_rfl)
  have h38 := @run_callFunc_extern Tryd.prog 66 _ (ReflectliteType.relation "Implements" ReflectliteType.implements_) Tryd.func66 (by kernel_rfl) (by kernel_rfl) (by kernel_rfl) (by kernel_rfl)
  have h10 := @run_callFunc_extern Tryd.prog 32 _ ReflectliteType.typeOf Tryd.func32 (by kernel_rfl) (by kernel_rfl) (by kernel_rfl) (by kernel_rfl)
  have h35 := @run_callFunc_extern Tryd.prog 63 _ (ReflectliteType.relation "AssignableTo" ReflectliteType.assignableTo) Tryd.func63 (by kernel_rfl) (by kernel_rfl) (by kernel_rfl) (by kernel_rfl)
  have h11 := @run_callFunc_extern Tryd.prog 34 _ (ReflectliteValue.method (ReflectliteValue.valueError "reflectlite.Value.Elem" 0) ReflectliteValue.elem) Tryd.func34 (by kernel_rfl) (by kernel_rfl) (by kernel_rfl) (by kernel_rfl)
  have h12 := @run_callFunc_extern Tryd.prog 35 _ ReflectliteValue.set Tryd.func35 (by kernel_rfl) (by kernel_rfl) (by kernel_rfl) (by kernel_rfl)
  have tO := Tryd.typeOf25
  have mA := Tryd.methodAssignableTo
  have a25 := Tryd.assignable25
  have v25 := Tryd.valueOf25
  have f6 := Tryd.valueOf27
  have f7 := Tryd.type27
  have mK := Tryd.methodKind
  have mE := Tryd.methodElem
  have mI := Tryd.methodImplements
  have k27 := Tryd.kind27
  have k25 := Tryd.kind25
  have e27 := Tryd.elem27
  have i25 := Tryd.implements25
  have n8 := Tryd.isNil27 ⟨w.heap.size, 0, none⟩ t ((w.alloc (.cells #[.pointer (some t)] 54)).alloc (.cells #[.pointer (some ⟨1, 54, none⟩), .pointer (some ⟨w.heap.size, 0, none⟩), .int .u64 150] 63)) (by simp)
  have hlt : 0 < w.heap.size := by
    rcases Nat.eq_zero_or_pos w.heap.size with h0 | h
    · simp [World.cell?, h0] at hg
    · exact h
  have hg2 : ((w.alloc (.cells #[.pointer (some t)] 54)).alloc (.cells #[.pointer (some ⟨1, 54, none⟩), .pointer (some ⟨w.heap.size, 0, none⟩), .int .u64 150] 63)).cell? ⟨0, 0, none⟩ = some (.iface 79 (.agg #[.pointer (some ⟨1, 25, none⟩)])) := by
    rw [World.cell?_alloc_lt _ _ ⟨0, 0, none⟩ (by simp), World.cell?_alloc_lt _ _ ⟨0, 0, none⟩ hlt]; exact hg
  have htl : t.block < w.heap.size := by
    rcases Nat.lt_or_ge t.block w.heap.size with h | h
    · exact h
    · simp [World.cell?, Array.getElem?_eq_none h] at ht0
  have hjl : jb < w.heap.size := World.block_lt_of_cell? w _ hj
  have hsl : sb < w.heap.size := World.block_lt_of_cell? w _ hs
  have hj3 : (((w.alloc (.cells #[.pointer (some t)] 54)).alloc (.cells #[.pointer (some ⟨1, 54, none⟩), .pointer (some ⟨w.heap.size, 0, none⟩), .int .u64 150] 63)).alloc (.cells #[.pointer (some ⟨1, 54, none⟩), .pointer (some ⟨w.heap.size, 0, none⟩), .int .u64 150] 63)).cell? ⟨jb, jo, none⟩ = some (.slice (some ⟨sb, so, none⟩) 2 c) := by
    rw [World.cell?_alloc_lt _ _ ⟨jb, jo, none⟩ (by simp; omega), World.cell?_alloc_lt _ _ ⟨jb, jo, none⟩ (by simp; omega), World.cell?_alloc_lt _ _ ⟨jb, jo, none⟩ hjl]; exact hj
  have hs3 : (((w.alloc (.cells #[.pointer (some t)] 54)).alloc (.cells #[.pointer (some ⟨1, 54, none⟩), .pointer (some ⟨w.heap.size, 0, none⟩), .int .u64 150] 63)).alloc (.cells #[.pointer (some ⟨1, 54, none⟩), .pointer (some ⟨w.heap.size, 0, none⟩), .int .u64 150] 63)).cell? ⟨sb, so, none⟩ = some (.iface 50 (.pointer (some e))) := by
    rw [World.cell?_alloc_lt _ _ ⟨sb, so, none⟩ (by simp; omega), World.cell?_alloc_lt _ _ ⟨sb, so, none⟩ (by simp; omega), World.cell?_alloc_lt _ _ ⟨sb, so, none⟩ hsl]; exact hs
  have tJ := Tryd.typeOfJ
  have aJ := Tryd.assignableJ
  have nA := Tryd.noAsJ
  have nU := Tryd.noUnJ
  have hU := Tryd.hasUnsJ
  have mU := Tryd.methodUnsJ
  have hv3 : (((w.alloc (.cells #[.pointer (some t)] 54)).alloc (.cells #[.pointer (some ⟨1, 54, none⟩), .pointer (some ⟨w.heap.size, 0, none⟩), .int .u64 150] 63)).alloc (.cells #[.pointer (some ⟨1, 54, none⟩), .pointer (some ⟨w.heap.size, 0, none⟩), .int .u64 150] 63)).cell? ⟨w.heap.size + 1 + 1, 0, none⟩ = some (.pointer (some ⟨1, 54, none⟩)) := by
    rw [World.cell?_alloc_at _ _ _ _ (by simp)]; rfl
  have el := Tryd.elemV27 ⟨w.heap.size, 0, none⟩ t ((((w.alloc (.cells #[.pointer (some t)] 54)).alloc (.cells #[.pointer (some ⟨1, 54, none⟩), .pointer (some ⟨w.heap.size, 0, none⟩), .int .u64 150] 63)).alloc (.cells #[.pointer (some ⟨1, 54, none⟩), .pointer (some ⟨w.heap.size, 0, none⟩), .int .u64 150] 63)).alloc (.cells #[.pointer (some ⟨1, 54, none⟩), .pointer (some ⟨w.heap.size, 0, none⟩), .int .u64 150] 63)) (by rw [World.cell?_alloc_lt _ _ ⟨w.heap.size, 0, none⟩ (by simp; omega), World.cell?_alloc_lt _ _ ⟨w.heap.size, 0, none⟩ (by simp; omega)]; simp)
  have st := Tryd.set25 t ⟨w.heap.size + 1 + 1 + 1 + 1, 0, none⟩ e old (((((w.alloc (.cells #[.pointer (some t)] 54)).alloc (.cells #[.pointer (some ⟨1, 54, none⟩), .pointer (some ⟨w.heap.size, 0, none⟩), .int .u64 150] 63)).alloc (.cells #[.pointer (some ⟨1, 54, none⟩), .pointer (some ⟨w.heap.size, 0, none⟩), .int .u64 150] 63)).alloc (.cells #[.pointer (some ⟨1, 54, none⟩), .pointer (some ⟨w.heap.size, 0, none⟩), .int .u64 150] 63)).alloc (.cells #[.pointer (some e)] 50))
    (by rw [World.cell?_alloc_at _ _ _ _ (by simp)]; rfl)
    (by rw [World.cell?_alloc_lt _ _ t (by simp; omega), World.cell?_alloc_lt _ _ t (by simp; omega), World.cell?_alloc_lt _ _ t (by simp; omega), World.cell?_alloc_lt _ _ t (by simp; omega), World.cell?_alloc_lt _ _ t htl]; exact ht0)
    (by rw [World.frozen?_alloc_old _ _ t (by simp; omega), World.frozen?_alloc_old _ _ t (by simp; omega), World.frozen?_alloc_old _ _ t (by simp; omega), World.frozen?_alloc_old _ _ t (by simp; omega), World.frozen?_alloc_old _ _ t (Nat.ne_of_lt htl)]; exact hf0)
  go_enter Tryd.func23, Tryd.ntmps23
  go_wp2
  refine wp_loop_rounds 1 ?_
  rw [rounds_succ]
  go_wp2
  refine wp_loop_rounds 1 ?_
  rw [rounds_succ]
  go_wp2
  refine wp_loop_rounds 1 ?_
  rw [rounds_succ]
  go_wp2
  go_ret
  exact ⟨rfl, rfl⟩
end Go.Proofs.YtekldjimdmkgaaaDoor
namespace Go.Proofs.YtekldjimdmkgaaaDoor
open Go Go.Va
set_option linter.unusedVariables false
set_option linter.unusedSimpArgs false
set_option maxRecDepth 20000
/-- The code of a fault: of the first one under it that has one. -/
def codeOf : Err → Int
  | .nil => 0
  | .fault o a c u => if c = 0 then codeOf u else c
def trouble_Of_b0 : Err → Option (Err ⊕ (Unit ⊕ Int))
  | .nil => some (.inr (.inl ()))
  | .fault o a c u => if (c != 0) = true then some (.inr (.inr c)) else some (.inl u)
def trouble_Of (x : Err) : Option Int := some (codeOf x)
theorem trouble_Of_l0 : ∀ x : Err, loopO trouble_Of_b0 x = some (if codeOf x = 0 then .inl () else .inr (codeOf x))
  | .nil => loopO_out rfl
  | .fault o a c u => by
    by_cases hc : c = 0
    · rw [loopO_in (s' := u) (by simp [trouble_Of_b0, hc]), trouble_Of_l0 u]; simp [codeOf, hc]
    · rw [loopO_out (x := .inr c) (by simp [trouble_Of_b0, hc])]; simp [codeOf, hc]
end Go.Proofs.YtekldjimdmkgaaaDoor
namespace Go.Proofs.YtekldjimdmkgaaaDoor
open Go Go.Va Go.RowKit
set_option linter.unusedVariables false
set_option linter.unusedSimpArgs false
set_option maxRecDepth 20000
theorem asJ_ok {x : FltT} {y : Err} {σ : St} {id : Nat} (ho : σ.objs[id]? = some [.nilp]) (hg : σ.gl = gls) : ACall Tryd.prog 23 [eJ x.e y, .iface 54 (.ref id 0)] σ (fun a τ => a = eB true ∧ τ = σ.puts [(id, [x.e.ptr])]) := by
  obtain ⟨o, a, c, u⟩ := x
  refine ⟨⟨_, Tryd.func23, by decide, rfl⟩, fun w0 G w vs hI hr => ?_⟩
  obtain ⟨v0, h0, r0⟩ := hr.get (i := 0) rfl
  obtain ⟨v1, h1, r1⟩ := hr.get (i := 1) rfl
  have hvs : vs = #[v0, v1] := by
    obtain ⟨l⟩ := vs
    have hl := hr.len
    simp only [List.length_cons, List.length_nil] at hl h0 h1
    match l, hl, h0, h1 with
    | [x, y], _, h0, h1 => simp at h0 h1; subst h0; subst h1; rfl
  subst hvs
  simp only [eJ] at r0
  cases r0 with | iface _ v0 _ r0 =>
  cases r1 with | iface _ v1 _ r1 =>
  cases r0 with | fptr jb jo off _ val hf hv =>
  cases r1 with | ref _ _ b1 hl =>
  have q0 := hf 0 _ rfl
  have q1 := hv 0 _ rfl
  generalize hval : val 0 = vj at q0 q1
  have q1 : Rel G vj (.sl .no 1 [eErr (FltT.e (o, a, c, u)), eErr y]) := q1
  obtain ⟨sb, so, cc, rfl, hs0, hs1⟩ : ∃ (sb so cc : Nat), vj = .slice (some ⟨sb, so, none⟩) 2 cc ∧ ∃ v2, G.fz sb (so + 0 * 1 + 0) = some v2 ∧ Rel G v2 (eErr (FltT.e (o, a, c, u))) := by
    cases q1 with
    | sl sb so cc _ _ _ val2 hc hm hz hf2 h2 ht =>
      exact ⟨sb, so, cc, rfl, _, hf2 0 _ 0 _ rfl rfl, h2 0 _ 0 _ rfl rfl⟩
  obtain ⟨hs1, hs2⟩ := hs1
  have hs2 : Rel G hs0 (.iface 50 (.fptr [eS o, eI a, eI c, eErr u] 0)) := hs2
  cases hs2 with | iface _ v2 _ hs2 =>
  cases hs2 with | fptr eb eo off2 _ val3 hf3 hv3 =>
  obtain ⟨b2, T, cs, e1, e2, e3, e4, e5, e6⟩ := hI.loc id _ ho (by simp) rfl
  rw [hl] at e1
  cases e1
  obtain ⟨u1, hu1, ru1⟩ := e4.rel.get (i := 0) rfl
  have hcs : cs[0]? = some (.pointer none) := by
    cases ru1
    rw [List.getElem?_take] at hu1
    simpa using hu1
  have hsz : 1 ≤ cs.size := e4.le
  have hg0 : w0.cell? ⟨0, 0, none⟩ = some (.iface 79 (.agg #[.pointer (some ⟨1, 25, none⟩)])) := hI.gl _ (by rw [hg]; exact List.mem_singleton.2 rfl)
  have hg1 : w.cell? ⟨0, 0, none⟩ = some (.iface 79 (.agg #[.pointer (some ⟨1, 25, none⟩)])) := by
    have hb := World.block_lt_of_cell? w0 _ hg0
    simp only [World.cell?] at hg0 ⊢
    rw [hI.below.block _ hb]; exact hg0
  have hc : w.cell? ⟨b1, 0, none⟩ = some (.pointer none) := by simp [World.cell?, e3, hcs]
  have hfz : w.frozen? ⟨b1, 0, none⟩ = false := by simp [World.frozen?, e3]
  have hj := (hI.fz _ _ _ q0).1
  have hs := (hI.fz _ _ _ hs1).1
  rw [show so + 0 * 1 + 0 = so by omega] at hs
  refine (asJ_hit jb (jo + 0) sb so cc ⟨eb, eo + 0, none⟩ ⟨b1, 0, none⟩ (.pointer none) w hg1 hc hfz hj hs).mono ?_
  rintro e w' ⟨rfl, rfl⟩
  have k1 := hI.alloc_fz #[.pointer (some ⟨b1, 0, none⟩)] 54 (by simp [Value.oneCell']) (0, 0)
  have k2 := k1.2.alloc_fz #[.pointer (some ⟨1, 54, none⟩), .pointer (some ⟨w.heap.size, 0, none⟩), .int .u64 150] 63 (by simp [Value.oneCell']) (0, 0)
  have k3 := k2.2.alloc_fz #[.pointer (some ⟨1, 54, none⟩), .pointer (some ⟨w.heap.size, 0, none⟩), .int .u64 150] 63 (by simp [Value.oneCell']) (0, 0)
  have k3' := k3.2.alloc_fz #[.pointer (some ⟨1, 54, none⟩), .pointer (some ⟨w.heap.size, 0, none⟩), .int .u64 150] 63 (by simp [Value.oneCell']) (0, 0)
  have k4 := k3'.2.alloc_fz #[.pointer (some ⟨eb, eo + 0, none⟩)] 50 (by simp [Value.oneCell']) (0, 0)
  have hle := k1.1.trans (k2.1.trans (k3.1.trans (k3'.1.trans k4.1)))
  have k5 := k4.2.write (id := id) (off := 0) (news := [.pointer (some ⟨eb, eo + 0, none⟩)]) (nc := [.fptr [eS o, eI a, eI c, eErr u] 0]) ho (hle.loc _ _ hl) (by simp) rfl ((RelL.nil _).cons (.fptr eb eo 0 _ val3 (fun j a h1 => hle.fz _ _ _ (hf3 j a h1)) (fun j a h1 => (hv3 j a h1).mono hle))) (by simp [Value.oneCell']) (by simp) (by rw [hle.bsz _ _ hl, ← e6]; simpa using hsz)
  refine ⟨.bool true, eB true, _, _, rfl, hle, ?_, .bool true, rfl, rfl⟩
  simp only [World.setCells, List.take_zero, List.nil_append, List.length_cons, List.length_nil, List.drop_succ_cons, List.drop_zero, List.drop_nil, List.append_nil] at k5
  exact k5
end Go.Proofs.YtekldjimdmkgaaaDoor
namespace Go.Proofs.YtekldjimdmkgaaaDoor
open Go Go.Va Go.RowKit
set_option linter.unusedVariables false
set_option linter.unusedSimpArgs false
set_option maxRecDepth 20000
def ofJ_b0 (xo : List (BitVec 8)) (xa xc : Int) (xu : Err) : Option Err → Option (Option Err ⊕ (Unit ⊕ Int))
  | none => if (xc != 0) = true then some (.inr (.inr xc)) else some (.inl (some xu))
  | some .nil => some (.inr (.inl ()))
  | some (.fault o a c u) => if (c != 0) = true then some (.inr (.inr c)) else some (.inl (some u))
theorem ofJ_some (xo : List (BitVec 8)) (xa xc : Int) (xu : Err) : ∀ x : Err, loopO (ofJ_b0 xo xa xc xu) (some x) = some (if codeOf x = 0 then .inl () else .inr (codeOf x))
  | .nil => loopO_out rfl
  | .fault o a c u => by
    by_cases hc : c = 0
    · rw [loopO_in (s' := some u) (by simp [ofJ_b0, hc]), ofJ_some xo xa xc xu u]; simp [codeOf, hc]
    · rw [loopO_out (x := .inr c) (by simp [ofJ_b0, hc])]; simp [codeOf, hc]
theorem ofJ_l0 (xo : List (BitVec 8)) (xa xc : Int) (xu : Err) : loopO (ofJ_b0 xo xa xc xu) none = some (if codeOf (.fault xo xa xc xu) = 0 then .inl () else .inr (codeOf (.fault xo xa xc xu))) := by
  by_cases hc : xc = 0
  · rw [loopO_in (s' := some xu) (by simp [ofJ_b0, hc]), ofJ_some xo xa xc xu xu]; simp [codeOf, hc]
  · rw [loopO_out (x := .inr xc) (by simp [ofJ_b0, hc])]; simp [codeOf, hc]
def fJ (xo : List (BitVec 8)) (xa xc : Int) (xu y : Err) : Option Err → AV
  | none => eJ (.fault xo xa xc xu) y
  | some e => eErr e
theorem OfJ_ok (x : FltT) (y0 : Err) (σ : St) (hg : σ.gl = gls) : ACall Tryd.prog 14 [eJ x.e y0] σ (fun a τ => a = eI (codeOf x.e) ∧ τ = σ) := by
  obtain ⟨xo, xa, xc, xu⟩ := x
  change ACall Tryd.prog 14 [eJ (.fault xo xa xc xu) y0] σ (fun a τ => a = eI (codeOf (.fault xo xa xc xu)) ∧ τ = σ)
  refine ACall.pure (acall_start tk Tryd.func14 (by decide) rfl (Nat.le_of_ble_eq_true rfl) ?_)
  have hH := Holds.init σ
  refine awp_seq ?_
  refine awp_region rfl ?_
  refine wpo_mv (a := (eI (0 : Int))) rfl rfl rfl (o_as tk rfl (Wk.refl _)) ?_
  refine wpo_nil ?_
  refine awp_seq ?_
  refine awp_block ?_
  have hs := ofJ_l0 xo xa xc xu
  refine awp_cutx 0 (fun fr τ => codeOf (.fault xo xa xc xu) = 0 ∧ WkF fr (fm []) ∧ Holds σ [] [] τ) ?_ ?_
  · rintro fr τ ⟨h0, hfr, hH⟩
    refine AWP.fm [] hfr ?_
    refine awp_seq ?_
    refine awp_region rfl ?_
    refine wpo_mv (a := (eI 0)) rfl rfl rfl (o_as tk rfl (Wk.refl _)) ?_
    refine wpo_nil ?_
    refine awp_ret ?_
    rw [h0]
    exact ⟨_, (eI 0), rfl, (.of_eq rfl), .of_eq rfl, hH.noT⟩
  · refine awp_loopO (body := ofJ_b0 xo xa xc xu) hs (fun (s : Option Err) fr τ => WkF fr (fm [(0, fJ xo xa xc xu y0 s)]) ∧ Holds σ [] [] τ) ⟨(wkf_cons (.of_eq rfl) (wkf_nil _)), hH⟩ ?_
    rintro c1 fr τ y ⟨hfr, hH⟩ hb hy
    refine AWP.fm [(0, fJ xo xa xc xu y0 c1)] hfr ?_
    rcases c1 with _ | _ | ⟨o, a, c, u⟩
    rotate_left
    · -- nothing
      refine awp_seq ?_
      refine awp_seq ?_
      refine awp_region rfl ?_
      refine wpo_mv (a := eErr .nil) rfl rfl rfl (o_mv tk rfl (Wk.refl _)) ?_
      refine wpo_mv (a := eB false) rfl rfl rfl (o_err_neq (x := .nil) tk rfl rfl rfl) ?_
      refine wpo_nil ?_
      refine awp_false rfl ?_
      refine awp_exit ?_
      have hb : some (Sum.inr (Sum.inl ())) = some y := hb
      have hz := hy _ (Option.some.inj hb).symm
      refine ⟨⟨_, (Option.some.inj hb).symm⟩, ?_, (wkf_nil _), hH⟩
      split at hz
      · assumption
      · cases hz
    · -- a fault
      refine awp_seq ?_
      refine awp_seq ?_
      refine awp_region rfl ?_
      refine wpo_mv (a := eErr (.fault o a c u)) rfl rfl rfl (o_mv tk rfl (Wk.refl _)) ?_
      refine wpo_mv (a := eB true) rfl rfl rfl (o_err_neq (x := .fault o a c u) tk rfl rfl rfl) ?_
      refine wpo_nil ?_
      refine awp_true rfl ?_
      refine awp_skip ?_
      refine awp_block ?_
      refine awp_seq ?_
      refine awp_region rfl ?_
      refine wpo_a (av := fun id => .ref id 0) rfl rfl rfl (h_alloc tk hH ty50 [.nilp] rfl) fun id τ ⟨hH, hn⟩ => ?_
      refine wpo_nil ?_
      refine awp_seq ?_
      refine awp_seq ?_
      refine awp_region rfl ?_
      refine wpo_mv (a := eErr (.fault o a c u)) rfl rfl rfl (o_mv tk rfl (Wk.refl _)) ?_
      refine wpo_mv (a := .iface 54 (.ref id 0)) rfl rfl rfl (o_c tk false rfl (fun _ => rfl)) ?_
      refine wpo_cb (α := Unit) (z := some ()) (k := fun _ => some ()) (r := ()) rfl (fun _ _ => eB true) rfl rfl rfl (fun v hv => h_call1 hH [(0, (id, [(Err.fault o a c u).ptr]))] ⟨⟨_, rfl⟩, trivial⟩ rfl rfl (.cons (.of_eq rfl) (.cons (.of_eq rfl) .nil)) (as_ok (x := .fault o a c u) rfl (hH.at_ 0 rfl) (hH.gl.trans hg))) fun _ _ τ _ _ hH => ?_
      refine wpo_mv (a := eB false) rfl rfl rfl (o_un tk rfl rfl) ?_
      refine wpo_nil ?_
      refine awp_false rfl ?_
      refine awp_skip ?_
      refine awp_seq ?_
      refine awp_seq ?_
      refine awp_region rfl ?_
      refine wpo_rd (a := (Err.fault o a c u).ptr) rfl rfl rfl (h_ld tk hH 0 rfl rfl rfl) ?_
      refine wpo_mv (a := (Err.fault o a c u).ptr) rfl rfl rfl (o_c tk false rfl (fun _ => rfl)) ?_
      refine wpo_mv (a := .fptr [eS o, eI a, eI c, eErr u] 2) rfl rfl rfl (o_c tk false rfl (fun _ => rfl)) ?_
      refine wpo_mv (a := eI c) rfl rfl rfl (o_ld tk rfl rfl) ?_
      refine wpo_mv (a := eB (c != 0)) rfl rfl rfl (o_ar tk rfl rfl rfl) ?_
      refine wpo_nil ?_
      have hb : (if (c != 0) = true then some (.inr (.inr c)) else some (.inl (some u))) = some y := hb
      refine awp_if hb rfl (fun hb => ?_) (fun hb => ?_)
      · refine awp_seq ?_
        refine awp_region rfl ?_
        refine wpo_rd (a := (Err.fault o a c u).ptr) rfl rfl rfl (h_ld tk hH 0 rfl rfl rfl) ?_
        refine wpo_mv (a := (Err.fault o a c u).ptr) rfl rfl rfl (o_c tk false rfl (fun _ => rfl)) ?_
        refine wpo_mv (a := .fptr [eS o, eI a, eI c, eErr u] 2) rfl rfl rfl (o_c tk false rfl (fun _ => rfl)) ?_
        refine wpo_mv (a := eI c) rfl rfl rfl (o_ld tk rfl rfl) ?_
        refine wpo_mv (a := eI c) rfl rfl rfl (o_as tk rfl (Wk.refl _)) ?_
        refine wpo_nil ?_
        refine awp_ret ?_
        have hz := hy _ (Option.some.inj hb).symm
        refine ⟨⟨_, (Option.some.inj hb).symm⟩, ?_⟩
        have hc : codeOf (.fault xo xa xc xu) = c := by
          split at hz
          · cases hz
          · exact Sum.inr.inj hz.symm
        rw [hc]
        exact ⟨_, (eI c), rfl, (.of_eq rfl), .of_eq rfl, (hH.noT.drop hn)⟩
      · refine awp_skip ?_
        refine awp_region rfl ?_
        refine wpo_rd (a := (Err.fault o a c u).ptr) rfl rfl rfl (h_ld tk hH 0 rfl rfl rfl) ?_
        refine wpo_mv (a := (Err.fault o a c u).ptr) rfl rfl rfl (o_c tk false rfl (fun _ => rfl)) ?_
        refine wpo_mv (a := .fptr [eS o, eI a, eI c, eErr u] 3) rfl rfl rfl (o_c tk false rfl (fun _ => rfl)) ?_
        refine wpo_mv (a := eErr u) rfl rfl rfl (o_ld tk rfl (by cases u <;> rfl)) ?_
        refine wpo_mv (a := eErr u) rfl rfl rfl (o_as tk rfl (Wk.refl _)) ?_
        refine wpo_nil ?_
        exact ⟨some u, (Option.some.inj hb).symm, (wkf_cons (.of_eq rfl) (wkf_nil _)), hH.drop hn⟩
    · -- the two
      refine awp_seq ?_
      refine awp_seq ?_
      refine awp_region rfl ?_
      refine wpo_mv (a := eJ (.fault xo xa xc xu) y0) rfl rfl rfl (o_mv tk rfl (Wk.refl _)) ?_
      refine wpo_mv (a := eB true) rfl rfl rfl (o_ifn tk td25 rfl rfl) ?_
      refine wpo_nil ?_
      refine awp_true rfl ?_
      refine awp_skip ?_
      refine awp_block ?_
      refine awp_seq ?_
      refine awp_region rfl ?_
      refine wpo_a (av := fun id => .ref id 0) rfl rfl rfl (h_alloc tk hH ty50 [.nilp] rfl) fun id τ ⟨hH, hn⟩ => ?_
      refine wpo_nil ?_
      refine awp_seq ?_
      refine awp_seq ?_
      refine awp_region rfl ?_
      refine wpo_mv (a := eJ (.fault xo xa xc xu) y0) rfl rfl rfl (o_mv tk rfl (Wk.refl _)) ?_
      refine wpo_mv (a := .iface 54 (.ref id 0)) rfl rfl rfl (o_c tk false rfl (fun _ => rfl)) ?_
      refine wpo_cb (α := Unit) (z := some ()) (k := fun _ => some ()) (r := ()) rfl (fun _ _ => eB true) rfl rfl rfl (fun v hv => h_call1 hH [(0, (id, [(Err.fault xo xa xc xu).ptr]))] ⟨⟨_, rfl⟩, trivial⟩ rfl rfl (.cons (.of_eq rfl) (.cons (.of_eq rfl) .nil)) (asJ_ok (x := (xo, xa, xc, xu)) (y := y0) (hH.at_ 0 rfl) (hH.gl.trans hg))) fun _ _ τ _ _ hH => ?_
      refine wpo_mv (a := eB false) rfl rfl rfl (o_un tk rfl rfl) ?_
      refine wpo_nil ?_
      refine awp_false rfl ?_
      refine awp_skip ?_
      refine awp_seq ?_
      refine awp_seq ?_
      refine awp_region rfl ?_
      refine wpo_rd (a := (Err.fault xo xa xc xu).ptr) rfl rfl rfl (h_ld tk hH 0 rfl rfl rfl) ?_
      refine wpo_mv (a := (Err.fault xo xa xc xu).ptr) rfl rfl rfl (o_c tk false rfl (fun _ => rfl)) ?_
      refine wpo_mv (a := .fptr [eS xo, eI xa, eI xc, eErr xu] 2) rfl rfl rfl (o_c tk false rfl (fun _ => rfl)) ?_
      refine wpo_mv (a := eI xc) rfl rfl rfl (o_ld tk rfl rfl) ?_
      refine wpo_mv (a := eB (xc != 0)) rfl rfl rfl (o_ar tk rfl rfl rfl) ?_
      refine wpo_nil ?_
      have hb : (if (xc != 0) = true then some (.inr (.inr xc)) else some (.inl (some xu))) = some y := hb
      refine awp_if hb rfl (fun hb => ?_) (fun hb => ?_)
      · refine awp_seq ?_
        refine awp_region rfl ?_
        refine wpo_rd (a := (Err.fault xo xa xc xu).ptr) rfl rfl rfl (h_ld tk hH 0 rfl rfl rfl) ?_
        refine wpo_mv (a := (Err.fault xo xa xc xu).ptr) rfl rfl rfl (o_c tk false rfl (fun _ => rfl)) ?_
        refine wpo_mv (a := .fptr [eS xo, eI xa, eI xc, eErr xu] 2) rfl rfl rfl (o_c tk false rfl (fun _ => rfl)) ?_
        refine wpo_mv (a := eI xc) rfl rfl rfl (o_ld tk rfl rfl) ?_
        refine wpo_mv (a := eI xc) rfl rfl rfl (o_as tk rfl (Wk.refl _)) ?_
        refine wpo_nil ?_
        refine awp_ret ?_
        have hz := hy _ (Option.some.inj hb).symm
        refine ⟨⟨_, (Option.some.inj hb).symm⟩, ?_⟩
        have hc : codeOf (.fault xo xa xc xu) = xc := by
          split at hz
          · cases hz
          · exact Sum.inr.inj hz.symm
        rw [hc]
        exact ⟨_, (eI xc), rfl, (.of_eq rfl), .of_eq rfl, (hH.noT.drop hn)⟩
      · refine awp_skip ?_
        refine awp_region rfl ?_
        refine wpo_rd (a := (Err.fault xo xa xc xu).ptr) rfl rfl rfl (h_ld tk hH 0 rfl rfl rfl) ?_
        refine wpo_mv (a := (Err.fault xo xa xc xu).ptr) rfl rfl rfl (o_c tk false rfl (fun _ => rfl)) ?_
        refine wpo_mv (a := .fptr [eS xo, eI xa, eI xc, eErr xu] 3) rfl rfl rfl (o_c tk false rfl (fun _ => rfl)) ?_
        refine wpo_mv (a := eErr xu) rfl rfl rfl (o_ld tk rfl (by cases xu <;> rfl)) ?_
        refine wpo_mv (a := eErr xu) rfl rfl rfl (o_as tk rfl (Wk.refl _)) ?_
        refine wpo_nil ?_
        exact ⟨some xu, (Option.some.inj hb).symm, (wkf_cons (.of_eq rfl) (wkf_nil _)), hH.drop hn⟩
end Go.Proofs.YtekldjimdmkgaaaDoor
namespace Go.Proofs.YtekldjimdmkgaaaDoor
open Go Go.Va Go.RowKit
set_option linter.unusedVariables false
set_option linter.unusedSimpArgs false
set_option maxRecDepth 20000
def jn_b0 (l : List Err) (s : Int × Int) : Option ((Int × Int) ⊕ Int) := if decide (s.1 < (l.length : Int)) = true then (ix l s.1).bind fun e => some (.inl (w64 (s.1 + 1), w64 (s.2 + 1))) else some (.inr s.2)
def jn_b1 (l : List Err) (s : Int × List Err) : Option ((Int × List Err) ⊕ List Err) := if decide (s.1 < (l.length : Int)) = true then (ix l s.1).bind fun e => (app 16 s.2 [e]).bind fun v => some (.inl (w64 (s.1 + 1), v)) else some (.inr s.2)
theorem jn_l0 (x y : Err) : loopO (jn_b0 [x, y]) (0, 0) = some 2 := by
  rw [loopO_in (s' := (1, 1)) (by unfold jn_b0; simp [ix]; decide), loopO_in (s' := (2, 2)) (by unfold jn_b0; simp [ix]; decide), loopO_out (x := 2) (by unfold jn_b0; simp)]
theorem jn_l1 (x y : Err) : loopO (jn_b1 [x, y]) (0, []) = some [x, y] := by
  rw [loopO_in (s' := (1, [x])) (by unfold jn_b1; simp [ix, app]; decide), loopO_in (s' := (2, [x, y])) (by unfold jn_b1; simp [ix, app]; decide), loopO_out (x := [x, y]) (by unfold jn_b1; simp)]
theorem wk_ifc {a b : AV} {t : TypeId} (h : Wk a b) : Wk (.iface t a) (.iface t b) := fun G v hr => by
  cases hr with
  | iface _ u _ hu => exact .iface _ _ _ (h G u hu)
theorem elem2 {x y : FltT} {i : Int} {v : Err} (hv : ix [x.e, y.e] i = some v) : ∃ z : FltT, v = z.e := by
  unfold ix at hv
  split at hv
  · match hi : i.toNat, hv with
    | 0, hv => exact ⟨x, (Option.some.inj hv).symm⟩
    | 1, hv => exact ⟨y, (Option.some.inj hv).symm⟩
    | n + 2, hv => cases hv
  · cases hv
theorem Join_ok (x y : FltT) (σ : St) : ACall Tryd.prog 27 [eL 1 eErr [x.e, y.e]] σ (fun b τ => b = eJ x.e y.e ∧ τ = σ) := by
  refine ACall.pure (acall_start tk Tryd.func27 (by decide) rfl (Nat.le_of_ble_eq_true rfl) ?_)
  have hH := Holds.init σ
  refine awp_seq ?_
  refine awp_region rfl ?_
  refine wpo_mv (a := .nili) rfl rfl rfl (o_as tk rfl (Wk.refl _)) ?_
  refine wpo_nil ?_
  refine awp_seq ?_
  refine awp_region rfl ?_
  refine wpo_mv (a := eI 0) rfl rfl rfl (o_as tk rfl (Wk.refl _)) ?_
  refine wpo_nil ?_
  refine awp_seq ?_
  refine awp_seq ?_
  refine awp_region rfl ?_
  refine wpo_mv (a := eL 1 eErr [x.e, y.e]) rfl rfl rfl (o_mv tk rfl (Wk.refl _)) ?_
  refine wpo_mv (a := eI (([x.e, y.e] : List Err).length : Int)) rfl rfl rfl (o_len tk td74 rfl) ?_
  refine wpo_mv (a := eI 0) rfl rfl rfl (o_mv tk rfl (Wk.refl _)) ?_
  refine wpo_nil ?_
  refine awp_block ?_
  refine awp_cutx 0 (fun fr τ => WkF fr (fm [(0, eL 1 eErr [x.e, y.e]), (3, eI 2)]) ∧ Holds σ [] [] τ) ?_ ?_
  · rintro fr τ ⟨hfr, hH⟩
    refine AWP.fm [(0, eL 1 eErr [x.e, y.e]), (3, eI 2)] hfr ?_
    refine awp_seq ?_
    refine awp_seq ?_
    refine awp_region rfl ?_
    refine wpo_mv (a := eI 2) rfl rfl rfl (o_mv tk rfl (Wk.refl _)) ?_
    refine wpo_mv (a := eB false) rfl rfl rfl (o_ar tk rfl rfl rfl) ?_
    refine wpo_nil ?_
    refine awp_false rfl ?_
    refine awp_skip ?_
    refine awp_seq ?_
    refine awp_region rfl ?_
    refine wpo_mv (a := eI 2) rfl rfl rfl (o_mv tk rfl (Wk.refl _)) ?_
    refine wpo_a (av := fun t => eT t 1 eErr ([] : List Err)) (R := fun t τ => Holds σ [] [t] τ) rfl rfl rfl ⟨τ.opn.length, τ.more, o_s tk false rfl rfl, hH.more⟩ fun tk0 τ hH => ?_
    refine wpo_mv (a := .agg [eT tk0 1 eErr ([] : List Err)]) rfl rfl rfl (o_c tk false rfl (fun _ => rfl)) ?_
    refine wpo_a (av := fun id => .ref id 0) rfl rfl rfl (h_box tk hH rfl (Wk.refl _) rfl [eT tk0 1 eErr ([] : List Err)] rfl) fun id τ ⟨hH, hn⟩ => ?_
    refine wpo_mv (a := .ref id 0) rfl rfl rfl (o_as tk rfl (Wk.refl _)) ?_
    refine wpo_nil ?_
    refine awp_seq ?_
    refine awp_seq ?_
    refine awp_region rfl ?_
    refine wpo_mv (a := eL 1 eErr [x.e, y.e]) rfl rfl rfl (o_mv tk rfl (Wk.refl _)) ?_
    refine wpo_mv (a := eI (([x.e, y.e] : List Err).length : Int)) rfl rfl rfl (o_len tk td74 rfl) ?_
    refine wpo_mv (a := eI 0) rfl rfl rfl (o_mv tk rfl (Wk.refl _)) ?_
    refine wpo_nil ?_
    refine awp_block ?_
    refine awp_cutx 2 (fun fr τ => ∃ tk1, WkF fr (fm [(6, .ref id 0)]) ∧ Holds σ [(id, [eT tk1 1 eErr [x.e, y.e]])] [tk1] τ) ?_ ?_
    · rintro fr τ ⟨tk1, hfr, hH⟩
      refine AWP.fm [(6, .ref id 0)] hfr ?_
      refine AWP.frzS hH 0 6 rfl hn rfl (by simp) rfl fun tk2 τ hH => ?_
      refine awp_seq ?_
      refine awp_region rfl ?_
      refine wpo_mv (a := .fptr [eT tk1 1 eErr [x.e, y.e]] 0) rfl rfl rfl (o_mv tk rfl (Wk.refl _)) ?_
      refine wpo_mv (a := .iface 75 (.fptr [eT tk1 1 eErr [x.e, y.e]] 0)) rfl rfl rfl (o_c tk false rfl (fun _ => rfl)) ?_
      refine wpo_mv (a := .iface 75 (.fptr [eT tk1 1 eErr [x.e, y.e]] 0)) rfl rfl rfl (o_as tk rfl (Wk.refl _)) ?_
      refine wpo_nil ?_
      refine awp_ret ?_
      refine ⟨_, eJ x.e y.e, rfl, wk_ifc (wk_fptr (.cons wk_no .nil) 0), .of_eq (by simp only [eJ, cutAV, cutL, (enc_l td74 sz74 encErr.cut).cut _ _ _]), hH.noT⟩
    · refine awp_loopO (body := jn_b1 [x.e, y.e]) (jn_l1 x.e y.e) (fun (s : Int × List Err) fr τ => ∃ tk1, WkF fr (fm [(6, .ref id 0), (26, eL 1 eErr [x.e, y.e]), (27, eI (([x.e, y.e] : List Err).length : Int)), (28, eI s.1)]) ∧ Holds σ [(id, [eT tk1 1 eErr s.2])] [tk1] τ) ⟨tk0, (wkf_cons (.of_eq rfl) (wkf_cons (.of_eq rfl) (wkf_cons (.of_eq rfl) (wkf_cons (.of_eq rfl) (wkf_nil _))))), hH⟩ ?_
      rintro ⟨i, acc⟩ fr τ yy ⟨tk1, hfr, hH⟩ hb hy
      refine AWP.fm [(6, .ref id 0), (26, eL 1 eErr [x.e, y.e]), (27, eI (([x.e, y.e] : List Err).length : Int)), (28, eI i)] hfr ?_
      have hH : Holds σ [(id, [eT tk1 1 eErr acc])] [tk1] τ := hH
      have hb : (if decide (i < (([x.e, y.e] : List Err).length : Int)) = true then (ix [x.e, y.e] i).bind fun e => (app 16 acc [e]).bind fun v => some (.inl (w64 (i + 1), v)) else some (.inr acc)) = some yy := hb
      refine awp_seq ?_
      refine awp_region rfl ?_
      refine wpo_mv (a := eB (decide (i < (([x.e, y.e] : List Err).length : Int)))) rfl rfl rfl (o_ar tk rfl rfl rfl) ?_
      refine wpo_nil ?_
      refine awp_seq ?_
      refine awp_if hb rfl (fun hb => ?_) (fun hb => ?_)
      · refine awp_skip ?_
        refine awp_seq ?_
        refine awp_block ?_
        refine awp_seq ?_
        refine awp_region rfl ?_
        refine wpo_bd hb (fun e => .fptr (eErr e).cells 0) rfl rfl rfl (fun v hv => o_ixa tk hv td74 encErr rfl rfl) fun v hv hb => ?_
        obtain ⟨z, rfl⟩ := elem2 hv
        obtain ⟨v2, hv2, hb⟩ := Option.bind_eq_some_iff.1 hb
        refine wpo_mv (a := eErr z.e) rfl rfl rfl (o_ld_e tk encErr rfl rfl) ?_
        refine wpo_mv (a := eErr z.e) rfl rfl rfl (o_as tk rfl (Wk.refl _)) ?_
        refine wpo_nil ?_
        refine awp_seq ?_
        refine awp_region rfl ?_
        refine wpo_mv (a := eErr z.e) rfl rfl rfl (o_mv tk rfl (Wk.refl _)) ?_
        refine wpo_mv (a := eB true) rfl rfl rfl (o_ifn tk td25 rfl rfl) ?_
        refine wpo_nil ?_
        refine awp_true rfl ?_
        refine awp_region rfl ?_
        refine wpo_mv (a := .ref id 0) rfl rfl rfl (o_mv tk rfl (Wk.refl _)) ?_
        refine wpo_mv (a := .ref id 0) rfl rfl rfl (o_mv tk rfl (Wk.refl _)) ?_
        refine wpo_mv (a := .ref id 0) rfl rfl rfl (o_c tk false rfl (fun _ => rfl)) ?_
        refine wpo_mv (a := .ref id 0) rfl rfl rfl (o_c tk false rfl (fun _ => rfl)) ?_
        refine wpo_rd (a := eT tk1 1 eErr acc) rfl rfl rfl (h_ld tk hH 0 rfl rfl rfl) ?_
        refine wpo_mv (a := eErr z.e) rfl rfl rfl (o_mv tk rfl (Wk.refl _)) ?_
        refine wpo_mv (a := eF 1 eErr [z.e]) rfl rfl rfl (o_c tk false rfl (fun _ => rfl)) ?_
        refine wpo_a (av := fun t => eT t 1 eErr v2) rfl rfl rfl (h_app tk hH 0 hv2 rfl td74 ty25 rfl (by decide) rfl (src_l td74 rfl)) fun tk3 τ hH => ?_
        refine wpo_mv (a := .ref id 0) rfl rfl rfl (o_c tk false rfl (fun _ => rfl)) ?_
        refine wpo_mv (a := .ref id 0) rfl rfl rfl (o_c tk false rfl (fun _ => rfl)) ?_
        refine wpo_z rfl rfl (h_st tk hH 0 rfl ty74 (by simp) rfl rfl (Wk.refl _) rfl rfl (Nat.le_of_ble_eq_true rfl) [eT tk3 1 eErr v2] rfl) fun τ hH => ?_
        refine wpo_nil ?_
        refine awp_region rfl ?_
        refine wpo_mv (a := eI (w64 (i + 1))) rfl rfl rfl (o_ar tk rfl rfl rfl) ?_
        refine wpo_mv (a := eI (w64 (i + 1))) rfl rfl rfl (o_mv tk rfl (Wk.refl _)) ?_
        refine wpo_nil ?_
        exact ⟨(w64 (i + 1), v2), (Option.some.inj hb).symm, tk3, (wkf_cons (.of_eq rfl) (wkf_cons (.of_eq rfl) (wkf_cons (.of_eq rfl) (wkf_cons (.of_eq rfl) (wkf_nil _))))), hH⟩
      · refine awp_exit ?_
        have hz := hy _ (Option.some.inj hb).symm
        subst hz
        exact ⟨⟨_, (Option.some.inj hb).symm⟩, tk1, (wkf_cons (.of_eq rfl) (wkf_nil _)), hH⟩
  · refine awp_loopO (body := jn_b0 [x.e, y.e]) (jn_l0 x.e y.e) (fun (s : Int × Int) fr τ => WkF fr (fm [(0, eL 1 eErr [x.e, y.e]), (3, eI s.2), (9, eL 1 eErr [x.e, y.e]), (10, eI (([x.e, y.e] : List Err).length : Int)), (11, eI s.1)]) ∧ Holds σ [] [] τ) ⟨(wkf_cons (.of_eq rfl) (wkf_cons (.of_eq rfl) (wkf_cons (.of_eq rfl) (wkf_cons (.of_eq rfl) (wkf_cons (.of_eq rfl) (wkf_nil _)))))), hH⟩ ?_
    rintro ⟨i, n⟩ fr τ yy ⟨hfr, hH⟩ hb hy
    refine AWP.fm [(0, eL 1 eErr [x.e, y.e]), (3, eI n), (9, eL 1 eErr [x.e, y.e]), (10, eI (([x.e, y.e] : List Err).length : Int)), (11, eI i)] hfr ?_
    have hb : (if decide (i < (([x.e, y.e] : List Err).length : Int)) = true then (ix [x.e, y.e] i).bind fun e => some (.inl (w64 (i + 1), w64 (n + 1))) else some (.inr n)) = some yy := hb
    refine awp_seq ?_
    refine awp_region rfl ?_
    refine wpo_mv (a := eB (decide (i < (([x.e, y.e] : List Err).length : Int)))) rfl rfl rfl (o_ar tk rfl rfl rfl) ?_
    refine wpo_nil ?_
    refine awp_seq ?_
    refine awp_if hb rfl (fun hb => ?_) (fun hb => ?_)
    · refine awp_skip ?_
      refine awp_seq ?_
      refine awp_block ?_
      refine awp_seq ?_
      refine awp_region rfl ?_
      refine wpo_bd hb (fun e => .fptr (eErr e).cells 0) rfl rfl rfl (fun v hv => o_ixa tk hv td74 encErr rfl rfl) fun v hv hb => ?_
      obtain ⟨z, rfl⟩ := elem2 hv
      refine wpo_mv (a := eErr z.e) rfl rfl rfl (o_ld_e tk encErr rfl rfl) ?_
      refine wpo_mv (a := eErr z.e) rfl rfl rfl (o_as tk rfl (Wk.refl _)) ?_
      refine wpo_nil ?_
      refine awp_seq ?_
      refine awp_region rfl ?_
      refine wpo_mv (a := eErr z.e) rfl rfl rfl (o_mv tk rfl (Wk.refl _)) ?_
      refine wpo_mv (a := eB true) rfl rfl rfl (o_ifn tk td25 rfl rfl) ?_
      refine wpo_nil ?_
      refine awp_true rfl ?_
      refine awp_region rfl ?_
      refine wpo_mv (a := eI n) rfl rfl rfl (o_mv tk rfl (Wk.refl _)) ?_
      refine wpo_mv (a := eI (w64 (n + 1))) rfl rfl rfl (o_ar tk rfl rfl rfl) ?_
      refine wpo_mv (a := eI (w64 (n + 1))) rfl rfl rfl (o_as tk rfl (Wk.refl _)) ?_
      refine wpo_nil ?_
      refine awp_region rfl ?_
      refine wpo_mv (a := eI (w64 (i + 1))) rfl rfl rfl (o_ar tk rfl rfl rfl) ?_
      refine wpo_mv (a := eI (w64 (i + 1))) rfl rfl rfl (o_mv tk rfl (Wk.refl _)) ?_
      refine wpo_nil ?_
      exact ⟨(w64 (i + 1), w64 (n + 1)), (Option.some.inj hb).symm, (wkf_cons (.of_eq rfl) (wkf_cons (.of_eq rfl) (wkf_cons (.of_eq rfl) (wkf_cons (.of_eq rfl) (wkf_cons (.of_eq rfl) (wkf_nil _)))))), hH⟩
    · refine awp_exit ?_
      have hz := hy _ (Option.some.inj hb).symm
      subst hz
      exact ⟨⟨_, (Option.some.inj hb).symm⟩, (wkf_cons (.of_eq rfl) (wkf_cons (.of_eq rfl) (wkf_nil _))), hH⟩
end Go.Proofs.YtekldjimdmkgaaaDoor
namespace Go.Proofs.YtekldjimdmkgaaaDoor
open Go Go.Va
set_option linter.unusedVariables false
set_option linter.unusedSimpArgs false
set_option maxRecDepth 20000
theorem trouble_Of_ok {x0 : Err} {r : Int} (H : trouble_Of x0 = some r) (σ : St) (hg : σ.gl = gls) : ACall Tryd.prog 14 [eErr x0] σ (fun a τ => a = eI r ∧ τ = σ) := by
  obtain rfl := Option.some.inj H
  refine ACall.pure (acall_start tk Tryd.func14 (by decide) rfl (Nat.le_of_ble_eq_true rfl) ?_)
  have hH := Holds.init σ
  refine awp_seq ?_
  refine awp_region rfl ?_
  refine wpo_mv (a := (eI (0 : Int))) rfl rfl rfl (o_as tk rfl (Wk.refl _)) ?_
  refine wpo_nil ?_
  refine awp_seq ?_
  refine awp_block ?_
  have hs := trouble_Of_l0 x0
  refine awp_cutx 0 (fun fr τ => codeOf x0 = 0 ∧ WkF fr (fm []) ∧ Holds σ [] [] τ) ?_ ?_
  · rintro fr τ ⟨h0, hfr, hH⟩
    refine AWP.fm [] hfr ?_
    refine awp_seq ?_
    refine awp_region rfl ?_
    refine wpo_mv (a := (eI 0)) rfl rfl rfl (o_as tk rfl (Wk.refl _)) ?_
    refine wpo_nil ?_
    refine awp_ret ?_
    rw [h0]
    exact ⟨_, (eI 0), rfl, (.of_eq rfl), .of_eq rfl, hH.noT⟩
  · refine awp_loopO (body := trouble_Of_b0) hs (fun (s : Err) fr τ => WkF fr (fm [(0, eErr s)]) ∧ Holds σ [] [] τ) ⟨(wkf_cons (.of_eq rfl) (wkf_nil _)), hH⟩ ?_
    rintro c1 fr τ y ⟨hfr, hH⟩ hb hy
    refine AWP.fm [(0, eErr c1)] hfr ?_
    cases c1 with
    | nil =>
      refine awp_seq ?_
      refine awp_seq ?_
      refine awp_region rfl ?_
      refine wpo_mv (a := eErr .nil) rfl rfl rfl (o_mv tk rfl (Wk.refl _)) ?_
      refine wpo_mv (a := eB false) rfl rfl rfl (o_err_neq (x := .nil) tk rfl rfl rfl) ?_
      refine wpo_nil ?_
      refine awp_false rfl ?_
      refine awp_exit ?_
      have hb : some (Sum.inr (Sum.inl ())) = some y := hb
      have hz := hy _ (Option.some.inj hb).symm
      refine ⟨⟨_, (Option.some.inj hb).symm⟩, ?_, (wkf_nil _), hH⟩
      split at hz
      · assumption
      · cases hz
    | fault o a c u =>
      refine awp_seq ?_
      refine awp_seq ?_
      refine awp_region rfl ?_
      refine wpo_mv (a := eErr (.fault o a c u)) rfl rfl rfl (o_mv tk rfl (Wk.refl _)) ?_
      refine wpo_mv (a := eB true) rfl rfl rfl (o_err_neq (x := .fault o a c u) tk rfl rfl rfl) ?_
      refine wpo_nil ?_
      refine awp_true rfl ?_
      refine awp_skip ?_
      refine awp_block ?_
      refine awp_seq ?_
      refine awp_region rfl ?_
      refine wpo_a (av := fun id => .ref id 0) rfl rfl rfl (h_alloc tk hH ty50 [.nilp] rfl) fun id τ ⟨hH, hn⟩ => ?_
      refine wpo_nil ?_
      refine awp_seq ?_
      refine awp_seq ?_
      refine awp_region rfl ?_
      refine wpo_mv (a := eErr (.fault o a c u)) rfl rfl rfl (o_mv tk rfl (Wk.refl _)) ?_
      refine wpo_mv (a := .iface 54 (.ref id 0)) rfl rfl rfl (o_c tk false rfl (fun _ => rfl)) ?_
      refine wpo_cb (α := Unit) (z := some ()) (k := fun _ => some ()) (r := ()) rfl (fun _ _ => eB true) rfl rfl rfl (fun v hv => h_call1 hH [(0, (id, [(Err.fault o a c u).ptr]))] ⟨⟨_, rfl⟩, trivial⟩ rfl rfl (.cons (.of_eq rfl) (.cons (.of_eq rfl) .nil)) (as_ok (x := .fault o a c u) rfl (hH.at_ 0 rfl) (hH.gl.trans hg))) fun _ _ τ _ _ hH => ?_
      refine wpo_mv (a := eB false) rfl rfl rfl (o_un tk rfl rfl) ?_
      refine wpo_nil ?_
      refine awp_false rfl ?_
      refine awp_skip ?_
      refine awp_seq ?_
      refine awp_seq ?_
      refine awp_region rfl ?_
      refine wpo_rd (a := (Err.fault o a c u).ptr) rfl rfl rfl (h_ld tk hH 0 rfl rfl rfl) ?_
      refine wpo_mv (a := (Err.fault o a c u).ptr) rfl rfl rfl (o_c tk false rfl (fun _ => rfl)) ?_
      refine wpo_mv (a := .fptr [eS o, eI a, eI c, eErr u] 2) rfl rfl rfl (o_c tk false rfl (fun _ => rfl)) ?_
      refine wpo_mv (a := eI c) rfl rfl rfl (o_ld tk rfl rfl) ?_
      refine wpo_mv (a := eB (c != 0)) rfl rfl rfl (o_ar tk rfl rfl rfl) ?_
      refine wpo_nil ?_
      have hb : (if (c != 0) = true then some (.inr (.inr c)) else some (.inl u)) = some y := hb
      refine awp_if hb rfl (fun hb => ?_) (fun hb => ?_)
      · refine awp_seq ?_
        refine awp_region rfl ?_
        refine wpo_rd (a := (Err.fault o a c u).ptr) rfl rfl rfl (h_ld tk hH 0 rfl rfl rfl) ?_
        refine wpo_mv (a := (Err.fault o a c u).ptr) rfl rfl rfl (o_c tk false rfl (fun _ => rfl)) ?_
        refine wpo_mv (a := .fptr [eS o, eI a, eI c, eErr u] 2) rfl rfl rfl (o_c tk false rfl (fun _ => rfl)) ?_
        refine wpo_mv (a := eI c) rfl rfl rfl (o_ld tk rfl rfl) ?_
        refine wpo_mv (a := eI c) rfl rfl rfl (o_as tk rfl (Wk.refl _)) ?_
        refine wpo_nil ?_
        refine awp_ret ?_
        have hz := hy _ (Option.some.inj hb).symm
        refine ⟨⟨_, (Option.some.inj hb).symm⟩, ?_⟩
        have hc : codeOf x0 = c := by
          split at hz
          · cases hz
          · exact Sum.inr.inj hz.symm
        rw [hc]
        exact ⟨_, (eI c), rfl, (.of_eq rfl), .of_eq rfl, (hH.noT.drop hn)⟩
      · refine awp_skip ?_
        refine awp_region rfl ?_
        refine wpo_rd (a := (Err.fault o a c u).ptr) rfl rfl rfl (h_ld tk hH 0 rfl rfl rfl) ?_
        refine wpo_mv (a := (Err.fault o a c u).ptr) rfl rfl rfl (o_c tk false rfl (fun _ => rfl)) ?_
        refine wpo_mv (a := .fptr [eS o, eI a, eI c, eErr u] 3) rfl rfl rfl (o_c tk false rfl (fun _ => rfl)) ?_
        refine wpo_mv (a := eErr u) rfl rfl rfl (o_ld tk rfl (by cases u <;> rfl)) ?_
        refine wpo_mv (a := eErr u) rfl rfl rfl (o_as tk rfl (Wk.refl _)) ?_
        refine wpo_nil ?_
        exact ⟨u, (Option.some.inj hb).symm, (wkf_cons (.of_eq rfl) (wkf_nil _)), hH.drop hn⟩
end Go.Proofs.YtekldjimdmkgaaaDoor
namespace Go.Proofs.YtekldjimdmkgaaaDoor
open Go Go.Va
set_option linter.unusedVariables false
set_option linter.unusedSimpArgs false
set_option maxRecDepth 20000
theorem trouble_Has_ok {x : Err} {k : Int} {r : Bool} (H : trouble_Has x k = some r) (σ : St) : ACall Tryd.prog 20 [eErr x, eI k] σ (fun b τ => b = eB r ∧ τ = σ) := by
  obtain rfl := Option.some.inj H
  refine ACall.pure (acall_start tk Tryd.func20 (by decide) rfl (Nat.le_of_ble_eq_true rfl) ?_)
  have hH := Holds.init σ
  refine awp_seq ?_
  refine awp_region rfl ?_
  refine wpo_mv (a := eB false) rfl rfl rfl (o_as tk rfl (Wk.refl _)) ?_
  refine wpo_nil ?_
  refine awp_seq ?_
  refine awp_region rfl ?_
  refine wpo_mv (a := eErr x) rfl rfl rfl (o_mv tk rfl (Wk.refl _)) ?_
  cases x with
  | nil =>
    refine wpo_mv (a := eB false) rfl rfl rfl (o_err_neq (x := .nil) tk td25 rfl rfl) ?_
    refine wpo_mv (a := eB false) rfl rfl rfl (o_mv tk rfl (Wk.refl _)) ?_
    refine wpo_skip rfl rfl rfl ?_
    refine wpo_skip rfl rfl rfl ?_
    refine wpo_skip rfl rfl rfl ?_
    refine wpo_skip rfl rfl rfl ?_
    refine wpo_skip rfl rfl rfl ?_
    refine wpo_mv (a := eB false) rfl rfl rfl (o_pick_f tk rfl rfl (Wk.refl _)) ?_
    refine wpo_mv (a := eB false) rfl rfl rfl (o_as tk rfl (Wk.refl _)) ?_
    refine wpo_nil ?_
    refine awp_ret ?_
    exact ⟨_, (eB false), rfl, (.of_eq rfl), .of_eq rfl, hH.noT⟩
  | fault o a c u =>
    refine wpo_mv (a := eB true) rfl rfl rfl (o_err_neq (x := .fault o a c u) tk td25 rfl rfl) ?_
    refine wpo_mv (a := eB true) rfl rfl rfl (o_mv tk rfl (Wk.refl _)) ?_
    refine wpo_mv (a := eErr (.fault o a c u)) rfl rfl rfl (o_mv tk rfl (Wk.refl _)) ?_
    refine wpo_mv (a := eI k) rfl rfl rfl (o_mv tk rfl (Wk.refl _)) ?_
    refine wpo_mv (a := .agg [eI k]) rfl rfl rfl (o_c tk false rfl (fun _ => rfl)) ?_
    refine wpo_mv (a := mkE k) rfl rfl rfl (o_c tk false rfl (fun _ => rfl)) ?_
    refine wpo_mv (a := eB (hasE (.fault o a c u) k)) rfl rfl rfl (OpP.of_call rfl rfl (.cons (.of_eq rfl) (.cons (.of_eq rfl) .nil)) (Is_ok o a c u k)) ?_
    refine wpo_mv (a := eB (hasE (.fault o a c u) k)) rfl rfl rfl (o_pick_t tk rfl rfl (Wk.refl _)) ?_
    refine wpo_mv (a := eB (hasE (.fault o a c u) k)) rfl rfl rfl (o_as tk rfl (Wk.refl _)) ?_
    refine wpo_nil ?_
    refine awp_ret ?_
    exact ⟨_, (eB (hasE (.fault o a c u) k)), rfl, (.of_eq rfl), .of_eq rfl, hH.noT⟩
end Go.Proofs.YtekldjimdmkgaaaDoor
namespace Go.Proofs.YtekldjimdmkgaaaDoor
open Go Go.Va Go.RowKit
set_option linter.unusedVariables false
set_option linter.unusedSimpArgs false
set_option maxRecDepth 20000
def fE : Err → Err → AV
  | .nil, y => eErr y
  | .fault o a c u, .nil => eErr (.fault o a c u)
  | .fault o a c u, .fault o' a' c' u' => eJ (.fault o a c u) (.fault o' a' c' u')
theorem HasE_ok (x y : Err) (k : Int) (σ : St) : ACall Tryd.prog 20 [fE x y, eI k] σ (fun b τ => b = eB (hasE x k || hasE y k) ∧ τ = σ) := by
  cases x with
  | nil => exact trouble_Has_ok (x := y) rfl σ
  | fault o a c u =>
    cases y with
    | nil => 
      rw [show (hasE (.fault o a c u) k || hasE .nil k) = hasE (.fault o a c u) k from Bool.or_false _]
      exact trouble_Has_ok (x := .fault o a c u) rfl σ
    | fault o' a' c' u' => exact HasJ_ok (o, a, c, u) (o', a', c', u') k σ
theorem OfE_ok (x y : Err) (σ : St) (hg : σ.gl = gls) : ACall Tryd.prog 14 [fE x y] σ (fun b τ => b = eI (if x.isNil = true then codeOf y else codeOf x) ∧ τ = σ) := by
  cases x with
  | nil => exact trouble_Of_ok (x0 := y) rfl σ hg
  | fault o a c u =>
    cases y with
    | nil => exact trouble_Of_ok (x0 := .fault o a c u) rfl σ hg
    | fault o' a' c' u' => exact OfJ_ok (o, a, c, u) (.fault o' a' c' u') σ hg
theorem o_fE_eql {fr : Nat → AV} {d : Option Tmp} {tt : TypeId} {pos : String} {af : Array Edge} {g : Option (Nat × Bool)} {ox oy : Operand} {T' : TypeId} {x y : Err} (hx : aeval fr ox = fE x y) (hy : oy = .const .nilIface) : OpP Tryd.prog ⟨d, .binOp .eql 25 ox oy T', tt, pos, af, g⟩ fr (eB (x.isNil && y.isNil)) := by
  subst hy
  refine OpP.of_aop' tk (mu := false) rfl (fun τ => ?_)
  have h2 : aeval fr (.const .nilIface) = .nili := rfl
  simp only [aop, hx, h2]
  cases x with
  | nil => cases y <;> simp [fE, eErr, abin', abin, td25, isC, aeq, pairO, Err.isNil, eB]
  | fault o a c u => cases y <;> simp [fE, eJ, eErr, abin', abin, td25, isC, aeq, pairO, Err.isNil, eB]
theorem fE_cut (ρ κ : Nat → Option Nat) (x y : Err) : cutAV ρ κ (fE x y) = fE x y := by
  cases x with
  | nil => exact encErr.cut ρ κ y
  | fault o a c u =>
    cases y with
    | nil => exact encErr.cut ρ κ _
    | fault o' a' c' u' => simp only [fE, eJ, cutAV, cutL, (enc_l td74 sz74 encErr.cut).cut _ _ _]
theorem Both_ok (x y : Err) (σ : St) : ACall Tryd.prog 22 [eErr x, eErr y] σ (fun b τ => b = fE x y ∧ τ = σ) := by
  refine ACall.pure (acall_start tk Tryd.func22 (by decide) rfl (Nat.le_of_ble_eq_true rfl) ?_)
  have hH := Holds.init σ
  refine awp_seq ?_
  refine awp_region rfl ?_
  refine wpo_mv (a := .nili) rfl rfl rfl (o_as tk rfl (Wk.refl _)) ?_
  refine wpo_nil ?_
  refine awp_seq ?_
  refine awp_block ?_
  refine awp_seq ?_
  refine awp_region rfl ?_
  refine wpo_mv (a := eErr x) rfl rfl rfl (o_mv tk rfl (Wk.refl _)) ?_
  refine wpo_mv (a := eB x.isNil) rfl rfl rfl (o_err_eql tk td25 rfl rfl) ?_
  refine wpo_mv (a := eB x.isNil) rfl rfl rfl (o_as tk rfl (Wk.refl _)) ?_
  refine wpo_nil ?_
  cases x with
  | nil =>
    refine awp_true rfl ?_
    refine awp_seq ?_
    refine awp_region rfl ?_
    refine wpo_mv (a := eErr y) rfl rfl rfl (o_mv tk rfl (Wk.refl _)) ?_
    refine wpo_mv (a := eErr y) rfl rfl rfl (o_as tk rfl (Wk.refl _)) ?_
    refine wpo_nil ?_
    refine awp_ret ?_
    exact ⟨_, (eErr y), rfl, (.of_eq rfl), .of_eq (fE_cut _ _ .nil y), hH.noT⟩
  | fault o a c u =>
    refine awp_false rfl ?_
    refine awp_seq ?_
    refine awp_region rfl ?_
    refine wpo_mv (a := eErr y) rfl rfl rfl (o_mv tk rfl (Wk.refl _)) ?_
    refine wpo_mv (a := eB y.isNil) rfl rfl rfl (o_err_eql tk td25 rfl rfl) ?_
    refine wpo_mv (a := eB y.isNil) rfl rfl rfl (o_as tk rfl (Wk.refl _)) ?_
    refine wpo_nil ?_
    cases y with
    | nil =>
      refine awp_true rfl ?_
      refine awp_seq ?_
      refine awp_region rfl ?_
      refine wpo_mv (a := eErr (.fault o a c u)) rfl rfl rfl (o_mv tk rfl (Wk.refl _)) ?_
      refine wpo_mv (a := eErr (.fault o a c u)) rfl rfl rfl (o_as tk rfl (Wk.refl _)) ?_
      refine wpo_nil ?_
      refine awp_ret ?_
      exact ⟨_, (eErr (.fault o a c u)), rfl, (.of_eq rfl), .of_eq (fE_cut _ _ (.fault o a c u) .nil), hH.noT⟩
    | fault o' a' c' u' =>
      refine awp_false rfl ?_
      refine awp_skip ?_
      refine awp_seq ?_
      refine awp_region rfl ?_
      refine wpo_mv (a := eErr (.fault o a c u)) rfl rfl rfl (o_mv tk rfl (Wk.refl _)) ?_
      refine wpo_mv (a := eErr (.fault o' a' c' u')) rfl rfl rfl (o_mv tk rfl (Wk.refl _)) ?_
      refine wpo_mv (a := eF 1 eErr [.fault o a c u, .fault o' a' c' u']) rfl rfl rfl (o_c tk false rfl (fun _ => rfl)) ?_
      refine wpo_mv (a := eJ (.fault o a c u) (.fault o' a' c' u')) rfl rfl rfl (OpP.of_call rfl rfl (.cons wk_no .nil) (Join_ok (o, a, c, u) (o', a', c', u'))) ?_
      refine wpo_mv (a := eJ (.fault o a c u) (.fault o' a' c' u')) rfl rfl rfl (o_as tk rfl (Wk.refl _)) ?_
      refine wpo_nil ?_
      refine awp_ret ?_
      exact ⟨_, (eJ (.fault o a c u) (.fault o' a' c' u')), rfl, (.of_eq rfl), .of_eq (fE_cut _ _ (.fault o a c u) (.fault o' a' c' u')), hH.noT⟩
end Go.Proofs.YtekldjimdmkgaaaDoor
namespace Go.Proofs.YtekldjimdmkgaaaDoor
open Go Go.Va
set_option linter.unusedSimpArgs false
set_option linter.unusedVariables false
def wf_runtime_boundsError (x : runtime_boundsError) : Prop := (wfI .i64) x.x ∧ (wfI .i64) x.y ∧ wfT x.signed ∧ wfT x.code
theorem opens7 : Opens Tryd.prog 7 e_runtime_boundsError wf_runtime_boundsError := by
  intro H enc w fuel cs x hx
  obtain ⟨xs, m, _, _, hl, hn, hx⟩ := DataW.trod_struct Tryd.underlying7 hx
  rw [cellsOf_sz tk sz7 (by decide)] at hl
  obtain ⟨y0, w0, r0, o0⟩ := opens_f hx hn 0 (o := 0) (s := 1) rfl (opens_i64 Tryd.underlying2) rfl (cellsOf_sz tk sz2 (by decide))
  obtain ⟨y1, w1, r1, o1⟩ := opens_f hx hn 1 (o := 1) (s := 1) rfl (opens_i64 Tryd.underlying3) rfl (cellsOf_sz tk sz3 (by decide))
  obtain ⟨y2, w2, r2, o2⟩ := opens_f hx hn 2 (o := 2) (s := 1) rfl (opens_b Tryd.underlying4) rfl (cellsOf_sz tk sz4 (by decide))
  obtain ⟨y3, w3, r3, o3⟩ := opens_f hx hn 3 (o := 3) (s := 1) rfl (opens_u rfl rfl Tryd.underlying6) rfl (cellsOf_sz tk sz6 (by decide))
  refine ⟨⟨y0, y1, y2, y3⟩, ⟨w0, w1, w2, w3⟩, ?_, ?_⟩
  · have h := (rel_piece r0 (rel_piece r1 (rel_piece r2 (rel_piece r3 (rel_end hl)))))
    rw [List.drop_zero] at h
    first | exact h | (simp only [List.append_nil, List.append_assoc] at h ⊢; exact h) | (simpa [AV.cells, e_runtime_boundsError, c_runtime_boundsError] using h)
  · have h := (one_piece o0 (one_piece o1 (one_piece o2 (one_piece o3 (one_end hl)))))
    rw [List.drop_zero] at h
    exact h
theorem opens8 : Opens Tryd.prog 8 e_runtime_boundsError wf_runtime_boundsError := by
  intro H enc w fuel cs x hx
  obtain ⟨xs, m, _, _, hl, hn, hx⟩ := DataW.trod_struct Tryd.underlying8 hx
  rw [cellsOf_sz tk sz8 (by decide)] at hl
  obtain ⟨y0, w0, r0, o0⟩ := opens_f hx hn 0 (o := 0) (s := 1) rfl (opens_i64 Tryd.underlying2) rfl (cellsOf_sz tk sz2 (by decide))
  obtain ⟨y1, w1, r1, o1⟩ := opens_f hx hn 1 (o := 1) (s := 1) rfl (opens_i64 Tryd.underlying3) rfl (cellsOf_sz tk sz3 (by decide))
  obtain ⟨y2, w2, r2, o2⟩ := opens_f hx hn 2 (o := 2) (s := 1) rfl (opens_b Tryd.underlying4) rfl (cellsOf_sz tk sz4 (by decide))
  obtain ⟨y3, w3, r3, o3⟩ := opens_f hx hn 3 (o := 3) (s := 1) rfl (opens_u rfl rfl Tryd.underlying6) rfl (cellsOf_sz tk sz6 (by decide))
  refine ⟨⟨y0, y1, y2, y3⟩, ⟨w0, w1, w2, w3⟩, ?_, ?_⟩
  · have h := (rel_piece r0 (rel_piece r1 (rel_piece r2 (rel_piece r3 (rel_end hl)))))
    rw [List.drop_zero] at h
    first | exact h | (simp only [List.append_nil, List.append_assoc] at h ⊢; exact h) | (simpa [AV.cells, e_runtime_boundsError, c_runtime_boundsError] using h)
  · have h := (one_piece o0 (one_piece o1 (one_piece o2 (one_piece o3 (one_end hl)))))
    rw [List.drop_zero] at h
    exact h
def wf_runtime_errorAddressString (x : runtime_errorAddressString) : Prop := wfS x.msg ∧ wfT x.addr
theorem opens13 : Opens Tryd.prog 13 e_runtime_errorAddressString wf_runtime_errorAddressString := by
  intro H enc w fuel cs x hx
  obtain ⟨xs, m, _, _, hl, hn, hx⟩ := DataW.trod_struct Tryd.underlying13 hx
  rw [cellsOf_sz tk sz13 (by decide)] at hl
  obtain ⟨y0, w0, r0, o0⟩ := opens_f hx hn 0 (o := 0) (s := 1) rfl (opens_s Tryd.underlying9) rfl (cellsOf_sz tk sz9 (by decide))
  obtain ⟨y1, w1, r1, o1⟩ := opens_f hx hn 1 (o := 1) (s := 1) rfl (opens_u rfl rfl Tryd.underlying12) rfl (cellsOf_sz tk sz12 (by decide))
  refine ⟨⟨y0, y1⟩, ⟨w0, w1⟩, ?_, ?_⟩
  · have h := (rel_piece r0 (rel_piece r1 (rel_end hl)))
    rw [List.drop_zero] at h
    first | exact h | (simp only [List.append_nil, List.append_assoc] at h ⊢; exact h) | (simpa [AV.cells, e_runtime_errorAddressString, c_runtime_errorAddressString] using h)
  · have h := (one_piece o0 (one_piece o1 (one_end hl)))
    rw [List.drop_zero] at h
    exact h
theorem opens14 : Opens Tryd.prog 14 e_runtime_errorAddressString wf_runtime_errorAddressString := by
  intro H enc w fuel cs x hx
  obtain ⟨xs, m, _, _, hl, hn, hx⟩ := DataW.trod_struct Tryd.underlying14 hx
  rw [cellsOf_sz tk sz14 (by decide)] at hl
  obtain ⟨y0, w0, r0, o0⟩ := opens_f hx hn 0 (o := 0) (s := 1) rfl (opens_s Tryd.underlying9) rfl (cellsOf_sz tk sz9 (by decide))
  obtain ⟨y1, w1, r1, o1⟩ := opens_f hx hn 1 (o := 1) (s := 1) rfl (opens_u rfl rfl Tryd.underlying12) rfl (cellsOf_sz tk sz12 (by decide))
  refine ⟨⟨y0, y1⟩, ⟨w0, w1⟩, ?_, ?_⟩
  · have h := (rel_piece r0 (rel_piece r1 (rel_end hl)))
    rw [List.drop_zero] at h
    first | exact h | (simp only [List.append_nil, List.append_assoc] at h ⊢; exact h) | (simpa [AV.cells, e_runtime_errorAddressString, c_runtime_errorAddressString] using h)
  · have h := (one_piece o0 (one_piece o1 (one_end hl)))
    rw [List.drop_zero] at h
    exact h
def wf_api_Step (x : api_Step) : Prop := wfS x.Op ∧ (wfI .i64) x.At ∧ (wfI .i64) x.Code
theorem opens31 : Opens Tryd.prog 31 e_api_Step wf_api_Step := by
  intro H enc w fuel cs x hx
  obtain ⟨xs, m, _, _, hl, hn, hx⟩ := DataW.trod_struct Tryd.underlying31 hx
  rw [cellsOf_sz tk sz31 (by decide)] at hl
  obtain ⟨y0, w0, r0, o0⟩ := opens_f hx hn 0 (o := 0) (s := 1) rfl (opens_s Tryd.underlying9) rfl (cellsOf_sz tk sz9 (by decide))
  obtain ⟨y1, w1, r1, o1⟩ := opens_f hx hn 1 (o := 1) (s := 1) rfl (opens_i64 Tryd.underlying3) rfl (cellsOf_sz tk sz3 (by decide))
  obtain ⟨y2, w2, r2, o2⟩ := opens_f hx hn 2 (o := 2) (s := 1) rfl (opens_i64 Tryd.underlying22) rfl (cellsOf_sz tk sz22 (by decide))
  refine ⟨⟨y0, y1, y2⟩, ⟨w0, w1, w2⟩, ?_, ?_⟩
  · have h := (rel_piece r0 (rel_piece r1 (rel_piece r2 (rel_end hl))))
    rw [List.drop_zero] at h
    first | exact h | (simp only [List.append_nil, List.append_assoc] at h ⊢; exact h) | (simpa [AV.cells, e_api_Step, c_api_Step] using h)
  · have h := (one_piece o0 (one_piece o1 (one_piece o2 (one_end hl))))
    rw [List.drop_zero] at h
    exact h
theorem opens32 : Opens Tryd.prog 32 e_api_Step wf_api_Step := by
  intro H enc w fuel cs x hx
  obtain ⟨xs, m, _, _, hl, hn, hx⟩ := DataW.trod_struct Tryd.underlying32 hx
  rw [cellsOf_sz tk sz32 (by decide)] at hl
  obtain ⟨y0, w0, r0, o0⟩ := opens_f hx hn 0 (o := 0) (s := 1) rfl (opens_s Tryd.underlying9) rfl (cellsOf_sz tk sz9 (by decide))
  obtain ⟨y1, w1, r1, o1⟩ := opens_f hx hn 1 (o := 1) (s := 1) rfl (opens_i64 Tryd.underlying3) rfl (cellsOf_sz tk sz3 (by decide))
  obtain ⟨y2, w2, r2, o2⟩ := opens_f hx hn 2 (o := 2) (s := 1) rfl (opens_i64 Tryd.underlying22) rfl (cellsOf_sz tk sz22 (by decide))
  refine ⟨⟨y0, y1, y2⟩, ⟨w0, w1, w2⟩, ?_, ?_⟩
  · have h := (rel_piece r0 (rel_piece r1 (rel_piece r2 (rel_end hl))))
    rw [List.drop_zero] at h
    first | exact h | (simp only [List.append_nil, List.append_assoc] at h ⊢; exact h) | (simpa [AV.cells, e_api_Step, c_api_Step] using h)
  · have h := (one_piece o0 (one_piece o1 (one_piece o2 (one_end hl))))
    rw [List.drop_zero] at h
    exact h
def wf_trouble_mark (x : trouble_mark) : Prop := (wfI .i64) x.code
theorem opens57 : Opens Tryd.prog 57 e_trouble_mark wf_trouble_mark := by
  intro H enc w fuel cs x hx
  obtain ⟨xs, m, _, _, hl, hn, hx⟩ := DataW.trod_struct Tryd.underlying57 hx
  rw [cellsOf_sz tk sz57 (by decide)] at hl
  obtain ⟨y0, w0, r0, o0⟩ := opens_f hx hn 0 (o := 0) (s := 1) rfl (opens_i64 Tryd.underlying22) rfl (cellsOf_sz tk sz22 (by decide))
  refine ⟨⟨y0⟩, w0, ?_, ?_⟩
  · have h := (rel_piece r0 (rel_end hl))
    rw [List.drop_zero] at h
    first | exact h | (simp only [List.append_nil, List.append_assoc] at h ⊢; exact h) | (simpa [AV.cells, e_trouble_mark, c_trouble_mark] using h)
  · have h := (one_piece o0 (one_end hl))
    rw [List.drop_zero] at h
    exact h
theorem opens58 : Opens Tryd.prog 58 e_trouble_mark wf_trouble_mark := by
  intro H enc w fuel cs x hx
  obtain ⟨xs, m, _, _, hl, hn, hx⟩ := DataW.trod_struct Tryd.underlying58 hx
  rw [cellsOf_sz tk sz58 (by decide)] at hl
  obtain ⟨y0, w0, r0, o0⟩ := opens_f hx hn 0 (o := 0) (s := 1) rfl (opens_i64 Tryd.underlying22) rfl (cellsOf_sz tk sz22 (by decide))
  refine ⟨⟨y0⟩, w0, ?_, ?_⟩
  · have h := (rel_piece r0 (rel_end hl))
    rw [List.drop_zero] at h
    first | exact h | (simp only [List.append_nil, List.append_assoc] at h ⊢; exact h) | (simpa [AV.cells, e_trouble_mark, c_trouble_mark] using h)
  · have h := (one_piece o0 (one_end hl))
    rw [List.drop_zero] at h
    exact h
def wf_reflectlite_ValueError (x : reflectlite_ValueError) : Prop := wfS x.Method ∧ wfT x.Kind
theorem opens112 : Opens Tryd.prog 112 e_reflectlite_ValueError wf_reflectlite_ValueError := by
  intro H enc w fuel cs x hx
  obtain ⟨xs, m, _, _, hl, hn, hx⟩ := DataW.trod_struct Tryd.underlying112 hx
  rw [cellsOf_sz tk sz112 (by decide)] at hl
  obtain ⟨y0, w0, r0, o0⟩ := opens_f hx hn 0 (o := 0) (s := 1) rfl (opens_s Tryd.underlying9) rfl (cellsOf_sz tk sz9 (by decide))
  obtain ⟨y1, w1, r1, o1⟩ := opens_f hx hn 1 (o := 1) (s := 1) rfl (opens_u rfl rfl Tryd.underlying68) rfl (cellsOf_sz tk sz68 (by decide))
  refine ⟨⟨y0, y1⟩, ⟨w0, w1⟩, ?_, ?_⟩
  · have h := (rel_piece r0 (rel_piece r1 (rel_end hl)))
    rw [List.drop_zero] at h
    first | exact h | (simp only [List.append_nil, List.append_assoc] at h ⊢; exact h) | (simpa [AV.cells, e_reflectlite_ValueError, c_reflectlite_ValueError] using h)
  · have h := (one_piece o0 (one_piece o1 (one_end hl)))
    rw [List.drop_zero] at h
    exact h
theorem opens113 : Opens Tryd.prog 113 e_reflectlite_ValueError wf_reflectlite_ValueError := by
  intro H enc w fuel cs x hx
  obtain ⟨xs, m, _, _, hl, hn, hx⟩ := DataW.trod_struct Tryd.underlying113 hx
  rw [cellsOf_sz tk sz113 (by decide)] at hl
  obtain ⟨y0, w0, r0, o0⟩ := opens_f hx hn 0 (o := 0) (s := 1) rfl (opens_s Tryd.underlying9) rfl (cellsOf_sz tk sz9 (by decide))
  obtain ⟨y1, w1, r1, o1⟩ := opens_f hx hn 1 (o := 1) (s := 1) rfl (opens_u rfl rfl Tryd.underlying68) rfl (cellsOf_sz tk sz68 (by decide))
  refine ⟨⟨y0, y1⟩, ⟨w0, w1⟩, ?_, ?_⟩
  · have h := (rel_piece r0 (rel_piece r1 (rel_end hl)))
    rw [List.drop_zero] at h
    first | exact h | (simp only [List.append_nil, List.append_assoc] at h ⊢; exact h) | (simpa [AV.cells, e_reflectlite_ValueError, c_reflectlite_ValueError] using h)
  · have h := (one_piece o0 (one_piece o1 (one_end hl)))
    rw [List.drop_zero] at h
    exact h
def wf_abi_Method (x : abi_Method) : Prop := (wfI .i32) x.Name ∧ (wfI .i32) x.Mtyp ∧ (wfI .i32) x.Ifn ∧ (wfI .i32) x.Tfn
theorem opens121 : Opens Tryd.prog 121 e_abi_Method wf_abi_Method := by
  intro H enc w fuel cs x hx
  obtain ⟨xs, m, _, _, hl, hn, hx⟩ := DataW.trod_struct Tryd.underlying121 hx
  rw [cellsOf_sz tk sz121 (by decide)] at hl
  obtain ⟨y0, w0, r0, o0⟩ := opens_f hx hn 0 (o := 0) (s := 1) rfl (opens_i Tryd.underlying105) rfl (cellsOf_sz tk sz105 (by decide))
  obtain ⟨y1, w1, r1, o1⟩ := opens_f hx hn 1 (o := 1) (s := 1) rfl (opens_i Tryd.underlying106) rfl (cellsOf_sz tk sz106 (by decide))
  obtain ⟨y2, w2, r2, o2⟩ := opens_f hx hn 2 (o := 2) (s := 1) rfl (opens_i Tryd.underlying120) rfl (cellsOf_sz tk sz120 (by decide))
  obtain ⟨y3, w3, r3, o3⟩ := opens_f hx hn 3 (o := 3) (s := 1) rfl (opens_i Tryd.underlying120) rfl (cellsOf_sz tk sz120 (by decide))
  refine ⟨⟨y0, y1, y2, y3⟩, ⟨w0, w1, w2, w3⟩, ?_, ?_⟩
  · have h := (rel_piece r0 (rel_piece r1 (rel_piece r2 (rel_piece r3 (rel_end hl)))))
    rw [List.drop_zero] at h
    first | exact h | (simp only [List.append_nil, List.append_assoc] at h ⊢; exact h) | (simpa [AV.cells, e_abi_Method, c_abi_Method] using h)
  · have h := (one_piece o0 (one_piece o1 (one_piece o2 (one_piece o3 (one_end hl)))))
    rw [List.drop_zero] at h
    exact h
theorem opens122 : Opens Tryd.prog 122 e_abi_Method wf_abi_Method := by
  intro H enc w fuel cs x hx
  obtain ⟨xs, m, _, _, hl, hn, hx⟩ := DataW.trod_struct Tryd.underlying122 hx
  rw [cellsOf_sz tk sz122 (by decide)] at hl
  obtain ⟨y0, w0, r0, o0⟩ := opens_f hx hn 0 (o := 0) (s := 1) rfl (opens_i Tryd.underlying105) rfl (cellsOf_sz tk sz105 (by decide))
  obtain ⟨y1, w1, r1, o1⟩ := opens_f hx hn 1 (o := 1) (s := 1) rfl (opens_i Tryd.underlying106) rfl (cellsOf_sz tk sz106 (by decide))
  obtain ⟨y2, w2, r2, o2⟩ := opens_f hx hn 2 (o := 2) (s := 1) rfl (opens_i Tryd.underlying120) rfl (cellsOf_sz tk sz120 (by decide))
  obtain ⟨y3, w3, r3, o3⟩ := opens_f hx hn 3 (o := 3) (s := 1) rfl (opens_i Tryd.underlying120) rfl (cellsOf_sz tk sz120 (by decide))
  refine ⟨⟨y0, y1, y2, y3⟩, ⟨w0, w1, w2, w3⟩, ?_, ?_⟩
  · have h := (rel_piece r0 (rel_piece r1 (rel_piece r2 (rel_piece r3 (rel_end hl)))))
    rw [List.drop_zero] at h
    first | exact h | (simp only [List.append_nil, List.append_assoc] at h ⊢; exact h) | (simpa [AV.cells, e_abi_Method, c_abi_Method] using h)
  · have h := (one_piece o0 (one_piece o1 (one_piece o2 (one_piece o3 (one_end hl)))))
    rw [List.drop_zero] at h
    exact h
end Go.Proofs.YtekldjimdmkgaaaDoor
namespace Go.Proofs.YtekldjimdmkgaaaDoor
open Go Go.Va
set_option linter.unusedVariables false
set_option linter.unusedSimpArgs false
set_option maxRecDepth 20000
noncomputable def trouble_New (x0 : List (BitVec 8)) (x1 : Int) (x2 : Int) : Option (Err) :=
  lt (x2 == (0 : Int)) fun v2 =>
  if v2 = true then
    some Err.nil
  else
    lt ((⟨x0, x1, x2, Err.nil⟩ : trouble_fault)) fun v5 =>
    some (Err.fault v5.op v5.at_ v5.code v5.under)
end Go.Proofs.YtekldjimdmkgaaaDoor
namespace Go.Proofs.YtekldjimdmkgaaaDoor
open Go Go.Va
set_option linter.unusedVariables false
set_option linter.unusedSimpArgs false
set_option maxRecDepth 20000
noncomputable def trouble_Wrap (x0 : List (BitVec 8)) (x1 : Int) (x2 : Err) : Option (Err) :=
  lt (Err.isNil x2) fun v2 =>
  if v2 = true then
    some Err.nil
  else
    lt ((⟨x0, x1, (0 : Int), x2⟩ : trouble_fault)) fun v5 =>
    some (Err.fault v5.op v5.at_ v5.code v5.under)
end Go.Proofs.YtekldjimdmkgaaaDoor
namespace Go.Proofs.YtekldjimdmkgaaaDoor
open Go Go.Va
set_option linter.unusedVariables false
set_option linter.unusedSimpArgs false
set_option maxRecDepth 20000
def trouble_Chain_b0 (s : Err × List api_Step) : Option ((Err × List api_Step) ⊕ List api_Step) := match s.1 with
  | .nil => some (.inr s.2)
  | .fault o a c u => (app 32 s.2 [⟨o, a, c⟩]).bind fun v => some (.inl (u, v))
noncomputable def trouble_Chain (x : Err) : Option (List api_Step) := loopO trouble_Chain_b0 (x, [])
end Go.Proofs.YtekldjimdmkgaaaDoor
namespace Go.Proofs.YtekldjimdmkgaaaDoor
open Go Go.Va
set_option linter.unusedVariables false
set_option linter.unusedSimpArgs false
set_option maxRecDepth 20000
noncomputable def trouble_Where (x0 : Err) : Option (Int × Bool) :=
  (trouble_Chain x0).bind fun v2 =>
  lt (((v2).length : Int)) fun v4 =>
  lt (v4 == (0 : Int)) fun v6 =>
  if v6 = true then
    some ((0 : Int), false)
  else
    lt (((v2).length : Int)) fun v9 =>
    lt (w64 (v9 - (1 : Int))) fun v11 =>
    (ix v2 v11).bind fun v13 =>
    some (v13.At, true)
end Go.Proofs.YtekldjimdmkgaaaDoor
namespace Go.Proofs.YtekldjimdmkgaaaDoor
open Go Go.Va
set_option linter.unusedVariables false
set_option linter.unusedSimpArgs false
set_option maxRecDepth 20000
noncomputable def trouble_digits_b0  (c4 : Int) (c5 : List (BitVec 8)) : Option ((Int × (List (BitVec 8))) ⊕ (Int × (List (BitVec 8)))) :=
  lt (decide (c4 ≥ (10 : Int))) fun v16 =>
  if v16 = true then
    lt (Int.tmod c4 (10 : Int)) fun v19 =>
    lt (w64 ((48 : Int) + v19)) fun v21 =>
    lt (BitVec.ofInt 8 v21) fun v23 =>
    (chr1 v23).bind fun v25 =>
    (cat v25 c5).bind fun v27 =>
    lt (quo64 c4 (10 : Int)) fun v29 =>
    some (.inl (v29, v27))
  else
    some (.inr (c4, c5))
noncomputable def trouble_digits_l0  (s : Int × (List (BitVec 8))) : Option (Int × (List (BitVec 8))) := loopO (fun s => trouble_digits_b0 s.1 s.2) s
noncomputable def trouble_digits (x0 : Int) : Option ((List (BitVec 8))) :=
  lt (decide (x0 < (0 : Int))) fun v2 =>
  if v2 = true then
    some ([63#8] : List (BitVec 8))
  else
    (trouble_digits_l0 (x0, ([] : List (BitVec 8)))).bind fun s13 =>
      lt (w64 ((48 : Int) + s13.1)) fun v32 =>
      lt (BitVec.ofInt 8 v32) fun v34 =>
      (chr1 v34).bind fun v36 =>
      (cat v36 s13.2).bind fun v38 =>
      some v38
end Go.Proofs.YtekldjimdmkgaaaDoor
namespace Go.Proofs.YtekldjimdmkgaaaDoor
open Go Go.Va
set_option linter.unusedVariables false
set_option linter.unusedSimpArgs false
set_option maxRecDepth 20000
noncomputable def trouble_Text_b0 (v2 : List api_Step) (v4 : Int) (c5 : List (BitVec 8)) (c6 : Int) : Option (((List (BitVec 8)) × Int) ⊕ ((List (BitVec 8)))) :=
  lt (decide (c6 < v4)) fun v17 =>
  if v17 = true then
    (ix v2 c6).bind fun v20 =>
    lt ((v20 : api_Step)) fun c24 =>
    lt (decide (c6 > (0 : Int))) fun v27 =>
    (
      if v27 = true then
        (cat c5 ([58#8, 32#8] : List (BitVec 8))).bind fun v34 =>
        some v34
      else
        some c5
     : Option ((List (BitVec 8)))).bind fun s28 =>
      (cat s28 c24.Op).bind fun v37 =>
      lt (decide (c24.At ≥ (0 : Int))) fun v39 =>
      (
        if v39 = true then
          (trouble_digits c24.At).bind fun v46 =>
          (cat ([32#8] : List (BitVec 8)) v46).bind fun v48 =>
          (cat v37 v48).bind fun v50 =>
          some v50
        else
          some v37
       : Option ((List (BitVec 8)))).bind fun s40 =>
        lt (c24.Code != (0 : Int)) fun v53 =>
        if v53 = true then
          (trouble_digits c24.Code).bind fun v56 =>
          (cat ([32#8, 99#8, 111#8, 100#8, 101#8, 32#8] : List (BitVec 8)) v56).bind fun v58 =>
          (cat s40 v58).bind fun v60 =>
          lt (w64 (c6 + (1 : Int))) fun v62 =>
          some (.inl (v60, v62))
        else
          lt (w64 (c6 + (1 : Int))) fun v64 =>
          some (.inl (s40, v64))
  else
    some (.inr c5)
noncomputable def trouble_Text_l0 (v2 : List api_Step) (v4 : Int) (s : (List (BitVec 8)) × Int) : Option ((List (BitVec 8))) := loopO (fun s => trouble_Text_b0 v2 v4 s.1 s.2) s
noncomputable def trouble_Text (x0 : Err) : Option ((List (BitVec 8))) :=
  (trouble_Chain x0).bind fun v2 =>
  lt (((v2).length : Int)) fun v4 =>
  (trouble_Text_l0 v2 v4 (([] : List (BitVec 8)), (0 : Int))).bind fun s14 =>
    some s14
end Go.Proofs.YtekldjimdmkgaaaDoor
namespace Go.Proofs.YtekldjimdmkgaaaDoor
open Go Go.Va
set_option linter.unusedVariables false
set_option linter.unusedSimpArgs false
set_option maxRecDepth 20000
noncomputable def butteryref01_Fault (x0 : List (BitVec 8)) (x1 : Int) (x2 : Int) : Option ((List api_Step)) :=
  lt (x2 == (0 : Int)) fun v2 =>
  if v2 = true then
    some []
  else
    lt ((⟨x0, x1, x2⟩ : api_Step)) fun v5 =>
    lt (([v5] : List api_Step)) fun v7 =>
    some v7
end Go.Proofs.YtekldjimdmkgaaaDoor
namespace Go.Proofs.YtekldjimdmkgaaaDoor
open Go Go.Va
set_option linter.unusedVariables false
set_option linter.unusedSimpArgs false
set_option maxRecDepth 20000
noncomputable def butteryref01_Wrap (x0 : List api_Step) (x1 : List (BitVec 8)) (x2 : Int) : Option ((List api_Step)) :=
  lt (((x0).length : Int)) fun v2 =>
  lt (v2 == (0 : Int)) fun v4 =>
  if v4 = true then
    some []
  else
    lt ((⟨x1, x2, (0 : Int)⟩ : api_Step)) fun v7 =>
    lt (([v7] : List api_Step)) fun v9 =>
    (app 32 v9 x0).bind fun v11 =>
    some v11
end Go.Proofs.YtekldjimdmkgaaaDoor
namespace Go.Proofs.YtekldjimdmkgaaaDoor
open Go Go.Va
set_option linter.unusedVariables false
set_option linter.unusedSimpArgs false
set_option maxRecDepth 20000
noncomputable def butteryref01_Has_b0 (x0 : List api_Step) (x1 : Int) (c1 : Int) : Option ((Int) ⊕ (Unit ⊕ (Bool))) :=
  lt (((x0).length : Int)) fun v12 =>
  lt (decide (c1 < v12)) fun v14 =>
  if v14 = true then
    (
      (ix x0 c1).bind fun v21 =>
      lt (v21.Code == x1) fun v23 =>
      if v23 = true then
        lt (x1 != (0 : Int)) fun v26 =>
        some v26
      else
        some false
     : Option (Bool)).bind fun s16 =>
      if s16 = true then
        some (.inr (.inr true))
      else
        lt (w64 (c1 + (1 : Int))) fun v31 =>
        some (.inl v31)
  else
    some (.inr (.inl ()))
noncomputable def butteryref01_Has_l0 (x0 : List api_Step) (x1 : Int) (s : Int) : Option (Unit ⊕ (Bool)) := loopO (fun s => butteryref01_Has_b0 x0 x1 s) s
noncomputable def butteryref01_Has (x0 : List api_Step) (x1 : Int) : Option (Bool) :=
  (butteryref01_Has_l0 x0 x1 (0 : Int)).bind fun o2 =>
    Sum.elim (fun s9 : Unit =>
      some false
      ) (fun y => some y) o2
end Go.Proofs.YtekldjimdmkgaaaDoor
namespace Go.Proofs.YtekldjimdmkgaaaDoor
open Go Go.Va
set_option linter.unusedVariables false
set_option linter.unusedSimpArgs false
set_option maxRecDepth 20000
noncomputable def butteryref01_Of_b0 (x0 : List api_Step) (c1 : Int) : Option ((Int) ⊕ (Unit ⊕ (Int))) :=
  lt (((x0).length : Int)) fun v12 =>
  lt (decide (c1 < v12)) fun v14 =>
  if v14 = true then
    (ix x0 c1).bind fun v17 =>
    lt (v17.Code != (0 : Int)) fun v19 =>
    if v19 = true then
      (ix x0 c1).bind fun v22 =>
      some (.inr (.inr v22.Code))
    else
      lt (w64 (c1 + (1 : Int))) fun v25 =>
      some (.inl v25)
  else
    some (.inr (.inl ()))
noncomputable def butteryref01_Of_l0 (x0 : List api_Step) (s : Int) : Option (Unit ⊕ (Int)) := loopO (fun s => butteryref01_Of_b0 x0 s) s
noncomputable def butteryref01_Of (x0 : List api_Step) : Option (Int) :=
  (butteryref01_Of_l0 x0 (0 : Int)).bind fun o2 =>
    Sum.elim (fun s9 : Unit =>
      some (0 : Int)
      ) (fun y => some y) o2
end Go.Proofs.YtekldjimdmkgaaaDoor
namespace Go.Proofs.YtekldjimdmkgaaaDoor
open Go Go.Va
set_option linter.unusedVariables false
set_option linter.unusedSimpArgs false
set_option maxRecDepth 20000
noncomputable def butteryref01_Same_b0 (x0 : List api_Step) (x1 : List api_Step) (c8 : Int) : Option ((Int) ⊕ (Unit ⊕ (Bool))) :=
  lt (((x0).length : Int)) fun v19 =>
  lt (decide (c8 < v19)) fun v21 =>
  if v21 = true then
    (ix x0 c8).bind fun v24 =>
    (ix x1 c8).bind fun v26 =>
    lt (!(v24 == v26)) fun v28 =>
    if v28 = true then
      some (.inr (.inr false))
    else
      lt (w64 (c8 + (1 : Int))) fun v32 =>
      some (.inl v32)
  else
    some (.inr (.inl ()))
noncomputable def butteryref01_Same_l0 (x0 : List api_Step) (x1 : List api_Step) (s : Int) : Option (Unit ⊕ (Bool)) := loopO (fun s => butteryref01_Same_b0 x0 x1 s) s
noncomputable def butteryref01_Same (x0 : List api_Step) (x1 : List api_Step) : Option (Bool) :=
  lt (((x0).length : Int)) fun v2 =>
  lt (((x1).length : Int)) fun v4 =>
  lt (v2 != v4) fun v6 =>
  if v6 = true then
    some false
  else
    (butteryref01_Same_l0 x0 x1 (0 : Int)).bind fun o9 =>
      Sum.elim (fun s16 : Unit =>
        some true
        ) (fun y => some y) o9
end Go.Proofs.YtekldjimdmkgaaaDoor
namespace Go.Proofs.YtekldjimdmkgaaaDoor
open Go Go.Va
set_option linter.unusedVariables false
set_option linter.unusedSimpArgs false
set_option maxRecDepth 20000
noncomputable def butteryref01_Digits_F (rec : Int → Option ((List (BitVec 8)))) (x0 : Int) : Option ((List (BitVec 8))) :=
  lt (decide (x0 < (0 : Int))) fun v2 =>
  if v2 = true then
    some ([63#8] : List (BitVec 8))
  else
    lt (decide (x0 < (10 : Int))) fun v5 =>
    if v5 = true then
      lt (w64 (x0 + (1 : Int))) fun v8 =>
      (cutO ([48#8, 49#8, 50#8, 51#8, 52#8, 53#8, 54#8, 55#8, 56#8, 57#8] : List (BitVec 8)) x0 v8).bind fun v10 =>
      some v10
    else
      lt (quo64 x0 (10 : Int)) fun v12 =>
      (rec v12).bind fun v14 =>
      lt (Int.tmod x0 (10 : Int)) fun v16 =>
      lt (Int.tmod x0 (10 : Int)) fun v18 =>
      lt (w64 (v18 + (1 : Int))) fun v20 =>
      (cutO ([48#8, 49#8, 50#8, 51#8, 52#8, 53#8, 54#8, 55#8, 56#8, 57#8] : List (BitVec 8)) v16 v20).bind fun v22 =>
      (cat v14 v22).bind fun v24 =>
      some v24
noncomputable def butteryref01_Digits_n : Nat → Int → Option ((List (BitVec 8)))
  | 0 => fun _ => none
  | k + 1 => butteryref01_Digits_F (butteryref01_Digits_n k)
noncomputable def butteryref01_Digits (x0 : Int) : Option ((List (BitVec 8))) := butteryref01_Digits_n 1000000 x0
end Go.Proofs.YtekldjimdmkgaaaDoor
namespace Go.Proofs.YtekldjimdmkgaaaDoor
open Go Go.Va
set_option linter.unusedVariables false
set_option linter.unusedSimpArgs false
set_option maxRecDepth 20000
noncomputable def butteryref01_Text_b0 (x0 : List api_Step) (c1 : List (BitVec 8)) (c2 : Int) : Option (((List (BitVec 8)) × Int) ⊕ ((List (BitVec 8)))) :=
  lt (((x0).length : Int)) fun v13 =>
  lt (decide (c2 < v13)) fun v15 =>
  if v15 = true then
    lt (decide (c2 > (0 : Int))) fun v18 =>
    (
      if v18 = true then
        (cat c1 ([58#8, 32#8] : List (BitVec 8))).bind fun v25 =>
        some v25
      else
        some c1
     : Option ((List (BitVec 8)))).bind fun s19 =>
      (ix x0 c2).bind fun v28 =>
      (cat s19 v28.Op).bind fun v30 =>
      (ix x0 c2).bind fun v32 =>
      lt (decide (v32.At ≥ (0 : Int))) fun v34 =>
      (
        if v34 = true then
          (cat v30 ([32#8] : List (BitVec 8))).bind fun v41 =>
          (ix x0 c2).bind fun v43 =>
          (butteryref01_Digits v43.At).bind fun v45 =>
          (cat v41 v45).bind fun v47 =>
          some v47
        else
          some v30
       : Option ((List (BitVec 8)))).bind fun s35 =>
        (ix x0 c2).bind fun v50 =>
        lt (v50.Code != (0 : Int)) fun v52 =>
        if v52 = true then
          (cat s35 ([32#8, 99#8, 111#8, 100#8, 101#8, 32#8] : List (BitVec 8))).bind fun v55 =>
          (ix x0 c2).bind fun v57 =>
          (butteryref01_Digits v57.Code).bind fun v59 =>
          (cat v55 v59).bind fun v61 =>
          lt (w64 (c2 + (1 : Int))) fun v63 =>
          some (.inl (v61, v63))
        else
          lt (w64 (c2 + (1 : Int))) fun v65 =>
          some (.inl (s35, v65))
  else
    some (.inr c1)
noncomputable def butteryref01_Text_l0 (x0 : List api_Step) (s : (List (BitVec 8)) × Int) : Option ((List (BitVec 8))) := loopO (fun s => butteryref01_Text_b0 x0 s.1 s.2) s
noncomputable def butteryref01_Text (x0 : List api_Step) : Option ((List (BitVec 8))) :=
  (butteryref01_Text_l0 x0 (([] : List (BitVec 8)), (0 : Int))).bind fun s10 =>
    some s10
end Go.Proofs.YtekldjimdmkgaaaDoor
namespace Go.Proofs.YtekldjimdmkgaaaDoor
open Go Go.Va
set_option linter.unusedVariables false
set_option linter.unusedSimpArgs false
/-- The links of a fault, the outermost first. -/
def lnk : Err → List api_Step
  | .nil => []
  | .fault o a c u => ⟨o, a, c⟩ :: lnk u
theorem nil_lnk (e : Err) : e.isNil = decide ((lnk e).length = 0) := by cases e <;> simp [Err.isNil, lnk]
theorem chain_loop : ∀ (e : Err) (acc : List api_Step), acc.length + (lnk e).length ≤ 100000 → loopO trouble_Chain_b0 (e, acc) = some (acc ++ lnk e)
  | .nil, acc, _ => by
    rw [loopO_out (x := acc) rfl]
    simp [lnk]
  | .fault o a c u, acc, h => by
    simp only [lnk, List.length_cons] at h
    rw [loopO_in (s' := (u, acc ++ [⟨o, a, c⟩])), chain_loop u _ (by simp; omega)]
    · simp [lnk]
    · unfold trouble_Chain_b0
      simp only []
      rw [app_eq (by simp; omega)]
      rfl
theorem chain_eq {e : Err} (h : (lnk e).length ≤ 1000) : trouble_Chain e = some (lnk e) := by
  unfold trouble_Chain
  rw [chain_loop e [] (by simp; omega)]
  rfl
theorem new1_eq (o : List (BitVec 8)) (a c : Int) : ∃ e, trouble_New o a c = some e ∧ butteryref01_Fault o a c = some (lnk e) ∧ ((c = 0 ∧ e = .nil) ∨ (c ≠ 0 ∧ e = .fault o a c .nil)) := by
  unfold trouble_New butteryref01_Fault
  simp only [lt_eq]
  by_cases h : c = 0
  · rw [if_pos (by simp [h]), if_pos (by simp [h])]
    exact ⟨_, rfl, rfl, .inl ⟨h, rfl⟩⟩
  · rw [if_neg (by simp [h]), if_neg (by simp [h])]
    exact ⟨_, rfl, rfl, .inr ⟨h, rfl⟩⟩
def wrp (o : List (BitVec 8)) (a : Int) (e : Err) : Err := if e.isNil = true then .nil else .fault o a 0 e
theorem wrap1_eq (o : List (BitVec 8)) (a : Int) (e : Err) : trouble_Wrap o a e = some (wrp o a e) := by
  unfold trouble_Wrap wrp
  simp only [lt_eq]
  split <;> rfl
theorem wrapF_eq (o : List (BitVec 8)) (a : Int) {e : Err} (h : (lnk e).length ≤ 1000) : butteryref01_Wrap (lnk e) o a = some (lnk (wrp o a e)) := by
  unfold butteryref01_Wrap wrp
  simp only [lt_eq]
  rw [nil_lnk]
  by_cases h0 : (lnk e).length = 0
  · rw [if_pos (by simp [h0]), if_pos (by simpa using h0)]
    rfl
  · rw [if_neg (by simp; intro h; rw [h] at h0; exact h0 rfl), if_neg (by simpa using h0), app_eq (by simp; omega)]
    rfl
theorem wrp_len (o : List (BitVec 8)) (a : Int) (e : Err) : (lnk (wrp o a e)).length ≤ (lnk e).length + 1 := by
  unfold wrp
  split <;> simp [lnk]
theorem ofF_loop : ∀ (e : Err) (pre : List api_Step), pre.length + (lnk e).length ≤ 1000 → loopO (fun s => butteryref01_Of_b0 (pre ++ lnk e) s) (pre.length : Int) = some (if codeOf e = 0 then .inl () else .inr (codeOf e))
  | .nil, pre, h => by
    refine loopO_out ?_
    unfold butteryref01_Of_b0
    simp [lt_eq, lnk, codeOf]
  | .fault o a c u, pre, h => by
    simp only [lnk, List.length_cons] at h
    have hix : ix (pre ++ lnk (.fault o a c u)) (pre.length : Int) = some ⟨o, a, c⟩ := by
      rw [ix_get, List.getElem?_append_right (Nat.le_refl _)]
      simp [lnk]
    by_cases hc : c = 0
    · rw [loopO_in (s' := ((pre.length + 1 : Nat) : Int))]
      · have := ofF_loop u (pre ++ [⟨o, a, c⟩]) (by simp; omega)
        rw [List.length_append, List.length_singleton, List.append_assoc] at this
        rw [show codeOf (.fault o a c u) = codeOf u by simp [codeOf, hc]]
        exact this
      · unfold butteryref01_Of_b0
        simp only [lt_eq]
        rw [if_pos (decide_eq_true (by simp [lnk]; omega)), hix, Option.bind_some, if_neg (by simp [hc]), w64_nat (by omega)]
    · rw [loopO_out (x := .inr c)]
      · rw [show codeOf (.fault o a c u) = c by simp [codeOf, hc], if_neg hc]
      · unfold butteryref01_Of_b0
        simp only [lt_eq]
        rw [if_pos (decide_eq_true (by simp [lnk]; omega)), hix, Option.bind_some, if_pos (by simp [hc]), Option.bind_some]
theorem ofF_eq1 {e : Err} (h : (lnk e).length ≤ 1000) : butteryref01_Of (lnk e) = some (codeOf e) := by
  unfold butteryref01_Of butteryref01_Of_l0
  have := ofF_loop e [] (by simpa using h)
  rw [List.nil_append, show (([] : List api_Step).length : Int) = 0 from rfl] at this
  rw [this]
  split
  · rename_i h0; rw [h0]; rfl
  · rfl
theorem hasF_loop (k : Int) : ∀ (e : Err) (pre : List api_Step), pre.length + (lnk e).length ≤ 1000 → loopO (fun s => butteryref01_Has_b0 (pre ++ lnk e) k s) (pre.length : Int) = some (if hasE e k = true then .inr true else .inl ())
  | .nil, pre, h => by
    refine loopO_out ?_
    unfold butteryref01_Has_b0
    simp [lt_eq, lnk, hasE]
  | .fault o a c u, pre, h => by
    simp only [lnk, List.length_cons] at h
    have hix : ix (pre ++ lnk (.fault o a c u)) (pre.length : Int) = some ⟨o, a, c⟩ := by
      rw [ix_get, List.getElem?_append_right (Nat.le_refl _)]
      simp [lnk]
    by_cases hc : c = k ∧ k ≠ 0
    · rw [loopO_out (x := .inr true)]
      · rw [if_pos (by simp [hasE, hc.1, hc.2])]
      · unfold butteryref01_Has_b0
        simp only [lt_eq]
        rw [if_pos (decide_eq_true (by simp [lnk]; omega)), hix, Option.bind_some, if_pos (by simp [hc.1]), Option.bind_some, if_pos (by simp [hc.2])]
    · rw [loopO_in (s' := ((pre.length + 1 : Nat) : Int))]
      · have := hasF_loop k u (pre ++ [⟨o, a, c⟩]) (by simp; omega)
        rw [List.length_append, List.length_singleton, List.append_assoc] at this
        have e1 : hasE (.fault o a c u) k = hasE u k := by
          simp only [hasE]
          have : (c == k && c != 0) = false := by
            by_cases h1 : c = k
            · have : k = 0 := Classical.byContradiction fun h2 => hc ⟨h1, h2⟩
              simp [h1, this]
            · simp [h1]
          rw [this, Bool.false_or]
        rw [e1]
        exact this
      · unfold butteryref01_Has_b0
        simp only [lt_eq]
        rw [if_pos (decide_eq_true (by simp [lnk]; omega)), hix, Option.bind_some]
        by_cases h1 : c = k
        · have h2 : k = 0 := Classical.byContradiction fun h2 => hc ⟨h1, h2⟩
          rw [if_pos (by simp [h1]), Option.bind_some, if_neg (by simp [h2]), w64_nat (by omega)]
        · rw [if_neg (by simp [h1]), Option.bind_some, if_neg (by simp), w64_nat (by omega)]
theorem hasF_eq1 {e : Err} (h : (lnk e).length ≤ 1000) (k : Int) : butteryref01_Has (lnk e) k = some (hasE e k) := by
  unfold butteryref01_Has butteryref01_Has_l0
  have := hasF_loop k e [] (by simpa using h)
  rw [List.nil_append, show (([] : List api_Step).length : Int) = 0 from rfl] at this
  rw [this]
  cases hasE e k <;> rfl
theorem same1_eq (a : List api_Step) (h : a.length ≤ 1000) : butteryref01_Same a a = some true := by
  unfold butteryref01_Same butteryref01_Same_l0
  simp only [lt_eq]
  rw [if_neg (by simp)]
  have key := loopO_up (body := fun s => butteryref01_Same_b0 a a s) (fun i => (i : Int)) a.length (x := .inl ()) (fun i hi => ?_) ?_
  · rw [show (0 : Int) = ((0 : Nat) : Int) from rfl, key]
    rfl
  · unfold butteryref01_Same_b0
    simp only [lt_eq]
    rw [if_pos (decide_eq_true (by omega)), ix_nat hi]
    simp only [Option.bind_some, lt_eq]
    rw [if_neg (by simp), w64_nat (by omega)]
  · unfold butteryref01_Same_b0
    simp only [lt_eq]
    rw [if_neg (by simp)]
/-- Where the innermost link is. -/
def inAt (e : Err) : Int := match (lnk e).getLast? with
  | some x => x.At
  | none => 0
theorem where_eq {e : Err} (h : (lnk e).length ≤ 1000) : trouble_Where e = some (inAt e, !e.isNil) := by
  unfold trouble_Where
  rw [chain_eq h, Option.bind_some]
  simp only [lt_eq]
  rw [nil_lnk]
  by_cases h0 : (lnk e).length = 0
  · have hn := List.length_eq_zero_iff.1 h0
    rw [if_pos (by simp [h0])]
    unfold inAt
    rw [hn]
    rfl
  · rw [if_neg (by simp; intro h; rw [h] at h0; exact h0 rfl), w64_eq (by omega) (by omega), show ((lnk e).length : Int) - 1 = (((lnk e).length - 1 : Nat) : Int) by omega, ix_get]
    unfold inAt
    rw [List.getLast?_eq_getElem?]
    have : (lnk e).length - 1 < (lnk e).length := by omega
    rw [List.getElem?_eq_getElem this]
    simp [h0]
end Go.Proofs.YtekldjimdmkgaaaDoor
namespace Go.Proofs.YtekldjimdmkgaaaDoor
open Go Go.Va
set_option linter.unusedVariables false
set_option linter.unusedSimpArgs false
set_option maxRecDepth 20000
noncomputable def butterylaw01_works : Option (Bool) :=
  (trouble_New ([112#8, 97#8, 103#8, 101#8] : List (BitVec 8)) (7 : Int) (8 : Int)).bind fun v2 =>
  (trouble_Wrap ([114#8, 101#8, 97#8, 100#8] : List (BitVec 8)) (3 : Int) v2).bind fun v4 =>
  (trouble_Where v4).bind fun v6 =>
  (trouble_Of v4).bind fun v8 =>
  lt (v8 == (8 : Int)) fun v10 =>
  if v10 = true then
    (trouble_Has v4 (8 : Int)).bind fun v13 =>
    if v13 = true then
      (trouble_Has v4 (7 : Int)).bind fun v16 =>
      lt (!v16) fun v18 =>
      if v18 = true then
        lt (v6.1 == (7 : Int)) fun v21 =>
        if v21 = true then
          if v6.2 = true then
            (trouble_Text v4).bind fun v25 =>
            lt (v25 == ([114#8, 101#8, 97#8, 100#8, 32#8, 51#8, 58#8, 32#8, 112#8, 97#8, 103#8, 101#8, 32#8, 55#8, 32#8, 99#8, 111#8, 100#8, 101#8, 32#8, 56#8] : List (BitVec 8))) fun v27 =>
            if v27 = true then
              (trouble_New ([120#8] : List (BitVec 8)) (1 : Int) (0 : Int)).bind fun v30 =>
              lt (Err.isNil v30) fun v32 =>
              if v32 = true then
                (trouble_Chain v4).bind fun v35 =>
                lt (((v35).length : Int)) fun v37 =>
                lt (v37 == (2 : Int)) fun v39 =>
                some v39
              else
                some false
            else
              some false
          else
            some false
        else
          some false
      else
        some false
    else
      some false
  else
    some false
end Go.Proofs.YtekldjimdmkgaaaDoor
namespace Go.Proofs.YtekldjimdmkgaaaDoor
open Go Go.Va
set_option linter.unusedVariables false
set_option linter.unusedSimpArgs false
set_option maxRecDepth 20000
noncomputable def butterylaw01_made_b0 (x1 : List api_Step) (c5 : Err) (c6 : List api_Step) (c7 : Int) : Option ((Err × (List api_Step) × Int) ⊕ (Err × (List api_Step))) :=
  (
    lt (((x1).length : Int)) fun v22 =>
    lt (decide (c7 < v22)) fun v24 =>
    if v24 = true then
      lt (decide (c7 < (30 : Int))) fun v27 =>
      some v27
    else
      some false
   : Option (Bool)).bind fun s17 =>
    if s17 = true then
      (ix x1 c7).bind fun v31 =>
      (ix x1 c7).bind fun v33 =>
      (trouble_Wrap v31.Op v33.At c5).bind fun v35 =>
      (ix x1 c7).bind fun v37 =>
      (ix x1 c7).bind fun v39 =>
      (butteryref01_Wrap c6 v37.Op v39.At).bind fun v41 =>
      lt (w64 (c7 + (1 : Int))) fun v43 =>
      some (.inl (v35, v41, v43))
    else
      some (.inr (c5, c6))
noncomputable def butterylaw01_made_l0 (x1 : List api_Step) (s : Err × (List api_Step) × Int) : Option (Err × (List api_Step)) := loopO (fun s => butterylaw01_made_b0 x1 s.1 s.2.1 s.2.2) s
noncomputable def butterylaw01_made (x0 : Int) (x1 : List api_Step) : Option (Err × (List api_Step)) :=
  (trouble_New ([102#8, 105#8, 114#8, 115#8, 116#8] : List (BitVec 8)) (0 : Int) x0).bind fun v2 =>
  (butteryref01_Fault ([102#8, 105#8, 114#8, 115#8, 116#8] : List (BitVec 8)) (0 : Int) x0).bind fun v4 =>
  (butterylaw01_made_l0 x1 (v2, v4, (0 : Int))).bind fun s15 =>
    some (s15.1, s15.2)
end Go.Proofs.YtekldjimdmkgaaaDoor
namespace Go.Proofs.YtekldjimdmkgaaaDoor
open Go Go.Va
set_option linter.unusedVariables false
set_option linter.unusedSimpArgs false
def dg (n : Nat) : BitVec 8 := BitVec.ofNat 8 (48 + n % 10)
def digs (n : Nat) : List (BitVec 8) := if n < 10 then [dg n] else digs (n / 10) ++ [dg n]
termination_by n
decreasing_by omega
theorem cat_eq {x y : List (BitVec 8)} (h : x.length + y.length ≤ 9223372036854775807) : cat x y = some (x ++ y) := if_pos h
theorem chr_dg {c : Int} (h0 : 0 ≤ c) (h1 : c < 10) : chr1 (BitVec.ofInt 8 (w64 (48 + c))) = some [dg c.toNat] := by
  rw [w64_eq (by omega) (by omega)]
  have e : BitVec.ofInt 8 (48 + c) = dg c.toNat := by
    unfold dg
    rw [show 48 + c = ((48 + c.toNat % 10 : Nat) : Int) by omega]
    rfl
  rw [e]
  unfold chr1 dg
  rw [if_pos (by rw [BitVec.toNat_ofNat]; omega)]
theorem digits_eq {n : Nat} (h : n < 9223372036854775808) : trouble_digits (n : Int) = some (digs n) := by
  unfold trouble_digits trouble_digits_l0
  simp only [lt_eq]
  rw [if_neg (by simp)]
  have key := loopO_inv (body := fun s => trouble_digits_b0 s.1 s.2) (fun s => ∃ c : Nat, s.1 = (c : Int) ∧ c + s.2.length ≤ n ∧ (s.2.length = 0 ∨ 1 ≤ c) ∧ digs c ++ s.2 = digs n) (fun s => s.1.toNat) (fun y => ∃ c : Nat, c < 10 ∧ y.1 = (c : Int) ∧ c + y.2.length ≤ n ∧ (y.2.length = 0 ∨ 1 ≤ c) ∧ digs c ++ y.2 = digs n) (s := ((n : Int), ([] : List (BitVec 8)))) ?_ ⟨n, rfl, by simp, .inl rfl, by simp⟩
  · obtain ⟨⟨y1, y2⟩, h1, c, h2, rfl, h3, h5, h4⟩ := key
    simp only at h3 h4 h5
    rw [h1, Option.bind_some, chr_dg (by omega) (by omega), Option.bind_some, cat_eq (by simp; omega), Option.bind_some, ← h4]
    conv => rhs; rw [digs, if_pos h2]
    simp
  · rintro ⟨s1, s2⟩ ⟨c, h1, h2, h5, h3⟩
    simp only at h1 h2 h3 h5
    subst h1
    unfold trouble_digits_b0
    simp only [lt_eq]
    by_cases hc : 10 ≤ c
    · left
      have em : Int.tmod (c : Int) 10 = ((c % 10 : Nat) : Int) := by rw [Int.tmod_eq_emod_of_nonneg (by omega)]; rfl
      have eq : quo64 (c : Int) 10 = ((c / 10 : Nat) : Int) := by
        unfold quo64
        rw [Int.tdiv_eq_ediv_of_nonneg (by omega), w64_eq (by omega) (by omega)]
        omega
      rw [if_pos (decide_eq_true (by omega)), em, chr_dg (by omega) (by omega), Option.bind_some, cat_eq (by simp; omega), Option.bind_some, eq]
      refine ⟨_, rfl, ⟨c / 10, rfl, by simp; omega, .inr (by omega), ?_⟩, by simp only; omega⟩
      rw [← h3]
      conv => rhs; rw [digs, if_neg (by omega)]
      have : dg ((c % 10 : Nat) : Int).toNat = dg c := by
        unfold dg
        rw [Int.toNat_natCast, Nat.mod_mod]
      rw [this]
      simp
    · right
      rw [if_neg (by simp; omega)]
      exact ⟨_, rfl, c, by omega, rfl, h2, h5, h3⟩
theorem cut_dg : ∀ n < 10, cutO ([48#8, 49#8, 50#8, 51#8, 52#8, 53#8, 54#8, 55#8, 56#8, 57#8] : List (BitVec 8)) ((n : Nat) : Int) (((n : Nat) : Int) + 1) = some [dg n] := by decide
theorem digs_len : ∀ (k n : Nat), n < 10 ^ k → (digs n).length ≤ k + 1
  | 0, n, h => by
    rw [digs, if_pos (by omega)]; simp
  | k + 1, n, h => by
    rw [digs]
    split
    · simp
    · have := digs_len k (n / 10) (by rw [Nat.pow_succ] at h; omega)
      simp
      omega
theorem digitsF_n : ∀ (k n : Nat), n < 10 ^ k → n < 9223372036854775808 → ∀ m, k ≤ m → butteryref01_Digits_n (m + 1) (n : Int) = some (digs n)
  | 0, n, h, hb, m, hm => by
    have : n = 0 := by omega
    subst this
    show butteryref01_Digits_F (butteryref01_Digits_n m) ((0 : Nat) : Int) = _
    unfold butteryref01_Digits_F
    simp only [lt_eq]
    rw [if_neg (by decide), if_pos (by decide), w64_eq (by omega) (by omega), cut_dg 0 (by omega), Option.bind_some, digs, if_pos (by omega)]
  | k + 1, n, h, hb, m, hm => by
    show butteryref01_Digits_F (butteryref01_Digits_n m) (n : Int) = _
    unfold butteryref01_Digits_F
    simp only [lt_eq]
    rw [if_neg (by simp)]
    by_cases h10 : n < 10
    · rw [if_pos (decide_eq_true (by omega)), w64_eq (by omega) (by omega), cut_dg n h10, Option.bind_some, digs, if_pos h10]
    · obtain ⟨m', rfl⟩ : ∃ m', m = m' + 1 := ⟨m - 1, by omega⟩
      have em : Int.tmod (n : Int) 10 = ((n % 10 : Nat) : Int) := by rw [Int.tmod_eq_emod_of_nonneg (by omega)]; rfl
      have eq : quo64 (n : Int) 10 = ((n / 10 : Nat) : Int) := by
        unfold quo64
        rw [Int.tdiv_eq_ediv_of_nonneg (by omega), w64_eq (by omega) (by omega)]
        omega
      have h' : n / 10 < 10 ^ k := by rw [Nat.pow_succ] at h; omega
      have hl := digs_len 20 (n / 10) (by have : 10 ^ 20 = 100000000000000000000 := rfl; omega)
      rw [if_neg (by simp; omega), eq, digitsF_n k (n / 10) h' (by omega) m' (by omega), Option.bind_some, em, w64_eq (by omega) (by omega), cut_dg (n % 10) (by omega), Option.bind_some, cat_eq (by simp; omega), Option.bind_some]
      conv => rhs; rw [digs, if_neg h10]
      have : dg (n % 10) = dg n := by unfold dg; rw [Nat.mod_mod]
      rw [this]
theorem digitsF_eq {n : Nat} (h : n < 9223372036854775808) : butteryref01_Digits (n : Int) = some (digs n) := by
  unfold butteryref01_Digits
  exact digitsF_n 20 n (by have : 10 ^ 20 = 100000000000000000000 := rfl; omega) h 999999 (by omega)
/-- A link, as a text. -/
def piece (x : api_Step) : List (BitVec 8) := x.Op ++ ((if 0 ≤ x.At then 32#8 :: digs x.At.toNat else []) ++ if x.Code = 0 then [] else [32#8, 99#8, 111#8, 100#8, 101#8, 32#8] ++ digs x.Code.toNat)
def digI (n : Int) : List (BitVec 8) := if n < 0 then [63#8] else digs n.toNat
theorem digI_eq {n : Int} (h : n < 9223372036854775808) : trouble_digits n = some (digI n) ∧ butteryref01_Digits n = some (digI n) ∧ (digI n).length ≤ 21 := by
  unfold digI
  by_cases h0 : n < 0
  · rw [if_pos h0]
    refine ⟨?_, ?_, by simp⟩
    · unfold trouble_digits
      simp only [lt_eq]
      rw [if_pos (decide_eq_true h0)]
    · show butteryref01_Digits_F (butteryref01_Digits_n 999999) n = _
      unfold butteryref01_Digits_F
      simp only [lt_eq]
      rw [if_pos (decide_eq_true h0)]
  · rw [if_neg h0]
    obtain ⟨m, rfl⟩ : ∃ m : Nat, n = (m : Int) := ⟨n.toNat, by omega⟩
    rw [Int.toNat_natCast]
    exact ⟨digits_eq (by omega), digitsF_eq (by omega), digs_len 20 m (by have : 10 ^ 20 = 100000000000000000000 := rfl; omega)⟩
/-- What is made. -/
theorem made_eq (c : Int) (l : List api_Step) : ∃ e, butterylaw01_made c l = some (e, lnk e) ∧ (lnk e).length ≤ 31 ∧ codeOf e = c ∧ (e.isNil = decide (c = 0)) ∧ ∀ k, hasE e k = (k == c && c != 0) := by
  obtain ⟨e0, h1, h2, h3⟩ := new1_eq [102#8, 105#8, 114#8, 115#8, 116#8] 0 c
  unfold butterylaw01_made butterylaw01_made_l0
  rw [h1, Option.bind_some, h2, Option.bind_some]
  have key := loopO_inv (body := fun s => butterylaw01_made_b0 l s.1 s.2.1 s.2.2) (fun s => ∃ (e : Err) (j : Nat), s = (e, lnk e, (j : Int)) ∧ j ≤ 30 ∧ j ≤ l.length ∧ (lnk e).length ≤ j + 1 ∧ codeOf e = c ∧ (e.isNil = decide (c = 0)) ∧ ∀ k, hasE e k = (k == c && c != 0)) (fun s => (30 - s.2.2).toNat) (fun y => ∃ e : Err, y = (e, lnk e) ∧ (lnk e).length ≤ 31 ∧ codeOf e = c ∧ (e.isNil = decide (c = 0)) ∧ ∀ k, hasE e k = (k == c && c != 0)) (s := (e0, lnk e0, (0 : Int))) ?_ ⟨e0, 0, rfl, by omega, by omega, ?_, ?_⟩
  · obtain ⟨y, k1, e, rfl, k2⟩ := key
    rw [k1, Option.bind_some]
    exact ⟨e, rfl, k2⟩
  · rintro s ⟨e, j, rfl, hj, hjl, hlen, hc, hn, hh⟩
    unfold butterylaw01_made_b0
    simp only [lt_eq]
    by_cases hg : j < l.length ∧ j < 30
    · left
      rw [if_pos (decide_eq_true (by omega)), Option.bind_some, if_pos (decide_eq_true (by omega)), ix_nat hg.1]
      simp only [Option.bind_some]
      rw [wrap1_eq, Option.bind_some, wrapF_eq _ _ (by omega), Option.bind_some, w64_nat (by omega)]
      have hw := wrp_len l[j].Op l[j].At e
      refine ⟨_, rfl, ⟨wrp l[j].Op l[j].At e, j + 1, rfl, by omega, by omega, by omega, ?_, ?_, fun k => ?_⟩, by simp only; omega⟩
      · unfold wrp
        split
        · rename_i hnil
          cases e with
          | nil => exact hc
          | fault => simp [Err.isNil] at hnil
        · simpa [codeOf] using hc
      · unfold wrp
        split
        · rename_i hnil; rw [← hn, hnil]; rfl
        · rename_i hnil; rw [← hn]; exact (Bool.eq_false_iff.2 hnil).symm
      · rw [← hh k]
        unfold wrp
        split
        · rename_i hnil
          cases e with
          | nil => rfl
          | fault => simp [Err.isNil] at hnil
        · simp [hasE]
    · right
      have : (if decide ((j : Int) < l.length) = true then some (decide ((j : Int) < 30)) else some false) = some false := by
        by_cases h : j < l.length
        · rw [if_pos (decide_eq_true (by omega)), decide_eq_false (by omega)]
        · rw [if_neg (by simp; omega)]
      rw [this, Option.bind_some, if_neg (by decide)]
      exact ⟨_, rfl, e, rfl, by omega, hc, hn, hh⟩
  · rcases h3 with ⟨_, rfl⟩ | ⟨_, rfl⟩ <;> simp [lnk]
  · rcases h3 with ⟨rfl, rfl⟩ | ⟨h0, rfl⟩
    · exact ⟨rfl, rfl, fun k => by simp [hasE]⟩
    · refine ⟨by simp [codeOf, h0], by simp [Err.isNil, h0], fun k => ?_⟩
      simp only [hasE, Bool.or_false]
      rw [Bool.eq_iff_iff, Bool.and_eq_true, Bool.and_eq_true, beq_iff_eq, beq_iff_eq]
      exact ⟨fun h => ⟨h.1.symm, h.2⟩, fun h => ⟨h.1.symm, h.2⟩⟩
end Go.Proofs.YtekldjimdmkgaaaDoor
namespace Go.Proofs.YtekldjimdmkgaaaDoor
open Go Go.Va
set_option linter.unusedVariables false
set_option linter.unusedSimpArgs false
def pc (x : api_Step) : List (BitVec 8) := x.Op ++ ((if 0 ≤ x.At then [32#8] ++ digI x.At else []) ++ (if x.Code = 0 then [] else [32#8, 99#8, 111#8, 100#8, 101#8, 32#8] ++ digI x.Code))
def tp (l : List api_Step) : Nat → List (BitVec 8)
  | 0 => []
  | j + 1 => (tp l j ++ (if 0 < j then [58#8, 32#8] else [])) ++ match l[j]? with
    | some x => pc x
    | none => []
def okL (l : List api_Step) : Prop := l.length ≤ 100 ∧ ∀ x ∈ l, x.Op.length ≤ 1125899906842624 ∧ x.At < 9223372036854775808 ∧ x.Code < 9223372036854775808
theorem pc_len {x : api_Step} (h : x.Op.length ≤ 1125899906842624 ∧ x.At < 9223372036854775808 ∧ x.Code < 9223372036854775808) : (pc x).length ≤ 1125899906842700 := by
  have h1 := (digI_eq h.2.1).2.2
  have h2 := (digI_eq h.2.2).2.2
  unfold pc
  split <;> split <;> simp <;> omega
theorem tp_len {l : List api_Step} (h : okL l) : ∀ j, j ≤ l.length → (tp l j).length ≤ j * 1125899906842702
  | 0, _ => by simp [tp]
  | j + 1, hj => by
    have h1 := tp_len h j (by omega)
    have h2 := pc_len (h.2 l[j] (List.getElem_mem (by omega)))
    simp only [tp, List.getElem?_eq_getElem (show j < l.length by omega), List.length_append]
    split <;> simp <;> omega
theorem textB {l : List api_Step} (h : okL l) (j : Nat) (hj : j < l.length) : trouble_Text_b0 l (l.length : Int) (tp l j) (j : Int) = some (.inl (tp l (j + 1), ((j + 1 : Nat) : Int))) := by
  have hb := tp_len h j (by omega)
  have hx := h.2 l[j] (List.getElem_mem hj)
  have d1 := digI_eq hx.2.1
  have d2 := digI_eq hx.2.2
  have hl := h.1
  unfold trouble_Text_b0
  simp only [lt_eq]
  rw [if_pos (decide_eq_true (by omega)), ix_nat hj, Option.bind_some]
  have e1 : (if decide ((j : Int) > 0) = true then (cat (tp l j) [58#8, 32#8]).bind fun v34 => some v34 else some (tp l j)) = some (tp l j ++ (if 0 < j then [58#8, 32#8] else [])) := by
    by_cases h0 : 0 < j
    · rw [if_pos (decide_eq_true (by omega)), cat_eq (by simp; omega), if_pos h0]; rfl
    · rw [if_neg (by simp; omega), if_neg h0, List.append_nil]
  rw [e1, Option.bind_some]
  have hq : (tp l j ++ (if 0 < j then [58#8, 32#8] else [])).length ≤ (tp l j).length + 2 := by split <;> simp
  generalize hqq : tp l j ++ (if 0 < j then [58#8, 32#8] else []) = q at hq
  rw [cat_eq (by omega), Option.bind_some]
  have e2 : (if decide (l[j].At ≥ 0) = true then (trouble_digits l[j].At).bind fun v46 => (cat [32#8] v46).bind fun v48 => (cat (q ++ l[j].Op) v48).bind fun v50 => some v50 else some (q ++ l[j].Op)) = some (q ++ l[j].Op ++ (if 0 ≤ l[j].At then [32#8] ++ digI l[j].At else [])) := by
    by_cases h0 : 0 ≤ l[j].At
    · rw [if_pos (decide_eq_true h0), d1.1, Option.bind_some, cat_eq (by simp; omega), Option.bind_some, cat_eq (by simp; omega), if_pos h0]; rfl
    · rw [if_neg (by simpa using h0), if_neg h0, List.append_nil]
  rw [e2, Option.bind_some]
  have e3 : tp l (j + 1) = q ++ pc l[j] := by
    simp only [tp, List.getElem?_eq_getElem hj, hqq]
  have hr : (q ++ l[j].Op ++ (if 0 ≤ l[j].At then [32#8] ++ digI l[j].At else [])).length ≤ q.length + l[j].Op.length + 22 := by split <;> simp <;> omega
  rw [e3]
  unfold pc
  by_cases hc : l[j].Code = 0
  · rw [if_neg (by simp [hc]), if_pos hc, w64_nat (by omega)]
    simp only [List.append_nil, List.append_assoc]
  · rw [if_pos (by simp [hc]), if_neg hc, d2.1, Option.bind_some, cat_eq (by simp; omega), Option.bind_some, cat_eq (by simp only [List.length_append, List.length_cons, List.length_nil] at hr ⊢; omega), Option.bind_some, w64_nat (by omega)]
    simp only [List.append_assoc]
theorem textFB {l : List api_Step} (h : okL l) (j : Nat) (hj : j < l.length) : butteryref01_Text_b0 l (tp l j) (j : Int) = some (.inl (tp l (j + 1), ((j + 1 : Nat) : Int))) := by
  have hb := tp_len h j (by omega)
  have hx := h.2 l[j] (List.getElem_mem hj)
  have d1 := digI_eq hx.2.1
  have d2 := digI_eq hx.2.2
  have hl := h.1
  unfold butteryref01_Text_b0
  simp only [lt_eq]
  rw [if_pos (decide_eq_true (by omega)), ix_nat hj]
  simp only [Option.bind_some]
  have e1 : (if decide ((j : Int) > 0) = true then (cat (tp l j) [58#8, 32#8]).bind fun v34 => some v34 else some (tp l j)) = some (tp l j ++ (if 0 < j then [58#8, 32#8] else [])) := by
    by_cases h0 : 0 < j
    · rw [if_pos (decide_eq_true (by omega)), cat_eq (by simp; omega), if_pos h0]; rfl
    · rw [if_neg (by simp; omega), if_neg h0, List.append_nil]
  rw [e1, Option.bind_some]
  have hq : (tp l j ++ (if 0 < j then [58#8, 32#8] else [])).length ≤ (tp l j).length + 2 := by split <;> simp
  generalize hqq : tp l j ++ (if 0 < j then [58#8, 32#8] else []) = q at hq
  rw [cat_eq (by omega), Option.bind_some]
  have e2 : (if decide (l[j].At ≥ 0) = true then (cat (q ++ l[j].Op) [32#8]).bind fun v41 => (butteryref01_Digits l[j].At).bind fun v45 => (cat v41 v45).bind fun v47 => some v47 else some (q ++ l[j].Op)) = some (q ++ l[j].Op ++ (if 0 ≤ l[j].At then [32#8] ++ digI l[j].At else [])) := by
    by_cases h0 : 0 ≤ l[j].At
    · rw [if_pos (decide_eq_true h0), cat_eq (by simp; omega), Option.bind_some, d1.2.1, Option.bind_some, cat_eq (by simp; omega), if_pos h0]; simp
    · rw [if_neg (by simpa using h0), if_neg h0, List.append_nil]
  rw [e2, Option.bind_some]
  have e3 : tp l (j + 1) = q ++ pc l[j] := by
    simp only [tp, List.getElem?_eq_getElem hj, hqq]
  have hr : (q ++ l[j].Op ++ (if 0 ≤ l[j].At then [32#8] ++ digI l[j].At else [])).length ≤ q.length + l[j].Op.length + 22 := by split <;> simp <;> omega
  rw [e3]
  unfold pc
  by_cases hc : l[j].Code = 0
  · rw [if_neg (by simp [hc]), if_pos hc, w64_nat (by omega)]
    simp only [List.append_nil, List.append_assoc]
  · rw [if_pos (by simp [hc]), if_neg hc, cat_eq (by simp only [List.length_append, List.length_cons, List.length_nil] at hr ⊢; omega), Option.bind_some, d2.2.1, Option.bind_some, cat_eq (by simp only [List.length_append, List.length_cons, List.length_nil] at hr ⊢; omega), Option.bind_some, w64_nat (by omega)]
    simp only [List.append_assoc]
theorem text_eq {e : Err} (h : okL (lnk e)) : trouble_Text e = some (tp (lnk e) (lnk e).length) ∧ butteryref01_Text (lnk e) = some (tp (lnk e) (lnk e).length) := by
  have hl := h.1
  constructor
  · unfold trouble_Text trouble_Text_l0
    rw [chain_eq (by omega), Option.bind_some]
    simp only [lt_eq]
    have key := loopO_up (body := fun s => trouble_Text_b0 (lnk e) ((lnk e).length : Int) s.1 s.2) (fun j => (tp (lnk e) j, (j : Int))) (lnk e).length (x := tp (lnk e) (lnk e).length) (fun j hj => textB h j hj) (by
      unfold trouble_Text_b0
      simp only [lt_eq]
      rw [if_neg (by simp)])
    rw [show ((([] : List (BitVec 8)), (0 : Int))) = (tp (lnk e) 0, ((0 : Nat) : Int)) from rfl, key]
    rfl
  · unfold butteryref01_Text butteryref01_Text_l0
    have key := loopO_up (body := fun s => butteryref01_Text_b0 (lnk e) s.1 s.2) (fun j => (tp (lnk e) j, (j : Int))) (lnk e).length (x := tp (lnk e) (lnk e).length) (fun j hj => textFB h j hj) (by
      unfold butteryref01_Text_b0
      simp only [lt_eq]
      rw [if_neg (by simp)])
    rw [show ((([] : List (BitVec 8)), (0 : Int))) = (tp (lnk e) 0, ((0 : Nat) : Int)) from rfl, key]
    rfl
theorem works01 : butterylaw01_works = some true := by
  unfold butterylaw01_works
  have e1 : trouble_New [112#8, 97#8, 103#8, 101#8] 7 8 = some (.fault [112#8, 97#8, 103#8, 101#8] 7 8 .nil) := by simp [trouble_New, lt_eq]
  have e2 : trouble_New [120#8] 1 0 = some .nil := by simp [trouble_New, lt_eq]
  let e : Err := .fault [114#8, 101#8, 97#8, 100#8] 3 0 (.fault [112#8, 97#8, 103#8, 101#8] 7 8 .nil)
  have e3 : trouble_Wrap [114#8, 101#8, 97#8, 100#8] 3 (.fault [112#8, 97#8, 103#8, 101#8] 7 8 .nil) = some e := by rw [wrap1_eq]; rfl
  have hl : (lnk e).length = 2 := rfl
  have hw := where_eq (e := e) (by omega)
  have hok : okL (lnk e) := ⟨by omega, fun x hx => by
    have : x = ⟨[114#8, 101#8, 97#8, 100#8], 3, 0⟩ ∨ x = ⟨[112#8, 97#8, 103#8, 101#8], 7, 8⟩ := by simpa [lnk, e] using hx
    rcases this with rfl | rfl <;> decide⟩
  have ht := (text_eq hok).1
  have hc := chain_eq (e := e) (by omega)
  have hd : digs 3 = [51#8] ∧ digs 7 = [55#8] ∧ digs 8 = [56#8] := by
    refine ⟨?_, ?_, ?_⟩ <;> (rw [digs, if_pos (by omega)]; rfl)
  have htv : tp (lnk e) (lnk e).length = [114#8, 101#8, 97#8, 100#8, 32#8, 51#8, 58#8, 32#8, 112#8, 97#8, 103#8, 101#8, 32#8, 55#8, 32#8, 99#8, 111#8, 100#8, 101#8, 32#8, 56#8] := by
    have d3 : digI 3 = [51#8] := hd.1
    have d7 : digI 7 = [55#8] := hd.2.1
    have d8 : digI 8 = [56#8] := hd.2.2
    simp [tp, lnk, e, pc, d3, d7, d8]
  rw [htv] at ht
  rw [e1, Option.bind_some, e3, Option.bind_some, hw, Option.bind_some]
  simp only [trouble_Of, trouble_Has, Option.bind_some, lt_eq]
  rw [ht, Option.bind_some, e2, Option.bind_some, hc, Option.bind_some]
  simp [codeOf, hasE, inAt, lnk, e, Err.isNil]
end Go.Proofs.YtekldjimdmkgaaaDoor
namespace Go.Proofs.YtekldjimdmkgaaaDoor
open Go Go.Va
set_option linter.unusedVariables false
set_option linter.unusedSimpArgs false
set_option maxRecDepth 20000
theorem trouble_Chain_app {x0 : Err} {r : List api_Step} (H : trouble_Chain x0 = some r) (σ : St) (hg : σ.gl = gls) : ACall Tryd.prog 10 [eErr x0] σ (fun a τ => a = .sl (.own σ.opn.length) 3 (r.map e_api_Step) ∧ τ = σ.more) := by
  unfold trouble_Chain at H
  refine ACall.app (fun ρ κ => cutL_enc enc32.cut ρ κ r) (acall_start tk Tryd.func10 (by decide) rfl (Nat.le_of_ble_eq_true rfl) ?_)
  have hH := Holds.init σ
  refine awp_seq ?_
  refine awp_region rfl ?_
  refine wpo_mv (a := AV.nils) rfl rfl rfl (o_as tk rfl (Wk.refl _)) ?_
  refine wpo_nil ?_
  refine awp_seq ?_
  refine awp_region rfl ?_
  refine wpo_mv (a := AV.nils) rfl rfl rfl (o_as tk rfl (Wk.refl _)) ?_
  refine wpo_nil ?_
  refine awp_seq ?_
  refine awp_block ?_
  refine AWP.tokN hH 3 3 rfl fun tk3 τ hH => ?_
  refine awp_cutx 0 (fun fr τ => ∃ tk_3, WkF fr (fm [(3, (eT tk_3 3 e_api_Step r))]) ∧ Holds σ [] [tk_3] τ) ?_ ?_
  · rintro fr τ ⟨tk_3, hfr, hH⟩
    refine AWP.fm [(3, (eT tk_3 3 e_api_Step r))] hfr ?_
    refine awp_seq ?_
    refine awp_region rfl ?_
    refine wpo_mv (a := (eT tk_3 3 e_api_Step r)) rfl rfl rfl (o_mv tk rfl (Wk.refl _)) ?_
    refine wpo_mv (a := (eT tk_3 3 e_api_Step r)) rfl rfl rfl (o_as tk rfl (Wk.refl _)) ?_
    refine wpo_nil ?_
    refine awp_ret ?_
    exact ⟨_, (eT tk_3 3 e_api_Step r), rfl, .of_eq rfl, tk_3, rfl, hH⟩
  · refine awp_loopO (body := trouble_Chain_b0) H (fun (s : Err × List api_Step) fr τ => ∃ tk_3, WkF fr (fm [(0, eErr s.1), (3, (eT tk_3 3 e_api_Step s.2))]) ∧ Holds σ [] [tk_3] τ) ⟨tk3, (wkf_cons (.of_eq rfl) (wkf_cons (.of_eq rfl) (wkf_nil _))), hH⟩ ?_
    rintro ⟨c1, c2⟩ fr τ y ⟨tk_3, hfr, hH⟩ hb hy
    refine AWP.fm [(0, eErr c1), (3, (eT tk_3 3 e_api_Step c2))] hfr ?_
    have hH : Holds σ [] [tk_3] τ := hH
    cases c1 with
    | nil =>
      refine awp_seq ?_
      refine awp_seq ?_
      refine awp_region rfl ?_
      refine wpo_mv (a := eErr .nil) rfl rfl rfl (o_mv tk rfl (Wk.refl _)) ?_
      refine wpo_mv (a := eB false) rfl rfl rfl (o_err_neq (x := .nil) tk rfl rfl rfl) ?_
      refine wpo_nil ?_
      refine awp_false rfl ?_
      refine awp_exit ?_
      have hb : some (Sum.inr c2) = some y := hb
      have hz := hy _ (Option.some.inj hb).symm
      subst hz
      exact ⟨⟨_, (Option.some.inj hb).symm⟩, tk_3, (wkf_cons (.of_eq rfl) (wkf_nil _)), hH⟩
    | fault o a c u =>
      have hb : ((app 32 c2 [(⟨o, a, c⟩ : api_Step)]).bind fun v => some (Sum.inl (u, v))) = some y := hb
      obtain ⟨v, hv, hb⟩ := Option.bind_eq_some_iff.1 hb
      refine awp_seq ?_
      refine awp_seq ?_
      refine awp_region rfl ?_
      refine wpo_mv (a := eErr (.fault o a c u)) rfl rfl rfl (o_mv tk rfl (Wk.refl _)) ?_
      refine wpo_mv (a := eB true) rfl rfl rfl (o_err_neq (x := .fault o a c u) tk rfl rfl rfl) ?_
      refine wpo_nil ?_
      refine awp_true rfl ?_
      refine awp_skip ?_
      refine awp_block ?_
      refine awp_seq ?_
      refine awp_region rfl ?_
      refine wpo_a (av := fun id => .ref id 0) rfl rfl rfl (h_alloc tk hH ty50 [.nilp] rfl) fun id τ ⟨hH, hn⟩ => ?_
      refine wpo_nil ?_
      refine awp_seq ?_
      refine awp_seq ?_
      refine awp_region rfl ?_
      refine wpo_mv (a := eErr (.fault o a c u)) rfl rfl rfl (o_mv tk rfl (Wk.refl _)) ?_
      refine wpo_mv (a := .iface 54 (.ref id 0)) rfl rfl rfl (o_c tk false rfl (fun _ => rfl)) ?_
      refine wpo_cb (α := Unit) (z := some ()) (k := fun _ => some ()) (r := ()) rfl (fun _ _ => eB true) rfl rfl rfl (fun v hv => h_call1 hH [(0, (id, [(Err.fault o a c u).ptr]))] ⟨⟨_, rfl⟩, trivial⟩ rfl rfl (.cons (.of_eq rfl) (.cons (.of_eq rfl) .nil)) (as_ok (x := .fault o a c u) rfl (hH.at_ 0 rfl) (hH.gl.trans hg))) fun _ _ τ _ _ hH => ?_
      refine wpo_mv (a := eB false) rfl rfl rfl (o_un tk rfl rfl) ?_
      refine wpo_nil ?_
      refine awp_false rfl ?_
      refine awp_skip ?_
      refine awp_seq ?_
      refine awp_drawS mixed [15] rfl (by decide +kernel) rfl rfl ?_
      refine wpdS_mv (a := (eT tk_3 3 e_api_Step c2)) rfl rfl rfl (o_mv tk rfl (Wk.refl _)) ?_
      refine wpdS_rd (a := (Err.fault o a c u).ptr) rfl (by decide +kernel) rfl rfl (h_ld tk hH 0 rfl rfl rfl) ?_
      refine wpdS_mv (a := (Err.fault o a c u).ptr) rfl rfl rfl (o_c tk false rfl (fun _ => rfl)) ?_
      refine wpdS_mv (a := .fptr [eS o, eI a, eI c, eErr u] 0) rfl rfl rfl (o_c tk false rfl (fun _ => rfl)) ?_
      refine wpdS_mv (a := eS o) rfl rfl rfl (o_ld tk rfl rfl) ?_
      refine wpdS_rd (a := (Err.fault o a c u).ptr) rfl (by decide +kernel) rfl rfl (h_ld tk hH 0 rfl rfl rfl) ?_
      refine wpdS_mv (a := (Err.fault o a c u).ptr) rfl rfl rfl (o_c tk false rfl (fun _ => rfl)) ?_
      refine wpdS_mv (a := .fptr [eS o, eI a, eI c, eErr u] 1) rfl rfl rfl (o_c tk false rfl (fun _ => rfl)) ?_
      refine wpdS_mv (a := eI a) rfl rfl rfl (o_ld tk rfl rfl) ?_
      refine wpdS_rd (a := (Err.fault o a c u).ptr) rfl (by decide +kernel) rfl rfl (h_ld tk hH 0 rfl rfl rfl) ?_
      refine wpdS_mv (a := (Err.fault o a c u).ptr) rfl rfl rfl (o_c tk false rfl (fun _ => rfl)) ?_
      refine wpdS_mv (a := .fptr [eS o, eI a, eI c, eErr u] 2) rfl rfl rfl (o_c tk false rfl (fun _ => rfl)) ?_
      refine wpdS_mv (a := eI c) rfl rfl rfl (o_ld tk rfl rfl) ?_
      refine wpdS_mv (a := e_api_Step ⟨o, a, c⟩) rfl rfl rfl (o_c tk false rfl (fun _ => rfl)) ?_
      refine wpdS_mv (a := eF 3 e_api_Step [(⟨o, a, c⟩ : api_Step)]) rfl rfl rfl (o_c tk false rfl (fun _ => rfl)) ?_
      refine wpdS_a (av := fun t => eT t 3 e_api_Step v) rfl rfl rfl (h_app tk hH 0 hv rfl td23 ty32 rfl (by decide) rfl (src_l td23 rfl)) fun tk30 τ hH => ?_
      refine wpdS_mv (a := (eT tk30 3 e_api_Step v)) rfl rfl rfl (o_as tk rfl (Wk.refl _)) ?_
      refine wpdS_nil ?_
      refine awp_region rfl ?_
      refine wpo_rd (a := (Err.fault o a c u).ptr) rfl rfl rfl (h_ld tk hH 0 rfl rfl rfl) ?_
      refine wpo_mv (a := (Err.fault o a c u).ptr) rfl rfl rfl (o_c tk false rfl (fun _ => rfl)) ?_
      refine wpo_mv (a := .fptr [eS o, eI a, eI c, eErr u] 3) rfl rfl rfl (o_c tk false rfl (fun _ => rfl)) ?_
      refine wpo_mv (a := eErr u) rfl rfl rfl (o_ld tk rfl (by cases u <;> rfl)) ?_
      refine wpo_mv (a := eErr u) rfl rfl rfl (o_as tk rfl (Wk.refl _)) ?_
      refine wpo_nil ?_
      exact ⟨(u, v), (Option.some.inj hb).symm, tk30, (wkf_cons (.of_eq rfl) (wkf_cons (.of_eq rfl) (wkf_nil _))), hH.drop hn⟩
theorem trouble_Chain_ok {x0 : Err} {r : List api_Step} (H : trouble_Chain x0 = some r) (σ : St) (hg : σ.gl = gls) : ACall Tryd.prog 10 [eErr x0] σ (fun a τ => a = (eL 3 e_api_Step) r ∧ τ = σ) := (trouble_Chain_app H σ hg).unapp (fun ρ κ => cutL_enc enc32.cut ρ κ r)
end Go.Proofs.YtekldjimdmkgaaaDoor
namespace Go.Proofs.YtekldjimdmkgaaaDoor
open Go Go.Va
set_option linter.unusedVariables false
set_option linter.unusedSimpArgs false
set_option maxRecDepth 20000
theorem trouble_Wrap_ok {x0 : List (BitVec 8)} {x1 : Int} {x2 : Err} {r : Err} (H : trouble_Wrap x0 x1 x2 = some r) (σ : St)  : ACall Tryd.prog 11 [(eS x0), (eI x1), (eErr x2)] σ (fun a τ => a = eErr r ∧ τ = σ) := by
  unfold trouble_Wrap at H
  refine ACall.pure (acall_start tk Tryd.func11 (by decide) rfl (Nat.le_of_ble_eq_true rfl) ?_)
  have hH := Holds.init σ
  refine awp_seq ?_
  refine awp_region rfl ?_
  refine wpo_mv (a := (eErr Err.nil)) rfl rfl rfl (o_as tk rfl (Wk.refl _)) ?_
  refine wpo_nil ?_
  refine awp_seq ?_
  refine awp_seq ?_
  refine awp_region rfl ?_
  refine wpo_mv (a := (eErr x2)) rfl rfl rfl (o_mv tk rfl (Wk.refl _)) ?_
  refine wpo_lt H eB rfl rfl rfl (o_err_eql tk rfl rfl rfl) fun v2 H1 => ?_
  refine wpo_nil ?_
  refine awp_if H1 rfl (fun H3 => ?_) (fun H3 => ?_)
  · refine awp_seq ?_
    refine awp_region rfl ?_
    refine wpo_mv (a := (eErr Err.nil)) rfl rfl rfl (o_as tk rfl (Wk.refl _)) ?_
    refine wpo_nil ?_
    refine awp_ret ?_
    obtain rfl := Option.some.inj H3
    exact ⟨_, (eErr Err.nil), rfl, (.of_eq rfl), .of_eq (encErr.cut _ _ _), hH.noT⟩
  · refine awp_skip ?_
    refine awp_seq ?_
    refine awp_region rfl ?_
    refine wpo_mv (a := (eS x0)) rfl rfl rfl (o_mv tk rfl (Wk.refl _)) ?_
    refine wpo_mv (a := (eI x1)) rfl rfl rfl (o_mv tk rfl (Wk.refl _)) ?_
    refine wpo_mv (a := (eErr x2)) rfl rfl rfl (o_mv tk rfl (Wk.refl _)) ?_
    refine wpo_lt H3 e_trouble_fault rfl rfl rfl (o_c tk false rfl (fun _ => by generalize x2 = z0; cases z0 <;> rfl)) fun v5 H4 => ?_
    refine wpo_mv (a := (.fptr (c_trouble_fault v5) 0)) rfl rfl rfl (o_boxf tk rfl (.of_eq rfl) (b := (e_trouble_fault v5)) (enc52.flat _)) ?_
    refine wpo_mv (a := (eErr (Err.fault v5.op v5.at_ v5.code v5.under))) rfl rfl rfl (o_c tk false rfl (fun _ => rfl)) ?_
    refine wpo_mv (a := (eErr (Err.fault v5.op v5.at_ v5.code v5.under))) rfl rfl rfl (o_as tk rfl (Wk.refl _)) ?_
    refine wpo_nil ?_
    refine awp_ret ?_
    obtain rfl := Option.some.inj H4
    exact ⟨_, (eErr (Err.fault v5.op v5.at_ v5.code v5.under)), rfl, (.of_eq rfl), .of_eq (encErr.cut _ _ _), hH.noT⟩
end Go.Proofs.YtekldjimdmkgaaaDoor
namespace Go.Proofs.YtekldjimdmkgaaaDoor
open Go Go.Va
set_option linter.unusedVariables false
set_option linter.unusedSimpArgs false
set_option maxRecDepth 20000
theorem trouble_Where_ok {x0 : Err} {r : Int × Bool} (H : trouble_Where x0 = some r) (σ : St)  (hg : σ.gl = gls) : ACall Tryd.prog 13 [(eErr x0)] σ (fun a τ => a = .tup [eI r.1, eB r.2] ∧ τ = σ) := by
  unfold trouble_Where at H
  refine ACall.pure (acall_start tk Tryd.func13 (by decide) rfl (Nat.le_of_ble_eq_true rfl) ?_)
  have hH := Holds.init σ
  refine awp_seq ?_
  refine awp_region rfl ?_
  refine wpo_mv (a := (eI (0 : Int))) rfl rfl rfl (o_as tk rfl (Wk.refl _)) ?_
  refine wpo_mv (a := (eB false)) rfl rfl rfl (o_as tk rfl (Wk.refl _)) ?_
  refine wpo_nil ?_
  refine awp_seq ?_
  refine awp_region rfl ?_
  refine wpo_mv (a := (eErr x0)) rfl rfl rfl (o_mv tk rfl (Wk.refl _)) ?_
  refine wpo_bdr H (eL 3 e_api_Step) rfl rfl rfl (fun v2 hv => h_callr rfl rfl (.cons (.of_eq rfl) .nil) (trouble_Chain_ok hv _ (hH.gl.trans hg))) fun v2 hv2 H1 => ?_
  refine wpo_mv (a := ((eL 3 e_api_Step) v2)) rfl rfl rfl (o_as tk rfl (Wk.refl _)) ?_
  refine wpo_nil ?_
  refine awp_seq ?_
  refine awp_seq ?_
  refine awp_region rfl ?_
  refine wpo_mv (a := ((eL 3 e_api_Step) v2)) rfl rfl rfl (o_mv tk rfl (Wk.refl _)) ?_
  refine wpo_lt H1 eI rfl rfl rfl (o_len tk td23 rfl) fun v4 H3 => ?_
  refine wpo_lt H3 eB rfl rfl rfl (o_ar tk rfl rfl rfl) fun v6 H5 => ?_
  refine wpo_nil ?_
  refine awp_if H5 rfl (fun H7 => ?_) (fun H7 => ?_)
  · refine awp_seq ?_
    refine awp_region rfl ?_
    refine wpo_mv (a := (eI (0 : Int))) rfl rfl rfl (o_as tk rfl (Wk.refl _)) ?_
    refine wpo_mv (a := (eB false)) rfl rfl rfl (o_as tk rfl (Wk.refl _)) ?_
    refine wpo_nil ?_
    refine awp_ret ?_
    obtain rfl := Option.some.inj H7
    exact ⟨_, (.tup [(eI (0 : Int)), (eB false)]), rfl, (wk_tup (.cons (.of_eq rfl) (.cons (.of_eq rfl) .nil))), .of_eq (by simp only [cutAV, cutL, (enc_i64 td3 sz3).cut _ _ _, (enc_b td4 sz4).cut _ _ _]), hH.noT⟩
  · refine awp_skip ?_
    refine awp_seq ?_
    refine awp_region rfl ?_
    refine wpo_mv (a := ((eL 3 e_api_Step) v2)) rfl rfl rfl (o_mv tk rfl (Wk.refl _)) ?_
    refine wpo_mv (a := ((eL 3 e_api_Step) v2)) rfl rfl rfl (o_mv tk rfl (Wk.refl _)) ?_
    refine wpo_lt H7 eI rfl rfl rfl (o_len tk td23 rfl) fun v9 H8 => ?_
    refine wpo_lt H8 eI rfl rfl rfl (o_ar tk rfl rfl rfl) fun v11 H10 => ?_
    refine wpo_bd H10 (fun y => .fptr (e_api_Step y).cells 0) rfl rfl rfl (fun v13 hv => o_ixa tk hv td23 enc32 rfl rfl) fun v13 hv13 H12 => ?_
    refine wpo_mv (a := (.fptr (c_api_Step v13) 1)) rfl rfl rfl (o_c tk false rfl (fun _ => rfl)) ?_
    refine wpo_mv (a := (eI v13.At)) rfl rfl rfl (o_ld tk rfl rfl) ?_
    refine wpo_mv (a := (eI v13.At)) rfl rfl rfl (o_as tk rfl (Wk.refl _)) ?_
    refine wpo_mv (a := (eB true)) rfl rfl rfl (o_as tk rfl (Wk.refl _)) ?_
    refine wpo_nil ?_
    refine awp_ret ?_
    obtain rfl := Option.some.inj H12
    exact ⟨_, (.tup [(eI v13.At), (eB true)]), rfl, (wk_tup (.cons (.of_eq rfl) (.cons (.of_eq rfl) .nil))), .of_eq (by simp only [cutAV, cutL, (enc_i64 td3 sz3).cut _ _ _, (enc_b td4 sz4).cut _ _ _]), hH.noT⟩
end Go.Proofs.YtekldjimdmkgaaaDoor
