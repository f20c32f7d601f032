/- Walks of the functions that the statement reaches. No conditions: contracts and laws. -/
import Derived.Test.YtbijdpnacnnaoaaGreatFgHeap
import Derived.Test.YtbijdpnacnnaoaaGreatProg
import Derived.KernelRfl
import Derived.Test.YtbijdpnacnnaoaaGreatFgFreeze
import Derived.Deep.Slices
import Derived.ChangeArms
import Derived.OpenShut
import Derived.ProofKit
import Derived.ChangeOld
import Derived.Below
import Derived.WideShapes
import Derived.Laws.BitsAllLaws
namespace Go.Fg.X
set_option linter.unusedSimpArgs false
set_option linter.unusedVariables false
open Go.Proofs Go.Fg
set_option maxRecDepth 100000

theorem ty1 : TyOk Tryz.prog 1 ⟨.fn, 1, 8, [.nilFunc]⟩ := ⟨by kernel_rfl, by kernel_rfl, by kernel_rfl⟩
theorem ty2 : TyOk Tryz.prog 2 ⟨.int .i64, 1, 8, [.int .i64 0]⟩ := ⟨by kernel_rfl, by kernel_rfl, by kernel_rfl⟩
theorem ty3 : TyOk Tryz.prog 3 ⟨.int .i64, 1, 8, [.int .i64 0]⟩ := ⟨by kernel_rfl, by kernel_rfl, by kernel_rfl⟩
theorem ty4 : TyOk Tryz.prog 4 ⟨.bool, 1, 1, [.bool false]⟩ := ⟨by kernel_rfl, by kernel_rfl, by kernel_rfl⟩
theorem ty5 : TyOk Tryz.prog 5 ⟨.int .u8, 1, 1, [.int .u8 0]⟩ := ⟨by kernel_rfl, by kernel_rfl, by kernel_rfl⟩
theorem ty9 : TyOk Tryz.prog 9 ⟨.str, 1, 16, [.string ByteArray.empty]⟩ := ⟨by kernel_rfl, by kernel_rfl, by kernel_rfl⟩
theorem ty12 : TyOk Tryz.prog 12 ⟨.int .u64, 1, 8, [.int .u64 0]⟩ := ⟨by kernel_rfl, by kernel_rfl, by kernel_rfl⟩
theorem ty17 : TyOk Tryz.prog 17 ⟨.ptr 204, 1, 8, [.pointer none]⟩ := ⟨by kernel_rfl, by kernel_rfl, by kernel_rfl⟩
theorem ty20 : TyOk Tryz.prog 20 ⟨.iface, 1, 16, [.nilIface]⟩ := ⟨by kernel_rfl, by kernel_rfl, by kernel_rfl⟩
theorem ty21 : TyOk Tryz.prog 21 ⟨.int .i32, 1, 4, [.int .i32 0]⟩ := ⟨by kernel_rfl, by kernel_rfl, by kernel_rfl⟩
theorem ty22 : TyOk Tryz.prog 22 ⟨.slice 33, 1, 24, [.slice none 0 0]⟩ := ⟨by kernel_rfl, by kernel_rfl, by kernel_rfl⟩
theorem ty23 : TyOk Tryz.prog 23 ⟨.int .u64, 1, 8, [.int .u64 0]⟩ := ⟨by kernel_rfl, by kernel_rfl, by kernel_rfl⟩
theorem ty24 : TyOk Tryz.prog 24 ⟨.struct [(0, 23), (1, 23), (2, 23)], 3, 24, [.int .u64 0, .int .u64 0, .int .u64 0]⟩ := ⟨by kernel_rfl, by kernel_rfl, by kernel_rfl⟩
theorem ty25 : TyOk Tryz.prog 25 ⟨.struct [(0, 23), (1, 23), (2, 23)], 3, 24, [.int .u64 0, .int .u64 0, .int .u64 0]⟩ := ⟨by kernel_rfl, by kernel_rfl, by kernel_rfl⟩
theorem ty26 : TyOk Tryz.prog 26 ⟨.fn, 1, 8, [.nilFunc]⟩ := ⟨by kernel_rfl, by kernel_rfl, by kernel_rfl⟩
theorem ty27 : TyOk Tryz.prog 27 ⟨.ptr 61, 1, 8, [.pointer none]⟩ := ⟨by kernel_rfl, by kernel_rfl, by kernel_rfl⟩
theorem ty28 : TyOk Tryz.prog 28 ⟨.fn, 1, 8, [.nilFunc]⟩ := ⟨by kernel_rfl, by kernel_rfl, by kernel_rfl⟩
theorem ty29 : TyOk Tryz.prog 29 ⟨.slice 31, 1, 24, [.slice none 0 0]⟩ := ⟨by kernel_rfl, by kernel_rfl, by kernel_rfl⟩
theorem ty30 : TyOk Tryz.prog 30 ⟨.struct [(0, 3), (1, 3), (2, 4), (3, 25), (6, 25), (9, 25), (12, 3), (13, 3)], 14, 112, [.int .i64 0, .int .i64 0, .bool false, .int .u64 0, .int .u64 0, .int .u64 0, .int .u64 0, .int .u64 0, .int .u64 0, .int .u64 0, .int .u64 0, .int .u64 0, .int .i64 0, .int .i64 0]⟩ := ⟨by kernel_rfl, by kernel_rfl, by kernel_rfl⟩
theorem ty31 : TyOk Tryz.prog 31 ⟨.struct [(0, 3), (1, 3), (2, 4), (3, 25), (6, 25), (9, 25), (12, 3), (13, 3)], 14, 112, [.int .i64 0, .int .i64 0, .bool false, .int .u64 0, .int .u64 0, .int .u64 0, .int .u64 0, .int .u64 0, .int .u64 0, .int .u64 0, .int .u64 0, .int .u64 0, .int .i64 0, .int .i64 0]⟩ := ⟨by kernel_rfl, by kernel_rfl, by kernel_rfl⟩
theorem ty32 : TyOk Tryz.prog 32 ⟨.struct [(0, 3), (1, 31)], 15, 120, [.int .i64 0, .int .i64 0, .int .i64 0, .bool false, .int .u64 0, .int .u64 0, .int .u64 0, .int .u64 0, .int .u64 0, .int .u64 0, .int .u64 0, .int .u64 0, .int .u64 0, .int .i64 0, .int .i64 0]⟩ := ⟨by kernel_rfl, by kernel_rfl, by kernel_rfl⟩
theorem ty33 : TyOk Tryz.prog 33 ⟨.struct [(0, 3), (1, 31)], 15, 120, [.int .i64 0, .int .i64 0, .int .i64 0, .bool false, .int .u64 0, .int .u64 0, .int .u64 0, .int .u64 0, .int .u64 0, .int .u64 0, .int .u64 0, .int .u64 0, .int .u64 0, .int .i64 0, .int .i64 0]⟩ := ⟨by kernel_rfl, by kernel_rfl, by kernel_rfl⟩
theorem ty34 : TyOk Tryz.prog 34 ⟨.int .i64, 1, 8, [.int .i64 0]⟩ := ⟨by kernel_rfl, by kernel_rfl, by kernel_rfl⟩
theorem ty35 : TyOk Tryz.prog 35 ⟨.fn, 1, 8, [.nilFunc]⟩ := ⟨by kernel_rfl, by kernel_rfl, by kernel_rfl⟩
theorem ty36 : TyOk Tryz.prog 36 ⟨.fn, 1, 8, [.nilFunc]⟩ := ⟨by kernel_rfl, by kernel_rfl, by kernel_rfl⟩
theorem ty37 : TyOk Tryz.prog 37 ⟨.struct [(0, 29), (1, 3)], 2, 32, [.slice none 0 0, .int .i64 0]⟩ := ⟨by kernel_rfl, by kernel_rfl, by kernel_rfl⟩
theorem ty38 : TyOk Tryz.prog 38 ⟨.struct [(0, 29), (1, 3)], 2, 32, [.slice none 0 0, .int .i64 0]⟩ := ⟨by kernel_rfl, by kernel_rfl, by kernel_rfl⟩
theorem ty39 : TyOk Tryz.prog 39 ⟨.fn, 1, 8, [.nilFunc]⟩ := ⟨by kernel_rfl, by kernel_rfl, by kernel_rfl⟩
theorem ty40 : TyOk Tryz.prog 40 ⟨.slice 25, 1, 24, [.slice none 0 0]⟩ := ⟨by kernel_rfl, by kernel_rfl, by kernel_rfl⟩
theorem ty41 : TyOk Tryz.prog 41 ⟨.fn, 1, 8, [.nilFunc]⟩ := ⟨by kernel_rfl, by kernel_rfl, by kernel_rfl⟩
theorem ty43 : TyOk Tryz.prog 43 ⟨.fn, 1, 8, [.nilFunc]⟩ := ⟨by kernel_rfl, by kernel_rfl, by kernel_rfl⟩
theorem ty44 : TyOk Tryz.prog 44 ⟨.fn, 1, 8, [.nilFunc]⟩ := ⟨by kernel_rfl, by kernel_rfl, by kernel_rfl⟩
theorem ty45 : TyOk Tryz.prog 45 ⟨.fn, 1, 8, [.nilFunc]⟩ := ⟨by kernel_rfl, by kernel_rfl, by kernel_rfl⟩
theorem ty46 : TyOk Tryz.prog 46 ⟨.fn, 1, 8, [.nilFunc]⟩ := ⟨by kernel_rfl, by kernel_rfl, by kernel_rfl⟩
theorem ty47 : TyOk Tryz.prog 47 ⟨.struct [(0, 3), (1, 3)], 2, 16, [.int .i64 0, .int .i64 0]⟩ := ⟨by kernel_rfl, by kernel_rfl, by kernel_rfl⟩
theorem ty48 : TyOk Tryz.prog 48 ⟨.struct [(0, 3), (1, 3)], 2, 16, [.int .i64 0, .int .i64 0]⟩ := ⟨by kernel_rfl, by kernel_rfl, by kernel_rfl⟩
theorem ty49 : TyOk Tryz.prog 49 ⟨.fn, 1, 8, [.nilFunc]⟩ := ⟨by kernel_rfl, by kernel_rfl, by kernel_rfl⟩
theorem ty50 : TyOk Tryz.prog 50 ⟨.fn, 1, 8, [.nilFunc]⟩ := ⟨by kernel_rfl, by kernel_rfl, by kernel_rfl⟩
theorem ty51 : TyOk Tryz.prog 51 ⟨.int .u16, 1, 2, [.int .u16 0]⟩ := ⟨by kernel_rfl, by kernel_rfl, by kernel_rfl⟩
theorem ty52 : TyOk Tryz.prog 52 ⟨.array 4 51, 4, 8, [.int .u16 0, .int .u16 0, .int .u16 0, .int .u16 0]⟩ := ⟨by kernel_rfl, by kernel_rfl, by kernel_rfl⟩
theorem ty53 : TyOk Tryz.prog 53 ⟨.array 4 51, 4, 8, [.int .u16 0, .int .u16 0, .int .u16 0, .int .u16 0]⟩ := ⟨by kernel_rfl, by kernel_rfl, by kernel_rfl⟩
theorem ty54 : TyOk Tryz.prog 54 ⟨.struct [(0, 23), (1, 3), (2, 53)], 6, 24, [.int .u64 0, .int .i64 0, .int .u16 0, .int .u16 0, .int .u16 0, .int .u16 0]⟩ := ⟨by kernel_rfl, by kernel_rfl, by kernel_rfl⟩
theorem ty55 : TyOk Tryz.prog 55 ⟨.struct [(0, 23), (1, 3), (2, 53)], 6, 24, [.int .u64 0, .int .i64 0, .int .u16 0, .int .u16 0, .int .u16 0, .int .u16 0]⟩ := ⟨by kernel_rfl, by kernel_rfl, by kernel_rfl⟩
theorem ty56 : TyOk Tryz.prog 56 ⟨.struct [(0, 3), (1, 4), (2, 4), (3, 23), (4, 23), (5, 3), (6, 55)], 12, 64, [.int .i64 0, .bool false, .bool false, .int .u64 0, .int .u64 0, .int .i64 0, .int .u64 0, .int .i64 0, .int .u16 0, .int .u16 0, .int .u16 0, .int .u16 0]⟩ := ⟨by kernel_rfl, by kernel_rfl, by kernel_rfl⟩
theorem ty57 : TyOk Tryz.prog 57 ⟨.struct [(0, 3), (1, 4), (2, 4), (3, 23), (4, 23), (5, 3), (6, 55)], 12, 64, [.int .i64 0, .bool false, .bool false, .int .u64 0, .int .u64 0, .int .i64 0, .int .u64 0, .int .i64 0, .int .u16 0, .int .u16 0, .int .u16 0, .int .u16 0]⟩ := ⟨by kernel_rfl, by kernel_rfl, by kernel_rfl⟩
theorem ty58 : TyOk Tryz.prog 58 ⟨.slice 57, 1, 24, [.slice none 0 0]⟩ := ⟨by kernel_rfl, by kernel_rfl, by kernel_rfl⟩
theorem ty59 : TyOk Tryz.prog 59 ⟨.map 3 31, 1, 8, [.map none]⟩ := ⟨by kernel_rfl, by kernel_rfl, by kernel_rfl⟩
theorem ty60 : TyOk Tryz.prog 60 ⟨.struct [(0, 59)], 1, 8, [.map none]⟩ := ⟨by kernel_rfl, by kernel_rfl, by kernel_rfl⟩
theorem ty61 : TyOk Tryz.prog 61 ⟨.struct [(0, 59)], 1, 8, [.map none]⟩ := ⟨by kernel_rfl, by kernel_rfl, by kernel_rfl⟩
theorem ty63 : TyOk Tryz.prog 63 ⟨.fn, 1, 8, [.nilFunc]⟩ := ⟨by kernel_rfl, by kernel_rfl, by kernel_rfl⟩
theorem ty64 : TyOk Tryz.prog 64 ⟨.fn, 1, 8, [.nilFunc]⟩ := ⟨by kernel_rfl, by kernel_rfl, by kernel_rfl⟩
theorem ty65 : TyOk Tryz.prog 65 ⟨.fn, 1, 8, [.nilFunc]⟩ := ⟨by kernel_rfl, by kernel_rfl, by kernel_rfl⟩
theorem ty66 : TyOk Tryz.prog 66 ⟨.slice 3, 1, 24, [.slice none 0 0]⟩ := ⟨by kernel_rfl, by kernel_rfl, by kernel_rfl⟩
theorem ty67 : TyOk Tryz.prog 67 ⟨.fn, 1, 8, [.nilFunc]⟩ := ⟨by kernel_rfl, by kernel_rfl, by kernel_rfl⟩
theorem ty68 : TyOk Tryz.prog 68 ⟨.fn, 1, 8, [.nilFunc]⟩ := ⟨by kernel_rfl, by kernel_rfl, by kernel_rfl⟩
theorem ty69 : TyOk Tryz.prog 69 ⟨.fn, 1, 8, [.nilFunc]⟩ := ⟨by kernel_rfl, by kernel_rfl, by kernel_rfl⟩
theorem ty70 : TyOk Tryz.prog 70 ⟨.fn, 1, 8, [.nilFunc]⟩ := ⟨by kernel_rfl, by kernel_rfl, by kernel_rfl⟩
theorem ty71 : TyOk Tryz.prog 71 ⟨.fn, 1, 8, [.nilFunc]⟩ := ⟨by kernel_rfl, by kernel_rfl, by kernel_rfl⟩
theorem ty72 : TyOk Tryz.prog 72 ⟨.fn, 1, 8, [.nilFunc]⟩ := ⟨by kernel_rfl, by kernel_rfl, by kernel_rfl⟩
theorem ty73 : TyOk Tryz.prog 73 ⟨.fn, 1, 8, [.nilFunc]⟩ := ⟨by kernel_rfl, by kernel_rfl, by kernel_rfl⟩
theorem ty74 : TyOk Tryz.prog 74 ⟨.fn, 1, 8, [.nilFunc]⟩ := ⟨by kernel_rfl, by kernel_rfl, by kernel_rfl⟩
theorem ty75 : TyOk Tryz.prog 75 ⟨.fn, 1, 8, [.nilFunc]⟩ := ⟨by kernel_rfl, by kernel_rfl, by kernel_rfl⟩
theorem ty76 : TyOk Tryz.prog 76 ⟨.struct [(0, 23), (1, 4)], 2, 16, [.int .u64 0, .bool false]⟩ := ⟨by kernel_rfl, by kernel_rfl, by kernel_rfl⟩
theorem ty77 : TyOk Tryz.prog 77 ⟨.struct [(0, 23), (1, 4)], 2, 16, [.int .u64 0, .bool false]⟩ := ⟨by kernel_rfl, by kernel_rfl, by kernel_rfl⟩
theorem ty78 : TyOk Tryz.prog 78 ⟨.fn, 1, 8, [.nilFunc]⟩ := ⟨by kernel_rfl, by kernel_rfl, by kernel_rfl⟩
theorem ty79 : TyOk Tryz.prog 79 ⟨.fn, 1, 8, [.nilFunc]⟩ := ⟨by kernel_rfl, by kernel_rfl, by kernel_rfl⟩
theorem ty80 : TyOk Tryz.prog 80 ⟨.fn, 1, 8, [.nilFunc]⟩ := ⟨by kernel_rfl, by kernel_rfl, by kernel_rfl⟩
theorem ty81 : TyOk Tryz.prog 81 ⟨.struct [(0, 23), (1, 23)], 2, 16, [.int .u64 0, .int .u64 0]⟩ := ⟨by kernel_rfl, by kernel_rfl, by kernel_rfl⟩
theorem ty82 : TyOk Tryz.prog 82 ⟨.struct [(0, 23), (1, 23)], 2, 16, [.int .u64 0, .int .u64 0]⟩ := ⟨by kernel_rfl, by kernel_rfl, by kernel_rfl⟩
theorem ty83 : TyOk Tryz.prog 83 ⟨.fn, 1, 8, [.nilFunc]⟩ := ⟨by kernel_rfl, by kernel_rfl, by kernel_rfl⟩
theorem ty84 : TyOk Tryz.prog 84 ⟨.struct [(0, 23), (1, 23), (2, 3), (3, 3), (4, 4)], 5, 40, [.int .u64 0, .int .u64 0, .int .i64 0, .int .i64 0, .bool false]⟩ := ⟨by kernel_rfl, by kernel_rfl, by kernel_rfl⟩
theorem ty85 : TyOk Tryz.prog 85 ⟨.struct [(0, 23), (1, 23), (2, 3), (3, 3), (4, 4)], 5, 40, [.int .u64 0, .int .u64 0, .int .i64 0, .int .i64 0, .bool false]⟩ := ⟨by kernel_rfl, by kernel_rfl, by kernel_rfl⟩
theorem ty86 : TyOk Tryz.prog 86 ⟨.fn, 1, 8, [.nilFunc]⟩ := ⟨by kernel_rfl, by kernel_rfl, by kernel_rfl⟩
theorem ty87 : TyOk Tryz.prog 87 ⟨.fn, 1, 8, [.nilFunc]⟩ := ⟨by kernel_rfl, by kernel_rfl, by kernel_rfl⟩
theorem ty88 : TyOk Tryz.prog 88 ⟨.slice 85, 1, 24, [.slice none 0 0]⟩ := ⟨by kernel_rfl, by kernel_rfl, by kernel_rfl⟩
theorem ty89 : TyOk Tryz.prog 89 ⟨.fn, 1, 8, [.nilFunc]⟩ := ⟨by kernel_rfl, by kernel_rfl, by kernel_rfl⟩
theorem ty90 : TyOk Tryz.prog 90 ⟨.fn, 1, 8, [.nilFunc]⟩ := ⟨by kernel_rfl, by kernel_rfl, by kernel_rfl⟩
theorem ty91 : TyOk Tryz.prog 91 ⟨.array 3 25, 9, 72, [.int .u64 0, .int .u64 0, .int .u64 0, .int .u64 0, .int .u64 0, .int .u64 0, .int .u64 0, .int .u64 0, .int .u64 0]⟩ := ⟨by kernel_rfl, by kernel_rfl, by kernel_rfl⟩
theorem ty92 : TyOk Tryz.prog 92 ⟨.fn, 1, 8, [.nilFunc]⟩ := ⟨by kernel_rfl, by kernel_rfl, by kernel_rfl⟩
theorem ty93 : TyOk Tryz.prog 93 ⟨.int .i64, 1, 8, [.int .i64 0]⟩ := ⟨by kernel_rfl, by kernel_rfl, by kernel_rfl⟩
theorem ty94 : TyOk Tryz.prog 94 ⟨.fn, 1, 8, [.nilFunc]⟩ := ⟨by kernel_rfl, by kernel_rfl, by kernel_rfl⟩
theorem ty95 : TyOk Tryz.prog 95 ⟨.fn, 1, 8, [.nilFunc]⟩ := ⟨by kernel_rfl, by kernel_rfl, by kernel_rfl⟩
theorem ty96 : TyOk Tryz.prog 96 ⟨.fn, 1, 8, [.nilFunc]⟩ := ⟨by kernel_rfl, by kernel_rfl, by kernel_rfl⟩
theorem ty97 : TyOk Tryz.prog 97 ⟨.fn, 1, 8, [.nilFunc]⟩ := ⟨by kernel_rfl, by kernel_rfl, by kernel_rfl⟩
theorem ty98 : TyOk Tryz.prog 98 ⟨.fn, 1, 8, [.nilFunc]⟩ := ⟨by kernel_rfl, by kernel_rfl, by kernel_rfl⟩
theorem ty99 : TyOk Tryz.prog 99 ⟨.fn, 1, 8, [.nilFunc]⟩ := ⟨by kernel_rfl, by kernel_rfl, by kernel_rfl⟩
theorem ty100 : TyOk Tryz.prog 100 ⟨.fn, 1, 8, [.nilFunc]⟩ := ⟨by kernel_rfl, by kernel_rfl, by kernel_rfl⟩
theorem ty101 : TyOk Tryz.prog 101 ⟨.fn, 1, 8, [.nilFunc]⟩ := ⟨by kernel_rfl, by kernel_rfl, by kernel_rfl⟩
theorem ty102 : TyOk Tryz.prog 102 ⟨.fn, 1, 8, [.nilFunc]⟩ := ⟨by kernel_rfl, by kernel_rfl, by kernel_rfl⟩
theorem ty103 : TyOk Tryz.prog 103 ⟨.fn, 1, 8, [.nilFunc]⟩ := ⟨by kernel_rfl, by kernel_rfl, by kernel_rfl⟩
theorem ty104 : TyOk Tryz.prog 104 ⟨.slice 23, 1, 24, [.slice none 0 0]⟩ := ⟨by kernel_rfl, by kernel_rfl, by kernel_rfl⟩
theorem ty105 : TyOk Tryz.prog 105 ⟨.fn, 1, 8, [.nilFunc]⟩ := ⟨by kernel_rfl, by kernel_rfl, by kernel_rfl⟩
theorem ty106 : TyOk Tryz.prog 106 ⟨.fn, 1, 8, [.nilFunc]⟩ := ⟨by kernel_rfl, by kernel_rfl, by kernel_rfl⟩
theorem ty108 : TyOk Tryz.prog 108 ⟨.fn, 1, 8, [.nilFunc]⟩ := ⟨by kernel_rfl, by kernel_rfl, by kernel_rfl⟩
theorem ty109 : TyOk Tryz.prog 109 ⟨.slice 40, 1, 24, [.slice none 0 0]⟩ := ⟨by kernel_rfl, by kernel_rfl, by kernel_rfl⟩
theorem ty110 : TyOk Tryz.prog 110 ⟨.fn, 1, 8, [.nilFunc]⟩ := ⟨by kernel_rfl, by kernel_rfl, by kernel_rfl⟩
theorem ty111 : TyOk Tryz.prog 111 ⟨.fn, 1, 8, [.nilFunc]⟩ := ⟨by kernel_rfl, by kernel_rfl, by kernel_rfl⟩
theorem ty112 : TyOk Tryz.prog 112 ⟨.array 4 23, 4, 32, [.int .u64 0, .int .u64 0, .int .u64 0, .int .u64 0]⟩ := ⟨by kernel_rfl, by kernel_rfl, by kernel_rfl⟩
theorem ty113 : TyOk Tryz.prog 113 ⟨.array 4 23, 4, 32, [.int .u64 0, .int .u64 0, .int .u64 0, .int .u64 0]⟩ := ⟨by kernel_rfl, by kernel_rfl, by kernel_rfl⟩
theorem ty114 : TyOk Tryz.prog 114 ⟨.fn, 1, 8, [.nilFunc]⟩ := ⟨by kernel_rfl, by kernel_rfl, by kernel_rfl⟩
theorem ty115 : TyOk Tryz.prog 115 ⟨.fn, 1, 8, [.nilFunc]⟩ := ⟨by kernel_rfl, by kernel_rfl, by kernel_rfl⟩
theorem ty116 : TyOk Tryz.prog 116 ⟨.fn, 1, 8, [.nilFunc]⟩ := ⟨by kernel_rfl, by kernel_rfl, by kernel_rfl⟩
theorem ty117 : TyOk Tryz.prog 117 ⟨.fn, 1, 8, [.nilFunc]⟩ := ⟨by kernel_rfl, by kernel_rfl, by kernel_rfl⟩
theorem ty118 : TyOk Tryz.prog 118 ⟨.fn, 1, 8, [.nilFunc]⟩ := ⟨by kernel_rfl, by kernel_rfl, by kernel_rfl⟩
theorem ty120 : TyOk Tryz.prog 120 ⟨.fn, 1, 8, [.nilFunc]⟩ := ⟨by kernel_rfl, by kernel_rfl, by kernel_rfl⟩
theorem ty121 : TyOk Tryz.prog 121 ⟨.int .u64, 1, 8, [.int .u64 0]⟩ := ⟨by kernel_rfl, by kernel_rfl, by kernel_rfl⟩
theorem ty122 : TyOk Tryz.prog 122 ⟨.fn, 1, 8, [.nilFunc]⟩ := ⟨by kernel_rfl, by kernel_rfl, by kernel_rfl⟩
theorem ty123 : TyOk Tryz.prog 123 ⟨.fn, 1, 8, [.nilFunc]⟩ := ⟨by kernel_rfl, by kernel_rfl, by kernel_rfl⟩
theorem ty124 : TyOk Tryz.prog 124 ⟨.fn, 1, 8, [.nilFunc]⟩ := ⟨by kernel_rfl, by kernel_rfl, by kernel_rfl⟩
theorem ty125 : TyOk Tryz.prog 125 ⟨.ptr 85, 1, 8, [.pointer none]⟩ := ⟨by kernel_rfl, by kernel_rfl, by kernel_rfl⟩
theorem ty127 : TyOk Tryz.prog 127 ⟨.fn, 1, 8, [.nilFunc]⟩ := ⟨by kernel_rfl, by kernel_rfl, by kernel_rfl⟩
theorem ty128 : TyOk Tryz.prog 128 ⟨.fn, 1, 8, [.nilFunc]⟩ := ⟨by kernel_rfl, by kernel_rfl, by kernel_rfl⟩
theorem ty129 : TyOk Tryz.prog 129 ⟨.fn, 1, 8, [.nilFunc]⟩ := ⟨by kernel_rfl, by kernel_rfl, by kernel_rfl⟩
theorem ty130 : TyOk Tryz.prog 130 ⟨.fn, 1, 8, [.nilFunc]⟩ := ⟨by kernel_rfl, by kernel_rfl, by kernel_rfl⟩
theorem ty131 : TyOk Tryz.prog 131 ⟨.fn, 1, 8, [.nilFunc]⟩ := ⟨by kernel_rfl, by kernel_rfl, by kernel_rfl⟩
theorem ty132 : TyOk Tryz.prog 132 ⟨.fn, 1, 8, [.nilFunc]⟩ := ⟨by kernel_rfl, by kernel_rfl, by kernel_rfl⟩
theorem ty133 : TyOk Tryz.prog 133 ⟨.fn, 1, 8, [.nilFunc]⟩ := ⟨by kernel_rfl, by kernel_rfl, by kernel_rfl⟩
theorem ty134 : TyOk Tryz.prog 134 ⟨.fn, 1, 8, [.nilFunc]⟩ := ⟨by kernel_rfl, by kernel_rfl, by kernel_rfl⟩
theorem ty135 : TyOk Tryz.prog 135 ⟨.fn, 1, 8, [.nilFunc]⟩ := ⟨by kernel_rfl, by kernel_rfl, by kernel_rfl⟩
theorem ty136 : TyOk Tryz.prog 136 ⟨.fn, 1, 8, [.nilFunc]⟩ := ⟨by kernel_rfl, by kernel_rfl, by kernel_rfl⟩
theorem ty137 : TyOk Tryz.prog 137 ⟨.fn, 1, 8, [.nilFunc]⟩ := ⟨by kernel_rfl, by kernel_rfl, by kernel_rfl⟩
theorem ty138 : TyOk Tryz.prog 138 ⟨.fn, 1, 8, [.nilFunc]⟩ := ⟨by kernel_rfl, by kernel_rfl, by kernel_rfl⟩
theorem ty139 : TyOk Tryz.prog 139 ⟨.fn, 1, 8, [.nilFunc]⟩ := ⟨by kernel_rfl, by kernel_rfl, by kernel_rfl⟩
theorem ty140 : TyOk Tryz.prog 140 ⟨.fn, 1, 8, [.nilFunc]⟩ := ⟨by kernel_rfl, by kernel_rfl, by kernel_rfl⟩
theorem ty141 : TyOk Tryz.prog 141 ⟨.fn, 1, 8, [.nilFunc]⟩ := ⟨by kernel_rfl, by kernel_rfl, by kernel_rfl⟩
theorem ty142 : TyOk Tryz.prog 142 ⟨.fn, 1, 8, [.nilFunc]⟩ := ⟨by kernel_rfl, by kernel_rfl, by kernel_rfl⟩
theorem ty143 : TyOk Tryz.prog 143 ⟨.fn, 1, 8, [.nilFunc]⟩ := ⟨by kernel_rfl, by kernel_rfl, by kernel_rfl⟩
theorem ty144 : TyOk Tryz.prog 144 ⟨.fn, 1, 8, [.nilFunc]⟩ := ⟨by kernel_rfl, by kernel_rfl, by kernel_rfl⟩
theorem ty145 : TyOk Tryz.prog 145 ⟨.fn, 1, 8, [.nilFunc]⟩ := ⟨by kernel_rfl, by kernel_rfl, by kernel_rfl⟩
theorem ty147 : TyOk Tryz.prog 147 ⟨.fn, 1, 8, [.nilFunc]⟩ := ⟨by kernel_rfl, by kernel_rfl, by kernel_rfl⟩
theorem ty148 : TyOk Tryz.prog 148 ⟨.fn, 1, 8, [.nilFunc]⟩ := ⟨by kernel_rfl, by kernel_rfl, by kernel_rfl⟩
theorem ty149 : TyOk Tryz.prog 149 ⟨.fn, 1, 8, [.nilFunc]⟩ := ⟨by kernel_rfl, by kernel_rfl, by kernel_rfl⟩
theorem ty150 : TyOk Tryz.prog 150 ⟨.fn, 1, 8, [.nilFunc]⟩ := ⟨by kernel_rfl, by kernel_rfl, by kernel_rfl⟩
theorem ty152 : TyOk Tryz.prog 152 ⟨.fn, 1, 8, [.nilFunc]⟩ := ⟨by kernel_rfl, by kernel_rfl, by kernel_rfl⟩
theorem ty153 : TyOk Tryz.prog 153 ⟨.fn, 1, 8, [.nilFunc]⟩ := ⟨by kernel_rfl, by kernel_rfl, by kernel_rfl⟩
theorem ty154 : TyOk Tryz.prog 154 ⟨.fn, 1, 8, [.nilFunc]⟩ := ⟨by kernel_rfl, by kernel_rfl, by kernel_rfl⟩
theorem ty155 : TyOk Tryz.prog 155 ⟨.fn, 1, 8, [.nilFunc]⟩ := ⟨by kernel_rfl, by kernel_rfl, by kernel_rfl⟩
theorem ty156 : TyOk Tryz.prog 156 ⟨.fn, 1, 8, [.nilFunc]⟩ := ⟨by kernel_rfl, by kernel_rfl, by kernel_rfl⟩
theorem ty158 : TyOk Tryz.prog 158 ⟨.fn, 1, 8, [.nilFunc]⟩ := ⟨by kernel_rfl, by kernel_rfl, by kernel_rfl⟩
theorem ty159 : TyOk Tryz.prog 159 ⟨.fn, 1, 8, [.nilFunc]⟩ := ⟨by kernel_rfl, by kernel_rfl, by kernel_rfl⟩
theorem ty160 : TyOk Tryz.prog 160 ⟨.fn, 1, 8, [.nilFunc]⟩ := ⟨by kernel_rfl, by kernel_rfl, by kernel_rfl⟩
theorem ty161 : TyOk Tryz.prog 161 ⟨.int .i64, 1, 8, [.int .i64 0]⟩ := ⟨by kernel_rfl, by kernel_rfl, by kernel_rfl⟩
theorem ty163 : TyOk Tryz.prog 163 ⟨.fn, 1, 8, [.nilFunc]⟩ := ⟨by kernel_rfl, by kernel_rfl, by kernel_rfl⟩
theorem ty164 : TyOk Tryz.prog 164 ⟨.fn, 1, 8, [.nilFunc]⟩ := ⟨by kernel_rfl, by kernel_rfl, by kernel_rfl⟩
theorem ty165 : TyOk Tryz.prog 165 ⟨.fn, 1, 8, [.nilFunc]⟩ := ⟨by kernel_rfl, by kernel_rfl, by kernel_rfl⟩
theorem ty166 : TyOk Tryz.prog 166 ⟨.fn, 1, 8, [.nilFunc]⟩ := ⟨by kernel_rfl, by kernel_rfl, by kernel_rfl⟩
theorem ty168 : TyOk Tryz.prog 168 ⟨.fn, 1, 8, [.nilFunc]⟩ := ⟨by kernel_rfl, by kernel_rfl, by kernel_rfl⟩
theorem ty169 : TyOk Tryz.prog 169 ⟨.fn, 1, 8, [.nilFunc]⟩ := ⟨by kernel_rfl, by kernel_rfl, by kernel_rfl⟩
theorem ty170 : TyOk Tryz.prog 170 ⟨.int .u32, 1, 4, [.int .u32 0]⟩ := ⟨by kernel_rfl, by kernel_rfl, by kernel_rfl⟩
theorem ty171 : TyOk Tryz.prog 171 ⟨.fn, 1, 8, [.nilFunc]⟩ := ⟨by kernel_rfl, by kernel_rfl, by kernel_rfl⟩
theorem ty172 : TyOk Tryz.prog 172 ⟨.fn, 1, 8, [.nilFunc]⟩ := ⟨by kernel_rfl, by kernel_rfl, by kernel_rfl⟩
theorem ty173 : TyOk Tryz.prog 173 ⟨.fn, 1, 8, [.nilFunc]⟩ := ⟨by kernel_rfl, by kernel_rfl, by kernel_rfl⟩
theorem ty174 : TyOk Tryz.prog 174 ⟨.fn, 1, 8, [.nilFunc]⟩ := ⟨by kernel_rfl, by kernel_rfl, by kernel_rfl⟩
theorem ty175 : TyOk Tryz.prog 175 ⟨.fn, 1, 8, [.nilFunc]⟩ := ⟨by kernel_rfl, by kernel_rfl, by kernel_rfl⟩
theorem ty176 : TyOk Tryz.prog 176 ⟨.fn, 1, 8, [.nilFunc]⟩ := ⟨by kernel_rfl, by kernel_rfl, by kernel_rfl⟩
theorem ty177 : TyOk Tryz.prog 177 ⟨.fn, 1, 8, [.nilFunc]⟩ := ⟨by kernel_rfl, by kernel_rfl, by kernel_rfl⟩
theorem ty178 : TyOk Tryz.prog 178 ⟨.int .u64, 1, 8, [.int .u64 0]⟩ := ⟨by kernel_rfl, by kernel_rfl, by kernel_rfl⟩
theorem ty179 : TyOk Tryz.prog 179 ⟨.fn, 1, 8, [.nilFunc]⟩ := ⟨by kernel_rfl, by kernel_rfl, by kernel_rfl⟩
theorem ty180 : TyOk Tryz.prog 180 ⟨.fn, 1, 8, [.nilFunc]⟩ := ⟨by kernel_rfl, by kernel_rfl, by kernel_rfl⟩
theorem ty181 : TyOk Tryz.prog 181 ⟨.fn, 1, 8, [.nilFunc]⟩ := ⟨by kernel_rfl, by kernel_rfl, by kernel_rfl⟩
theorem ty182 : TyOk Tryz.prog 182 ⟨.ptr 3, 1, 8, [.pointer none]⟩ := ⟨by kernel_rfl, by kernel_rfl, by kernel_rfl⟩
theorem ty183 : TyOk Tryz.prog 183 ⟨.fn, 1, 8, [.nilFunc]⟩ := ⟨by kernel_rfl, by kernel_rfl, by kernel_rfl⟩
theorem ty184 : TyOk Tryz.prog 184 ⟨.fn, 1, 8, [.nilFunc]⟩ := ⟨by kernel_rfl, by kernel_rfl, by kernel_rfl⟩
theorem ty185 : TyOk Tryz.prog 185 ⟨.fn, 1, 8, [.nilFunc]⟩ := ⟨by kernel_rfl, by kernel_rfl, by kernel_rfl⟩
theorem ty186 : TyOk Tryz.prog 186 ⟨.ptr 178, 1, 8, [.pointer none]⟩ := ⟨by kernel_rfl, by kernel_rfl, by kernel_rfl⟩
theorem ty188 : TyOk Tryz.prog 188 ⟨.fn, 1, 8, [.nilFunc]⟩ := ⟨by kernel_rfl, by kernel_rfl, by kernel_rfl⟩
theorem ty189 : TyOk Tryz.prog 189 ⟨.fn, 1, 8, [.nilFunc]⟩ := ⟨by kernel_rfl, by kernel_rfl, by kernel_rfl⟩
theorem ty190 : TyOk Tryz.prog 190 ⟨.fn, 1, 8, [.nilFunc]⟩ := ⟨by kernel_rfl, by kernel_rfl, by kernel_rfl⟩
theorem ty196 : TyOk Tryz.prog 196 ⟨.fn, 1, 8, [.nilFunc]⟩ := ⟨by kernel_rfl, by kernel_rfl, by kernel_rfl⟩
theorem ty199 : TyOk Tryz.prog 199 ⟨.fn, 1, 8, [.nilFunc]⟩ := ⟨by kernel_rfl, by kernel_rfl, by kernel_rfl⟩
theorem ty200 : TyOk Tryz.prog 200 ⟨.ptr 5, 1, 8, [.pointer none]⟩ := ⟨by kernel_rfl, by kernel_rfl, by kernel_rfl⟩
theorem ty203 : TyOk Tryz.prog 203 ⟨.struct [(0, 12), (1, 12), (2, 170), (3, 197), (4, 5), (5, 5), (6, 198), (7, 199), (8, 200), (9, 201), (10, 202)], 11, 48, [.int .u64 0, .int .u64 0, .int .u32 0, .int .u8 0, .int .u8 0, .int .u8 0, .int .u8 0, .nilFunc, .pointer none, .int .i32 0, .int .i32 0]⟩ := ⟨by kernel_rfl, by kernel_rfl, by kernel_rfl⟩
def lay : Lay := [(1, ⟨.fn, 1, 8, [.nilFunc]⟩),
  (2, ⟨.int .i64, 1, 8, [.int .i64 0]⟩),
  (3, ⟨.int .i64, 1, 8, [.int .i64 0]⟩),
  (4, ⟨.bool, 1, 1, [.bool false]⟩),
  (5, ⟨.int .u8, 1, 1, [.int .u8 0]⟩),
  (9, ⟨.str, 1, 16, [.string ByteArray.empty]⟩),
  (12, ⟨.int .u64, 1, 8, [.int .u64 0]⟩),
  (17, ⟨.ptr 204, 1, 8, [.pointer none]⟩),
  (20, ⟨.iface, 1, 16, [.nilIface]⟩),
  (21, ⟨.int .i32, 1, 4, [.int .i32 0]⟩),
  (22, ⟨.slice 33, 1, 24, [.slice none 0 0]⟩),
  (23, ⟨.int .u64, 1, 8, [.int .u64 0]⟩),
  (24, ⟨.struct [(0, 23), (1, 23), (2, 23)], 3, 24, [.int .u64 0, .int .u64 0, .int .u64 0]⟩),
  (25, ⟨.struct [(0, 23), (1, 23), (2, 23)], 3, 24, [.int .u64 0, .int .u64 0, .int .u64 0]⟩),
  (26, ⟨.fn, 1, 8, [.nilFunc]⟩),
  (27, ⟨.ptr 61, 1, 8, [.pointer none]⟩),
  (28, ⟨.fn, 1, 8, [.nilFunc]⟩),
  (29, ⟨.slice 31, 1, 24, [.slice none 0 0]⟩),
  (30, ⟨.struct [(0, 3), (1, 3), (2, 4), (3, 25), (6, 25), (9, 25), (12, 3), (13, 3)], 14, 112, [.int .i64 0, .int .i64 0, .bool false, .int .u64 0, .int .u64 0, .int .u64 0, .int .u64 0, .int .u64 0, .int .u64 0, .int .u64 0, .int .u64 0, .int .u64 0, .int .i64 0, .int .i64 0]⟩),
  (31, ⟨.struct [(0, 3), (1, 3), (2, 4), (3, 25), (6, 25), (9, 25), (12, 3), (13, 3)], 14, 112, [.int .i64 0, .int .i64 0, .bool false, .int .u64 0, .int .u64 0, .int .u64 0, .int .u64 0, .int .u64 0, .int .u64 0, .int .u64 0, .int .u64 0, .int .u64 0, .int .i64 0, .int .i64 0]⟩),
  (32, ⟨.struct [(0, 3), (1, 31)], 15, 120, [.int .i64 0, .int .i64 0, .int .i64 0, .bool false, .int .u64 0, .int .u64 0, .int .u64 0, .int .u64 0, .int .u64 0, .int .u64 0, .int .u64 0, .int .u64 0, .int .u64 0, .int .i64 0, .int .i64 0]⟩),
  (33, ⟨.struct [(0, 3), (1, 31)], 15, 120, [.int .i64 0, .int .i64 0, .int .i64 0, .bool false, .int .u64 0, .int .u64 0, .int .u64 0, .int .u64 0, .int .u64 0, .int .u64 0, .int .u64 0, .int .u64 0, .int .u64 0, .int .i64 0, .int .i64 0]⟩),
  (34, ⟨.int .i64, 1, 8, [.int .i64 0]⟩),
  (35, ⟨.fn, 1, 8, [.nilFunc]⟩),
  (36, ⟨.fn, 1, 8, [.nilFunc]⟩),
  (37, ⟨.struct [(0, 29), (1, 3)], 2, 32, [.slice none 0 0, .int .i64 0]⟩),
  (38, ⟨.struct [(0, 29), (1, 3)], 2, 32, [.slice none 0 0, .int .i64 0]⟩),
  (39, ⟨.fn, 1, 8, [.nilFunc]⟩),
  (40, ⟨.slice 25, 1, 24, [.slice none 0 0]⟩),
  (41, ⟨.fn, 1, 8, [.nilFunc]⟩),
  (43, ⟨.fn, 1, 8, [.nilFunc]⟩),
  (44, ⟨.fn, 1, 8, [.nilFunc]⟩),
  (45, ⟨.fn, 1, 8, [.nilFunc]⟩),
  (46, ⟨.fn, 1, 8, [.nilFunc]⟩),
  (47, ⟨.struct [(0, 3), (1, 3)], 2, 16, [.int .i64 0, .int .i64 0]⟩),
  (48, ⟨.struct [(0, 3), (1, 3)], 2, 16, [.int .i64 0, .int .i64 0]⟩),
  (49, ⟨.fn, 1, 8, [.nilFunc]⟩),
  (50, ⟨.fn, 1, 8, [.nilFunc]⟩),
  (51, ⟨.int .u16, 1, 2, [.int .u16 0]⟩),
  (52, ⟨.array 4 51, 4, 8, [.int .u16 0, .int .u16 0, .int .u16 0, .int .u16 0]⟩),
  (53, ⟨.array 4 51, 4, 8, [.int .u16 0, .int .u16 0, .int .u16 0, .int .u16 0]⟩),
  (54, ⟨.struct [(0, 23), (1, 3), (2, 53)], 6, 24, [.int .u64 0, .int .i64 0, .int .u16 0, .int .u16 0, .int .u16 0, .int .u16 0]⟩),
  (55, ⟨.struct [(0, 23), (1, 3), (2, 53)], 6, 24, [.int .u64 0, .int .i64 0, .int .u16 0, .int .u16 0, .int .u16 0, .int .u16 0]⟩),
  (56, ⟨.struct [(0, 3), (1, 4), (2, 4), (3, 23), (4, 23), (5, 3), (6, 55)], 12, 64, [.int .i64 0, .bool false, .bool false, .int .u64 0, .int .u64 0, .int .i64 0, .int .u64 0, .int .i64 0, .int .u16 0, .int .u16 0, .int .u16 0, .int .u16 0]⟩),
  (57, ⟨.struct [(0, 3), (1, 4), (2, 4), (3, 23), (4, 23), (5, 3), (6, 55)], 12, 64, [.int .i64 0, .bool false, .bool false, .int .u64 0, .int .u64 0, .int .i64 0, .int .u64 0, .int .i64 0, .int .u16 0, .int .u16 0, .int .u16 0, .int .u16 0]⟩),
  (58, ⟨.slice 57, 1, 24, [.slice none 0 0]⟩),
  (59, ⟨.map 3 31, 1, 8, [.map none]⟩),
  (60, ⟨.struct [(0, 59)], 1, 8, [.map none]⟩),
  (61, ⟨.struct [(0, 59)], 1, 8, [.map none]⟩),
  (63, ⟨.fn, 1, 8, [.nilFunc]⟩),
  (64, ⟨.fn, 1, 8, [.nilFunc]⟩),
  (65, ⟨.fn, 1, 8, [.nilFunc]⟩),
  (66, ⟨.slice 3, 1, 24, [.slice none 0 0]⟩),
  (67, ⟨.fn, 1, 8, [.nilFunc]⟩),
  (68, ⟨.fn, 1, 8, [.nilFunc]⟩),
  (69, ⟨.fn, 1, 8, [.nilFunc]⟩),
  (70, ⟨.fn, 1, 8, [.nilFunc]⟩),
  (71, ⟨.fn, 1, 8, [.nilFunc]⟩),
  (72, ⟨.fn, 1, 8, [.nilFunc]⟩),
  (73, ⟨.fn, 1, 8, [.nilFunc]⟩),
  (74, ⟨.fn, 1, 8, [.nilFunc]⟩),
  (75, ⟨.fn, 1, 8, [.nilFunc]⟩),
  (76, ⟨.struct [(0, 23), (1, 4)], 2, 16, [.int .u64 0, .bool false]⟩),
  (77, ⟨.struct [(0, 23), (1, 4)], 2, 16, [.int .u64 0, .bool false]⟩),
  (78, ⟨.fn, 1, 8, [.nilFunc]⟩),
  (79, ⟨.fn, 1, 8, [.nilFunc]⟩),
  (80, ⟨.fn, 1, 8, [.nilFunc]⟩),
  (81, ⟨.struct [(0, 23), (1, 23)], 2, 16, [.int .u64 0, .int .u64 0]⟩),
  (82, ⟨.struct [(0, 23), (1, 23)], 2, 16, [.int .u64 0, .int .u64 0]⟩),
  (83, ⟨.fn, 1, 8, [.nilFunc]⟩),
  (84, ⟨.struct [(0, 23), (1, 23), (2, 3), (3, 3), (4, 4)], 5, 40, [.int .u64 0, .int .u64 0, .int .i64 0, .int .i64 0, .bool false]⟩),
  (85, ⟨.struct [(0, 23), (1, 23), (2, 3), (3, 3), (4, 4)], 5, 40, [.int .u64 0, .int .u64 0, .int .i64 0, .int .i64 0, .bool false]⟩),
  (86, ⟨.fn, 1, 8, [.nilFunc]⟩),
  (87, ⟨.fn, 1, 8, [.nilFunc]⟩),
  (88, ⟨.slice 85, 1, 24, [.slice none 0 0]⟩),
  (89, ⟨.fn, 1, 8, [.nilFunc]⟩),
  (90, ⟨.fn, 1, 8, [.nilFunc]⟩),
  (91, ⟨.array 3 25, 9, 72, [.int .u64 0, .int .u64 0, .int .u64 0, .int .u64 0, .int .u64 0, .int .u64 0, .int .u64 0, .int .u64 0, .int .u64 0]⟩),
  (92, ⟨.fn, 1, 8, [.nilFunc]⟩),
  (93, ⟨.int .i64, 1, 8, [.int .i64 0]⟩),
  (94, ⟨.fn, 1, 8, [.nilFunc]⟩),
  (95, ⟨.fn, 1, 8, [.nilFunc]⟩),
  (96, ⟨.fn, 1, 8, [.nilFunc]⟩),
  (97, ⟨.fn, 1, 8, [.nilFunc]⟩),
  (98, ⟨.fn, 1, 8, [.nilFunc]⟩),
  (99, ⟨.fn, 1, 8, [.nilFunc]⟩),
  (100, ⟨.fn, 1, 8, [.nilFunc]⟩),
  (101, ⟨.fn, 1, 8, [.nilFunc]⟩),
  (102, ⟨.fn, 1, 8, [.nilFunc]⟩),
  (103, ⟨.fn, 1, 8, [.nilFunc]⟩),
  (104, ⟨.slice 23, 1, 24, [.slice none 0 0]⟩),
  (105, ⟨.fn, 1, 8, [.nilFunc]⟩),
  (106, ⟨.fn, 1, 8, [.nilFunc]⟩),
  (108, ⟨.fn, 1, 8, [.nilFunc]⟩),
  (109, ⟨.slice 40, 1, 24, [.slice none 0 0]⟩),
  (110, ⟨.fn, 1, 8, [.nilFunc]⟩),
  (111, ⟨.fn, 1, 8, [.nilFunc]⟩),
  (112, ⟨.array 4 23, 4, 32, [.int .u64 0, .int .u64 0, .int .u64 0, .int .u64 0]⟩),
  (113, ⟨.array 4 23, 4, 32, [.int .u64 0, .int .u64 0, .int .u64 0, .int .u64 0]⟩),
  (114, ⟨.fn, 1, 8, [.nilFunc]⟩),
  (115, ⟨.fn, 1, 8, [.nilFunc]⟩),
  (116, ⟨.fn, 1, 8, [.nilFunc]⟩),
  (117, ⟨.fn, 1, 8, [.nilFunc]⟩),
  (118, ⟨.fn, 1, 8, [.nilFunc]⟩),
  (120, ⟨.fn, 1, 8, [.nilFunc]⟩),
  (121, ⟨.int .u64, 1, 8, [.int .u64 0]⟩),
  (122, ⟨.fn, 1, 8, [.nilFunc]⟩),
  (123, ⟨.fn, 1, 8, [.nilFunc]⟩),
  (124, ⟨.fn, 1, 8, [.nilFunc]⟩),
  (125, ⟨.ptr 85, 1, 8, [.pointer none]⟩),
  (127, ⟨.fn, 1, 8, [.nilFunc]⟩),
  (128, ⟨.fn, 1, 8, [.nilFunc]⟩),
  (129, ⟨.fn, 1, 8, [.nilFunc]⟩),
  (130, ⟨.fn, 1, 8, [.nilFunc]⟩),
  (131, ⟨.fn, 1, 8, [.nilFunc]⟩),
  (132, ⟨.fn, 1, 8, [.nilFunc]⟩),
  (133, ⟨.fn, 1, 8, [.nilFunc]⟩),
  (134, ⟨.fn, 1, 8, [.nilFunc]⟩),
  (135, ⟨.fn, 1, 8, [.nilFunc]⟩),
  (136, ⟨.fn, 1, 8, [.nilFunc]⟩),
  (137, ⟨.fn, 1, 8, [.nilFunc]⟩),
  (138, ⟨.fn, 1, 8, [.nilFunc]⟩),
  (139, ⟨.fn, 1, 8, [.nilFunc]⟩),
  (140, ⟨.fn, 1, 8, [.nilFunc]⟩),
  (141, ⟨.fn, 1, 8, [.nilFunc]⟩),
  (142, ⟨.fn, 1, 8, [.nilFunc]⟩),
  (143, ⟨.fn, 1, 8, [.nilFunc]⟩),
  (144, ⟨.fn, 1, 8, [.nilFunc]⟩),
  (145, ⟨.fn, 1, 8, [.nilFunc]⟩),
  (147, ⟨.fn, 1, 8, [.nilFunc]⟩),
  (148, ⟨.fn, 1, 8, [.nilFunc]⟩),
  (149, ⟨.fn, 1, 8, [.nilFunc]⟩),
  (150, ⟨.fn, 1, 8, [.nilFunc]⟩),
  (152, ⟨.fn, 1, 8, [.nilFunc]⟩),
  (153, ⟨.fn, 1, 8, [.nilFunc]⟩),
  (154, ⟨.fn, 1, 8, [.nilFunc]⟩),
  (155, ⟨.fn, 1, 8, [.nilFunc]⟩),
  (156, ⟨.fn, 1, 8, [.nilFunc]⟩),
  (158, ⟨.fn, 1, 8, [.nilFunc]⟩),
  (159, ⟨.fn, 1, 8, [.nilFunc]⟩),
  (160, ⟨.fn, 1, 8, [.nilFunc]⟩),
  (161, ⟨.int .i64, 1, 8, [.int .i64 0]⟩),
  (163, ⟨.fn, 1, 8, [.nilFunc]⟩),
  (164, ⟨.fn, 1, 8, [.nilFunc]⟩),
  (165, ⟨.fn, 1, 8, [.nilFunc]⟩),
  (166, ⟨.fn, 1, 8, [.nilFunc]⟩),
  (168, ⟨.fn, 1, 8, [.nilFunc]⟩),
  (169, ⟨.fn, 1, 8, [.nilFunc]⟩),
  (170, ⟨.int .u32, 1, 4, [.int .u32 0]⟩),
  (171, ⟨.fn, 1, 8, [.nilFunc]⟩),
  (172, ⟨.fn, 1, 8, [.nilFunc]⟩),
  (173, ⟨.fn, 1, 8, [.nilFunc]⟩),
  (174, ⟨.fn, 1, 8, [.nilFunc]⟩),
  (175, ⟨.fn, 1, 8, [.nilFunc]⟩),
  (176, ⟨.fn, 1, 8, [.nilFunc]⟩),
  (177, ⟨.fn, 1, 8, [.nilFunc]⟩),
  (178, ⟨.int .u64, 1, 8, [.int .u64 0]⟩),
  (179, ⟨.fn, 1, 8, [.nilFunc]⟩),
  (180, ⟨.fn, 1, 8, [.nilFunc]⟩),
  (181, ⟨.fn, 1, 8, [.nilFunc]⟩),
  (182, ⟨.ptr 3, 1, 8, [.pointer none]⟩),
  (183, ⟨.fn, 1, 8, [.nilFunc]⟩),
  (184, ⟨.fn, 1, 8, [.nilFunc]⟩),
  (185, ⟨.fn, 1, 8, [.nilFunc]⟩),
  (186, ⟨.ptr 178, 1, 8, [.pointer none]⟩),
  (188, ⟨.fn, 1, 8, [.nilFunc]⟩),
  (189, ⟨.fn, 1, 8, [.nilFunc]⟩),
  (190, ⟨.fn, 1, 8, [.nilFunc]⟩),
  (196, ⟨.fn, 1, 8, [.nilFunc]⟩),
  (199, ⟨.fn, 1, 8, [.nilFunc]⟩),
  (200, ⟨.ptr 5, 1, 8, [.pointer none]⟩),
  (203, ⟨.struct [(0, 12), (1, 12), (2, 170), (3, 197), (4, 5), (5, 5), (6, 198), (7, 199), (8, 200), (9, 201), (10, 202)], 11, 48, [.int .u64 0, .int .u64 0, .int .u32 0, .int .u8 0, .int .u8 0, .int .u8 0, .int .u8 0, .nilFunc, .pointer none, .int .i32 0, .int .i32 0]⟩)]
theorem lay_ok : LayOk Tryz.prog lay := .cons ty1 <| .cons ty2 <| .cons ty3 <| .cons ty4 <| .cons ty5 <| .cons ty9 <| .cons ty12 <| .cons ty17 <| .cons ty20 <| .cons ty21 <| .cons ty22 <| .cons ty23 <| .cons ty24 <| .cons ty25 <| .cons ty26 <| .cons ty27 <| .cons ty28 <| .cons ty29 <| .cons ty30 <| .cons ty31 <| .cons ty32 <| .cons ty33 <| .cons ty34 <| .cons ty35 <| .cons ty36 <| .cons ty37 <| .cons ty38 <| .cons ty39 <| .cons ty40 <| .cons ty41 <| .cons ty43 <| .cons ty44 <| .cons ty45 <| .cons ty46 <| .cons ty47 <| .cons ty48 <| .cons ty49 <| .cons ty50 <| .cons ty51 <| .cons ty52 <| .cons ty53 <| .cons ty54 <| .cons ty55 <| .cons ty56 <| .cons ty57 <| .cons ty58 <| .cons ty59 <| .cons ty60 <| .cons ty61 <| .cons ty63 <| .cons ty64 <| .cons ty65 <| .cons ty66 <| .cons ty67 <| .cons ty68 <| .cons ty69 <| .cons ty70 <| .cons ty71 <| .cons ty72 <| .cons ty73 <| .cons ty74 <| .cons ty75 <| .cons ty76 <| .cons ty77 <| .cons ty78 <| .cons ty79 <| .cons ty80 <| .cons ty81 <| .cons ty82 <| .cons ty83 <| .cons ty84 <| .cons ty85 <| .cons ty86 <| .cons ty87 <| .cons ty88 <| .cons ty89 <| .cons ty90 <| .cons ty91 <| .cons ty92 <| .cons ty93 <| .cons ty94 <| .cons ty95 <| .cons ty96 <| .cons ty97 <| .cons ty98 <| .cons ty99 <| .cons ty100 <| .cons ty101 <| .cons ty102 <| .cons ty103 <| .cons ty104 <| .cons ty105 <| .cons ty106 <| .cons ty108 <| .cons ty109 <| .cons ty110 <| .cons ty111 <| .cons ty112 <| .cons ty113 <| .cons ty114 <| .cons ty115 <| .cons ty116 <| .cons ty117 <| .cons ty118 <| .cons ty120 <| .cons ty121 <| .cons ty122 <| .cons ty123 <| .cons ty124 <| .cons ty125 <| .cons ty127 <| .cons ty128 <| .cons ty129 <| .cons ty130 <| .cons ty131 <| .cons ty132 <| .cons ty133 <| .cons ty134 <| .cons ty135 <| .cons ty136 <| .cons ty137 <| .cons ty138 <| .cons ty139 <| .cons ty140 <| .cons ty141 <| .cons ty142 <| .cons ty143 <| .cons ty144 <| .cons ty145 <| .cons ty147 <| .cons ty148 <| .cons ty149 <| .cons ty150 <| .cons ty152 <| .cons ty153 <| .cons ty154 <| .cons ty155 <| .cons ty156 <| .cons ty158 <| .cons ty159 <| .cons ty160 <| .cons ty161 <| .cons ty163 <| .cons ty164 <| .cons ty165 <| .cons ty166 <| .cons ty168 <| .cons ty169 <| .cons ty170 <| .cons ty171 <| .cons ty172 <| .cons ty173 <| .cons ty174 <| .cons ty175 <| .cons ty176 <| .cons ty177 <| .cons ty178 <| .cons ty179 <| .cons ty180 <| .cons ty181 <| .cons ty182 <| .cons ty183 <| .cons ty184 <| .cons ty185 <| .cons ty186 <| .cons ty188 <| .cons ty189 <| .cons ty190 <| .cons ty196 <| .cons ty199 <| .cons ty200 <| .cons ty203 <| .nil _
theorem L1 : ty lay 1 = some ⟨.fn, 1, 8, [.nilFunc]⟩ := rfl
theorem L2 : ty lay 2 = some ⟨.int .i64, 1, 8, [.int .i64 0]⟩ := rfl
theorem L3 : ty lay 3 = some ⟨.int .i64, 1, 8, [.int .i64 0]⟩ := rfl
theorem L4 : ty lay 4 = some ⟨.bool, 1, 1, [.bool false]⟩ := rfl
theorem L5 : ty lay 5 = some ⟨.int .u8, 1, 1, [.int .u8 0]⟩ := rfl
theorem L9 : ty lay 9 = some ⟨.str, 1, 16, [.string ByteArray.empty]⟩ := rfl
theorem L12 : ty lay 12 = some ⟨.int .u64, 1, 8, [.int .u64 0]⟩ := rfl
theorem L17 : ty lay 17 = some ⟨.ptr 204, 1, 8, [.pointer none]⟩ := rfl
theorem L20 : ty lay 20 = some ⟨.iface, 1, 16, [.nilIface]⟩ := rfl
theorem L21 : ty lay 21 = some ⟨.int .i32, 1, 4, [.int .i32 0]⟩ := rfl
theorem L22 : ty lay 22 = some ⟨.slice 33, 1, 24, [.slice none 0 0]⟩ := rfl
theorem L23 : ty lay 23 = some ⟨.int .u64, 1, 8, [.int .u64 0]⟩ := rfl
theorem L24 : ty lay 24 = some ⟨.struct [(0, 23), (1, 23), (2, 23)], 3, 24, [.int .u64 0, .int .u64 0, .int .u64 0]⟩ := rfl
theorem L25 : ty lay 25 = some ⟨.struct [(0, 23), (1, 23), (2, 23)], 3, 24, [.int .u64 0, .int .u64 0, .int .u64 0]⟩ := rfl
theorem L26 : ty lay 26 = some ⟨.fn, 1, 8, [.nilFunc]⟩ := rfl
theorem L27 : ty lay 27 = some ⟨.ptr 61, 1, 8, [.pointer none]⟩ := rfl
theorem L28 : ty lay 28 = some ⟨.fn, 1, 8, [.nilFunc]⟩ := rfl
theorem L29 : ty lay 29 = some ⟨.slice 31, 1, 24, [.slice none 0 0]⟩ := rfl
theorem L30 : ty lay 30 = some ⟨.struct [(0, 3), (1, 3), (2, 4), (3, 25), (6, 25), (9, 25), (12, 3), (13, 3)], 14, 112, [.int .i64 0, .int .i64 0, .bool false, .int .u64 0, .int .u64 0, .int .u64 0, .int .u64 0, .int .u64 0, .int .u64 0, .int .u64 0, .int .u64 0, .int .u64 0, .int .i64 0, .int .i64 0]⟩ := rfl
theorem L31 : ty lay 31 = some ⟨.struct [(0, 3), (1, 3), (2, 4), (3, 25), (6, 25), (9, 25), (12, 3), (13, 3)], 14, 112, [.int .i64 0, .int .i64 0, .bool false, .int .u64 0, .int .u64 0, .int .u64 0, .int .u64 0, .int .u64 0, .int .u64 0, .int .u64 0, .int .u64 0, .int .u64 0, .int .i64 0, .int .i64 0]⟩ := rfl
theorem L32 : ty lay 32 = some ⟨.struct [(0, 3), (1, 31)], 15, 120, [.int .i64 0, .int .i64 0, .int .i64 0, .bool false, .int .u64 0, .int .u64 0, .int .u64 0, .int .u64 0, .int .u64 0, .int .u64 0, .int .u64 0, .int .u64 0, .int .u64 0, .int .i64 0, .int .i64 0]⟩ := rfl
theorem L33 : ty lay 33 = some ⟨.struct [(0, 3), (1, 31)], 15, 120, [.int .i64 0, .int .i64 0, .int .i64 0, .bool false, .int .u64 0, .int .u64 0, .int .u64 0, .int .u64 0, .int .u64 0, .int .u64 0, .int .u64 0, .int .u64 0, .int .u64 0, .int .i64 0, .int .i64 0]⟩ := rfl
theorem L34 : ty lay 34 = some ⟨.int .i64, 1, 8, [.int .i64 0]⟩ := rfl
theorem L35 : ty lay 35 = some ⟨.fn, 1, 8, [.nilFunc]⟩ := rfl
theorem L36 : ty lay 36 = some ⟨.fn, 1, 8, [.nilFunc]⟩ := rfl
theorem L37 : ty lay 37 = some ⟨.struct [(0, 29), (1, 3)], 2, 32, [.slice none 0 0, .int .i64 0]⟩ := rfl
theorem L38 : ty lay 38 = some ⟨.struct [(0, 29), (1, 3)], 2, 32, [.slice none 0 0, .int .i64 0]⟩ := rfl
theorem L39 : ty lay 39 = some ⟨.fn, 1, 8, [.nilFunc]⟩ := rfl
theorem L40 : ty lay 40 = some ⟨.slice 25, 1, 24, [.slice none 0 0]⟩ := rfl
theorem L41 : ty lay 41 = some ⟨.fn, 1, 8, [.nilFunc]⟩ := rfl
theorem L43 : ty lay 43 = some ⟨.fn, 1, 8, [.nilFunc]⟩ := rfl
theorem L44 : ty lay 44 = some ⟨.fn, 1, 8, [.nilFunc]⟩ := rfl
theorem L45 : ty lay 45 = some ⟨.fn, 1, 8, [.nilFunc]⟩ := rfl
theorem L46 : ty lay 46 = some ⟨.fn, 1, 8, [.nilFunc]⟩ := rfl
theorem L47 : ty lay 47 = some ⟨.struct [(0, 3), (1, 3)], 2, 16, [.int .i64 0, .int .i64 0]⟩ := rfl
theorem L48 : ty lay 48 = some ⟨.struct [(0, 3), (1, 3)], 2, 16, [.int .i64 0, .int .i64 0]⟩ := rfl
theorem L49 : ty lay 49 = some ⟨.fn, 1, 8, [.nilFunc]⟩ := rfl
theorem L50 : ty lay 50 = some ⟨.fn, 1, 8, [.nilFunc]⟩ := rfl
theorem L51 : ty lay 51 = some ⟨.int .u16, 1, 2, [.int .u16 0]⟩ := rfl
theorem L52 : ty lay 52 = some ⟨.array 4 51, 4, 8, [.int .u16 0, .int .u16 0, .int .u16 0, .int .u16 0]⟩ := rfl
theorem L53 : ty lay 53 = some ⟨.array 4 51, 4, 8, [.int .u16 0, .int .u16 0, .int .u16 0, .int .u16 0]⟩ := rfl
theorem L54 : ty lay 54 = some ⟨.struct [(0, 23), (1, 3), (2, 53)], 6, 24, [.int .u64 0, .int .i64 0, .int .u16 0, .int .u16 0, .int .u16 0, .int .u16 0]⟩ := rfl
theorem L55 : ty lay 55 = some ⟨.struct [(0, 23), (1, 3), (2, 53)], 6, 24, [.int .u64 0, .int .i64 0, .int .u16 0, .int .u16 0, .int .u16 0, .int .u16 0]⟩ := rfl
theorem L56 : ty lay 56 = some ⟨.struct [(0, 3), (1, 4), (2, 4), (3, 23), (4, 23), (5, 3), (6, 55)], 12, 64, [.int .i64 0, .bool false, .bool false, .int .u64 0, .int .u64 0, .int .i64 0, .int .u64 0, .int .i64 0, .int .u16 0, .int .u16 0, .int .u16 0, .int .u16 0]⟩ := rfl
theorem L57 : ty lay 57 = some ⟨.struct [(0, 3), (1, 4), (2, 4), (3, 23), (4, 23), (5, 3), (6, 55)], 12, 64, [.int .i64 0, .bool false, .bool false, .int .u64 0, .int .u64 0, .int .i64 0, .int .u64 0, .int .i64 0, .int .u16 0, .int .u16 0, .int .u16 0, .int .u16 0]⟩ := rfl
theorem L58 : ty lay 58 = some ⟨.slice 57, 1, 24, [.slice none 0 0]⟩ := rfl
theorem L59 : ty lay 59 = some ⟨.map 3 31, 1, 8, [.map none]⟩ := rfl
theorem L60 : ty lay 60 = some ⟨.struct [(0, 59)], 1, 8, [.map none]⟩ := rfl
theorem L61 : ty lay 61 = some ⟨.struct [(0, 59)], 1, 8, [.map none]⟩ := rfl
theorem L63 : ty lay 63 = some ⟨.fn, 1, 8, [.nilFunc]⟩ := rfl
theorem L64 : ty lay 64 = some ⟨.fn, 1, 8, [.nilFunc]⟩ := rfl
theorem L65 : ty lay 65 = some ⟨.fn, 1, 8, [.nilFunc]⟩ := rfl
theorem L66 : ty lay 66 = some ⟨.slice 3, 1, 24, [.slice none 0 0]⟩ := rfl
theorem L67 : ty lay 67 = some ⟨.fn, 1, 8, [.nilFunc]⟩ := rfl
theorem L68 : ty lay 68 = some ⟨.fn, 1, 8, [.nilFunc]⟩ := rfl
theorem L69 : ty lay 69 = some ⟨.fn, 1, 8, [.nilFunc]⟩ := rfl
theorem L70 : ty lay 70 = some ⟨.fn, 1, 8, [.nilFunc]⟩ := rfl
theorem L71 : ty lay 71 = some ⟨.fn, 1, 8, [.nilFunc]⟩ := rfl
theorem L72 : ty lay 72 = some ⟨.fn, 1, 8, [.nilFunc]⟩ := rfl
theorem L73 : ty lay 73 = some ⟨.fn, 1, 8, [.nilFunc]⟩ := rfl
theorem L74 : ty lay 74 = some ⟨.fn, 1, 8, [.nilFunc]⟩ := rfl
theorem L75 : ty lay 75 = some ⟨.fn, 1, 8, [.nilFunc]⟩ := rfl
theorem L76 : ty lay 76 = some ⟨.struct [(0, 23), (1, 4)], 2, 16, [.int .u64 0, .bool false]⟩ := rfl
theorem L77 : ty lay 77 = some ⟨.struct [(0, 23), (1, 4)], 2, 16, [.int .u64 0, .bool false]⟩ := rfl
theorem L78 : ty lay 78 = some ⟨.fn, 1, 8, [.nilFunc]⟩ := rfl
theorem L79 : ty lay 79 = some ⟨.fn, 1, 8, [.nilFunc]⟩ := rfl
theorem L80 : ty lay 80 = some ⟨.fn, 1, 8, [.nilFunc]⟩ := rfl
theorem L81 : ty lay 81 = some ⟨.struct [(0, 23), (1, 23)], 2, 16, [.int .u64 0, .int .u64 0]⟩ := rfl
theorem L82 : ty lay 82 = some ⟨.struct [(0, 23), (1, 23)], 2, 16, [.int .u64 0, .int .u64 0]⟩ := rfl
theorem L83 : ty lay 83 = some ⟨.fn, 1, 8, [.nilFunc]⟩ := rfl
theorem L84 : ty lay 84 = some ⟨.struct [(0, 23), (1, 23), (2, 3), (3, 3), (4, 4)], 5, 40, [.int .u64 0, .int .u64 0, .int .i64 0, .int .i64 0, .bool false]⟩ := rfl
theorem L85 : ty lay 85 = some ⟨.struct [(0, 23), (1, 23), (2, 3), (3, 3), (4, 4)], 5, 40, [.int .u64 0, .int .u64 0, .int .i64 0, .int .i64 0, .bool false]⟩ := rfl
theorem L86 : ty lay 86 = some ⟨.fn, 1, 8, [.nilFunc]⟩ := rfl
theorem L87 : ty lay 87 = some ⟨.fn, 1, 8, [.nilFunc]⟩ := rfl
theorem L88 : ty lay 88 = some ⟨.slice 85, 1, 24, [.slice none 0 0]⟩ := rfl
theorem L89 : ty lay 89 = some ⟨.fn, 1, 8, [.nilFunc]⟩ := rfl
theorem L90 : ty lay 90 = some ⟨.fn, 1, 8, [.nilFunc]⟩ := rfl
theorem L91 : ty lay 91 = some ⟨.array 3 25, 9, 72, [.int .u64 0, .int .u64 0, .int .u64 0, .int .u64 0, .int .u64 0, .int .u64 0, .int .u64 0, .int .u64 0, .int .u64 0]⟩ := rfl
theorem L92 : ty lay 92 = some ⟨.fn, 1, 8, [.nilFunc]⟩ := rfl
theorem L93 : ty lay 93 = some ⟨.int .i64, 1, 8, [.int .i64 0]⟩ := rfl
theorem L94 : ty lay 94 = some ⟨.fn, 1, 8, [.nilFunc]⟩ := rfl
theorem L95 : ty lay 95 = some ⟨.fn, 1, 8, [.nilFunc]⟩ := rfl
theorem L96 : ty lay 96 = some ⟨.fn, 1, 8, [.nilFunc]⟩ := rfl
theorem L97 : ty lay 97 = some ⟨.fn, 1, 8, [.nilFunc]⟩ := rfl
theorem L98 : ty lay 98 = some ⟨.fn, 1, 8, [.nilFunc]⟩ := rfl
theorem L99 : ty lay 99 = some ⟨.fn, 1, 8, [.nilFunc]⟩ := rfl
theorem L100 : ty lay 100 = some ⟨.fn, 1, 8, [.nilFunc]⟩ := rfl
theorem L101 : ty lay 101 = some ⟨.fn, 1, 8, [.nilFunc]⟩ := rfl
theorem L102 : ty lay 102 = some ⟨.fn, 1, 8, [.nilFunc]⟩ := rfl
theorem L103 : ty lay 103 = some ⟨.fn, 1, 8, [.nilFunc]⟩ := rfl
theorem L104 : ty lay 104 = some ⟨.slice 23, 1, 24, [.slice none 0 0]⟩ := rfl
theorem L105 : ty lay 105 = some ⟨.fn, 1, 8, [.nilFunc]⟩ := rfl
theorem L106 : ty lay 106 = some ⟨.fn, 1, 8, [.nilFunc]⟩ := rfl
theorem L108 : ty lay 108 = some ⟨.fn, 1, 8, [.nilFunc]⟩ := rfl
theorem L109 : ty lay 109 = some ⟨.slice 40, 1, 24, [.slice none 0 0]⟩ := rfl
theorem L110 : ty lay 110 = some ⟨.fn, 1, 8, [.nilFunc]⟩ := rfl
theorem L111 : ty lay 111 = some ⟨.fn, 1, 8, [.nilFunc]⟩ := rfl
theorem L112 : ty lay 112 = some ⟨.array 4 23, 4, 32, [.int .u64 0, .int .u64 0, .int .u64 0, .int .u64 0]⟩ := rfl
theorem L113 : ty lay 113 = some ⟨.array 4 23, 4, 32, [.int .u64 0, .int .u64 0, .int .u64 0, .int .u64 0]⟩ := rfl
theorem L114 : ty lay 114 = some ⟨.fn, 1, 8, [.nilFunc]⟩ := rfl
theorem L115 : ty lay 115 = some ⟨.fn, 1, 8, [.nilFunc]⟩ := rfl
theorem L116 : ty lay 116 = some ⟨.fn, 1, 8, [.nilFunc]⟩ := rfl
theorem L117 : ty lay 117 = some ⟨.fn, 1, 8, [.nilFunc]⟩ := rfl
theorem L118 : ty lay 118 = some ⟨.fn, 1, 8, [.nilFunc]⟩ := rfl
theorem L120 : ty lay 120 = some ⟨.fn, 1, 8, [.nilFunc]⟩ := rfl
theorem L121 : ty lay 121 = some ⟨.int .u64, 1, 8, [.int .u64 0]⟩ := rfl
theorem L122 : ty lay 122 = some ⟨.fn, 1, 8, [.nilFunc]⟩ := rfl
theorem L123 : ty lay 123 = some ⟨.fn, 1, 8, [.nilFunc]⟩ := rfl
theorem L124 : ty lay 124 = some ⟨.fn, 1, 8, [.nilFunc]⟩ := rfl
theorem L125 : ty lay 125 = some ⟨.ptr 85, 1, 8, [.pointer none]⟩ := rfl
theorem L127 : ty lay 127 = some ⟨.fn, 1, 8, [.nilFunc]⟩ := rfl
theorem L128 : ty lay 128 = some ⟨.fn, 1, 8, [.nilFunc]⟩ := rfl
theorem L129 : ty lay 129 = some ⟨.fn, 1, 8, [.nilFunc]⟩ := rfl
theorem L130 : ty lay 130 = some ⟨.fn, 1, 8, [.nilFunc]⟩ := rfl
theorem L131 : ty lay 131 = some ⟨.fn, 1, 8, [.nilFunc]⟩ := rfl
theorem L132 : ty lay 132 = some ⟨.fn, 1, 8, [.nilFunc]⟩ := rfl
theorem L133 : ty lay 133 = some ⟨.fn, 1, 8, [.nilFunc]⟩ := rfl
theorem L134 : ty lay 134 = some ⟨.fn, 1, 8, [.nilFunc]⟩ := rfl
theorem L135 : ty lay 135 = some ⟨.fn, 1, 8, [.nilFunc]⟩ := rfl
theorem L136 : ty lay 136 = some ⟨.fn, 1, 8, [.nilFunc]⟩ := rfl
theorem L137 : ty lay 137 = some ⟨.fn, 1, 8, [.nilFunc]⟩ := rfl
theorem L138 : ty lay 138 = some ⟨.fn, 1, 8, [.nilFunc]⟩ := rfl
theorem L139 : ty lay 139 = some ⟨.fn, 1, 8, [.nilFunc]⟩ := rfl
theorem L140 : ty lay 140 = some ⟨.fn, 1, 8, [.nilFunc]⟩ := rfl
theorem L141 : ty lay 141 = some ⟨.fn, 1, 8, [.nilFunc]⟩ := rfl
theorem L142 : ty lay 142 = some ⟨.fn, 1, 8, [.nilFunc]⟩ := rfl
theorem L143 : ty lay 143 = some ⟨.fn, 1, 8, [.nilFunc]⟩ := rfl
theorem L144 : ty lay 144 = some ⟨.fn, 1, 8, [.nilFunc]⟩ := rfl
theorem L145 : ty lay 145 = some ⟨.fn, 1, 8, [.nilFunc]⟩ := rfl
theorem L147 : ty lay 147 = some ⟨.fn, 1, 8, [.nilFunc]⟩ := rfl
theorem L148 : ty lay 148 = some ⟨.fn, 1, 8, [.nilFunc]⟩ := rfl
theorem L149 : ty lay 149 = some ⟨.fn, 1, 8, [.nilFunc]⟩ := rfl
theorem L150 : ty lay 150 = some ⟨.fn, 1, 8, [.nilFunc]⟩ := rfl
theorem L152 : ty lay 152 = some ⟨.fn, 1, 8, [.nilFunc]⟩ := rfl
theorem L153 : ty lay 153 = some ⟨.fn, 1, 8, [.nilFunc]⟩ := rfl
theorem L154 : ty lay 154 = some ⟨.fn, 1, 8, [.nilFunc]⟩ := rfl
theorem L155 : ty lay 155 = some ⟨.fn, 1, 8, [.nilFunc]⟩ := rfl
theorem L156 : ty lay 156 = some ⟨.fn, 1, 8, [.nilFunc]⟩ := rfl
theorem L158 : ty lay 158 = some ⟨.fn, 1, 8, [.nilFunc]⟩ := rfl
theorem L159 : ty lay 159 = some ⟨.fn, 1, 8, [.nilFunc]⟩ := rfl
theorem L160 : ty lay 160 = some ⟨.fn, 1, 8, [.nilFunc]⟩ := rfl
theorem L161 : ty lay 161 = some ⟨.int .i64, 1, 8, [.int .i64 0]⟩ := rfl
theorem L163 : ty lay 163 = some ⟨.fn, 1, 8, [.nilFunc]⟩ := rfl
theorem L164 : ty lay 164 = some ⟨.fn, 1, 8, [.nilFunc]⟩ := rfl
theorem L165 : ty lay 165 = some ⟨.fn, 1, 8, [.nilFunc]⟩ := rfl
theorem L166 : ty lay 166 = some ⟨.fn, 1, 8, [.nilFunc]⟩ := rfl
theorem L168 : ty lay 168 = some ⟨.fn, 1, 8, [.nilFunc]⟩ := rfl
theorem L169 : ty lay 169 = some ⟨.fn, 1, 8, [.nilFunc]⟩ := rfl
theorem L170 : ty lay 170 = some ⟨.int .u32, 1, 4, [.int .u32 0]⟩ := rfl
theorem L171 : ty lay 171 = some ⟨.fn, 1, 8, [.nilFunc]⟩ := rfl
theorem L172 : ty lay 172 = some ⟨.fn, 1, 8, [.nilFunc]⟩ := rfl
theorem L173 : ty lay 173 = some ⟨.fn, 1, 8, [.nilFunc]⟩ := rfl
theorem L174 : ty lay 174 = some ⟨.fn, 1, 8, [.nilFunc]⟩ := rfl
theorem L175 : ty lay 175 = some ⟨.fn, 1, 8, [.nilFunc]⟩ := rfl
theorem L176 : ty lay 176 = some ⟨.fn, 1, 8, [.nilFunc]⟩ := rfl
theorem L177 : ty lay 177 = some ⟨.fn, 1, 8, [.nilFunc]⟩ := rfl
theorem L178 : ty lay 178 = some ⟨.int .u64, 1, 8, [.int .u64 0]⟩ := rfl
theorem L179 : ty lay 179 = some ⟨.fn, 1, 8, [.nilFunc]⟩ := rfl
theorem L180 : ty lay 180 = some ⟨.fn, 1, 8, [.nilFunc]⟩ := rfl
theorem L181 : ty lay 181 = some ⟨.fn, 1, 8, [.nilFunc]⟩ := rfl
theorem L182 : ty lay 182 = some ⟨.ptr 3, 1, 8, [.pointer none]⟩ := rfl
theorem L183 : ty lay 183 = some ⟨.fn, 1, 8, [.nilFunc]⟩ := rfl
theorem L184 : ty lay 184 = some ⟨.fn, 1, 8, [.nilFunc]⟩ := rfl
theorem L185 : ty lay 185 = some ⟨.fn, 1, 8, [.nilFunc]⟩ := rfl
theorem L186 : ty lay 186 = some ⟨.ptr 178, 1, 8, [.pointer none]⟩ := rfl
theorem L188 : ty lay 188 = some ⟨.fn, 1, 8, [.nilFunc]⟩ := rfl
theorem L189 : ty lay 189 = some ⟨.fn, 1, 8, [.nilFunc]⟩ := rfl
theorem L190 : ty lay 190 = some ⟨.fn, 1, 8, [.nilFunc]⟩ := rfl
theorem L196 : ty lay 196 = some ⟨.fn, 1, 8, [.nilFunc]⟩ := rfl
theorem L199 : ty lay 199 = some ⟨.fn, 1, 8, [.nilFunc]⟩ := rfl
theorem L200 : ty lay 200 = some ⟨.ptr 5, 1, 8, [.pointer none]⟩ := rfl
theorem L203 : ty lay 203 = some ⟨.struct [(0, 12), (1, 12), (2, 170), (3, 197), (4, 5), (5, 5), (6, 198), (7, 199), (8, 200), (9, 201), (10, 202)], 11, 48, [.int .u64 0, .int .u64 0, .int .u32 0, .int .u8 0, .int .u8 0, .int .u8 0, .int .u8 0, .nilFunc, .pointer none, .int .i32 0, .int .i32 0]⟩ := rfl
theorem eq24 : EqTyOk Tryz.prog 24 [0, 0, 0] := ⟨by kernel_rfl, by kernel_rfl, by kernel_rfl⟩
theorem eq25 : EqTyOk Tryz.prog 25 [0, 0, 0] := ⟨by kernel_rfl, by kernel_rfl, by kernel_rfl⟩
theorem eq30 : EqTyOk Tryz.prog 30 [0, 0, 1, 0, 0, 0, 0, 0, 0, 0, 0, 0, 0, 0] := ⟨by kernel_rfl, by kernel_rfl, by kernel_rfl⟩
theorem eq31 : EqTyOk Tryz.prog 31 [0, 0, 1, 0, 0, 0, 0, 0, 0, 0, 0, 0, 0, 0] := ⟨by kernel_rfl, by kernel_rfl, by kernel_rfl⟩
theorem eq32 : EqTyOk Tryz.prog 32 [0, 0, 0, 1, 0, 0, 0, 0, 0, 0, 0, 0, 0, 0, 0] := ⟨by kernel_rfl, by kernel_rfl, by kernel_rfl⟩
theorem eq33 : EqTyOk Tryz.prog 33 [0, 0, 0, 1, 0, 0, 0, 0, 0, 0, 0, 0, 0, 0, 0] := ⟨by kernel_rfl, by kernel_rfl, by kernel_rfl⟩
theorem eq47 : EqTyOk Tryz.prog 47 [0, 0] := ⟨by kernel_rfl, by kernel_rfl, by kernel_rfl⟩
theorem eq48 : EqTyOk Tryz.prog 48 [0, 0] := ⟨by kernel_rfl, by kernel_rfl, by kernel_rfl⟩
theorem eq52 : EqTyOk Tryz.prog 52 [0, 0, 0, 0] := ⟨by kernel_rfl, by kernel_rfl, by kernel_rfl⟩
theorem eq53 : EqTyOk Tryz.prog 53 [0, 0, 0, 0] := ⟨by kernel_rfl, by kernel_rfl, by kernel_rfl⟩
theorem eq54 : EqTyOk Tryz.prog 54 [0, 0, 0, 0, 0, 0] := ⟨by kernel_rfl, by kernel_rfl, by kernel_rfl⟩
theorem eq55 : EqTyOk Tryz.prog 55 [0, 0, 0, 0, 0, 0] := ⟨by kernel_rfl, by kernel_rfl, by kernel_rfl⟩
theorem eq56 : EqTyOk Tryz.prog 56 [0, 1, 1, 0, 0, 0, 0, 0, 0, 0, 0, 0] := ⟨by kernel_rfl, by kernel_rfl, by kernel_rfl⟩
theorem eq57 : EqTyOk Tryz.prog 57 [0, 1, 1, 0, 0, 0, 0, 0, 0, 0, 0, 0] := ⟨by kernel_rfl, by kernel_rfl, by kernel_rfl⟩
theorem eq76 : EqTyOk Tryz.prog 76 [0, 1] := ⟨by kernel_rfl, by kernel_rfl, by kernel_rfl⟩
theorem eq77 : EqTyOk Tryz.prog 77 [0, 1] := ⟨by kernel_rfl, by kernel_rfl, by kernel_rfl⟩
theorem eq81 : EqTyOk Tryz.prog 81 [0, 0] := ⟨by kernel_rfl, by kernel_rfl, by kernel_rfl⟩
theorem eq82 : EqTyOk Tryz.prog 82 [0, 0] := ⟨by kernel_rfl, by kernel_rfl, by kernel_rfl⟩
theorem eq84 : EqTyOk Tryz.prog 84 [0, 0, 0, 0, 1] := ⟨by kernel_rfl, by kernel_rfl, by kernel_rfl⟩
theorem eq85 : EqTyOk Tryz.prog 85 [0, 0, 0, 0, 1] := ⟨by kernel_rfl, by kernel_rfl, by kernel_rfl⟩
theorem eq91 : EqTyOk Tryz.prog 91 [0, 0, 0, 0, 0, 0, 0, 0, 0] := ⟨by kernel_rfl, by kernel_rfl, by kernel_rfl⟩
theorem eq112 : EqTyOk Tryz.prog 112 [0, 0, 0, 0] := ⟨by kernel_rfl, by kernel_rfl, by kernel_rfl⟩
theorem eq113 : EqTyOk Tryz.prog 113 [0, 0, 0, 0] := ⟨by kernel_rfl, by kernel_rfl, by kernel_rfl⟩
def eqs : EqT := [(24, [0, 0, 0]), (25, [0, 0, 0]), (30, [0, 0, 1, 0, 0, 0, 0, 0, 0, 0, 0, 0, 0, 0]), (31, [0, 0, 1, 0, 0, 0, 0, 0, 0, 0, 0, 0, 0, 0]), (32, [0, 0, 0, 1, 0, 0, 0, 0, 0, 0, 0, 0, 0, 0, 0]), (33, [0, 0, 0, 1, 0, 0, 0, 0, 0, 0, 0, 0, 0, 0, 0]), (47, [0, 0]), (48, [0, 0]), (52, [0, 0, 0, 0]), (53, [0, 0, 0, 0]), (54, [0, 0, 0, 0, 0, 0]), (55, [0, 0, 0, 0, 0, 0]), (56, [0, 1, 1, 0, 0, 0, 0, 0, 0, 0, 0, 0]), (57, [0, 1, 1, 0, 0, 0, 0, 0, 0, 0, 0, 0]), (76, [0, 1]), (77, [0, 1]), (81, [0, 0]), (82, [0, 0]), (84, [0, 0, 0, 0, 1]), (85, [0, 0, 0, 0, 1]), (91, [0, 0, 0, 0, 0, 0, 0, 0, 0]), (112, [0, 0, 0, 0]), (113, [0, 0, 0, 0])]
theorem eqs_ok : EqOk Tryz.prog eqs := .cons eq24 <| .cons eq25 <| .cons eq30 <| .cons eq31 <| .cons eq32 <| .cons eq33 <| .cons eq47 <| .cons eq48 <| .cons eq52 <| .cons eq53 <| .cons eq54 <| .cons eq55 <| .cons eq56 <| .cons eq57 <| .cons eq76 <| .cons eq77 <| .cons eq81 <| .cons eq82 <| .cons eq84 <| .cons eq85 <| .cons eq91 <| .cons eq112 <| .cons eq113 <| .nil _
theorem E24 : eqty eqs 24 = some [0, 0, 0] := rfl
theorem E25 : eqty eqs 25 = some [0, 0, 0] := rfl
theorem E30 : eqty eqs 30 = some [0, 0, 1, 0, 0, 0, 0, 0, 0, 0, 0, 0, 0, 0] := rfl
theorem E31 : eqty eqs 31 = some [0, 0, 1, 0, 0, 0, 0, 0, 0, 0, 0, 0, 0, 0] := rfl
theorem E32 : eqty eqs 32 = some [0, 0, 0, 1, 0, 0, 0, 0, 0, 0, 0, 0, 0, 0, 0] := rfl
theorem E33 : eqty eqs 33 = some [0, 0, 0, 1, 0, 0, 0, 0, 0, 0, 0, 0, 0, 0, 0] := rfl
theorem E47 : eqty eqs 47 = some [0, 0] := rfl
theorem E48 : eqty eqs 48 = some [0, 0] := rfl
theorem E52 : eqty eqs 52 = some [0, 0, 0, 0] := rfl
theorem E53 : eqty eqs 53 = some [0, 0, 0, 0] := rfl
theorem E54 : eqty eqs 54 = some [0, 0, 0, 0, 0, 0] := rfl
theorem E55 : eqty eqs 55 = some [0, 0, 0, 0, 0, 0] := rfl
theorem E56 : eqty eqs 56 = some [0, 1, 1, 0, 0, 0, 0, 0, 0, 0, 0, 0] := rfl
theorem E57 : eqty eqs 57 = some [0, 1, 1, 0, 0, 0, 0, 0, 0, 0, 0, 0] := rfl
theorem E76 : eqty eqs 76 = some [0, 1] := rfl
theorem E77 : eqty eqs 77 = some [0, 1] := rfl
theorem E81 : eqty eqs 81 = some [0, 0] := rfl
theorem E82 : eqty eqs 82 = some [0, 0] := rfl
theorem E84 : eqty eqs 84 = some [0, 0, 0, 0, 1] := rfl
theorem E85 : eqty eqs 85 = some [0, 0, 0, 0, 1] := rfl
theorem E91 : eqty eqs 91 = some [0, 0, 0, 0, 0, 0, 0, 0, 0] := rfl
theorem E112 : eqty eqs 112 = some [0, 0, 0, 0] := rfl
theorem E113 : eqty eqs 113 = some [0, 0, 0, 0] := rfl
def cx : Cx := ⟨lay, eqs⟩
theorem cx_ok : CxOk Tryz.prog cx := ⟨lay_ok, eqs_ok⟩
/-- floodgate/floodgatelaw38.fifty -/
theorem fn4 : FnOk Tryz.prog 4 := fun args w => Tryz.call4 args w
/-- floodgate/hier.New -/
theorem fn5 : FnOk Tryz.prog 5 := fun args w => Tryz.call5 args w
/-- (*floodgate/hier.Tree).Add -/
theorem fn6 : FnOk Tryz.prog 6 := fun args w => Tryz.call6 args w
/-- (*floodgate/hier.Tree).Del -/
theorem fn7 : FnOk Tryz.prog 7 := fun args w => Tryz.call7 args w
/-- (*floodgate/hier.Tree).Set -/
theorem fn8 : FnOk Tryz.prog 8 := fun args w => Tryz.call8 args w
/-- floodgate/floodgateref19.One -/
theorem fn9 : FnOk Tryz.prog 9 := fun args w => Tryz.call9 args w
/-- floodgate/floodgateref18.Reals -/
theorem fn10 : FnOk Tryz.prog 10 := fun args w => Tryz.call10 args w
/-- floodgate/plan.Room -/
theorem fn11 : FnOk Tryz.prog 11 := fun args w => Tryz.call11 args w
/-- floodgate/plan.Admits -/
theorem fn12 : FnOk Tryz.prog 12 := fun args w => Tryz.call12 args w
/-- floodgate/floodgateref08.Fits -/
theorem fn13 : FnOk Tryz.prog 13 := fun args w => Tryz.call13 args w
/-- floodgate/plan.Delay -/
theorem fn14 : FnOk Tryz.prog 14 := fun args w => Tryz.call14 args w
/-- floodgate/plan.Latest -/
theorem fn15 : FnOk Tryz.prog 15 := fun args w => Tryz.call15 args w
/-- floodgate/spec.Right -/
theorem fn16 : FnOk Tryz.prog 16 := fun args w => Tryz.call16 args w
/-- floodgate/spec.Shares -/
theorem fn17 : FnOk Tryz.prog 17 := fun args w => Tryz.call17 args w
/-- (*floodgate/hier.Tree).shares -/
theorem fn18 : FnOk Tryz.prog 18 := fun args w => Tryz.call18 args w
/-- (*floodgate/hier.Tree).Depth -/
theorem fn19 : FnOk Tryz.prog 19 := fun args w => Tryz.call19 args w
/-- (*floodgate/hier.Tree).Children -/
theorem fn20 : FnOk Tryz.prog 20 := fun args w => Tryz.call20 args w
/-- (*floodgate/hier.Tree).Set$1 -/
theorem fn21 : FnOk Tryz.prog 21 := fun args w => Tryz.call21 args w
/-- slices.ContainsFunc[[]int,int] -/
theorem fn22 : FnOk Tryz.prog 22 := fun args w => Tryz.call22 args w
/-- floodgate/floodgateref18.Add -/
theorem fn23 : FnOk Tryz.prog 23 := fun args w => Tryz.call23 args w
/-- floodgate/floodgateref18.Del -/
theorem fn24 : FnOk Tryz.prog 24 := fun args w => Tryz.call24 args w
/-- floodgate/floodgateref18.Set -/
theorem fn25 : FnOk Tryz.prog 25 := fun args w => Tryz.call25 args w
/-- floodgate/floodgateref04.Of -/
theorem fn26 : FnOk Tryz.prog 26 := fun args w => Tryz.call26 args w
/-- floodgate/admit.Room -/
theorem fn27 : FnOk Tryz.prog 27 := fun args w => Tryz.call27 args w
/-- (*floodgate/hier.Tree).Reals -/
theorem fn28 : FnOk Tryz.prog 28 := fun args w => Tryz.call28 args w
/-- floodgate/admit.Fits -/
theorem fn29 : FnOk Tryz.prog 29 := fun args w => Tryz.call29 args w
/-- slices.Concat[[]floodgate/api.Curve,floodgate/api.Curve] -/
theorem fn30 : FnOk Tryz.prog 30 := fun args w => Tryz.call30 args w
/-- floodgate/floodgateref08.May -/
theorem fn31 : FnOk Tryz.prog 31 := fun args w => Tryz.call31 args w
/-- floodgate/floodgateref08.Full -/
theorem fn32 : FnOk Tryz.prog 32 := fun args w => Tryz.call32 args w
/-- floodgate/plan.together -/
theorem fn33 : FnOk Tryz.prog 33 := fun args w => Tryz.call33 args w
/-- floodgate/curve.Ticks -/
theorem fn34 : FnOk Tryz.prog 34 := fun args w => Tryz.call34 args w
/-- floodgate/wide.Mul -/
theorem fn35 : FnOk Tryz.prog 35 := fun args w => Tryz.call35 args w
/-- floodgate/plan.Latest$1 -/
theorem fn36 : FnOk Tryz.prog 36 := fun args w => Tryz.call36 args w
/-- floodgate/trace.Came -/
theorem fn37 : FnOk Tryz.prog 37 := fun args w => Tryz.call37 args w
/-- floodgate/spans.Of -/
theorem fn38 : FnOk Tryz.prog 38 := fun args w => Tryz.call38 args w
/-- floodgate/spec.from -/
theorem fn39 : FnOk Tryz.prog 39 := fun args w => Tryz.call39 args w
/-- floodgate/curve.Right -/
theorem fn40 : FnOk Tryz.prog 40 := fun args w => Tryz.call40 args w
/-- floodgate/curve.Of -/
theorem fn41 : FnOk Tryz.prog 41 := fun args w => Tryz.call41 args w
/-- floodgate/spec.Real -/
theorem fn42 : FnOk Tryz.prog 42 := fun args w => Tryz.call42 args w
/-- floodgate/spec.Capped -/
theorem fn43 : FnOk Tryz.prog 43 := fun args w => Tryz.call43 args w
/-- floodgate/spec.has -/
theorem fn44 : FnOk Tryz.prog 44 := fun args w => Tryz.call44 args w
/-- (*floodgate/hier.Tree).Up -/
theorem fn45 : FnOk Tryz.prog 45 := fun args w => Tryz.call45 args w
/-- (*floodgate/hier.Tree).which -/
theorem fn46 : FnOk Tryz.prog 46 := fun args w => Tryz.call46 args w
/-- (*floodgate/hier.Tree).Children$1 -/
theorem fn47 : FnOk Tryz.prog 47 := fun args w => Tryz.call47 args w
/-- slices.IndexFunc[[]int,int] -/
theorem fn48 : FnOk Tryz.prog 48 := fun args w => Tryz.call48 args w
/-- floodgate/floodgateref17.Wrong -/
theorem fn49 : FnOk Tryz.prog 49 := fun args w => Tryz.call49 args w
/-- floodgate/floodgateref18.Find -/
theorem fn50 : FnOk Tryz.prog 50 := fun args w => Tryz.call50 args w
/-- floodgate/floodgateref18.Shares -/
theorem fn51 : FnOk Tryz.prog 51 := fun args w => Tryz.call51 args w
/-- floodgate/floodgateref18.Up -/
theorem fn52 : FnOk Tryz.prog 52 := fun args w => Tryz.call52 args w
/-- floodgate/floodgateref18.put -/
theorem fn53 : FnOk Tryz.prog 53 := fun args w => Tryz.call53 args w
/-- floodgate/floodgateref18.Children -/
theorem fn54 : FnOk Tryz.prog 54 := fun args w => Tryz.call54 args w
/-- floodgate/admit.rest -/
theorem fn55 : FnOk Tryz.prog 55 := fun args w => Tryz.call55 args w
/-- floodgate/sum.Slope -/
theorem fn56 : FnOk Tryz.prog 56 := fun args w => Tryz.call56 args w
/-- floodgate/sum.Knees -/
theorem fn57 : FnOk Tryz.prog 57 := fun args w => Tryz.call57 args w
/-- floodgate/sum.Service -/
theorem fn58 : FnOk Tryz.prog 58 := fun args w => Tryz.call58 args w
/-- floodgate/admit.may -/
theorem fn59 : FnOk Tryz.prog 59 := fun args w => Tryz.call59 args w
/-- floodgate/admit.Full -/
theorem fn60 : FnOk Tryz.prog 60 := fun args w => Tryz.call60 args w
/-- slices.Grow[[]floodgate/api.Curve,floodgate/api.Curve] -/
theorem fn61 : FnOk Tryz.prog 61 := fun args w => Tryz.call61 args w
/-- floodgate/floodgateref07.Knees -/
theorem fn62 : FnOk Tryz.prog 62 := fun args w => Tryz.call62 args w
/-- floodgate/floodgateref08.Carries -/
theorem fn63 : FnOk Tryz.prog 63 := fun args w => Tryz.call63 args w
/-- floodgate/floodgateref07.Service -/
theorem fn64 : FnOk Tryz.prog 64 := fun args w => Tryz.call64 args w
/-- floodgate/floodgateref07.Slope -/
theorem fn65 : FnOk Tryz.prog 65 := fun args w => Tryz.call65 args w
/-- floodgate/curve.Service -/
theorem fn66 : FnOk Tryz.prog 66 := fun args w => Tryz.call66 args w
/-- floodgate/wide.Compare -/
theorem fn67 : FnOk Tryz.prog 67 := fun args w => Tryz.call67 args w
/-- floodgate/curve.behind -/
theorem fn68 : FnOk Tryz.prog 68 := fun args w => Tryz.call68 args w
/-- floodgate/wide.Sub -/
theorem fn69 : FnOk Tryz.prog 69 := fun args w => Tryz.call69 args w
/-- floodgate/trace.bytes -/
theorem fn70 : FnOk Tryz.prog 70 := fun args w => Tryz.call70 args w
/-- floodgate/trace.Came$1 -/
theorem fn71 : FnOk Tryz.prog 71 := fun args w => Tryz.call71 args w
/-- floodgate/spans.length -/
theorem fn72 : FnOk Tryz.prog 72 := fun args w => Tryz.call72 args w
/-- (*floodgate/hier.Tree).Get -/
theorem fn73 : FnOk Tryz.prog 73 := fun args w => Tryz.call73 args w
/-- slices.Sort[[]int,int] -/
theorem fn74 : FnOk Tryz.prog 74 := fun args w => Tryz.call74 args w
/-- floodgate/admit.times -/
theorem fn75 : FnOk Tryz.prog 75 := fun args w => Tryz.call75 args w
/-- floodgate/ratio.Floor -/
theorem fn76 : FnOk Tryz.prog 76 := fun args w => Tryz.call76 args w
/-- floodgate/sum.over -/
theorem fn77 : FnOk Tryz.prog 77 := fun args w => Tryz.call77 args w
/-- floodgate/sum.Slope$1 -/
theorem fn78 : FnOk Tryz.prog 78 := fun args w => Tryz.call78 args w
/-- floodgate/wide.Of -/
theorem fn79 : FnOk Tryz.prog 79 := fun args w => Tryz.call79 args w
/-- slices.Sort[[]uint64,uint64] -/
theorem fn80 : FnOk Tryz.prog 80 := fun args w => Tryz.call80 args w
/-- slices.Compact[[]uint64,uint64] -/
theorem fn81 : FnOk Tryz.prog 81 := fun args w => Tryz.call81 args w
/-- floodgate/sum.Service$1 -/
theorem fn82 : FnOk Tryz.prog 82 := fun args w => Tryz.call82 args w
/-- slices.ContainsFunc[[]floodgate/api.Curve,floodgate/api.Curve] -/
theorem fn83 : FnOk Tryz.prog 83 := fun args w => Tryz.call83 args w
/-- floodgate/admit.may$1 -/
theorem fn84 : FnOk Tryz.prog 84 := fun args w => Tryz.call84 args w
/-- slices.IndexFunc[[]uint64,uint64] -/
theorem fn85 : FnOk Tryz.prog 85 := fun args w => Tryz.call85 args w
/-- floodgate/admit.Full$1 -/
theorem fn86 : FnOk Tryz.prog 86 := fun args w => Tryz.call86 args w
/-- floodgate/admit.above -/
theorem fn87 : FnOk Tryz.prog 87 := fun args w => Tryz.call87 args w
/-- floodgate/floodgateref01.Less -/
theorem fn88 : FnOk Tryz.prog 88 := fun args w => Tryz.call88 args w
/-- floodgate/floodgateref01.Mul -/
theorem fn89 : FnOk Tryz.prog 89 := fun args w => Tryz.call89 args w
/-- floodgate/floodgateref08.Times -/
theorem fn90 : FnOk Tryz.prog 90 := fun args w => Tryz.call90 args w
/-- floodgate/floodgateref01.Plus -/
theorem fn91 : FnOk Tryz.prog 91 := fun args w => Tryz.call91 args w
/-- floodgate/floodgateref04.Service -/
theorem fn92 : FnOk Tryz.prog 92 := fun args w => Tryz.call92 args w
/-- floodgate/floodgateref01.Of -/
theorem fn93 : FnOk Tryz.prog 93 := fun args w => Tryz.call93 args w
/-- floodgate/wide.Add -/
theorem fn94 : FnOk Tryz.prog 94 := fun args w => Tryz.call94 args w
/-- floodgate/ratio.Ceil -/
theorem fn95 : FnOk Tryz.prog 95 := fun args w => Tryz.call95 args w
/-- floodgate/wide.sub -/
theorem fn96 : FnOk Tryz.prog 96 := fun args w => Tryz.call96 args w
/-- slices.Contains[[]int,int] -/
theorem fn97 : FnOk Tryz.prog 97 := fun args w => Tryz.call97 args w
/-- math/bits.Len -/
theorem fn99 : FnOk Tryz.prog 99 := fun args w => Tryz.call99 args w
/-- floodgate/wide.Div -/
theorem fn100 : FnOk Tryz.prog 100 := fun args w => Tryz.call100 args w
/-- floodgate/ratio.narrow -/
theorem fn101 : FnOk Tryz.prog 101 := fun args w => Tryz.call101 args w
/-- slices.pdqsortOrdered[uint64] -/
theorem fn102 : FnOk Tryz.prog 102 := fun args w => Tryz.call102 args w
/-- slices.IndexFunc[[]floodgate/api.Curve,floodgate/api.Curve] -/
theorem fn103 : FnOk Tryz.prog 103 := fun args w => Tryz.call103 args w
/-- floodgate/floodgateref01.Lo -/
theorem fn104 : FnOk Tryz.prog 104 := fun args w => Tryz.call104 args w
/-- floodgate/floodgateref01.Hi -/
theorem fn105 : FnOk Tryz.prog 105 := fun args w => Tryz.call105 args w
/-- floodgate/floodgateref01.Two -/
theorem fn106 : FnOk Tryz.prog 106 := fun args w => Tryz.call106 args w
/-- floodgate/floodgateref01.Add -/
theorem fn107 : FnOk Tryz.prog 107 := fun args w => Tryz.call107 args w
/-- floodgate/wide.add -/
theorem fn108 : FnOk Tryz.prog 108 := fun args w => Tryz.call108 args w
/-- slices.Index[[]int,int] -/
theorem fn109 : FnOk Tryz.prog 109 := fun args w => Tryz.call109 args w
/-- math/bits.Len64 -/
theorem fn120 : FnOk Tryz.prog 120 := fun args w => Tryz.call120 args w
/-- slices.insertionSortOrdered[uint64] -/
theorem fn121 : FnOk Tryz.prog 121 := fun args w => Tryz.call121 args w
/-- slices.heapSortOrdered[uint64] -/
theorem fn122 : FnOk Tryz.prog 122 := fun args w => Tryz.call122 args w
/-- slices.breakPatternsOrdered[uint64] -/
theorem fn123 : FnOk Tryz.prog 123 := fun args w => Tryz.call123 args w
/-- slices.choosePivotOrdered[uint64] -/
theorem fn124 : FnOk Tryz.prog 124 := fun args w => Tryz.call124 args w
/-- slices.reverseRangeOrdered[uint64] -/
theorem fn125 : FnOk Tryz.prog 125 := fun args w => Tryz.call125 args w
/-- slices.partialInsertionSortOrdered[uint64] -/
theorem fn126 : FnOk Tryz.prog 126 := fun args w => Tryz.call126 args w
/-- cmp.Less[uint64] -/
theorem fn127 : FnOk Tryz.prog 127 := fun args w => Tryz.call127 args w
/-- slices.partitionEqualOrdered[uint64] -/
theorem fn128 : FnOk Tryz.prog 128 := fun args w => Tryz.call128 args w
/-- slices.partitionOrdered[uint64] -/
theorem fn129 : FnOk Tryz.prog 129 := fun args w => Tryz.call129 args w
/-- slices.nextPowerOfTwo -/
theorem fn131 : FnOk Tryz.prog 131 := fun args w => Tryz.call131 args w
/-- (*slices.xorshift).Next -/
theorem fn132 : FnOk Tryz.prog 132 := fun args w => Tryz.call132 args w
/-- slices.siftDownOrdered[uint64] -/
theorem fn136 : FnOk Tryz.prog 136 := fun args w => Tryz.call136 args w
/-- slices.medianAdjacentOrdered[uint64] -/
theorem fn137 : FnOk Tryz.prog 137 := fun args w => Tryz.call137 args w
/-- slices.medianOrdered[uint64] -/
theorem fn138 : FnOk Tryz.prog 138 := fun args w => Tryz.call138 args w
/-- cmp.isNaN[uint64] -/
theorem fn139 : FnOk Tryz.prog 139 := fun args w => Tryz.call139 args w
/-- slices.order2Ordered[uint64] -/
theorem fn141 : FnOk Tryz.prog 141 := fun args w => Tryz.call141 args w
attribute [go_sem] cx L1 L2 L3 L4 L5 L9 L12 L17 L20 L21 L22 L23 L24 L25 L26 L27 L28 L29 L30 L31 L32 L33 L34 L35 L36 L37 L38 L39 L40 L41 L43 L44 L45 L46 L47 L48 L49 L50 L51 L52 L53 L54 L55 L56 L57 L58 L59 L60 L61 L63 L64 L65 L66 L67 L68 L69 L70 L71 L72 L73 L74 L75 L76 L77 L78 L79 L80 L81 L82 L83 L84 L85 L86 L87 L88 L89 L90 L91 L92 L93 L94 L95 L96 L97 L98 L99 L100 L101 L102 L103 L104 L105 L106 L108 L109 L110 L111 L112 L113 L114 L115 L116 L117 L118 L120 L121 L122 L123 L124 L125 L127 L128 L129 L130 L131 L132 L133 L134 L135 L136 L137 L138 L139 L140 L141 L142 L143 L144 L145 L147 L148 L149 L150 L152 L153 L154 L155 L156 L158 L159 L160 L161 L163 L164 L165 L166 L168 L169 L170 L171 L172 L173 L174 L175 L176 L177 L178 L179 L180 L181 L182 L183 L184 L185 L186 L188 L189 L190 L196 L199 L200 L203 E24 E25 E30 E31 E32 E33 E47 E48 E52 E53 E54 E55 E56 E57 E76 E77 E81 E82 E84 E85 E91 E112 E113
end Go.Fg.X
namespace Go.Fg
set_option linter.unusedSimpArgs false
set_option linter.unusedVariables false
open Go.RowKit (Below)

/-- Whatever cells of type t are trodden, they read ens enc a, for an a that may be. -/
def Rd (P : Program) (t : TypeId) {α : Type} (ok : α → Prop) (enc : α → List D) : Prop :=
  ∀ {H : Type} {en : TypeId × Value → H} {w : World} {base : Nat} {held : Bool} (m : Nat) (cs : List Value) (x : DataW H × List MemPlace), DataW.trod en P w base (fun _ => true) held m t cs = some x →
    ∃ a, ok a ∧ (enc a).length = cs.length ∧ ∀ j, j < cs.length → Cl (fun _ => True) w (nth (enc a) j) (nthV cs j)
theorem Rd.int {P : Program} {t : TypeId} (k : IntKind) (ht : P.underlying t = some (.int k)) : Rd P t (fun n : Int => (Lit.int k n).wf = true) (fun n => [.raw (.int k n)]) := by
  intro H en w base held m cs x h
  obtain ⟨n, rfl, _, hw⟩ := DataW.trod_int ht h
  refine ⟨n, hw, rfl, fun j hj => ?_⟩
  obtain rfl : j = 0 := by simpa using hj
  exact .raw _
theorem Rd.bool {P : Program} {t : TypeId} (ht : P.underlying t = some .bool) : Rd P t (fun _ : Bool => True) (fun n => [.raw (.bool n)]) := by
  intro H en w base held m cs x h
  obtain ⟨n, rfl, _⟩ := DataW.trod_bool ht h
  refine ⟨n, trivial, rfl, fun j hj => ?_⟩
  obtain rfl : j = 0 := by simpa using hj
  exact .raw _
theorem Rd.str {P : Program} {t : TypeId} (ht : P.underlying t = some .string) : Rd P t (fun s : ByteArray => s.size ≤ maxLen) (fun n => [.raw (.string n)]) := by
  intro H en w base held m cs x h
  obtain ⟨n, rfl, _, hw⟩ := DataW.trod_string ht h
  refine ⟨n, hw, rfl, fun j hj => ?_⟩
  obtain rfl : j = 0 := by simpa using hj
  exact .raw _
theorem Rd.map {P : Program} {t : TypeId} {α β : Type} {ok : α → Prop} {enc : α → List D} (r : Rd P t ok enc) (g : α → β) {ok' : β → Prop} {enc' : β → List D} (he : ∀ a, enc' (g a) = enc a) (ho : ∀ a, ok a → ok' (g a)) : Rd P t ok' enc' := by
  intro H en w base held m cs x h
  obtain ⟨a, h1, h2, h3⟩ := r m cs x h
  exact ⟨g a, ho a h1, by rw [he]; exact h2, by rw [he]; exact h3⟩
/-- The fields of a struct, from the cell 'off' on. -/
def RdF (P : Program) (fs : List Field) (off tot : Nat) {α : Type} (ok : α → Prop) (enc : α → List D) : Prop :=
  ∀ {H : Type} {en : TypeId × Value → H} {w : World} {base : Nat} {held : Bool} (m : Nat) (cs : List Value), cs.length = tot →
    (∀ f ∈ fs, ∃ x, DataW.trod en P w base (fun _ => true) held m f.type ((cs.drop f.offset).take (P.cellsOf f.type)) = some x) →
    ∃ a, ok a ∧ off + (enc a).length = tot ∧ ∀ j, off + j < tot → Cl (fun _ => True) w (nth (enc a) j) (nthV cs (off + j))
theorem RdF.nil {P : Program} {tot : Nat} : RdF P [] tot tot (fun _ : Unit => True) (fun _ => []) := by
  intro H en w base held m cs hl h
  exact ⟨(), trivial, rfl, fun j hj => by omega⟩
theorem RdF.cons {P : Program} {f : Field} {fs : List Field} {off off' tot : Nat} {α β : Type} {ok : α → Prop} {enc : α → List D} {ok' : β → Prop} {enc' : β → List D} (r : Rd P f.type ok enc) (rs : RdF P fs off' tot ok' enc')
    (ho : f.offset = off) (hc : off + P.cellsOf f.type = off') (ht : off' ≤ tot) : RdF P (f :: fs) off tot (fun ab : α × β => ok ab.1 ∧ ok' ab.2) (fun ab => enc ab.1 ++ enc' ab.2) := by
  intro H en w base held m cs hl h
  obtain ⟨x, hx⟩ := h f (by simp)
  obtain ⟨a, a1, a2, a3⟩ := r m _ x hx
  obtain ⟨b, b1, b2, b3⟩ := rs m cs hl fun g hg => h g (by simp [hg])
  have hlen : ((cs.drop f.offset).take (P.cellsOf f.type)).length = P.cellsOf f.type := by simp; omega
  rw [hlen] at a2 a3
  refine ⟨(a, b), ⟨a1, b1⟩, by simp; omega, fun j hj => ?_⟩
  by_cases h1 : j < P.cellsOf f.type
  · have := a3 j h1
    have e1 : nth (enc a ++ enc' b) j = nth (enc a) j := nth_append_lt (by omega)
    have e2 : nthV ((cs.drop f.offset).take (P.cellsOf f.type)) j = nthV cs (off + j) := by
      simp only [nthV, List.getD_eq_getElem?_getD, List.getElem?_take, if_pos h1, List.getElem?_drop, ho]
    show Cl _ w (nth (enc a ++ enc' b) j) _
    rw [e1, ← e2]; exact this
  · have e1 : nth (enc a ++ enc' b) j = nth (enc' b) (j - P.cellsOf f.type) := by rw [nth_append_ge (by omega), a2]
    have := b3 (j - P.cellsOf f.type) (by omega)
    show Cl _ w (nth (enc a ++ enc' b) j) _
    rw [e1, show off + j = off' + (j - P.cellsOf f.type) by omega]; exact this
theorem Rd.struct {P : Program} {t : TypeId} {fs : Array Field} {tot : Nat} {α : Type} {ok : α → Prop} {enc : α → List D} (ht : P.underlying t = some (.struct fs)) (hc : P.cellsOf t = tot) (r : RdF P fs.toList 0 tot ok enc) : Rd P t ok enc := by
  intro H en w base held m cs x h
  obtain ⟨xs, m', rfl, _, hl, hxl, hf⟩ := DataW.trod_struct ht h
  obtain ⟨a, a1, a2, a3⟩ := r m' cs (by omega) fun f hf' => by
    obtain ⟨i, hi⟩ := List.getElem?_of_mem hf'
    have hi' : fs[i]? = some f := by simpa using hi
    have hlt : i < xs.length := by rw [hxl]; exact (Array.getElem?_eq_some_iff.1 hi').1
    exact ⟨xs[i], by rw [hf i f hi']; exact List.getElem?_eq_getElem hlt⟩
  exact ⟨a, a1, by omega, fun j hj => by have := a3 j (by omega); rwa [Nat.zero_add] at this⟩
/-- The elements of an array, from the i-th on. -/
def RdA (P : Program) (e : TypeId) (i n : Nat) {α : Type} (ok : α → Prop) (enc : α → List D) : Prop :=
  ∀ {H : Type} {en : TypeId × Value → H} {w : World} {base : Nat} {held : Bool} (m : Nat) (cs : List Value), cs.length = n * P.cellsOf e →
    (∀ k, k < n → ∃ x, DataW.trod en P w base (fun _ => true) held m e ((cs.drop (k * P.cellsOf e)).take (P.cellsOf e)) = some x) →
    ∃ a, ok a ∧ i * P.cellsOf e + (enc a).length = n * P.cellsOf e ∧ ∀ j, i * P.cellsOf e + j < n * P.cellsOf e → Cl (fun _ => True) w (nth (enc a) j) (nthV cs (i * P.cellsOf e + j))
theorem RdA.nil {P : Program} {e : TypeId} {n : Nat} : RdA P e n n (fun _ : Unit => True) (fun _ => []) := by
  intro H en w base held m cs hl h
  exact ⟨(), trivial, rfl, fun j hj => by omega⟩
theorem RdA.cons {P : Program} {e : TypeId} {i n : Nat} {α β : Type} {ok : α → Prop} {enc : α → List D} {ok' : β → Prop} {enc' : β → List D} (hi : i < n) (r : Rd P e ok enc) (rs : RdA P e (i + 1) n ok' enc') :
    RdA P e i n (fun ab : α × β => ok ab.1 ∧ ok' ab.2) (fun ab => enc ab.1 ++ enc' ab.2) := by
  intro H en w base held m cs hl h
  obtain ⟨x, hx⟩ := h i hi
  obtain ⟨a, a1, a2, a3⟩ := r m _ x hx
  obtain ⟨b, b1, b2, b3⟩ := rs m cs hl h
  have hm := Nat.mul_le_mul_right (P.cellsOf e) (show i + 1 ≤ n from hi)
  rw [Nat.add_mul, Nat.one_mul] at hm
  rw [Nat.add_mul, Nat.one_mul] at b2 b3
  have hlen : ((cs.drop (i * P.cellsOf e)).take (P.cellsOf e)).length = P.cellsOf e := by simp; omega
  rw [hlen] at a2 a3
  refine ⟨(a, b), ⟨a1, b1⟩, by simp; omega, fun j hj => ?_⟩
  by_cases h1 : j < P.cellsOf e
  · have := a3 j h1
    have e1 : nth (enc a ++ enc' b) j = nth (enc a) j := nth_append_lt (by omega)
    have e2 : nthV ((cs.drop (i * P.cellsOf e)).take (P.cellsOf e)) j = nthV cs (i * P.cellsOf e + j) := by
      simp only [nthV, List.getD_eq_getElem?_getD, List.getElem?_take, if_pos h1, List.getElem?_drop]
    show Cl _ w (nth (enc a ++ enc' b) j) _
    rw [e1, ← e2]; exact this
  · have e1 : nth (enc a ++ enc' b) j = nth (enc' b) (j - P.cellsOf e) := by rw [nth_append_ge (by omega), a2]
    have := b3 (j - P.cellsOf e) (by omega)
    show Cl _ w (nth (enc a ++ enc' b) j) _
    rw [e1, show i * P.cellsOf e + j = i * P.cellsOf e + P.cellsOf e + (j - P.cellsOf e) by omega]; exact this
theorem Rd.array {P : Program} {t e : TypeId} {n : Nat} {α : Type} {ok : α → Prop} {enc : α → List D} (ht : P.underlying t = some (.array n e)) (hc : P.cellsOf t = n * P.cellsOf e) (r : RdA P e 0 n ok enc) : Rd P t ok enc := by
  intro H en w base held m cs x h
  obtain ⟨xs, m', rfl, _, hl, hxl, hf⟩ := DataW.trod_array ht h
  obtain ⟨a, a1, a2, a3⟩ := r m' cs (by omega) fun k hk => by
    have hlt : k < xs.length := by omega
    exact ⟨xs[k], by rw [hf k hk]; exact List.getElem?_eq_getElem hlt⟩
  simp only [Nat.zero_mul, Nat.zero_add] at a2 a3
  exact ⟨a, a1, by omega, fun j hj => a3 j (by omega)⟩
theorem Rd.slice {P : Program} {t e : TypeId} {α : Type} [Inhabited α] {ok : α → Prop} {enc : α → List D} (sz : Nat) (ht : P.underlying t = some (.slice e)) (hc : P.cellsOf e = sz) (hpos : 0 < sz) (r : Rd P e ok enc) :
    Rd P t (fun l : List α => l.length ≤ maxLen ∧ ∀ a ∈ l, ok a) (fun l => [.imm sz l.length fun i => enc (l.getD i default)]) := by
  intro H en w base held m cs x h
  rcases Deep.open_slice ht h with ⟨rfl, _⟩ | ⟨a, len, cap, m, n', D', Pl, rfl, hb, hl, hm, hmm, _, hel⟩
  · refine ⟨[], ⟨by simp, by simp⟩, rfl, fun j hj => ?_⟩
    obtain rfl : j = 0 := by simpa using hj
    exact .imm _ _ _ _ _ 0 0 (fun _ _ => Go.undef) (fun h => by simp at h) (by simp) (fun i hi => by simp at hi) (fun i j hi => by simp at hi) (fun i j hi => by simp at hi)
  · simp only [if_true] at hmm
    have key : ∀ i, ∃ ac : α × List Value, i < len → ok ac.1 ∧ (enc ac.1).length = sz ∧ ac.2.length = sz ∧ (∀ j, j < sz → w.cell? (a.add (i * sz + j)) = some (nthV ac.2 j)) ∧ ∀ j, j < sz → Cl (fun _ => True) w (nth (enc ac.1) j) (nthV ac.2 j) := fun i => by
      by_cases hi : i < len
      · obtain ⟨cs', h1, h2⟩ := hel i (by omega)
        obtain ⟨x, hx, hxl, hxc⟩ := r n' cs' _ h2
        obtain ⟨_, hlen, hcell⟩ := World.cells?_some h1
        have hl2 : cs'.length = sz := by omega
        refine ⟨(x, cs'), fun _ => ⟨hx, (by show (enc x).length = sz; omega), hl2, fun j hj => ?_, fun j hj => hxc j (by omega)⟩⟩
        have := hcell j (by omega)
        rw [Deep.add_add, hc] at this
        rw [this]
        simp [nthV, List.getD_eq_getElem?_getD, List.getElem?_eq_getElem (show j < cs'.length by omega)]
      · exact ⟨(default, []), fun h => absurd h hi⟩
    obtain ⟨f, hf⟩ := Classical.axiomOfChoice key
    have hlen : ((List.range len).map fun i => (f i).1).length = len := by simp
    have hget : ∀ i, i < len → ((List.range len).map fun i => (f i).1).getD i default = (f i).1 := fun i hi => by simp [List.getD_eq_getElem?_getD, hi]
    refine ⟨(List.range len).map fun i => (f i).1, ⟨by rw [hlen]; omega, fun x hx => ?_⟩, rfl, fun j hj => ?_⟩
    · obtain ⟨i, hi, rfl⟩ := List.mem_map.1 hx
      exact (hf i (List.mem_range.1 hi)).1
    · obtain rfl : j = 0 := by simpa using hj
      show Cl _ w (.imm sz ((List.range len).map fun i => (f i).1).length fun i => enc (((List.range len).map fun i => (f i).1).getD i default)) (.slice (some a) len cap)
      rw [hlen]
      have hspot : 0 < len → a = ⟨a.block, a.off, none⟩ := fun h0 => by
        have h1 := (hf 0 h0).2.2.2.1 0 hpos
        have h2 := World.cell?_spot h1
        obtain ⟨b, o, sp⟩ := a
        simp [Addr.add] at h2
        subst h2; rfl
      refine .imm _ _ _ _ _ a.block a.off (fun i j => nthV (f i).2 j) (fun h0 => by rw [← hspot h0]) hl (fun i hi => ?_) (fun i j hi hj => ⟨trivial, ?_⟩) (fun i j hi hj => ?_)
      · rw [hget i hi]; exact (hf i hi).2.1
      · have h1 := (hf i hi).2.2.2.1 j hj
        rw [hspot (by omega)] at h1
        rw [← h1]
        congr 1
        simp only [Addr.add]
        split <;> simp_all
      · rw [hget i hi]; exact (hf i hi).2.2.2.2 j hj
/-- A parameter of one cell. -/
theorem Rd.one {P : Program} {t : TypeId} {α : Type} {ok : α → Prop} {enc : α → D} (r : Rd P t ok fun a => [enc a]) {H : Type} {en : TypeId × Value → H} {w : World} {base : Nat} {held : Bool} {v : Value} {d : DataW H} {ps : List MemPlace}
    (h : DataW.Trod en P w base (fun _ => true) held t v d ps) (hv : v.cells.toList = [v]) : ∃ a, ok a ∧ Cl (fun _ => True) w (enc a) v := by
  obtain ⟨m, hm⟩ := h
  rw [hv] at hm
  obtain ⟨a, h1, h2, h3⟩ := r m _ _ hm
  exact ⟨a, h1, h3 0 (by simp)⟩
/-- A parameter of several. -/
theorem Rd.many {P : Program} {t : TypeId} {α : Type} {ok : α → Prop} {enc : α → List D} (r : Rd P t ok enc) {H : Type} {en : TypeId × Value → H} {w : World} {base : Nat} {held : Bool} {cs : Array Value} {d : DataW H} {ps : List MemPlace}
    (h : DataW.Trod en P w base (fun _ => true) held t (.agg cs) d ps) : ∃ a, ok a ∧ Cl (fun _ => True) w (.agg (enc a)) (.agg cs) := by
  obtain ⟨m, hm⟩ := h
  have e : (Value.agg cs).cells.toList = cs.toList := rfl
  rw [e] at hm
  obtain ⟨a, h1, h2, h3⟩ := r m _ _ hm
  have := Cl.agg (N := fun _ => True) (w := w) (enc a) cs.toList h2.symm (fun i hi => h3 i (by omega))
  exact ⟨a, h1, by simpa using this⟩
theorem one_cell_slice (a : Option Addr) (l c : Nat) : (Value.slice a l c).cells.toList = [Value.slice a l c] := by simp [Value.cells]
theorem one_cell_int (k : IntKind) (n : Int) : (Value.int k n).cells.toList = [Value.int k n] := by simp [Value.cells]
/-- A contract, ens a call's law: the result is a bool, nothing changes. -/
theorem call_true {P : Program} {f : FuncId} {ds : List D} (h : AFn P f ds fun d h => d = .raw (.bool true) ∧ h = []) (W : World) (vs : List Value) (hl : vs.length = ds.length) (hc : ∀ i, i < ds.length → Cl (fun _ => True) W (nth ds i) (nthV vs i)) :
    Calls P f vs.toArray W fun e W' => e = .returned (.bool true) ∧ Below W.heap.size W W' := by
  refine (h (fun _ => True) W.heap.size W [] vs (Nat.le_refl _) (fun _ _ => trivial) ⟨rfl, fun l l' b q q' e => by simp at e, fun l o e => by simp at e, fun l o b q e => by simp at e⟩ hl (fun i hi => .cl _ _ ((hc i hi).mono fun b _ _ => ⟨⟨trivial, fun l q e => by simp at e⟩, rfl⟩))).mono fun e W' he => ?_
  obtain ⟨v, d, h', pl', rfl, ⟨rfl, rfl⟩, _, hv, _, hb⟩ := he
  rw [inv_raw hv]; exact ⟨rfl, hb⟩
end Go.Fg
namespace Go.Fg.X
set_option linter.unusedSimpArgs false
set_option linter.unusedVariables false
open Go.Proofs Go.Fg
set_option maxRecDepth 100000
def rowsI (k : IntKind) (l : List Int) : Nat → List D := fun i => [.raw (.int k (l.getD i 0))]
@[go_sem] theorem rowsI_at (k : IntKind) (l : List Int) (i : Nat) : rowsI k l i = [.raw (.int k (l.getD i 0))] := rfl

structure Cf where
  t : Int
  lmax : Int
instance : Inhabited Cf := ⟨⟨0, 0⟩⟩
@[go_sem] def Cf.cells (x : Cf) : List D := [.raw (.int .i64 x.t), .raw (.int .i64 x.lmax)]
def Cf.rows (l : List Cf) : Nat → List D := fun i => (l.getD i default).cells
@[go_sem] theorem Cf.rows_at (l : List Cf) (i : Nat) : Cf.rows l i = (l.getD i default).cells := rfl
def Cf.Ok (x : Cf) : Prop := (Lit.int .i64 x.t).wf = true ∧ (Lit.int .i64 x.lmax).wf = true ∧ True
structure Cv where
  m1 : Int
  d : Int
  m2 : Int
instance : Inhabited Cv := ⟨⟨0, 0, 0⟩⟩
@[go_sem] def Cv.cells (x : Cv) : List D := [.raw (.int .u64 x.m1), .raw (.int .u64 x.d), .raw (.int .u64 x.m2)]
def Cv.rows (l : List Cv) : Nat → List D := fun i => (l.getD i default).cells
@[go_sem] theorem Cv.rows_at (l : List Cv) (i : Nat) : Cv.rows l i = (l.getD i default).cells := rfl
def Cv.Ok (x : Cv) : Prop := (Lit.int .u64 x.m1).wf = true ∧ (Lit.int .u64 x.d).wf = true ∧ (Lit.int .u64 x.m2).wf = true ∧ True
theorem rdCv : Rd Tryz.prog 25 Cv.Ok Cv.cells :=
  Rd.map (Rd.struct (tot := 3) Tryz.underlying25 (by kernel_rfl) (RdF.cons (Rd.int .u64 Tryz.underlying23) (RdF.cons (Rd.int .u64 Tryz.underlying23) (RdF.cons (Rd.int .u64 Tryz.underlying23) RdF.nil rfl (by kernel_rfl) (by decide)) rfl (by kernel_rfl) (by decide)) rfl (by kernel_rfl) (by decide))) (fun p => ⟨p.1, p.2.1, p.2.2.1⟩) (fun _ => rfl) (fun _ h => ⟨h.1, h.2.1, h.2.2.1, trivial⟩)
structure Pk where
  iD : Int
  len : Int
  head0 : Int
  head1 : Int
  head2 : Int
  head3 : Int
instance : Inhabited Pk := ⟨⟨0, 0, 0, 0, 0, 0⟩⟩
@[go_sem] def Pk.cells (x : Pk) : List D := [.raw (.int .u64 x.iD), .raw (.int .i64 x.len), .raw (.int .u16 x.head0), .raw (.int .u16 x.head1), .raw (.int .u16 x.head2), .raw (.int .u16 x.head3)]
def Pk.rows (l : List Pk) : Nat → List D := fun i => (l.getD i default).cells
@[go_sem] theorem Pk.rows_at (l : List Pk) (i : Nat) : Pk.rows l i = (l.getD i default).cells := rfl
def Pk.Ok (x : Pk) : Prop := (Lit.int .u64 x.iD).wf = true ∧ (Lit.int .i64 x.len).wf = true ∧ (Lit.int .u16 x.head0).wf = true ∧ (Lit.int .u16 x.head1).wf = true ∧ (Lit.int .u16 x.head2).wf = true ∧ (Lit.int .u16 x.head3).wf = true ∧ True
structure Kls where
  iD : Int
  parent : Int
  leaf : Bool
  rt : Cv
  ls : Cv
  ul : Cv
  pkts : Int
  bytes : Int
instance : Inhabited Kls := ⟨⟨0, 0, false, default, default, default, 0, 0⟩⟩
@[go_sem] def Kls.cells (x : Kls) : List D := [.raw (.int .i64 x.iD), .raw (.int .i64 x.parent), .raw (.bool x.leaf), .raw (.int .u64 x.rt.m1), .raw (.int .u64 x.rt.d), .raw (.int .u64 x.rt.m2), .raw (.int .u64 x.ls.m1), .raw (.int .u64 x.ls.d), .raw (.int .u64 x.ls.m2), .raw (.int .u64 x.ul.m1), .raw (.int .u64 x.ul.d), .raw (.int .u64 x.ul.m2), .raw (.int .i64 x.pkts), .raw (.int .i64 x.bytes)]
def Kls.rows (l : List Kls) : Nat → List D := fun i => (l.getD i default).cells
@[go_sem] theorem Kls.rows_at (l : List Kls) (i : Nat) : Kls.rows l i = (l.getD i default).cells := rfl
def Kls.Ok (x : Kls) : Prop := (Lit.int .i64 x.iD).wf = true ∧ (Lit.int .i64 x.parent).wf = true ∧ True ∧ Cv.Ok x.rt ∧ Cv.Ok x.ls ∧ Cv.Ok x.ul ∧ (Lit.int .i64 x.pkts).wf = true ∧ (Lit.int .i64 x.bytes).wf = true ∧ True
theorem rdKls : Rd Tryz.prog 31 Kls.Ok Kls.cells :=
  Rd.map (Rd.struct (tot := 14) Tryz.underlying31 (by kernel_rfl) (RdF.cons (Rd.int .i64 Tryz.underlying3) (RdF.cons (Rd.int .i64 Tryz.underlying3) (RdF.cons (Rd.bool Tryz.underlying4) (RdF.cons rdCv (RdF.cons rdCv (RdF.cons rdCv (RdF.cons (Rd.int .i64 Tryz.underlying3) (RdF.cons (Rd.int .i64 Tryz.underlying3) RdF.nil rfl (by kernel_rfl) (by decide)) rfl (by kernel_rfl) (by decide)) rfl (by kernel_rfl) (by decide)) rfl (by kernel_rfl) (by decide)) rfl (by kernel_rfl) (by decide)) rfl (by kernel_rfl) (by decide)) rfl (by kernel_rfl) (by decide)) rfl (by kernel_rfl) (by decide))) (fun p => ⟨p.1, p.2.1, p.2.2.1, p.2.2.2.1, p.2.2.2.2.1, p.2.2.2.2.2.1, p.2.2.2.2.2.2.1, p.2.2.2.2.2.2.2.1⟩) (fun _ => rfl) (fun _ h => ⟨h.1, h.2.1, h.2.2.1, h.2.2.2.1, h.2.2.2.2.1, h.2.2.2.2.2.1, h.2.2.2.2.2.2.1, h.2.2.2.2.2.2.2.1, trivial⟩)
structure Chg where
  kind : Int
  cls : Kls
instance : Inhabited Chg := ⟨⟨0, default⟩⟩
@[go_sem] def Chg.cells (x : Chg) : List D := [.raw (.int .i64 x.kind), .raw (.int .i64 x.cls.iD), .raw (.int .i64 x.cls.parent), .raw (.bool x.cls.leaf), .raw (.int .u64 x.cls.rt.m1), .raw (.int .u64 x.cls.rt.d), .raw (.int .u64 x.cls.rt.m2), .raw (.int .u64 x.cls.ls.m1), .raw (.int .u64 x.cls.ls.d), .raw (.int .u64 x.cls.ls.m2), .raw (.int .u64 x.cls.ul.m1), .raw (.int .u64 x.cls.ul.d), .raw (.int .u64 x.cls.ul.m2), .raw (.int .i64 x.cls.pkts), .raw (.int .i64 x.cls.bytes)]
def Chg.rows (l : List Chg) : Nat → List D := fun i => (l.getD i default).cells
@[go_sem] theorem Chg.rows_at (l : List Chg) (i : Nat) : Chg.rows l i = (l.getD i default).cells := rfl
def Chg.Ok (x : Chg) : Prop := (Lit.int .i64 x.kind).wf = true ∧ Kls.Ok x.cls ∧ True
theorem rdChg : Rd Tryz.prog 33 Chg.Ok Chg.cells :=
  Rd.map (Rd.struct (tot := 15) Tryz.underlying33 (by kernel_rfl) (RdF.cons (Rd.int .i64 Tryz.underlying3) (RdF.cons rdKls RdF.nil rfl (by kernel_rfl) (by decide)) rfl (by kernel_rfl) (by decide))) (fun p => ⟨p.1, p.2.1⟩) (fun _ => rfl) (fun _ h => ⟨h.1, h.2.1, trivial⟩)
end Go.Fg.X
namespace Go.Fg.X
open Go.Proofs Go.Fg
set_option maxRecDepth 100000
@[go_sem] def dint (n : Int) : D := .raw (.int .i64 n)
@[go_sem] def dbool (b : Bool) : D := .raw (.bool b)
@[go_sem] def ints (l : List Int) : D := .imm 1 l.length (rowsI .i64 l)
structure Ev where
  op : Int
  inn : Bool
  real : Bool
  at_ : Int
  done : Int
  cls : Int
  id : Int
  len : Int
  h0 : Int
  h1 : Int
  h2 : Int
  h3 : Int
instance : Inhabited Ev := ⟨⟨0, false, false, 0, 0, 0, 0, 0, 0, 0, 0, 0⟩⟩
@[go_sem] def Ev.cells (e : Ev) : List D := [.raw (.int .i64 e.op), .raw (.bool e.inn), .raw (.bool e.real), .raw (.int .u64 e.at_), .raw (.int .u64 e.done), .raw (.int .i64 e.cls), .raw (.int .u64 e.id), .raw (.int .i64 e.len), .raw (.int .u16 e.h0), .raw (.int .u16 e.h1), .raw (.int .u16 e.h2), .raw (.int .u16 e.h3)]
def Ev.Ok (x : Ev) : Prop := (Lit.int .i64 x.op).wf = true ∧ (Lit.int .u64 x.at_).wf = true ∧ (Lit.int .u64 x.done).wf = true ∧ (Lit.int .i64 x.cls).wf = true ∧ (Lit.int .u64 x.id).wf = true ∧ (Lit.int .i64 x.len).wf = true ∧ (Lit.int .u16 x.h0).wf = true ∧ (Lit.int .u16 x.h1).wf = true ∧ (Lit.int .u16 x.h2).wf = true ∧ (Lit.int .u16 x.h3).wf = true
def Ev.rows (l : List Ev) : Nat → List D := fun i => (l.getD i default).cells
@[go_sem] theorem Ev.rows_at (l : List Ev) (i : Nat) : Ev.rows l i = (l.getD i default).cells := rfl
@[go_sem] def evs (l : List Ev) : D := .imm 12 l.length (Ev.rows l)
theorem wrap64 {n : Int} (h1 : -9223372036854775808 ≤ n) (h2 : n ≤ 9223372036854775807) : IntKind.i64.wrap n = n := by
  rw [IntKind.wrap_i64]; omega
theorem wrap_succ {k : Nat} (h : k < 4611686018427387904) : IntKind.i64.wrap ((k : Int) + 1) = ((k + 1 : Nat) : Int) := by
  rw [wrap64 (by omega) (by omega)]; rfl
theorem bz {n : Nat} (h : n = 0) : ((n : Int) == 0) = true := by simp [h]
theorem bnz {n : Nat} (h : n ≠ 0) : ((n : Int) == 0) = false := by simp [h]
theorem dp {n : Nat} (h : n ≠ 0) : decide ((0 : Int) < n) = true := by simp; omega
theorem dnp {n : Nat} (h : n = 0) : decide ((0 : Int) < n) = false := by simp [h]
set_option linter.unusedSimpArgs false
set_option linter.unusedVariables false
def Ret (d : D) : D → List Ob → Prop := fun d' h => d' = d ∧ h = []
attribute [go_sem] Ret
theorem Ret.flat {d : D} (hd : d.flat = true) : ∀ d' h, Ret d d' h → d'.flat = true ∧ ∀ o ∈ h, o.flat := by
  rintro d' h ⟨rfl, rfl⟩; exact ⟨hd, by simp⟩

theorem getD_take {α : Type} (l : List α) (d : α) (k : Nat) (h : k < l.length) : l.take (k + 1) = l.take k ++ [l.getD k d] := by
  rw [List.take_add_one, List.getElem?_eq_getElem h]; simp [List.getD_eq_getElem?_getD, List.getElem?_eq_getElem h]

theorem mixed : Tryz.prog.follows .mixedOrders = true := by kernel_rfl
theorem getD_lt {α : Type} (l : List α) (x d : α) (i : Nat) (h : i < l.length) : (l ++ [x]).getD i d = l.getD i d := by simp [List.getElem?_append_left h]
theorem getD_end {α : Type} (l : List α) (x d : α) : (l ++ [x]).getD l.length d = x := by simp
theorem getD_set_eq {α : Type} (l : List α) (x d : α) (i : Nat) (h : i < l.length) : (l.set i x).getD i d = x := by simp [h]
theorem getD_set_ne' {α : Type} (l : List α) (x d : α) (i j : Nat) (h : j ≠ i) : (l.set j x).getD i d = l.getD i d := by simp [List.getElem?_set_ne h]
/-- Rows of which one more is as it should be. -/
theorem wf_i64 {n : Int} (h : (Lit.int .i64 n).wf = true) : -9223372036854775808 ≤ n ∧ n ≤ 9223372036854775807 := by
  simp only [Lit.wf, Bool.and_eq_true, decide_eq_true_eq] at h
  exact h
theorem wf_u64 {n : Int} (h : (Lit.int .u64 n).wf = true) : 0 ≤ n ∧ n ≤ 18446744073709551615 := by
  simp only [Lit.wf, Bool.and_eq_true, decide_eq_true_eq] at h
  exact h
@[go_sem] theorem cast0 : ((0 : Nat) : Int) = 0 := rfl
@[go_sem] theorem cast1 : ((1 : Nat) : Int) = 1 := rfl
@[go_sem] theorem cast2 : ((2 : Nat) : Int) = 2 := rfl
@[go_sem] theorem cast3 : ((3 : Nat) : Int) = 3 := rfl
@[go_sem] theorem cast4 : ((4 : Nat) : Int) = 4 := rfl
@[go_sem] theorem cast5 : ((5 : Nat) : Int) = 5 := rfl
@[go_sem] theorem cast6 : ((6 : Nat) : Int) = 6 := rfl
@[go_sem] theorem cast7 : ((7 : Nat) : Int) = 7 := rfl
@[go_sem] theorem cast8 : ((8 : Nat) : Int) = 8 := rfl
@[go_sem] theorem cast9 : ((9 : Nat) : Int) = 9 := rfl
@[go_sem] theorem cast10 : ((10 : Nat) : Int) = 10 := rfl
theorem beqT {a b : Int} (h : a = b) : (a == b) = true := by simp [h]
theorem beqF {a b : Int} (h : a ≠ b) : (a == b) = false := by simp [h]
end Go.Fg.X
namespace Go.Fg.X
set_option linter.unusedSimpArgs false
set_option linter.unusedVariables false
open Go.Proofs Go.Fg
@[go_sem] def u64 (n : Nat) : D := .raw (.int .u64 n)
attribute [go_sem] Go.undef
theorem wu_add (a b : Nat) : IntKind.u64.wrap ((a : Int) + (b : Int)) = (((a + b) % 18446744073709551616 : Nat) : Int) := by rw [IntKind.wrap_u64]; omega
theorem wu_mul (a b : Nat) : IntKind.u64.wrap ((a : Int) * (b : Int)) = ((a * b % 18446744073709551616 : Nat) : Int) := by rw [IntKind.wrap_u64, ← Int.natCast_mul]; omega
theorem wu_sub (a b : Nat) (h : b ≤ 18446744073709551616) : IntKind.u64.wrap ((a : Int) - (b : Int)) = (((a + 18446744073709551616 - b) % 18446744073709551616 : Nat) : Int) := by rw [IntKind.wrap_u64]; omega
theorem wu_sub' (a b : Nat) (h : b ≤ a) (ha : a < 18446744073709551616) : IntKind.u64.wrap ((a : Int) - (b : Int)) = ((a - b : Nat) : Int) := by rw [IntKind.wrap_u64]; omega
theorem wu_add' (a b : Nat) (h : a + b < 18446744073709551616) : IntKind.u64.wrap ((a : Int) + (b : Int)) = ((a + b : Nat) : Int) := by rw [IntKind.wrap_u64]; omega
theorem wu_mul' (a b : Nat) (h : a * b < 18446744073709551616) : IntKind.u64.wrap ((a : Int) * (b : Int)) = ((a * b : Nat) : Int) := by rw [wu_mul, Nat.mod_eq_of_lt h]
theorem shr_u (a s : Nat) : ((a : Int).fdiv (2 ^ s)) = ((a / 2 ^ s : Nat) : Int) := by
  have h : ((2 : Int) ^ s) = ((2 ^ s : Nat) : Int) := by simp
  rw [h, Int.fdiv_eq_ediv_of_nonneg _ (Int.natCast_nonneg _), Int.natCast_ediv]
theorem mask32 (a : Nat) (ha : a < 18446744073709551616) : bits .and .u64 (a : Int) 4294967295 = ((a % 4294967296 : Nat) : Int) := by
  have := u64_and_nat a 4294967295 ha (by decide)
  rw [show ((4294967295 : Nat) : Int) = 4294967295 from rfl] at this
  rw [this, show (4294967295 : Nat) = 2 ^ 32 - 1 from rfl, Nat.and_two_pow_sub_one_eq_mod]
theorem or32 (x y : Nat) (hx : x < 4294967296) (hy : y < 4294967296) : bits .or .u64 ((x * 4294967296 : Nat) : Int) (y : Int) = ((x * 4294967296 + y : Nat) : Int) := by
  rw [u64_or_nat _ _ (by omega) (by omega), nat_join 32 _ _ (by rw [show (2 : Nat) ^ 32 = 4294967296 from rfl]; omega) (by simpa using hy)]
theorem top_lt (a : Nat) (ha : a < 18446744073709551616) : a / 9223372036854775808 = 0 ∨ a / 9223372036854775808 = 1 := by omega
theorem top_and (a b : Nat) (ha : a < 18446744073709551616) (hb : b < 18446744073709551616) : (a &&& b) / 9223372036854775808 = (a / 9223372036854775808) &&& (b / 9223372036854775808) := by
  rw [show (9223372036854775808 : Nat) = 2 ^ 63 from rfl, ← Nat.shiftRight_eq_div_pow, Nat.shiftRight_and_distrib, Nat.shiftRight_eq_div_pow, Nat.shiftRight_eq_div_pow]
theorem top_or (a b : Nat) (ha : a < 18446744073709551616) (hb : b < 18446744073709551616) : (a ||| b) / 9223372036854775808 = (a / 9223372036854775808) ||| (b / 9223372036854775808) := by
  rw [show (9223372036854775808 : Nat) = 2 ^ 63 from rfl, ← Nat.shiftRight_eq_div_pow, Nat.shiftRight_or_distrib, Nat.shiftRight_eq_div_pow, Nat.shiftRight_eq_div_pow]
theorem top_xor (a b : Nat) (ha : a < 18446744073709551616) (hb : b < 18446744073709551616) : (a ^^^ b) / 9223372036854775808 = (a / 9223372036854775808) ^^^ (b / 9223372036854775808) := by
  rw [show (9223372036854775808 : Nat) = 2 ^ 63 from rfl, ← Nat.shiftRight_eq_div_pow, Nat.shiftRight_xor_distrib, Nat.shiftRight_eq_div_pow, Nat.shiftRight_eq_div_pow]
/-- The borrow of a difference of two words and a bit. -/
theorem borrow_eq (a b c x y z u v : Nat) (ha : a < 18446744073709551616) (hb : b < 18446744073709551616) (hc : c < 2) (hl : u = (a + 18446744073709551616 - b + 18446744073709551616 - c) % 18446744073709551616)
    (hx : x = a / 9223372036854775808) (hy : y = b / 9223372036854775808) (hz : z = u / 9223372036854775808) (hv : v = (1 ^^^ x) &&& y ||| ((1 ^^^ (x ^^^ y)) &&& z)) : v = if a < b + c then 1 else 0 := by
  have h1 := top_lt a ha
  have h2 := top_lt b hb
  have h3 := top_lt u (by omega)
  rw [← hx] at h1; rw [← hy] at h2; rw [← hz] at h3
  rcases h1 with h1 | h1 <;> rcases h2 with h2 | h2 <;> rcases h3 with h3 | h3 <;> (rw [h1, h2, h3] at hv; simp at hv; subst hv; split <;> omega)
theorem carry_eq (a b c x y z u v : Nat) (ha : a < 18446744073709551616) (hb : b < 18446744073709551616) (hc : c < 2) (hl : u = (a + b + c) % 18446744073709551616)
    (hx : x = a / 9223372036854775808) (hy : y = b / 9223372036854775808) (hz : z = u / 9223372036854775808) (hv : v = x &&& y ||| ((x ||| y) &&& (1 - z))) : v = if 18446744073709551616 ≤ a + b + c then 1 else 0 := by
  have h1 := top_lt a ha
  have h2 := top_lt b hb
  have h3 := top_lt u (by omega)
  rw [← hx] at h1; rw [← hy] at h2; rw [← hz] at h3
  rcases h1 with h1 | h1 <;> rcases h2 with h2 | h2 <;> rcases h3 with h3 | h3 <;> (rw [h1, h2, h3] at hv; simp at hv; subst hv; split <;> omega)
end Go.Fg.X
