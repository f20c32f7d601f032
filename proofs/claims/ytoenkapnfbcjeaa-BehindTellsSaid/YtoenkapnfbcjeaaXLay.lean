/- Facts on the program that a dump holds: the layout of its types, which structs are held against one another cell by cell, and how each function is entered. Written by a program (lay.py). No conditions. -/
import Derived.Test.YtoenkapnfbcjeaaFgTell
import Derived.Test.YtoenkapnfbcjeaaProg
import Derived.KernelRfl
namespace Go.Fg.X
set_option linter.unusedSimpArgs false
set_option linter.unusedVariables false
open Go.Proofs Go.Fg
set_option maxRecDepth 100000

theorem ty1 : TyOk Try.prog 1 ⟨.fn, 1, 8, [.nilFunc]⟩ := ⟨by kernel_rfl, by kernel_rfl⟩
theorem ty2 : TyOk Try.prog 2 ⟨.int .i64, 1, 8, [.int .i64 0]⟩ := ⟨by kernel_rfl, by kernel_rfl⟩
theorem ty3 : TyOk Try.prog 3 ⟨.int .i64, 1, 8, [.int .i64 0]⟩ := ⟨by kernel_rfl, by kernel_rfl⟩
theorem ty4 : TyOk Try.prog 4 ⟨.bool, 1, 1, [.bool false]⟩ := ⟨by kernel_rfl, by kernel_rfl⟩
theorem ty5 : TyOk Try.prog 5 ⟨.int .u8, 1, 1, [.int .u8 0]⟩ := ⟨by kernel_rfl, by kernel_rfl⟩
theorem ty9 : TyOk Try.prog 9 ⟨.str, 1, 16, [.string ByteArray.empty]⟩ := ⟨by kernel_rfl, by kernel_rfl⟩
theorem ty12 : TyOk Try.prog 12 ⟨.int .u64, 1, 8, [.int .u64 0]⟩ := ⟨by kernel_rfl, by kernel_rfl⟩
theorem ty17 : TyOk Try.prog 17 ⟨.ptr 289, 1, 8, [.pointer none]⟩ := ⟨by kernel_rfl, by kernel_rfl⟩
theorem ty20 : TyOk Try.prog 20 ⟨.iface, 1, 16, [.nilIface]⟩ := ⟨by kernel_rfl, by kernel_rfl⟩
theorem ty21 : TyOk Try.prog 21 ⟨.int .i32, 1, 4, [.int .i32 0]⟩ := ⟨by kernel_rfl, by kernel_rfl⟩
theorem ty22 : TyOk Try.prog 22 ⟨.int .u64, 1, 8, [.int .u64 0]⟩ := ⟨by kernel_rfl, by kernel_rfl⟩
theorem ty23 : TyOk Try.prog 23 ⟨.struct [(0, 22), (1, 22), (2, 22)], 3, 24, [.int .u64 0, .int .u64 0, .int .u64 0]⟩ := ⟨by kernel_rfl, by kernel_rfl⟩
theorem ty24 : TyOk Try.prog 24 ⟨.struct [(0, 22), (1, 22), (2, 22)], 3, 24, [.int .u64 0, .int .u64 0, .int .u64 0]⟩ := ⟨by kernel_rfl, by kernel_rfl⟩
theorem ty25 : TyOk Try.prog 25 ⟨.slice 127, 1, 24, [.slice none 0 0]⟩ := ⟨by kernel_rfl, by kernel_rfl⟩
theorem ty26 : TyOk Try.prog 26 ⟨.slice 3, 1, 24, [.slice none 0 0]⟩ := ⟨by kernel_rfl, by kernel_rfl⟩
theorem ty27 : TyOk Try.prog 27 ⟨.struct [(0, 3), (1, 26)], 2, 32, [.int .i64 0, .slice none 0 0]⟩ := ⟨by kernel_rfl, by kernel_rfl⟩
theorem ty28 : TyOk Try.prog 28 ⟨.struct [(0, 3), (1, 26)], 2, 32, [.int .i64 0, .slice none 0 0]⟩ := ⟨by kernel_rfl, by kernel_rfl⟩
theorem ty29 : TyOk Try.prog 29 ⟨.fn, 1, 8, [.nilFunc]⟩ := ⟨by kernel_rfl, by kernel_rfl⟩
theorem ty30 : TyOk Try.prog 30 ⟨.struct [(0, 3), (1, 4)], 2, 16, [.int .i64 0, .bool false]⟩ := ⟨by kernel_rfl, by kernel_rfl⟩
theorem ty31 : TyOk Try.prog 31 ⟨.struct [(0, 3), (1, 4)], 2, 16, [.int .i64 0, .bool false]⟩ := ⟨by kernel_rfl, by kernel_rfl⟩
theorem ty32 : TyOk Try.prog 32 ⟨.fn, 1, 8, [.nilFunc]⟩ := ⟨by kernel_rfl, by kernel_rfl⟩
theorem ty34 : TyOk Try.prog 34 ⟨.fn, 1, 8, [.nilFunc]⟩ := ⟨by kernel_rfl, by kernel_rfl⟩
theorem ty35 : TyOk Try.prog 35 ⟨.fn, 1, 8, [.nilFunc]⟩ := ⟨by kernel_rfl, by kernel_rfl⟩
theorem ty36 : TyOk Try.prog 36 ⟨.fn, 1, 8, [.nilFunc]⟩ := ⟨by kernel_rfl, by kernel_rfl⟩
theorem ty37 : TyOk Try.prog 37 ⟨.struct [(0, 3), (1, 3)], 2, 16, [.int .i64 0, .int .i64 0]⟩ := ⟨by kernel_rfl, by kernel_rfl⟩
theorem ty38 : TyOk Try.prog 38 ⟨.struct [(0, 3), (1, 3)], 2, 16, [.int .i64 0, .int .i64 0]⟩ := ⟨by kernel_rfl, by kernel_rfl⟩
theorem ty39 : TyOk Try.prog 39 ⟨.slice 106, 1, 24, [.slice none 0 0]⟩ := ⟨by kernel_rfl, by kernel_rfl⟩
theorem ty40 : TyOk Try.prog 40 ⟨.struct [(0, 38), (2, 39)], 3, 40, [.int .i64 0, .int .i64 0, .slice none 0 0]⟩ := ⟨by kernel_rfl, by kernel_rfl⟩
theorem ty41 : TyOk Try.prog 41 ⟨.struct [(0, 38), (2, 39)], 3, 40, [.int .i64 0, .int .i64 0, .slice none 0 0]⟩ := ⟨by kernel_rfl, by kernel_rfl⟩
theorem ty42 : TyOk Try.prog 42 ⟨.int .i64, 1, 8, [.int .i64 0]⟩ := ⟨by kernel_rfl, by kernel_rfl⟩
theorem ty44 : TyOk Try.prog 44 ⟨.fn, 1, 8, [.nilFunc]⟩ := ⟨by kernel_rfl, by kernel_rfl⟩
theorem ty45 : TyOk Try.prog 45 ⟨.struct [(0, 41), (3, 3)], 4, 48, [.int .i64 0, .int .i64 0, .slice none 0 0, .int .i64 0]⟩ := ⟨by kernel_rfl, by kernel_rfl⟩
theorem ty46 : TyOk Try.prog 46 ⟨.struct [(0, 41), (3, 3)], 4, 48, [.int .i64 0, .int .i64 0, .slice none 0 0, .int .i64 0]⟩ := ⟨by kernel_rfl, by kernel_rfl⟩
theorem ty47 : TyOk Try.prog 47 ⟨.fn, 1, 8, [.nilFunc]⟩ := ⟨by kernel_rfl, by kernel_rfl⟩
theorem ty48 : TyOk Try.prog 48 ⟨.fn, 1, 8, [.nilFunc]⟩ := ⟨by kernel_rfl, by kernel_rfl⟩
theorem ty49 : TyOk Try.prog 49 ⟨.fn, 1, 8, [.nilFunc]⟩ := ⟨by kernel_rfl, by kernel_rfl⟩
theorem ty50 : TyOk Try.prog 50 ⟨.struct [(0, 22), (1, 3)], 2, 16, [.int .u64 0, .int .i64 0]⟩ := ⟨by kernel_rfl, by kernel_rfl⟩
theorem ty51 : TyOk Try.prog 51 ⟨.struct [(0, 22), (1, 3)], 2, 16, [.int .u64 0, .int .i64 0]⟩ := ⟨by kernel_rfl, by kernel_rfl⟩
theorem ty53 : TyOk Try.prog 53 ⟨.fn, 1, 8, [.nilFunc]⟩ := ⟨by kernel_rfl, by kernel_rfl⟩
theorem ty54 : TyOk Try.prog 54 ⟨.fn, 1, 8, [.nilFunc]⟩ := ⟨by kernel_rfl, by kernel_rfl⟩
theorem ty55 : TyOk Try.prog 55 ⟨.slice 61, 1, 24, [.slice none 0 0]⟩ := ⟨by kernel_rfl, by kernel_rfl⟩
theorem ty56 : TyOk Try.prog 56 ⟨.fn, 1, 8, [.nilFunc]⟩ := ⟨by kernel_rfl, by kernel_rfl⟩
theorem ty57 : TyOk Try.prog 57 ⟨.fn, 1, 8, [.nilFunc]⟩ := ⟨by kernel_rfl, by kernel_rfl⟩
theorem ty58 : TyOk Try.prog 58 ⟨.fn, 1, 8, [.nilFunc]⟩ := ⟨by kernel_rfl, by kernel_rfl⟩
theorem ty59 : TyOk Try.prog 59 ⟨.fn, 1, 8, [.nilFunc]⟩ := ⟨by kernel_rfl, by kernel_rfl⟩
theorem ty60 : TyOk Try.prog 60 ⟨.struct [(0, 22), (1, 22)], 2, 16, [.int .u64 0, .int .u64 0]⟩ := ⟨by kernel_rfl, by kernel_rfl⟩
theorem ty61 : TyOk Try.prog 61 ⟨.struct [(0, 22), (1, 22)], 2, 16, [.int .u64 0, .int .u64 0]⟩ := ⟨by kernel_rfl, by kernel_rfl⟩
theorem ty62 : TyOk Try.prog 62 ⟨.fn, 1, 8, [.nilFunc]⟩ := ⟨by kernel_rfl, by kernel_rfl⟩
theorem ty63 : TyOk Try.prog 63 ⟨.array 2 22, 2, 16, [.int .u64 0, .int .u64 0]⟩ := ⟨by kernel_rfl, by kernel_rfl⟩
theorem ty64 : TyOk Try.prog 64 ⟨.fn, 1, 8, [.nilFunc]⟩ := ⟨by kernel_rfl, by kernel_rfl⟩
theorem ty65 : TyOk Try.prog 65 ⟨.struct [(0, 22), (1, 3)], 2, 16, [.int .u64 0, .int .i64 0]⟩ := ⟨by kernel_rfl, by kernel_rfl⟩
theorem ty66 : TyOk Try.prog 66 ⟨.struct [(0, 22), (1, 3)], 2, 16, [.int .u64 0, .int .i64 0]⟩ := ⟨by kernel_rfl, by kernel_rfl⟩
theorem ty67 : TyOk Try.prog 67 ⟨.fn, 1, 8, [.nilFunc]⟩ := ⟨by kernel_rfl, by kernel_rfl⟩
theorem ty68 : TyOk Try.prog 68 ⟨.fn, 1, 8, [.nilFunc]⟩ := ⟨by kernel_rfl, by kernel_rfl⟩
theorem ty69 : TyOk Try.prog 69 ⟨.struct [(0, 22), (1, 22)], 2, 16, [.int .u64 0, .int .u64 0]⟩ := ⟨by kernel_rfl, by kernel_rfl⟩
theorem ty70 : TyOk Try.prog 70 ⟨.struct [(0, 22), (1, 22)], 2, 16, [.int .u64 0, .int .u64 0]⟩ := ⟨by kernel_rfl, by kernel_rfl⟩
theorem ty71 : TyOk Try.prog 71 ⟨.struct [(0, 3), (1, 22)], 2, 16, [.int .i64 0, .int .u64 0]⟩ := ⟨by kernel_rfl, by kernel_rfl⟩
theorem ty72 : TyOk Try.prog 72 ⟨.struct [(0, 3), (1, 22)], 2, 16, [.int .i64 0, .int .u64 0]⟩ := ⟨by kernel_rfl, by kernel_rfl⟩
theorem ty73 : TyOk Try.prog 73 ⟨.struct [(0, 22), (1, 22)], 2, 16, [.int .u64 0, .int .u64 0]⟩ := ⟨by kernel_rfl, by kernel_rfl⟩
theorem ty74 : TyOk Try.prog 74 ⟨.struct [(0, 22), (1, 22)], 2, 16, [.int .u64 0, .int .u64 0]⟩ := ⟨by kernel_rfl, by kernel_rfl⟩
theorem ty76 : TyOk Try.prog 76 ⟨.fn, 1, 8, [.nilFunc]⟩ := ⟨by kernel_rfl, by kernel_rfl⟩
theorem ty77 : TyOk Try.prog 77 ⟨.fn, 1, 8, [.nilFunc]⟩ := ⟨by kernel_rfl, by kernel_rfl⟩
theorem ty78 : TyOk Try.prog 78 ⟨.array 4 22, 4, 32, [.int .u64 0, .int .u64 0, .int .u64 0, .int .u64 0]⟩ := ⟨by kernel_rfl, by kernel_rfl⟩
theorem ty79 : TyOk Try.prog 79 ⟨.array 4 22, 4, 32, [.int .u64 0, .int .u64 0, .int .u64 0, .int .u64 0]⟩ := ⟨by kernel_rfl, by kernel_rfl⟩
theorem ty80 : TyOk Try.prog 80 ⟨.fn, 1, 8, [.nilFunc]⟩ := ⟨by kernel_rfl, by kernel_rfl⟩
theorem ty81 : TyOk Try.prog 81 ⟨.fn, 1, 8, [.nilFunc]⟩ := ⟨by kernel_rfl, by kernel_rfl⟩
theorem ty82 : TyOk Try.prog 82 ⟨.fn, 1, 8, [.nilFunc]⟩ := ⟨by kernel_rfl, by kernel_rfl⟩
theorem ty83 : TyOk Try.prog 83 ⟨.fn, 1, 8, [.nilFunc]⟩ := ⟨by kernel_rfl, by kernel_rfl⟩
theorem ty84 : TyOk Try.prog 84 ⟨.fn, 1, 8, [.nilFunc]⟩ := ⟨by kernel_rfl, by kernel_rfl⟩
theorem ty85 : TyOk Try.prog 85 ⟨.fn, 1, 8, [.nilFunc]⟩ := ⟨by kernel_rfl, by kernel_rfl⟩
theorem ty86 : TyOk Try.prog 86 ⟨.slice 22, 1, 24, [.slice none 0 0]⟩ := ⟨by kernel_rfl, by kernel_rfl⟩
theorem ty87 : TyOk Try.prog 87 ⟨.fn, 1, 8, [.nilFunc]⟩ := ⟨by kernel_rfl, by kernel_rfl⟩
theorem ty88 : TyOk Try.prog 88 ⟨.fn, 1, 8, [.nilFunc]⟩ := ⟨by kernel_rfl, by kernel_rfl⟩
theorem ty89 : TyOk Try.prog 89 ⟨.fn, 1, 8, [.nilFunc]⟩ := ⟨by kernel_rfl, by kernel_rfl⟩
theorem ty90 : TyOk Try.prog 90 ⟨.fn, 1, 8, [.nilFunc]⟩ := ⟨by kernel_rfl, by kernel_rfl⟩
theorem ty91 : TyOk Try.prog 91 ⟨.fn, 1, 8, [.nilFunc]⟩ := ⟨by kernel_rfl, by kernel_rfl⟩
theorem ty93 : TyOk Try.prog 93 ⟨.fn, 1, 8, [.nilFunc]⟩ := ⟨by kernel_rfl, by kernel_rfl⟩
theorem ty94 : TyOk Try.prog 94 ⟨.struct [(0, 9), (1, 4)], 2, 24, [.string ByteArray.empty, .bool false]⟩ := ⟨by kernel_rfl, by kernel_rfl⟩
theorem ty95 : TyOk Try.prog 95 ⟨.struct [(0, 9), (1, 4)], 2, 24, [.string ByteArray.empty, .bool false]⟩ := ⟨by kernel_rfl, by kernel_rfl⟩
theorem ty96 : TyOk Try.prog 96 ⟨.fn, 1, 8, [.nilFunc]⟩ := ⟨by kernel_rfl, by kernel_rfl⟩
theorem ty97 : TyOk Try.prog 97 ⟨.fn, 1, 8, [.nilFunc]⟩ := ⟨by kernel_rfl, by kernel_rfl⟩
theorem ty98 : TyOk Try.prog 98 ⟨.slice 116, 1, 24, [.slice none 0 0]⟩ := ⟨by kernel_rfl, by kernel_rfl⟩
theorem ty99 : TyOk Try.prog 99 ⟨.slice 180, 1, 24, [.slice none 0 0]⟩ := ⟨by kernel_rfl, by kernel_rfl⟩
theorem ty100 : TyOk Try.prog 100 ⟨.int .u16, 1, 2, [.int .u16 0]⟩ := ⟨by kernel_rfl, by kernel_rfl⟩
theorem ty101 : TyOk Try.prog 101 ⟨.array 4 100, 4, 8, [.int .u16 0, .int .u16 0, .int .u16 0, .int .u16 0]⟩ := ⟨by kernel_rfl, by kernel_rfl⟩
theorem ty102 : TyOk Try.prog 102 ⟨.array 4 100, 4, 8, [.int .u16 0, .int .u16 0, .int .u16 0, .int .u16 0]⟩ := ⟨by kernel_rfl, by kernel_rfl⟩
theorem ty103 : TyOk Try.prog 103 ⟨.struct [(0, 22), (1, 3), (2, 102)], 6, 24, [.int .u64 0, .int .i64 0, .int .u16 0, .int .u16 0, .int .u16 0, .int .u16 0]⟩ := ⟨by kernel_rfl, by kernel_rfl⟩
theorem ty104 : TyOk Try.prog 104 ⟨.struct [(0, 22), (1, 3), (2, 102)], 6, 24, [.int .u64 0, .int .i64 0, .int .u16 0, .int .u16 0, .int .u16 0, .int .u16 0]⟩ := ⟨by kernel_rfl, by kernel_rfl⟩
theorem ty105 : TyOk Try.prog 105 ⟨.struct [(0, 3), (1, 98), (2, 99), (3, 104), (9, 22)], 10, 88, [.int .i64 0, .slice none 0 0, .slice none 0 0, .int .u64 0, .int .i64 0, .int .u16 0, .int .u16 0, .int .u16 0, .int .u16 0, .int .u64 0]⟩ := ⟨by kernel_rfl, by kernel_rfl⟩
theorem ty106 : TyOk Try.prog 106 ⟨.struct [(0, 3), (1, 98), (2, 99), (3, 104), (9, 22)], 10, 88, [.int .i64 0, .slice none 0 0, .slice none 0 0, .int .u64 0, .int .i64 0, .int .u16 0, .int .u16 0, .int .u16 0, .int .u16 0, .int .u64 0]⟩ := ⟨by kernel_rfl, by kernel_rfl⟩
theorem ty107 : TyOk Try.prog 107 ⟨.fn, 1, 8, [.nilFunc]⟩ := ⟨by kernel_rfl, by kernel_rfl⟩
theorem ty108 : TyOk Try.prog 108 ⟨.fn, 1, 8, [.nilFunc]⟩ := ⟨by kernel_rfl, by kernel_rfl⟩
theorem ty109 : TyOk Try.prog 109 ⟨.fn, 1, 8, [.nilFunc]⟩ := ⟨by kernel_rfl, by kernel_rfl⟩
theorem ty110 : TyOk Try.prog 110 ⟨.ptr 185, 1, 8, [.pointer none]⟩ := ⟨by kernel_rfl, by kernel_rfl⟩
theorem ty111 : TyOk Try.prog 111 ⟨.fn, 1, 8, [.nilFunc]⟩ := ⟨by kernel_rfl, by kernel_rfl⟩
theorem ty112 : TyOk Try.prog 112 ⟨.slice 114, 1, 24, [.slice none 0 0]⟩ := ⟨by kernel_rfl, by kernel_rfl⟩
theorem ty113 : TyOk Try.prog 113 ⟨.struct [(0, 3), (1, 3), (2, 4), (3, 24), (6, 24), (9, 24), (12, 3), (13, 3)], 14, 112, [.int .i64 0, .int .i64 0, .bool false, .int .u64 0, .int .u64 0, .int .u64 0, .int .u64 0, .int .u64 0, .int .u64 0, .int .u64 0, .int .u64 0, .int .u64 0, .int .i64 0, .int .i64 0]⟩ := ⟨by kernel_rfl, by kernel_rfl⟩
theorem ty114 : TyOk Try.prog 114 ⟨.struct [(0, 3), (1, 3), (2, 4), (3, 24), (6, 24), (9, 24), (12, 3), (13, 3)], 14, 112, [.int .i64 0, .int .i64 0, .bool false, .int .u64 0, .int .u64 0, .int .u64 0, .int .u64 0, .int .u64 0, .int .u64 0, .int .u64 0, .int .u64 0, .int .u64 0, .int .i64 0, .int .i64 0]⟩ := ⟨by kernel_rfl, by kernel_rfl⟩
theorem ty115 : TyOk Try.prog 115 ⟨.struct [(0, 3), (1, 114)], 15, 120, [.int .i64 0, .int .i64 0, .int .i64 0, .bool false, .int .u64 0, .int .u64 0, .int .u64 0, .int .u64 0, .int .u64 0, .int .u64 0, .int .u64 0, .int .u64 0, .int .u64 0, .int .i64 0, .int .i64 0]⟩ := ⟨by kernel_rfl, by kernel_rfl⟩
theorem ty116 : TyOk Try.prog 116 ⟨.struct [(0, 3), (1, 114)], 15, 120, [.int .i64 0, .int .i64 0, .int .i64 0, .bool false, .int .u64 0, .int .u64 0, .int .u64 0, .int .u64 0, .int .u64 0, .int .u64 0, .int .u64 0, .int .u64 0, .int .u64 0, .int .i64 0, .int .i64 0]⟩ := ⟨by kernel_rfl, by kernel_rfl⟩
theorem ty117 : TyOk Try.prog 117 ⟨.fn, 1, 8, [.nilFunc]⟩ := ⟨by kernel_rfl, by kernel_rfl⟩
theorem ty118 : TyOk Try.prog 118 ⟨.fn, 1, 8, [.nilFunc]⟩ := ⟨by kernel_rfl, by kernel_rfl⟩
theorem ty119 : TyOk Try.prog 119 ⟨.struct [(0, 112), (1, 3)], 2, 32, [.slice none 0 0, .int .i64 0]⟩ := ⟨by kernel_rfl, by kernel_rfl⟩
theorem ty120 : TyOk Try.prog 120 ⟨.struct [(0, 112), (1, 3)], 2, 32, [.slice none 0 0, .int .i64 0]⟩ := ⟨by kernel_rfl, by kernel_rfl⟩
theorem ty121 : TyOk Try.prog 121 ⟨.fn, 1, 8, [.nilFunc]⟩ := ⟨by kernel_rfl, by kernel_rfl⟩
theorem ty122 : TyOk Try.prog 122 ⟨.fn, 1, 8, [.nilFunc]⟩ := ⟨by kernel_rfl, by kernel_rfl⟩
theorem ty123 : TyOk Try.prog 123 ⟨.fn, 1, 8, [.nilFunc]⟩ := ⟨by kernel_rfl, by kernel_rfl⟩
theorem ty124 : TyOk Try.prog 124 ⟨.fn, 1, 8, [.nilFunc]⟩ := ⟨by kernel_rfl, by kernel_rfl⟩
theorem ty125 : TyOk Try.prog 125 ⟨.fn, 1, 8, [.nilFunc]⟩ := ⟨by kernel_rfl, by kernel_rfl⟩
theorem ty126 : TyOk Try.prog 126 ⟨.struct [(0, 3), (1, 4), (2, 4), (3, 22), (4, 22), (5, 3), (6, 104)], 12, 64, [.int .i64 0, .bool false, .bool false, .int .u64 0, .int .u64 0, .int .i64 0, .int .u64 0, .int .i64 0, .int .u16 0, .int .u16 0, .int .u16 0, .int .u16 0]⟩ := ⟨by kernel_rfl, by kernel_rfl⟩
theorem ty127 : TyOk Try.prog 127 ⟨.struct [(0, 3), (1, 4), (2, 4), (3, 22), (4, 22), (5, 3), (6, 104)], 12, 64, [.int .i64 0, .bool false, .bool false, .int .u64 0, .int .u64 0, .int .i64 0, .int .u64 0, .int .i64 0, .int .u16 0, .int .u16 0, .int .u16 0, .int .u16 0]⟩ := ⟨by kernel_rfl, by kernel_rfl⟩
theorem ty128 : TyOk Try.prog 128 ⟨.slice 131, 1, 24, [.slice none 0 0]⟩ := ⟨by kernel_rfl, by kernel_rfl⟩
theorem ty129 : TyOk Try.prog 129 ⟨.fn, 1, 8, [.nilFunc]⟩ := ⟨by kernel_rfl, by kernel_rfl⟩
theorem ty130 : TyOk Try.prog 130 ⟨.struct [(0, 22), (1, 22), (2, 3), (3, 3), (4, 4)], 5, 40, [.int .u64 0, .int .u64 0, .int .i64 0, .int .i64 0, .bool false]⟩ := ⟨by kernel_rfl, by kernel_rfl⟩
theorem ty131 : TyOk Try.prog 131 ⟨.struct [(0, 22), (1, 22), (2, 3), (3, 3), (4, 4)], 5, 40, [.int .u64 0, .int .u64 0, .int .i64 0, .int .i64 0, .bool false]⟩ := ⟨by kernel_rfl, by kernel_rfl⟩
theorem ty132 : TyOk Try.prog 132 ⟨.fn, 1, 8, [.nilFunc]⟩ := ⟨by kernel_rfl, by kernel_rfl⟩
theorem ty133 : TyOk Try.prog 133 ⟨.fn, 1, 8, [.nilFunc]⟩ := ⟨by kernel_rfl, by kernel_rfl⟩
theorem ty134 : TyOk Try.prog 134 ⟨.fn, 1, 8, [.nilFunc]⟩ := ⟨by kernel_rfl, by kernel_rfl⟩
theorem ty135 : TyOk Try.prog 135 ⟨.slice 137, 1, 24, [.slice none 0 0]⟩ := ⟨by kernel_rfl, by kernel_rfl⟩
theorem ty136 : TyOk Try.prog 136 ⟨.fn, 1, 8, [.nilFunc]⟩ := ⟨by kernel_rfl, by kernel_rfl⟩
theorem ty137 : TyOk Try.prog 137 ⟨.struct [(0, 22), (1, 22), (2, 3), (3, 3), (4, 4)], 5, 40, [.int .u64 0, .int .u64 0, .int .i64 0, .int .i64 0, .bool false]⟩ := ⟨by kernel_rfl, by kernel_rfl⟩
theorem ty138 : TyOk Try.prog 138 ⟨.slice 5, 1, 24, [.slice none 0 0]⟩ := ⟨by kernel_rfl, by kernel_rfl⟩
theorem ty139 : TyOk Try.prog 139 ⟨.ptr 142, 1, 8, [.pointer none]⟩ := ⟨by kernel_rfl, by kernel_rfl⟩
theorem ty140 : TyOk Try.prog 140 ⟨.fn, 1, 8, [.nilFunc]⟩ := ⟨by kernel_rfl, by kernel_rfl⟩
theorem ty141 : TyOk Try.prog 141 ⟨.struct [(0, 140), (1, 42)], 2, 16, [.nilFunc, .int .i64 0]⟩ := ⟨by kernel_rfl, by kernel_rfl⟩
theorem ty142 : TyOk Try.prog 142 ⟨.struct [(0, 140), (1, 42)], 2, 16, [.nilFunc, .int .i64 0]⟩ := ⟨by kernel_rfl, by kernel_rfl⟩
theorem ty143 : TyOk Try.prog 143 ⟨.int .u64, 1, 8, [.int .u64 0]⟩ := ⟨by kernel_rfl, by kernel_rfl⟩
theorem ty144 : TyOk Try.prog 144 ⟨.struct [(0, 9), (1, 3), (2, 22), (3, 3)], 4, 40, [.string ByteArray.empty, .int .i64 0, .int .u64 0, .int .i64 0]⟩ := ⟨by kernel_rfl, by kernel_rfl⟩
theorem ty145 : TyOk Try.prog 145 ⟨.struct [(0, 9), (1, 3), (2, 22), (3, 3)], 4, 40, [.string ByteArray.empty, .int .i64 0, .int .u64 0, .int .i64 0]⟩ := ⟨by kernel_rfl, by kernel_rfl⟩
theorem ty146 : TyOk Try.prog 146 ⟨.fn, 1, 8, [.nilFunc]⟩ := ⟨by kernel_rfl, by kernel_rfl⟩
theorem ty148 : TyOk Try.prog 148 ⟨.fn, 1, 8, [.nilFunc]⟩ := ⟨by kernel_rfl, by kernel_rfl⟩
theorem ty149 : TyOk Try.prog 149 ⟨.fn, 1, 8, [.nilFunc]⟩ := ⟨by kernel_rfl, by kernel_rfl⟩
theorem ty151 : TyOk Try.prog 151 ⟨.fn, 1, 8, [.nilFunc]⟩ := ⟨by kernel_rfl, by kernel_rfl⟩
theorem ty152 : TyOk Try.prog 152 ⟨.fn, 1, 8, [.nilFunc]⟩ := ⟨by kernel_rfl, by kernel_rfl⟩
theorem ty153 : TyOk Try.prog 153 ⟨.fn, 1, 8, [.nilFunc]⟩ := ⟨by kernel_rfl, by kernel_rfl⟩
theorem ty154 : TyOk Try.prog 154 ⟨.fn, 1, 8, [.nilFunc]⟩ := ⟨by kernel_rfl, by kernel_rfl⟩
theorem ty155 : TyOk Try.prog 155 ⟨.fn, 1, 8, [.nilFunc]⟩ := ⟨by kernel_rfl, by kernel_rfl⟩
theorem ty156 : TyOk Try.prog 156 ⟨.fn, 1, 8, [.nilFunc]⟩ := ⟨by kernel_rfl, by kernel_rfl⟩
theorem ty157 : TyOk Try.prog 157 ⟨.fn, 1, 8, [.nilFunc]⟩ := ⟨by kernel_rfl, by kernel_rfl⟩
theorem ty158 : TyOk Try.prog 158 ⟨.fn, 1, 8, [.nilFunc]⟩ := ⟨by kernel_rfl, by kernel_rfl⟩
theorem ty159 : TyOk Try.prog 159 ⟨.fn, 1, 8, [.nilFunc]⟩ := ⟨by kernel_rfl, by kernel_rfl⟩
theorem ty160 : TyOk Try.prog 160 ⟨.struct [(0, 22), (1, 3)], 2, 16, [.int .u64 0, .int .i64 0]⟩ := ⟨by kernel_rfl, by kernel_rfl⟩
theorem ty161 : TyOk Try.prog 161 ⟨.fn, 1, 8, [.nilFunc]⟩ := ⟨by kernel_rfl, by kernel_rfl⟩
theorem ty162 : TyOk Try.prog 162 ⟨.fn, 1, 8, [.nilFunc]⟩ := ⟨by kernel_rfl, by kernel_rfl⟩
theorem ty163 : TyOk Try.prog 163 ⟨.fn, 1, 8, [.nilFunc]⟩ := ⟨by kernel_rfl, by kernel_rfl⟩
theorem ty164 : TyOk Try.prog 164 ⟨.int .i64, 1, 8, [.int .i64 0]⟩ := ⟨by kernel_rfl, by kernel_rfl⟩
theorem ty165 : TyOk Try.prog 165 ⟨.fn, 1, 8, [.nilFunc]⟩ := ⟨by kernel_rfl, by kernel_rfl⟩
theorem ty166 : TyOk Try.prog 166 ⟨.fn, 1, 8, [.nilFunc]⟩ := ⟨by kernel_rfl, by kernel_rfl⟩
theorem ty167 : TyOk Try.prog 167 ⟨.fn, 1, 8, [.nilFunc]⟩ := ⟨by kernel_rfl, by kernel_rfl⟩
theorem ty168 : TyOk Try.prog 168 ⟨.fn, 1, 8, [.nilFunc]⟩ := ⟨by kernel_rfl, by kernel_rfl⟩
theorem ty169 : TyOk Try.prog 169 ⟨.fn, 1, 8, [.nilFunc]⟩ := ⟨by kernel_rfl, by kernel_rfl⟩
theorem ty170 : TyOk Try.prog 170 ⟨.fn, 1, 8, [.nilFunc]⟩ := ⟨by kernel_rfl, by kernel_rfl⟩
theorem ty171 : TyOk Try.prog 171 ⟨.fn, 1, 8, [.nilFunc]⟩ := ⟨by kernel_rfl, by kernel_rfl⟩
theorem ty173 : TyOk Try.prog 173 ⟨.fn, 1, 8, [.nilFunc]⟩ := ⟨by kernel_rfl, by kernel_rfl⟩
theorem ty174 : TyOk Try.prog 174 ⟨.slice 177, 1, 24, [.slice none 0 0]⟩ := ⟨by kernel_rfl, by kernel_rfl⟩
theorem ty175 : TyOk Try.prog 175 ⟨.fn, 1, 8, [.nilFunc]⟩ := ⟨by kernel_rfl, by kernel_rfl⟩
theorem ty176 : TyOk Try.prog 176 ⟨.struct [(0, 22), (1, 3), (2, 22), (3, 22)], 4, 32, [.int .u64 0, .int .i64 0, .int .u64 0, .int .u64 0]⟩ := ⟨by kernel_rfl, by kernel_rfl⟩
theorem ty177 : TyOk Try.prog 177 ⟨.struct [(0, 22), (1, 3), (2, 22), (3, 22)], 4, 32, [.int .u64 0, .int .i64 0, .int .u64 0, .int .u64 0]⟩ := ⟨by kernel_rfl, by kernel_rfl⟩
theorem ty178 : TyOk Try.prog 178 ⟨.fn, 1, 8, [.nilFunc]⟩ := ⟨by kernel_rfl, by kernel_rfl⟩
theorem ty179 : TyOk Try.prog 179 ⟨.struct [(0, 102), (4, 102), (8, 3)], 9, 24, [.int .u16 0, .int .u16 0, .int .u16 0, .int .u16 0, .int .u16 0, .int .u16 0, .int .u16 0, .int .u16 0, .int .i64 0]⟩ := ⟨by kernel_rfl, by kernel_rfl⟩
theorem ty180 : TyOk Try.prog 180 ⟨.struct [(0, 102), (4, 102), (8, 3)], 9, 24, [.int .u16 0, .int .u16 0, .int .u16 0, .int .u16 0, .int .u16 0, .int .u16 0, .int .u16 0, .int .u16 0, .int .i64 0]⟩ := ⟨by kernel_rfl, by kernel_rfl⟩
theorem ty181 : TyOk Try.prog 181 ⟨.fn, 1, 8, [.nilFunc]⟩ := ⟨by kernel_rfl, by kernel_rfl⟩
theorem ty182 : TyOk Try.prog 182 ⟨.fn, 1, 8, [.nilFunc]⟩ := ⟨by kernel_rfl, by kernel_rfl⟩
theorem ty183 : TyOk Try.prog 183 ⟨.map 3 114, 1, 8, [.map none]⟩ := ⟨by kernel_rfl, by kernel_rfl⟩
theorem ty184 : TyOk Try.prog 184 ⟨.struct [(0, 183)], 1, 8, [.map none]⟩ := ⟨by kernel_rfl, by kernel_rfl⟩
theorem ty185 : TyOk Try.prog 185 ⟨.struct [(0, 183)], 1, 8, [.map none]⟩ := ⟨by kernel_rfl, by kernel_rfl⟩
theorem ty187 : TyOk Try.prog 187 ⟨.fn, 1, 8, [.nilFunc]⟩ := ⟨by kernel_rfl, by kernel_rfl⟩
theorem ty188 : TyOk Try.prog 188 ⟨.fn, 1, 8, [.nilFunc]⟩ := ⟨by kernel_rfl, by kernel_rfl⟩
theorem ty189 : TyOk Try.prog 189 ⟨.fn, 1, 8, [.nilFunc]⟩ := ⟨by kernel_rfl, by kernel_rfl⟩
theorem ty190 : TyOk Try.prog 190 ⟨.fn, 1, 8, [.nilFunc]⟩ := ⟨by kernel_rfl, by kernel_rfl⟩
theorem ty191 : TyOk Try.prog 191 ⟨.fn, 1, 8, [.nilFunc]⟩ := ⟨by kernel_rfl, by kernel_rfl⟩
theorem ty192 : TyOk Try.prog 192 ⟨.fn, 1, 8, [.nilFunc]⟩ := ⟨by kernel_rfl, by kernel_rfl⟩
theorem ty193 : TyOk Try.prog 193 ⟨.fn, 1, 8, [.nilFunc]⟩ := ⟨by kernel_rfl, by kernel_rfl⟩
theorem ty194 : TyOk Try.prog 194 ⟨.fn, 1, 8, [.nilFunc]⟩ := ⟨by kernel_rfl, by kernel_rfl⟩
theorem ty195 : TyOk Try.prog 195 ⟨.fn, 1, 8, [.nilFunc]⟩ := ⟨by kernel_rfl, by kernel_rfl⟩
theorem ty196 : TyOk Try.prog 196 ⟨.fn, 1, 8, [.nilFunc]⟩ := ⟨by kernel_rfl, by kernel_rfl⟩
theorem ty197 : TyOk Try.prog 197 ⟨.fn, 1, 8, [.nilFunc]⟩ := ⟨by kernel_rfl, by kernel_rfl⟩
theorem ty198 : TyOk Try.prog 198 ⟨.fn, 1, 8, [.nilFunc]⟩ := ⟨by kernel_rfl, by kernel_rfl⟩
theorem ty199 : TyOk Try.prog 199 ⟨.fn, 1, 8, [.nilFunc]⟩ := ⟨by kernel_rfl, by kernel_rfl⟩
theorem ty200 : TyOk Try.prog 200 ⟨.ptr 137, 1, 8, [.pointer none]⟩ := ⟨by kernel_rfl, by kernel_rfl⟩
theorem ty201 : TyOk Try.prog 201 ⟨.fn, 1, 8, [.nilFunc]⟩ := ⟨by kernel_rfl, by kernel_rfl⟩
theorem ty202 : TyOk Try.prog 202 ⟨.fn, 1, 8, [.nilFunc]⟩ := ⟨by kernel_rfl, by kernel_rfl⟩
theorem ty203 : TyOk Try.prog 203 ⟨.fn, 1, 8, [.nilFunc]⟩ := ⟨by kernel_rfl, by kernel_rfl⟩
theorem ty205 : TyOk Try.prog 205 ⟨.fn, 1, 8, [.nilFunc]⟩ := ⟨by kernel_rfl, by kernel_rfl⟩
theorem ty207 : TyOk Try.prog 207 ⟨.fn, 1, 8, [.nilFunc]⟩ := ⟨by kernel_rfl, by kernel_rfl⟩
theorem ty209 : TyOk Try.prog 209 ⟨.fn, 1, 8, [.nilFunc]⟩ := ⟨by kernel_rfl, by kernel_rfl⟩
theorem ty210 : TyOk Try.prog 210 ⟨.fn, 1, 8, [.nilFunc]⟩ := ⟨by kernel_rfl, by kernel_rfl⟩
theorem ty212 : TyOk Try.prog 212 ⟨.fn, 1, 8, [.nilFunc]⟩ := ⟨by kernel_rfl, by kernel_rfl⟩
theorem ty213 : TyOk Try.prog 213 ⟨.fn, 1, 8, [.nilFunc]⟩ := ⟨by kernel_rfl, by kernel_rfl⟩
theorem ty214 : TyOk Try.prog 214 ⟨.fn, 1, 8, [.nilFunc]⟩ := ⟨by kernel_rfl, by kernel_rfl⟩
theorem ty216 : TyOk Try.prog 216 ⟨.fn, 1, 8, [.nilFunc]⟩ := ⟨by kernel_rfl, by kernel_rfl⟩
theorem ty217 : TyOk Try.prog 217 ⟨.array 2 70, 4, 32, [.int .u64 0, .int .u64 0, .int .u64 0, .int .u64 0]⟩ := ⟨by kernel_rfl, by kernel_rfl⟩
theorem ty218 : TyOk Try.prog 218 ⟨.fn, 1, 8, [.nilFunc]⟩ := ⟨by kernel_rfl, by kernel_rfl⟩
theorem ty219 : TyOk Try.prog 219 ⟨.fn, 1, 8, [.nilFunc]⟩ := ⟨by kernel_rfl, by kernel_rfl⟩
theorem ty220 : TyOk Try.prog 220 ⟨.fn, 1, 8, [.nilFunc]⟩ := ⟨by kernel_rfl, by kernel_rfl⟩
theorem ty221 : TyOk Try.prog 221 ⟨.fn, 1, 8, [.nilFunc]⟩ := ⟨by kernel_rfl, by kernel_rfl⟩
theorem ty222 : TyOk Try.prog 222 ⟨.fn, 1, 8, [.nilFunc]⟩ := ⟨by kernel_rfl, by kernel_rfl⟩
theorem ty223 : TyOk Try.prog 223 ⟨.array 3 24, 9, 72, [.int .u64 0, .int .u64 0, .int .u64 0, .int .u64 0, .int .u64 0, .int .u64 0, .int .u64 0, .int .u64 0, .int .u64 0]⟩ := ⟨by kernel_rfl, by kernel_rfl⟩
theorem ty224 : TyOk Try.prog 224 ⟨.fn, 1, 8, [.nilFunc]⟩ := ⟨by kernel_rfl, by kernel_rfl⟩
theorem ty225 : TyOk Try.prog 225 ⟨.fn, 1, 8, [.nilFunc]⟩ := ⟨by kernel_rfl, by kernel_rfl⟩
theorem ty226 : TyOk Try.prog 226 ⟨.fn, 1, 8, [.nilFunc]⟩ := ⟨by kernel_rfl, by kernel_rfl⟩
theorem ty227 : TyOk Try.prog 227 ⟨.fn, 1, 8, [.nilFunc]⟩ := ⟨by kernel_rfl, by kernel_rfl⟩
theorem ty228 : TyOk Try.prog 228 ⟨.fn, 1, 8, [.nilFunc]⟩ := ⟨by kernel_rfl, by kernel_rfl⟩
theorem ty229 : TyOk Try.prog 229 ⟨.fn, 1, 8, [.nilFunc]⟩ := ⟨by kernel_rfl, by kernel_rfl⟩
theorem ty231 : TyOk Try.prog 231 ⟨.fn, 1, 8, [.nilFunc]⟩ := ⟨by kernel_rfl, by kernel_rfl⟩
theorem ty232 : TyOk Try.prog 232 ⟨.fn, 1, 8, [.nilFunc]⟩ := ⟨by kernel_rfl, by kernel_rfl⟩
theorem ty233 : TyOk Try.prog 233 ⟨.fn, 1, 8, [.nilFunc]⟩ := ⟨by kernel_rfl, by kernel_rfl⟩
theorem ty234 : TyOk Try.prog 234 ⟨.fn, 1, 8, [.nilFunc]⟩ := ⟨by kernel_rfl, by kernel_rfl⟩
theorem ty235 : TyOk Try.prog 235 ⟨.fn, 1, 8, [.nilFunc]⟩ := ⟨by kernel_rfl, by kernel_rfl⟩
theorem ty236 : TyOk Try.prog 236 ⟨.fn, 1, 8, [.nilFunc]⟩ := ⟨by kernel_rfl, by kernel_rfl⟩
theorem ty237 : TyOk Try.prog 237 ⟨.fn, 1, 8, [.nilFunc]⟩ := ⟨by kernel_rfl, by kernel_rfl⟩
theorem ty238 : TyOk Try.prog 238 ⟨.fn, 1, 8, [.nilFunc]⟩ := ⟨by kernel_rfl, by kernel_rfl⟩
theorem ty239 : TyOk Try.prog 239 ⟨.fn, 1, 8, [.nilFunc]⟩ := ⟨by kernel_rfl, by kernel_rfl⟩
theorem ty241 : TyOk Try.prog 241 ⟨.fn, 1, 8, [.nilFunc]⟩ := ⟨by kernel_rfl, by kernel_rfl⟩
theorem ty242 : TyOk Try.prog 242 ⟨.fn, 1, 8, [.nilFunc]⟩ := ⟨by kernel_rfl, by kernel_rfl⟩
theorem ty243 : TyOk Try.prog 243 ⟨.fn, 1, 8, [.nilFunc]⟩ := ⟨by kernel_rfl, by kernel_rfl⟩
theorem ty244 : TyOk Try.prog 244 ⟨.fn, 1, 8, [.nilFunc]⟩ := ⟨by kernel_rfl, by kernel_rfl⟩
theorem ty245 : TyOk Try.prog 245 ⟨.fn, 1, 8, [.nilFunc]⟩ := ⟨by kernel_rfl, by kernel_rfl⟩
theorem ty246 : TyOk Try.prog 246 ⟨.fn, 1, 8, [.nilFunc]⟩ := ⟨by kernel_rfl, by kernel_rfl⟩
theorem ty247 : TyOk Try.prog 247 ⟨.fn, 1, 8, [.nilFunc]⟩ := ⟨by kernel_rfl, by kernel_rfl⟩
theorem ty248 : TyOk Try.prog 248 ⟨.fn, 1, 8, [.nilFunc]⟩ := ⟨by kernel_rfl, by kernel_rfl⟩
theorem ty249 : TyOk Try.prog 249 ⟨.fn, 1, 8, [.nilFunc]⟩ := ⟨by kernel_rfl, by kernel_rfl⟩
theorem ty251 : TyOk Try.prog 251 ⟨.fn, 1, 8, [.nilFunc]⟩ := ⟨by kernel_rfl, by kernel_rfl⟩
theorem ty252 : TyOk Try.prog 252 ⟨.fn, 1, 8, [.nilFunc]⟩ := ⟨by kernel_rfl, by kernel_rfl⟩
theorem ty253 : TyOk Try.prog 253 ⟨.fn, 1, 8, [.nilFunc]⟩ := ⟨by kernel_rfl, by kernel_rfl⟩
theorem ty254 : TyOk Try.prog 254 ⟨.fn, 1, 8, [.nilFunc]⟩ := ⟨by kernel_rfl, by kernel_rfl⟩
theorem ty255 : TyOk Try.prog 255 ⟨.fn, 1, 8, [.nilFunc]⟩ := ⟨by kernel_rfl, by kernel_rfl⟩
theorem ty256 : TyOk Try.prog 256 ⟨.int .i64, 1, 8, [.int .i64 0]⟩ := ⟨by kernel_rfl, by kernel_rfl⟩
theorem ty258 : TyOk Try.prog 258 ⟨.fn, 1, 8, [.nilFunc]⟩ := ⟨by kernel_rfl, by kernel_rfl⟩
theorem ty259 : TyOk Try.prog 259 ⟨.fn, 1, 8, [.nilFunc]⟩ := ⟨by kernel_rfl, by kernel_rfl⟩
theorem ty260 : TyOk Try.prog 260 ⟨.fn, 1, 8, [.nilFunc]⟩ := ⟨by kernel_rfl, by kernel_rfl⟩
theorem ty261 : TyOk Try.prog 261 ⟨.fn, 1, 8, [.nilFunc]⟩ := ⟨by kernel_rfl, by kernel_rfl⟩
theorem ty262 : TyOk Try.prog 262 ⟨.fn, 1, 8, [.nilFunc]⟩ := ⟨by kernel_rfl, by kernel_rfl⟩
theorem ty263 : TyOk Try.prog 263 ⟨.fn, 1, 8, [.nilFunc]⟩ := ⟨by kernel_rfl, by kernel_rfl⟩
theorem ty264 : TyOk Try.prog 264 ⟨.int .u32, 1, 4, [.int .u32 0]⟩ := ⟨by kernel_rfl, by kernel_rfl⟩
theorem ty265 : TyOk Try.prog 265 ⟨.fn, 1, 8, [.nilFunc]⟩ := ⟨by kernel_rfl, by kernel_rfl⟩
theorem ty266 : TyOk Try.prog 266 ⟨.int .u64, 1, 8, [.int .u64 0]⟩ := ⟨by kernel_rfl, by kernel_rfl⟩
theorem ty267 : TyOk Try.prog 267 ⟨.fn, 1, 8, [.nilFunc]⟩ := ⟨by kernel_rfl, by kernel_rfl⟩
theorem ty268 : TyOk Try.prog 268 ⟨.fn, 1, 8, [.nilFunc]⟩ := ⟨by kernel_rfl, by kernel_rfl⟩
theorem ty269 : TyOk Try.prog 269 ⟨.fn, 1, 8, [.nilFunc]⟩ := ⟨by kernel_rfl, by kernel_rfl⟩
theorem ty270 : TyOk Try.prog 270 ⟨.ptr 3, 1, 8, [.pointer none]⟩ := ⟨by kernel_rfl, by kernel_rfl⟩
theorem ty271 : TyOk Try.prog 271 ⟨.fn, 1, 8, [.nilFunc]⟩ := ⟨by kernel_rfl, by kernel_rfl⟩
theorem ty272 : TyOk Try.prog 272 ⟨.ptr 266, 1, 8, [.pointer none]⟩ := ⟨by kernel_rfl, by kernel_rfl⟩
theorem ty274 : TyOk Try.prog 274 ⟨.fn, 1, 8, [.nilFunc]⟩ := ⟨by kernel_rfl, by kernel_rfl⟩
theorem ty275 : TyOk Try.prog 275 ⟨.fn, 1, 8, [.nilFunc]⟩ := ⟨by kernel_rfl, by kernel_rfl⟩
theorem ty281 : TyOk Try.prog 281 ⟨.fn, 1, 8, [.nilFunc]⟩ := ⟨by kernel_rfl, by kernel_rfl⟩
theorem ty284 : TyOk Try.prog 284 ⟨.fn, 1, 8, [.nilFunc]⟩ := ⟨by kernel_rfl, by kernel_rfl⟩
theorem ty285 : TyOk Try.prog 285 ⟨.ptr 5, 1, 8, [.pointer none]⟩ := ⟨by kernel_rfl, by kernel_rfl⟩
theorem ty288 : TyOk Try.prog 288 ⟨.struct [(0, 12), (1, 12), (2, 264), (3, 282), (4, 5), (5, 5), (6, 283), (7, 284), (8, 285), (9, 286), (10, 287)], 11, 48, [.int .u64 0, .int .u64 0, .int .u32 0, .int .u8 0, .int .u8 0, .int .u8 0, .int .u8 0, .nilFunc, .pointer none, .int .i32 0, .int .i32 0]⟩ := ⟨by kernel_rfl, by kernel_rfl⟩
def lay : Lay := [(1, ⟨.fn, 1, 8, [.nilFunc]⟩),
  (2, ⟨.int .i64, 1, 8, [.int .i64 0]⟩),
  (3, ⟨.int .i64, 1, 8, [.int .i64 0]⟩),
  (4, ⟨.bool, 1, 1, [.bool false]⟩),
  (5, ⟨.int .u8, 1, 1, [.int .u8 0]⟩),
  (9, ⟨.str, 1, 16, [.string ByteArray.empty]⟩),
  (12, ⟨.int .u64, 1, 8, [.int .u64 0]⟩),
  (17, ⟨.ptr 289, 1, 8, [.pointer none]⟩),
  (20, ⟨.iface, 1, 16, [.nilIface]⟩),
  (21, ⟨.int .i32, 1, 4, [.int .i32 0]⟩),
  (22, ⟨.int .u64, 1, 8, [.int .u64 0]⟩),
  (23, ⟨.struct [(0, 22), (1, 22), (2, 22)], 3, 24, [.int .u64 0, .int .u64 0, .int .u64 0]⟩),
  (24, ⟨.struct [(0, 22), (1, 22), (2, 22)], 3, 24, [.int .u64 0, .int .u64 0, .int .u64 0]⟩),
  (25, ⟨.slice 127, 1, 24, [.slice none 0 0]⟩),
  (26, ⟨.slice 3, 1, 24, [.slice none 0 0]⟩),
  (27, ⟨.struct [(0, 3), (1, 26)], 2, 32, [.int .i64 0, .slice none 0 0]⟩),
  (28, ⟨.struct [(0, 3), (1, 26)], 2, 32, [.int .i64 0, .slice none 0 0]⟩),
  (29, ⟨.fn, 1, 8, [.nilFunc]⟩),
  (30, ⟨.struct [(0, 3), (1, 4)], 2, 16, [.int .i64 0, .bool false]⟩),
  (31, ⟨.struct [(0, 3), (1, 4)], 2, 16, [.int .i64 0, .bool false]⟩),
  (32, ⟨.fn, 1, 8, [.nilFunc]⟩),
  (34, ⟨.fn, 1, 8, [.nilFunc]⟩),
  (35, ⟨.fn, 1, 8, [.nilFunc]⟩),
  (36, ⟨.fn, 1, 8, [.nilFunc]⟩),
  (37, ⟨.struct [(0, 3), (1, 3)], 2, 16, [.int .i64 0, .int .i64 0]⟩),
  (38, ⟨.struct [(0, 3), (1, 3)], 2, 16, [.int .i64 0, .int .i64 0]⟩),
  (39, ⟨.slice 106, 1, 24, [.slice none 0 0]⟩),
  (40, ⟨.struct [(0, 38), (2, 39)], 3, 40, [.int .i64 0, .int .i64 0, .slice none 0 0]⟩),
  (41, ⟨.struct [(0, 38), (2, 39)], 3, 40, [.int .i64 0, .int .i64 0, .slice none 0 0]⟩),
  (42, ⟨.int .i64, 1, 8, [.int .i64 0]⟩),
  (44, ⟨.fn, 1, 8, [.nilFunc]⟩),
  (45, ⟨.struct [(0, 41), (3, 3)], 4, 48, [.int .i64 0, .int .i64 0, .slice none 0 0, .int .i64 0]⟩),
  (46, ⟨.struct [(0, 41), (3, 3)], 4, 48, [.int .i64 0, .int .i64 0, .slice none 0 0, .int .i64 0]⟩),
  (47, ⟨.fn, 1, 8, [.nilFunc]⟩),
  (48, ⟨.fn, 1, 8, [.nilFunc]⟩),
  (49, ⟨.fn, 1, 8, [.nilFunc]⟩),
  (50, ⟨.struct [(0, 22), (1, 3)], 2, 16, [.int .u64 0, .int .i64 0]⟩),
  (51, ⟨.struct [(0, 22), (1, 3)], 2, 16, [.int .u64 0, .int .i64 0]⟩),
  (53, ⟨.fn, 1, 8, [.nilFunc]⟩),
  (54, ⟨.fn, 1, 8, [.nilFunc]⟩),
  (55, ⟨.slice 61, 1, 24, [.slice none 0 0]⟩),
  (56, ⟨.fn, 1, 8, [.nilFunc]⟩),
  (57, ⟨.fn, 1, 8, [.nilFunc]⟩),
  (58, ⟨.fn, 1, 8, [.nilFunc]⟩),
  (59, ⟨.fn, 1, 8, [.nilFunc]⟩),
  (60, ⟨.struct [(0, 22), (1, 22)], 2, 16, [.int .u64 0, .int .u64 0]⟩),
  (61, ⟨.struct [(0, 22), (1, 22)], 2, 16, [.int .u64 0, .int .u64 0]⟩),
  (62, ⟨.fn, 1, 8, [.nilFunc]⟩),
  (63, ⟨.array 2 22, 2, 16, [.int .u64 0, .int .u64 0]⟩),
  (64, ⟨.fn, 1, 8, [.nilFunc]⟩),
  (65, ⟨.struct [(0, 22), (1, 3)], 2, 16, [.int .u64 0, .int .i64 0]⟩),
  (66, ⟨.struct [(0, 22), (1, 3)], 2, 16, [.int .u64 0, .int .i64 0]⟩),
  (67, ⟨.fn, 1, 8, [.nilFunc]⟩),
  (68, ⟨.fn, 1, 8, [.nilFunc]⟩),
  (69, ⟨.struct [(0, 22), (1, 22)], 2, 16, [.int .u64 0, .int .u64 0]⟩),
  (70, ⟨.struct [(0, 22), (1, 22)], 2, 16, [.int .u64 0, .int .u64 0]⟩),
  (71, ⟨.struct [(0, 3), (1, 22)], 2, 16, [.int .i64 0, .int .u64 0]⟩),
  (72, ⟨.struct [(0, 3), (1, 22)], 2, 16, [.int .i64 0, .int .u64 0]⟩),
  (73, ⟨.struct [(0, 22), (1, 22)], 2, 16, [.int .u64 0, .int .u64 0]⟩),
  (74, ⟨.struct [(0, 22), (1, 22)], 2, 16, [.int .u64 0, .int .u64 0]⟩),
  (76, ⟨.fn, 1, 8, [.nilFunc]⟩),
  (77, ⟨.fn, 1, 8, [.nilFunc]⟩),
  (78, ⟨.array 4 22, 4, 32, [.int .u64 0, .int .u64 0, .int .u64 0, .int .u64 0]⟩),
  (79, ⟨.array 4 22, 4, 32, [.int .u64 0, .int .u64 0, .int .u64 0, .int .u64 0]⟩),
  (80, ⟨.fn, 1, 8, [.nilFunc]⟩),
  (81, ⟨.fn, 1, 8, [.nilFunc]⟩),
  (82, ⟨.fn, 1, 8, [.nilFunc]⟩),
  (83, ⟨.fn, 1, 8, [.nilFunc]⟩),
  (84, ⟨.fn, 1, 8, [.nilFunc]⟩),
  (85, ⟨.fn, 1, 8, [.nilFunc]⟩),
  (86, ⟨.slice 22, 1, 24, [.slice none 0 0]⟩),
  (87, ⟨.fn, 1, 8, [.nilFunc]⟩),
  (88, ⟨.fn, 1, 8, [.nilFunc]⟩),
  (89, ⟨.fn, 1, 8, [.nilFunc]⟩),
  (90, ⟨.fn, 1, 8, [.nilFunc]⟩),
  (91, ⟨.fn, 1, 8, [.nilFunc]⟩),
  (93, ⟨.fn, 1, 8, [.nilFunc]⟩),
  (94, ⟨.struct [(0, 9), (1, 4)], 2, 24, [.string ByteArray.empty, .bool false]⟩),
  (95, ⟨.struct [(0, 9), (1, 4)], 2, 24, [.string ByteArray.empty, .bool false]⟩),
  (96, ⟨.fn, 1, 8, [.nilFunc]⟩),
  (97, ⟨.fn, 1, 8, [.nilFunc]⟩),
  (98, ⟨.slice 116, 1, 24, [.slice none 0 0]⟩),
  (99, ⟨.slice 180, 1, 24, [.slice none 0 0]⟩),
  (100, ⟨.int .u16, 1, 2, [.int .u16 0]⟩),
  (101, ⟨.array 4 100, 4, 8, [.int .u16 0, .int .u16 0, .int .u16 0, .int .u16 0]⟩),
  (102, ⟨.array 4 100, 4, 8, [.int .u16 0, .int .u16 0, .int .u16 0, .int .u16 0]⟩),
  (103, ⟨.struct [(0, 22), (1, 3), (2, 102)], 6, 24, [.int .u64 0, .int .i64 0, .int .u16 0, .int .u16 0, .int .u16 0, .int .u16 0]⟩),
  (104, ⟨.struct [(0, 22), (1, 3), (2, 102)], 6, 24, [.int .u64 0, .int .i64 0, .int .u16 0, .int .u16 0, .int .u16 0, .int .u16 0]⟩),
  (105, ⟨.struct [(0, 3), (1, 98), (2, 99), (3, 104), (9, 22)], 10, 88, [.int .i64 0, .slice none 0 0, .slice none 0 0, .int .u64 0, .int .i64 0, .int .u16 0, .int .u16 0, .int .u16 0, .int .u16 0, .int .u64 0]⟩),
  (106, ⟨.struct [(0, 3), (1, 98), (2, 99), (3, 104), (9, 22)], 10, 88, [.int .i64 0, .slice none 0 0, .slice none 0 0, .int .u64 0, .int .i64 0, .int .u16 0, .int .u16 0, .int .u16 0, .int .u16 0, .int .u64 0]⟩),
  (107, ⟨.fn, 1, 8, [.nilFunc]⟩),
  (108, ⟨.fn, 1, 8, [.nilFunc]⟩),
  (109, ⟨.fn, 1, 8, [.nilFunc]⟩),
  (110, ⟨.ptr 185, 1, 8, [.pointer none]⟩),
  (111, ⟨.fn, 1, 8, [.nilFunc]⟩),
  (112, ⟨.slice 114, 1, 24, [.slice none 0 0]⟩),
  (113, ⟨.struct [(0, 3), (1, 3), (2, 4), (3, 24), (6, 24), (9, 24), (12, 3), (13, 3)], 14, 112, [.int .i64 0, .int .i64 0, .bool false, .int .u64 0, .int .u64 0, .int .u64 0, .int .u64 0, .int .u64 0, .int .u64 0, .int .u64 0, .int .u64 0, .int .u64 0, .int .i64 0, .int .i64 0]⟩),
  (114, ⟨.struct [(0, 3), (1, 3), (2, 4), (3, 24), (6, 24), (9, 24), (12, 3), (13, 3)], 14, 112, [.int .i64 0, .int .i64 0, .bool false, .int .u64 0, .int .u64 0, .int .u64 0, .int .u64 0, .int .u64 0, .int .u64 0, .int .u64 0, .int .u64 0, .int .u64 0, .int .i64 0, .int .i64 0]⟩),
  (115, ⟨.struct [(0, 3), (1, 114)], 15, 120, [.int .i64 0, .int .i64 0, .int .i64 0, .bool false, .int .u64 0, .int .u64 0, .int .u64 0, .int .u64 0, .int .u64 0, .int .u64 0, .int .u64 0, .int .u64 0, .int .u64 0, .int .i64 0, .int .i64 0]⟩),
  (116, ⟨.struct [(0, 3), (1, 114)], 15, 120, [.int .i64 0, .int .i64 0, .int .i64 0, .bool false, .int .u64 0, .int .u64 0, .int .u64 0, .int .u64 0, .int .u64 0, .int .u64 0, .int .u64 0, .int .u64 0, .int .u64 0, .int .i64 0, .int .i64 0]⟩),
  (117, ⟨.fn, 1, 8, [.nilFunc]⟩),
  (118, ⟨.fn, 1, 8, [.nilFunc]⟩),
  (119, ⟨.struct [(0, 112), (1, 3)], 2, 32, [.slice none 0 0, .int .i64 0]⟩),
  (120, ⟨.struct [(0, 112), (1, 3)], 2, 32, [.slice none 0 0, .int .i64 0]⟩),
  (121, ⟨.fn, 1, 8, [.nilFunc]⟩),
  (122, ⟨.fn, 1, 8, [.nilFunc]⟩),
  (123, ⟨.fn, 1, 8, [.nilFunc]⟩),
  (124, ⟨.fn, 1, 8, [.nilFunc]⟩),
  (125, ⟨.fn, 1, 8, [.nilFunc]⟩),
  (126, ⟨.struct [(0, 3), (1, 4), (2, 4), (3, 22), (4, 22), (5, 3), (6, 104)], 12, 64, [.int .i64 0, .bool false, .bool false, .int .u64 0, .int .u64 0, .int .i64 0, .int .u64 0, .int .i64 0, .int .u16 0, .int .u16 0, .int .u16 0, .int .u16 0]⟩),
  (127, ⟨.struct [(0, 3), (1, 4), (2, 4), (3, 22), (4, 22), (5, 3), (6, 104)], 12, 64, [.int .i64 0, .bool false, .bool false, .int .u64 0, .int .u64 0, .int .i64 0, .int .u64 0, .int .i64 0, .int .u16 0, .int .u16 0, .int .u16 0, .int .u16 0]⟩),
  (128, ⟨.slice 131, 1, 24, [.slice none 0 0]⟩),
  (129, ⟨.fn, 1, 8, [.nilFunc]⟩),
  (130, ⟨.struct [(0, 22), (1, 22), (2, 3), (3, 3), (4, 4)], 5, 40, [.int .u64 0, .int .u64 0, .int .i64 0, .int .i64 0, .bool false]⟩),
  (131, ⟨.struct [(0, 22), (1, 22), (2, 3), (3, 3), (4, 4)], 5, 40, [.int .u64 0, .int .u64 0, .int .i64 0, .int .i64 0, .bool false]⟩),
  (132, ⟨.fn, 1, 8, [.nilFunc]⟩),
  (133, ⟨.fn, 1, 8, [.nilFunc]⟩),
  (134, ⟨.fn, 1, 8, [.nilFunc]⟩),
  (135, ⟨.slice 137, 1, 24, [.slice none 0 0]⟩),
  (136, ⟨.fn, 1, 8, [.nilFunc]⟩),
  (137, ⟨.struct [(0, 22), (1, 22), (2, 3), (3, 3), (4, 4)], 5, 40, [.int .u64 0, .int .u64 0, .int .i64 0, .int .i64 0, .bool false]⟩),
  (138, ⟨.slice 5, 1, 24, [.slice none 0 0]⟩),
  (139, ⟨.ptr 142, 1, 8, [.pointer none]⟩),
  (140, ⟨.fn, 1, 8, [.nilFunc]⟩),
  (141, ⟨.struct [(0, 140), (1, 42)], 2, 16, [.nilFunc, .int .i64 0]⟩),
  (142, ⟨.struct [(0, 140), (1, 42)], 2, 16, [.nilFunc, .int .i64 0]⟩),
  (143, ⟨.int .u64, 1, 8, [.int .u64 0]⟩),
  (144, ⟨.struct [(0, 9), (1, 3), (2, 22), (3, 3)], 4, 40, [.string ByteArray.empty, .int .i64 0, .int .u64 0, .int .i64 0]⟩),
  (145, ⟨.struct [(0, 9), (1, 3), (2, 22), (3, 3)], 4, 40, [.string ByteArray.empty, .int .i64 0, .int .u64 0, .int .i64 0]⟩),
  (146, ⟨.fn, 1, 8, [.nilFunc]⟩),
  (148, ⟨.fn, 1, 8, [.nilFunc]⟩),
  (149, ⟨.fn, 1, 8, [.nilFunc]⟩),
  (151, ⟨.fn, 1, 8, [.nilFunc]⟩),
  (152, ⟨.fn, 1, 8, [.nilFunc]⟩),
  (153, ⟨.fn, 1, 8, [.nilFunc]⟩),
  (154, ⟨.fn, 1, 8, [.nilFunc]⟩),
  (155, ⟨.fn, 1, 8, [.nilFunc]⟩),
  (156, ⟨.fn, 1, 8, [.nilFunc]⟩),
  (157, ⟨.fn, 1, 8, [.nilFunc]⟩),
  (158, ⟨.fn, 1, 8, [.nilFunc]⟩),
  (159, ⟨.fn, 1, 8, [.nilFunc]⟩),
  (160, ⟨.struct [(0, 22), (1, 3)], 2, 16, [.int .u64 0, .int .i64 0]⟩),
  (161, ⟨.fn, 1, 8, [.nilFunc]⟩),
  (162, ⟨.fn, 1, 8, [.nilFunc]⟩),
  (163, ⟨.fn, 1, 8, [.nilFunc]⟩),
  (164, ⟨.int .i64, 1, 8, [.int .i64 0]⟩),
  (165, ⟨.fn, 1, 8, [.nilFunc]⟩),
  (166, ⟨.fn, 1, 8, [.nilFunc]⟩),
  (167, ⟨.fn, 1, 8, [.nilFunc]⟩),
  (168, ⟨.fn, 1, 8, [.nilFunc]⟩),
  (169, ⟨.fn, 1, 8, [.nilFunc]⟩),
  (170, ⟨.fn, 1, 8, [.nilFunc]⟩),
  (171, ⟨.fn, 1, 8, [.nilFunc]⟩),
  (173, ⟨.fn, 1, 8, [.nilFunc]⟩),
  (174, ⟨.slice 177, 1, 24, [.slice none 0 0]⟩),
  (175, ⟨.fn, 1, 8, [.nilFunc]⟩),
  (176, ⟨.struct [(0, 22), (1, 3), (2, 22), (3, 22)], 4, 32, [.int .u64 0, .int .i64 0, .int .u64 0, .int .u64 0]⟩),
  (177, ⟨.struct [(0, 22), (1, 3), (2, 22), (3, 22)], 4, 32, [.int .u64 0, .int .i64 0, .int .u64 0, .int .u64 0]⟩),
  (178, ⟨.fn, 1, 8, [.nilFunc]⟩),
  (179, ⟨.struct [(0, 102), (4, 102), (8, 3)], 9, 24, [.int .u16 0, .int .u16 0, .int .u16 0, .int .u16 0, .int .u16 0, .int .u16 0, .int .u16 0, .int .u16 0, .int .i64 0]⟩),
  (180, ⟨.struct [(0, 102), (4, 102), (8, 3)], 9, 24, [.int .u16 0, .int .u16 0, .int .u16 0, .int .u16 0, .int .u16 0, .int .u16 0, .int .u16 0, .int .u16 0, .int .i64 0]⟩),
  (181, ⟨.fn, 1, 8, [.nilFunc]⟩),
  (182, ⟨.fn, 1, 8, [.nilFunc]⟩),
  (183, ⟨.map 3 114, 1, 8, [.map none]⟩),
  (184, ⟨.struct [(0, 183)], 1, 8, [.map none]⟩),
  (185, ⟨.struct [(0, 183)], 1, 8, [.map none]⟩),
  (187, ⟨.fn, 1, 8, [.nilFunc]⟩),
  (188, ⟨.fn, 1, 8, [.nilFunc]⟩),
  (189, ⟨.fn, 1, 8, [.nilFunc]⟩),
  (190, ⟨.fn, 1, 8, [.nilFunc]⟩),
  (191, ⟨.fn, 1, 8, [.nilFunc]⟩),
  (192, ⟨.fn, 1, 8, [.nilFunc]⟩),
  (193, ⟨.fn, 1, 8, [.nilFunc]⟩),
  (194, ⟨.fn, 1, 8, [.nilFunc]⟩),
  (195, ⟨.fn, 1, 8, [.nilFunc]⟩),
  (196, ⟨.fn, 1, 8, [.nilFunc]⟩),
  (197, ⟨.fn, 1, 8, [.nilFunc]⟩),
  (198, ⟨.fn, 1, 8, [.nilFunc]⟩),
  (199, ⟨.fn, 1, 8, [.nilFunc]⟩),
  (200, ⟨.ptr 137, 1, 8, [.pointer none]⟩),
  (201, ⟨.fn, 1, 8, [.nilFunc]⟩),
  (202, ⟨.fn, 1, 8, [.nilFunc]⟩),
  (203, ⟨.fn, 1, 8, [.nilFunc]⟩),
  (205, ⟨.fn, 1, 8, [.nilFunc]⟩),
  (207, ⟨.fn, 1, 8, [.nilFunc]⟩),
  (209, ⟨.fn, 1, 8, [.nilFunc]⟩),
  (210, ⟨.fn, 1, 8, [.nilFunc]⟩),
  (212, ⟨.fn, 1, 8, [.nilFunc]⟩),
  (213, ⟨.fn, 1, 8, [.nilFunc]⟩),
  (214, ⟨.fn, 1, 8, [.nilFunc]⟩),
  (216, ⟨.fn, 1, 8, [.nilFunc]⟩),
  (217, ⟨.array 2 70, 4, 32, [.int .u64 0, .int .u64 0, .int .u64 0, .int .u64 0]⟩),
  (218, ⟨.fn, 1, 8, [.nilFunc]⟩),
  (219, ⟨.fn, 1, 8, [.nilFunc]⟩),
  (220, ⟨.fn, 1, 8, [.nilFunc]⟩),
  (221, ⟨.fn, 1, 8, [.nilFunc]⟩),
  (222, ⟨.fn, 1, 8, [.nilFunc]⟩),
  (223, ⟨.array 3 24, 9, 72, [.int .u64 0, .int .u64 0, .int .u64 0, .int .u64 0, .int .u64 0, .int .u64 0, .int .u64 0, .int .u64 0, .int .u64 0]⟩),
  (224, ⟨.fn, 1, 8, [.nilFunc]⟩),
  (225, ⟨.fn, 1, 8, [.nilFunc]⟩),
  (226, ⟨.fn, 1, 8, [.nilFunc]⟩),
  (227, ⟨.fn, 1, 8, [.nilFunc]⟩),
  (228, ⟨.fn, 1, 8, [.nilFunc]⟩),
  (229, ⟨.fn, 1, 8, [.nilFunc]⟩),
  (231, ⟨.fn, 1, 8, [.nilFunc]⟩),
  (232, ⟨.fn, 1, 8, [.nilFunc]⟩),
  (233, ⟨.fn, 1, 8, [.nilFunc]⟩),
  (234, ⟨.fn, 1, 8, [.nilFunc]⟩),
  (235, ⟨.fn, 1, 8, [.nilFunc]⟩),
  (236, ⟨.fn, 1, 8, [.nilFunc]⟩),
  (237, ⟨.fn, 1, 8, [.nilFunc]⟩),
  (238, ⟨.fn, 1, 8, [.nilFunc]⟩),
  (239, ⟨.fn, 1, 8, [.nilFunc]⟩),
  (241, ⟨.fn, 1, 8, [.nilFunc]⟩),
  (242, ⟨.fn, 1, 8, [.nilFunc]⟩),
  (243, ⟨.fn, 1, 8, [.nilFunc]⟩),
  (244, ⟨.fn, 1, 8, [.nilFunc]⟩),
  (245, ⟨.fn, 1, 8, [.nilFunc]⟩),
  (246, ⟨.fn, 1, 8, [.nilFunc]⟩),
  (247, ⟨.fn, 1, 8, [.nilFunc]⟩),
  (248, ⟨.fn, 1, 8, [.nilFunc]⟩),
  (249, ⟨.fn, 1, 8, [.nilFunc]⟩),
  (251, ⟨.fn, 1, 8, [.nilFunc]⟩),
  (252, ⟨.fn, 1, 8, [.nilFunc]⟩),
  (253, ⟨.fn, 1, 8, [.nilFunc]⟩),
  (254, ⟨.fn, 1, 8, [.nilFunc]⟩),
  (255, ⟨.fn, 1, 8, [.nilFunc]⟩),
  (256, ⟨.int .i64, 1, 8, [.int .i64 0]⟩),
  (258, ⟨.fn, 1, 8, [.nilFunc]⟩),
  (259, ⟨.fn, 1, 8, [.nilFunc]⟩),
  (260, ⟨.fn, 1, 8, [.nilFunc]⟩),
  (261, ⟨.fn, 1, 8, [.nilFunc]⟩),
  (262, ⟨.fn, 1, 8, [.nilFunc]⟩),
  (263, ⟨.fn, 1, 8, [.nilFunc]⟩),
  (264, ⟨.int .u32, 1, 4, [.int .u32 0]⟩),
  (265, ⟨.fn, 1, 8, [.nilFunc]⟩),
  (266, ⟨.int .u64, 1, 8, [.int .u64 0]⟩),
  (267, ⟨.fn, 1, 8, [.nilFunc]⟩),
  (268, ⟨.fn, 1, 8, [.nilFunc]⟩),
  (269, ⟨.fn, 1, 8, [.nilFunc]⟩),
  (270, ⟨.ptr 3, 1, 8, [.pointer none]⟩),
  (271, ⟨.fn, 1, 8, [.nilFunc]⟩),
  (272, ⟨.ptr 266, 1, 8, [.pointer none]⟩),
  (274, ⟨.fn, 1, 8, [.nilFunc]⟩),
  (275, ⟨.fn, 1, 8, [.nilFunc]⟩),
  (281, ⟨.fn, 1, 8, [.nilFunc]⟩),
  (284, ⟨.fn, 1, 8, [.nilFunc]⟩),
  (285, ⟨.ptr 5, 1, 8, [.pointer none]⟩),
  (288, ⟨.struct [(0, 12), (1, 12), (2, 264), (3, 282), (4, 5), (5, 5), (6, 283), (7, 284), (8, 285), (9, 286), (10, 287)], 11, 48, [.int .u64 0, .int .u64 0, .int .u32 0, .int .u8 0, .int .u8 0, .int .u8 0, .int .u8 0, .nilFunc, .pointer none, .int .i32 0, .int .i32 0]⟩)]
theorem lay_ok : LayOk Try.prog lay := .cons ty1 <| .cons ty2 <| .cons ty3 <| .cons ty4 <| .cons ty5 <| .cons ty9 <| .cons ty12 <| .cons ty17 <| .cons ty20 <| .cons ty21 <| .cons ty22 <| .cons ty23 <| .cons ty24 <| .cons ty25 <| .cons ty26 <| .cons ty27 <| .cons ty28 <| .cons ty29 <| .cons ty30 <| .cons ty31 <| .cons ty32 <| .cons ty34 <| .cons ty35 <| .cons ty36 <| .cons ty37 <| .cons ty38 <| .cons ty39 <| .cons ty40 <| .cons ty41 <| .cons ty42 <| .cons ty44 <| .cons ty45 <| .cons ty46 <| .cons ty47 <| .cons ty48 <| .cons ty49 <| .cons ty50 <| .cons ty51 <| .cons ty53 <| .cons ty54 <| .cons ty55 <| .cons ty56 <| .cons ty57 <| .cons ty58 <| .cons ty59 <| .cons ty60 <| .cons ty61 <| .cons ty62 <| .cons ty63 <| .cons ty64 <| .cons ty65 <| .cons ty66 <| .cons ty67 <| .cons ty68 <| .cons ty69 <| .cons ty70 <| .cons ty71 <| .cons ty72 <| .cons ty73 <| .cons ty74 <| .cons ty76 <| .cons ty77 <| .cons ty78 <| .cons ty79 <| .cons ty80 <| .cons ty81 <| .cons ty82 <| .cons ty83 <| .cons ty84 <| .cons ty85 <| .cons ty86 <| .cons ty87 <| .cons ty88 <| .cons ty89 <| .cons ty90 <| .cons ty91 <| .cons ty93 <| .cons ty94 <| .cons ty95 <| .cons ty96 <| .cons ty97 <| .cons ty98 <| .cons ty99 <| .cons ty100 <| .cons ty101 <| .cons ty102 <| .cons ty103 <| .cons ty104 <| .cons ty105 <| .cons ty106 <| .cons ty107 <| .cons ty108 <| .cons ty109 <| .cons ty110 <| .cons ty111 <| .cons ty112 <| .cons ty113 <| .cons ty114 <| .cons ty115 <| .cons ty116 <| .cons ty117 <| .cons ty118 <| .cons ty119 <| .cons ty120 <| .cons ty121 <| .cons ty122 <| .cons ty123 <| .cons ty124 <| .cons ty125 <| .cons ty126 <| .cons ty127 <| .cons ty128 <| .cons ty129 <| .cons ty130 <| .cons ty131 <| .cons ty132 <| .cons ty133 <| .cons ty134 <| .cons ty135 <| .cons ty136 <| .cons ty137 <| .cons ty138 <| .cons ty139 <| .cons ty140 <| .cons ty141 <| .cons ty142 <| .cons ty143 <| .cons ty144 <| .cons ty145 <| .cons ty146 <| .cons ty148 <| .cons ty149 <| .cons ty151 <| .cons ty152 <| .cons ty153 <| .cons ty154 <| .cons ty155 <| .cons ty156 <| .cons ty157 <| .cons ty158 <| .cons ty159 <| .cons ty160 <| .cons ty161 <| .cons ty162 <| .cons ty163 <| .cons ty164 <| .cons ty165 <| .cons ty166 <| .cons ty167 <| .cons ty168 <| .cons ty169 <| .cons ty170 <| .cons ty171 <| .cons ty173 <| .cons ty174 <| .cons ty175 <| .cons ty176 <| .cons ty177 <| .cons ty178 <| .cons ty179 <| .cons ty180 <| .cons ty181 <| .cons ty182 <| .cons ty183 <| .cons ty184 <| .cons ty185 <| .cons ty187 <| .cons ty188 <| .cons ty189 <| .cons ty190 <| .cons ty191 <| .cons ty192 <| .cons ty193 <| .cons ty194 <| .cons ty195 <| .cons ty196 <| .cons ty197 <| .cons ty198 <| .cons ty199 <| .cons ty200 <| .cons ty201 <| .cons ty202 <| .cons ty203 <| .cons ty205 <| .cons ty207 <| .cons ty209 <| .cons ty210 <| .cons ty212 <| .cons ty213 <| .cons ty214 <| .cons ty216 <| .cons ty217 <| .cons ty218 <| .cons ty219 <| .cons ty220 <| .cons ty221 <| .cons ty222 <| .cons ty223 <| .cons ty224 <| .cons ty225 <| .cons ty226 <| .cons ty227 <| .cons ty228 <| .cons ty229 <| .cons ty231 <| .cons ty232 <| .cons ty233 <| .cons ty234 <| .cons ty235 <| .cons ty236 <| .cons ty237 <| .cons ty238 <| .cons ty239 <| .cons ty241 <| .cons ty242 <| .cons ty243 <| .cons ty244 <| .cons ty245 <| .cons ty246 <| .cons ty247 <| .cons ty248 <| .cons ty249 <| .cons ty251 <| .cons ty252 <| .cons ty253 <| .cons ty254 <| .cons ty255 <| .cons ty256 <| .cons ty258 <| .cons ty259 <| .cons ty260 <| .cons ty261 <| .cons ty262 <| .cons ty263 <| .cons ty264 <| .cons ty265 <| .cons ty266 <| .cons ty267 <| .cons ty268 <| .cons ty269 <| .cons ty270 <| .cons ty271 <| .cons ty272 <| .cons ty274 <| .cons ty275 <| .cons ty281 <| .cons ty284 <| .cons ty285 <| .cons ty288 <| .nil _
theorem L1 : ty lay 1 = some ⟨.fn, 1, 8, [.nilFunc]⟩ := rfl
theorem L2 : ty lay 2 = some ⟨.int .i64, 1, 8, [.int .i64 0]⟩ := rfl
theorem L3 : ty lay 3 = some ⟨.int .i64, 1, 8, [.int .i64 0]⟩ := rfl
theorem L4 : ty lay 4 = some ⟨.bool, 1, 1, [.bool false]⟩ := rfl
theorem L5 : ty lay 5 = some ⟨.int .u8, 1, 1, [.int .u8 0]⟩ := rfl
theorem L9 : ty lay 9 = some ⟨.str, 1, 16, [.string ByteArray.empty]⟩ := rfl
theorem L12 : ty lay 12 = some ⟨.int .u64, 1, 8, [.int .u64 0]⟩ := rfl
theorem L17 : ty lay 17 = some ⟨.ptr 289, 1, 8, [.pointer none]⟩ := rfl
theorem L20 : ty lay 20 = some ⟨.iface, 1, 16, [.nilIface]⟩ := rfl
theorem L21 : ty lay 21 = some ⟨.int .i32, 1, 4, [.int .i32 0]⟩ := rfl
theorem L22 : ty lay 22 = some ⟨.int .u64, 1, 8, [.int .u64 0]⟩ := rfl
theorem L23 : ty lay 23 = some ⟨.struct [(0, 22), (1, 22), (2, 22)], 3, 24, [.int .u64 0, .int .u64 0, .int .u64 0]⟩ := rfl
theorem L24 : ty lay 24 = some ⟨.struct [(0, 22), (1, 22), (2, 22)], 3, 24, [.int .u64 0, .int .u64 0, .int .u64 0]⟩ := rfl
theorem L25 : ty lay 25 = some ⟨.slice 127, 1, 24, [.slice none 0 0]⟩ := rfl
theorem L26 : ty lay 26 = some ⟨.slice 3, 1, 24, [.slice none 0 0]⟩ := rfl
theorem L27 : ty lay 27 = some ⟨.struct [(0, 3), (1, 26)], 2, 32, [.int .i64 0, .slice none 0 0]⟩ := rfl
theorem L28 : ty lay 28 = some ⟨.struct [(0, 3), (1, 26)], 2, 32, [.int .i64 0, .slice none 0 0]⟩ := rfl
theorem L29 : ty lay 29 = some ⟨.fn, 1, 8, [.nilFunc]⟩ := rfl
theorem L30 : ty lay 30 = some ⟨.struct [(0, 3), (1, 4)], 2, 16, [.int .i64 0, .bool false]⟩ := rfl
theorem L31 : ty lay 31 = some ⟨.struct [(0, 3), (1, 4)], 2, 16, [.int .i64 0, .bool false]⟩ := rfl
theorem L32 : ty lay 32 = some ⟨.fn, 1, 8, [.nilFunc]⟩ := rfl
theorem L34 : ty lay 34 = some ⟨.fn, 1, 8, [.nilFunc]⟩ := rfl
theorem L35 : ty lay 35 = some ⟨.fn, 1, 8, [.nilFunc]⟩ := rfl
theorem L36 : ty lay 36 = some ⟨.fn, 1, 8, [.nilFunc]⟩ := rfl
theorem L37 : ty lay 37 = some ⟨.struct [(0, 3), (1, 3)], 2, 16, [.int .i64 0, .int .i64 0]⟩ := rfl
theorem L38 : ty lay 38 = some ⟨.struct [(0, 3), (1, 3)], 2, 16, [.int .i64 0, .int .i64 0]⟩ := rfl
theorem L39 : ty lay 39 = some ⟨.slice 106, 1, 24, [.slice none 0 0]⟩ := rfl
theorem L40 : ty lay 40 = some ⟨.struct [(0, 38), (2, 39)], 3, 40, [.int .i64 0, .int .i64 0, .slice none 0 0]⟩ := rfl
theorem L41 : ty lay 41 = some ⟨.struct [(0, 38), (2, 39)], 3, 40, [.int .i64 0, .int .i64 0, .slice none 0 0]⟩ := rfl
theorem L42 : ty lay 42 = some ⟨.int .i64, 1, 8, [.int .i64 0]⟩ := rfl
theorem L44 : ty lay 44 = some ⟨.fn, 1, 8, [.nilFunc]⟩ := rfl
theorem L45 : ty lay 45 = some ⟨.struct [(0, 41), (3, 3)], 4, 48, [.int .i64 0, .int .i64 0, .slice none 0 0, .int .i64 0]⟩ := rfl
theorem L46 : ty lay 46 = some ⟨.struct [(0, 41), (3, 3)], 4, 48, [.int .i64 0, .int .i64 0, .slice none 0 0, .int .i64 0]⟩ := rfl
theorem L47 : ty lay 47 = some ⟨.fn, 1, 8, [.nilFunc]⟩ := rfl
theorem L48 : ty lay 48 = some ⟨.fn, 1, 8, [.nilFunc]⟩ := rfl
theorem L49 : ty lay 49 = some ⟨.fn, 1, 8, [.nilFunc]⟩ := rfl
theorem L50 : ty lay 50 = some ⟨.struct [(0, 22), (1, 3)], 2, 16, [.int .u64 0, .int .i64 0]⟩ := rfl
theorem L51 : ty lay 51 = some ⟨.struct [(0, 22), (1, 3)], 2, 16, [.int .u64 0, .int .i64 0]⟩ := rfl
theorem L53 : ty lay 53 = some ⟨.fn, 1, 8, [.nilFunc]⟩ := rfl
theorem L54 : ty lay 54 = some ⟨.fn, 1, 8, [.nilFunc]⟩ := rfl
theorem L55 : ty lay 55 = some ⟨.slice 61, 1, 24, [.slice none 0 0]⟩ := rfl
theorem L56 : ty lay 56 = some ⟨.fn, 1, 8, [.nilFunc]⟩ := rfl
theorem L57 : ty lay 57 = some ⟨.fn, 1, 8, [.nilFunc]⟩ := rfl
theorem L58 : ty lay 58 = some ⟨.fn, 1, 8, [.nilFunc]⟩ := rfl
theorem L59 : ty lay 59 = some ⟨.fn, 1, 8, [.nilFunc]⟩ := rfl
theorem L60 : ty lay 60 = some ⟨.struct [(0, 22), (1, 22)], 2, 16, [.int .u64 0, .int .u64 0]⟩ := rfl
theorem L61 : ty lay 61 = some ⟨.struct [(0, 22), (1, 22)], 2, 16, [.int .u64 0, .int .u64 0]⟩ := rfl
theorem L62 : ty lay 62 = some ⟨.fn, 1, 8, [.nilFunc]⟩ := rfl
theorem L63 : ty lay 63 = some ⟨.array 2 22, 2, 16, [.int .u64 0, .int .u64 0]⟩ := rfl
theorem L64 : ty lay 64 = some ⟨.fn, 1, 8, [.nilFunc]⟩ := rfl
theorem L65 : ty lay 65 = some ⟨.struct [(0, 22), (1, 3)], 2, 16, [.int .u64 0, .int .i64 0]⟩ := rfl
theorem L66 : ty lay 66 = some ⟨.struct [(0, 22), (1, 3)], 2, 16, [.int .u64 0, .int .i64 0]⟩ := rfl
theorem L67 : ty lay 67 = some ⟨.fn, 1, 8, [.nilFunc]⟩ := rfl
theorem L68 : ty lay 68 = some ⟨.fn, 1, 8, [.nilFunc]⟩ := rfl
theorem L69 : ty lay 69 = some ⟨.struct [(0, 22), (1, 22)], 2, 16, [.int .u64 0, .int .u64 0]⟩ := rfl
theorem L70 : ty lay 70 = some ⟨.struct [(0, 22), (1, 22)], 2, 16, [.int .u64 0, .int .u64 0]⟩ := rfl
theorem L71 : ty lay 71 = some ⟨.struct [(0, 3), (1, 22)], 2, 16, [.int .i64 0, .int .u64 0]⟩ := rfl
theorem L72 : ty lay 72 = some ⟨.struct [(0, 3), (1, 22)], 2, 16, [.int .i64 0, .int .u64 0]⟩ := rfl
theorem L73 : ty lay 73 = some ⟨.struct [(0, 22), (1, 22)], 2, 16, [.int .u64 0, .int .u64 0]⟩ := rfl
theorem L74 : ty lay 74 = some ⟨.struct [(0, 22), (1, 22)], 2, 16, [.int .u64 0, .int .u64 0]⟩ := rfl
theorem L76 : ty lay 76 = some ⟨.fn, 1, 8, [.nilFunc]⟩ := rfl
theorem L77 : ty lay 77 = some ⟨.fn, 1, 8, [.nilFunc]⟩ := rfl
theorem L78 : ty lay 78 = some ⟨.array 4 22, 4, 32, [.int .u64 0, .int .u64 0, .int .u64 0, .int .u64 0]⟩ := rfl
theorem L79 : ty lay 79 = some ⟨.array 4 22, 4, 32, [.int .u64 0, .int .u64 0, .int .u64 0, .int .u64 0]⟩ := rfl
theorem L80 : ty lay 80 = some ⟨.fn, 1, 8, [.nilFunc]⟩ := rfl
theorem L81 : ty lay 81 = some ⟨.fn, 1, 8, [.nilFunc]⟩ := rfl
theorem L82 : ty lay 82 = some ⟨.fn, 1, 8, [.nilFunc]⟩ := rfl
theorem L83 : ty lay 83 = some ⟨.fn, 1, 8, [.nilFunc]⟩ := rfl
theorem L84 : ty lay 84 = some ⟨.fn, 1, 8, [.nilFunc]⟩ := rfl
theorem L85 : ty lay 85 = some ⟨.fn, 1, 8, [.nilFunc]⟩ := rfl
theorem L86 : ty lay 86 = some ⟨.slice 22, 1, 24, [.slice none 0 0]⟩ := rfl
theorem L87 : ty lay 87 = some ⟨.fn, 1, 8, [.nilFunc]⟩ := rfl
theorem L88 : ty lay 88 = some ⟨.fn, 1, 8, [.nilFunc]⟩ := rfl
theorem L89 : ty lay 89 = some ⟨.fn, 1, 8, [.nilFunc]⟩ := rfl
theorem L90 : ty lay 90 = some ⟨.fn, 1, 8, [.nilFunc]⟩ := rfl
theorem L91 : ty lay 91 = some ⟨.fn, 1, 8, [.nilFunc]⟩ := rfl
theorem L93 : ty lay 93 = some ⟨.fn, 1, 8, [.nilFunc]⟩ := rfl
theorem L94 : ty lay 94 = some ⟨.struct [(0, 9), (1, 4)], 2, 24, [.string ByteArray.empty, .bool false]⟩ := rfl
theorem L95 : ty lay 95 = some ⟨.struct [(0, 9), (1, 4)], 2, 24, [.string ByteArray.empty, .bool false]⟩ := rfl
theorem L96 : ty lay 96 = some ⟨.fn, 1, 8, [.nilFunc]⟩ := rfl
theorem L97 : ty lay 97 = some ⟨.fn, 1, 8, [.nilFunc]⟩ := rfl
theorem L98 : ty lay 98 = some ⟨.slice 116, 1, 24, [.slice none 0 0]⟩ := rfl
theorem L99 : ty lay 99 = some ⟨.slice 180, 1, 24, [.slice none 0 0]⟩ := rfl
theorem L100 : ty lay 100 = some ⟨.int .u16, 1, 2, [.int .u16 0]⟩ := rfl
theorem L101 : ty lay 101 = some ⟨.array 4 100, 4, 8, [.int .u16 0, .int .u16 0, .int .u16 0, .int .u16 0]⟩ := rfl
theorem L102 : ty lay 102 = some ⟨.array 4 100, 4, 8, [.int .u16 0, .int .u16 0, .int .u16 0, .int .u16 0]⟩ := rfl
theorem L103 : ty lay 103 = some ⟨.struct [(0, 22), (1, 3), (2, 102)], 6, 24, [.int .u64 0, .int .i64 0, .int .u16 0, .int .u16 0, .int .u16 0, .int .u16 0]⟩ := rfl
theorem L104 : ty lay 104 = some ⟨.struct [(0, 22), (1, 3), (2, 102)], 6, 24, [.int .u64 0, .int .i64 0, .int .u16 0, .int .u16 0, .int .u16 0, .int .u16 0]⟩ := rfl
theorem L105 : ty lay 105 = some ⟨.struct [(0, 3), (1, 98), (2, 99), (3, 104), (9, 22)], 10, 88, [.int .i64 0, .slice none 0 0, .slice none 0 0, .int .u64 0, .int .i64 0, .int .u16 0, .int .u16 0, .int .u16 0, .int .u16 0, .int .u64 0]⟩ := rfl
theorem L106 : ty lay 106 = some ⟨.struct [(0, 3), (1, 98), (2, 99), (3, 104), (9, 22)], 10, 88, [.int .i64 0, .slice none 0 0, .slice none 0 0, .int .u64 0, .int .i64 0, .int .u16 0, .int .u16 0, .int .u16 0, .int .u16 0, .int .u64 0]⟩ := rfl
theorem L107 : ty lay 107 = some ⟨.fn, 1, 8, [.nilFunc]⟩ := rfl
theorem L108 : ty lay 108 = some ⟨.fn, 1, 8, [.nilFunc]⟩ := rfl
theorem L109 : ty lay 109 = some ⟨.fn, 1, 8, [.nilFunc]⟩ := rfl
theorem L110 : ty lay 110 = some ⟨.ptr 185, 1, 8, [.pointer none]⟩ := rfl
theorem L111 : ty lay 111 = some ⟨.fn, 1, 8, [.nilFunc]⟩ := rfl
theorem L112 : ty lay 112 = some ⟨.slice 114, 1, 24, [.slice none 0 0]⟩ := rfl
theorem L113 : ty lay 113 = some ⟨.struct [(0, 3), (1, 3), (2, 4), (3, 24), (6, 24), (9, 24), (12, 3), (13, 3)], 14, 112, [.int .i64 0, .int .i64 0, .bool false, .int .u64 0, .int .u64 0, .int .u64 0, .int .u64 0, .int .u64 0, .int .u64 0, .int .u64 0, .int .u64 0, .int .u64 0, .int .i64 0, .int .i64 0]⟩ := rfl
theorem L114 : ty lay 114 = some ⟨.struct [(0, 3), (1, 3), (2, 4), (3, 24), (6, 24), (9, 24), (12, 3), (13, 3)], 14, 112, [.int .i64 0, .int .i64 0, .bool false, .int .u64 0, .int .u64 0, .int .u64 0, .int .u64 0, .int .u64 0, .int .u64 0, .int .u64 0, .int .u64 0, .int .u64 0, .int .i64 0, .int .i64 0]⟩ := rfl
theorem L115 : ty lay 115 = some ⟨.struct [(0, 3), (1, 114)], 15, 120, [.int .i64 0, .int .i64 0, .int .i64 0, .bool false, .int .u64 0, .int .u64 0, .int .u64 0, .int .u64 0, .int .u64 0, .int .u64 0, .int .u64 0, .int .u64 0, .int .u64 0, .int .i64 0, .int .i64 0]⟩ := rfl
theorem L116 : ty lay 116 = some ⟨.struct [(0, 3), (1, 114)], 15, 120, [.int .i64 0, .int .i64 0, .int .i64 0, .bool false, .int .u64 0, .int .u64 0, .int .u64 0, .int .u64 0, .int .u64 0, .int .u64 0, .int .u64 0, .int .u64 0, .int .u64 0, .int .i64 0, .int .i64 0]⟩ := rfl
theorem L117 : ty lay 117 = some ⟨.fn, 1, 8, [.nilFunc]⟩ := rfl
theorem L118 : ty lay 118 = some ⟨.fn, 1, 8, [.nilFunc]⟩ := rfl
theorem L119 : ty lay 119 = some ⟨.struct [(0, 112), (1, 3)], 2, 32, [.slice none 0 0, .int .i64 0]⟩ := rfl
theorem L120 : ty lay 120 = some ⟨.struct [(0, 112), (1, 3)], 2, 32, [.slice none 0 0, .int .i64 0]⟩ := rfl
theorem L121 : ty lay 121 = some ⟨.fn, 1, 8, [.nilFunc]⟩ := rfl
theorem L122 : ty lay 122 = some ⟨.fn, 1, 8, [.nilFunc]⟩ := rfl
theorem L123 : ty lay 123 = some ⟨.fn, 1, 8, [.nilFunc]⟩ := rfl
theorem L124 : ty lay 124 = some ⟨.fn, 1, 8, [.nilFunc]⟩ := rfl
theorem L125 : ty lay 125 = some ⟨.fn, 1, 8, [.nilFunc]⟩ := rfl
theorem L126 : ty lay 126 = some ⟨.struct [(0, 3), (1, 4), (2, 4), (3, 22), (4, 22), (5, 3), (6, 104)], 12, 64, [.int .i64 0, .bool false, .bool false, .int .u64 0, .int .u64 0, .int .i64 0, .int .u64 0, .int .i64 0, .int .u16 0, .int .u16 0, .int .u16 0, .int .u16 0]⟩ := rfl
theorem L127 : ty lay 127 = some ⟨.struct [(0, 3), (1, 4), (2, 4), (3, 22), (4, 22), (5, 3), (6, 104)], 12, 64, [.int .i64 0, .bool false, .bool false, .int .u64 0, .int .u64 0, .int .i64 0, .int .u64 0, .int .i64 0, .int .u16 0, .int .u16 0, .int .u16 0, .int .u16 0]⟩ := rfl
theorem L128 : ty lay 128 = some ⟨.slice 131, 1, 24, [.slice none 0 0]⟩ := rfl
theorem L129 : ty lay 129 = some ⟨.fn, 1, 8, [.nilFunc]⟩ := rfl
theorem L130 : ty lay 130 = some ⟨.struct [(0, 22), (1, 22), (2, 3), (3, 3), (4, 4)], 5, 40, [.int .u64 0, .int .u64 0, .int .i64 0, .int .i64 0, .bool false]⟩ := rfl
theorem L131 : ty lay 131 = some ⟨.struct [(0, 22), (1, 22), (2, 3), (3, 3), (4, 4)], 5, 40, [.int .u64 0, .int .u64 0, .int .i64 0, .int .i64 0, .bool false]⟩ := rfl
theorem L132 : ty lay 132 = some ⟨.fn, 1, 8, [.nilFunc]⟩ := rfl
theorem L133 : ty lay 133 = some ⟨.fn, 1, 8, [.nilFunc]⟩ := rfl
theorem L134 : ty lay 134 = some ⟨.fn, 1, 8, [.nilFunc]⟩ := rfl
theorem L135 : ty lay 135 = some ⟨.slice 137, 1, 24, [.slice none 0 0]⟩ := rfl
theorem L136 : ty lay 136 = some ⟨.fn, 1, 8, [.nilFunc]⟩ := rfl
theorem L137 : ty lay 137 = some ⟨.struct [(0, 22), (1, 22), (2, 3), (3, 3), (4, 4)], 5, 40, [.int .u64 0, .int .u64 0, .int .i64 0, .int .i64 0, .bool false]⟩ := rfl
theorem L138 : ty lay 138 = some ⟨.slice 5, 1, 24, [.slice none 0 0]⟩ := rfl
theorem L139 : ty lay 139 = some ⟨.ptr 142, 1, 8, [.pointer none]⟩ := rfl
theorem L140 : ty lay 140 = some ⟨.fn, 1, 8, [.nilFunc]⟩ := rfl
theorem L141 : ty lay 141 = some ⟨.struct [(0, 140), (1, 42)], 2, 16, [.nilFunc, .int .i64 0]⟩ := rfl
theorem L142 : ty lay 142 = some ⟨.struct [(0, 140), (1, 42)], 2, 16, [.nilFunc, .int .i64 0]⟩ := rfl
theorem L143 : ty lay 143 = some ⟨.int .u64, 1, 8, [.int .u64 0]⟩ := rfl
theorem L144 : ty lay 144 = some ⟨.struct [(0, 9), (1, 3), (2, 22), (3, 3)], 4, 40, [.string ByteArray.empty, .int .i64 0, .int .u64 0, .int .i64 0]⟩ := rfl
theorem L145 : ty lay 145 = some ⟨.struct [(0, 9), (1, 3), (2, 22), (3, 3)], 4, 40, [.string ByteArray.empty, .int .i64 0, .int .u64 0, .int .i64 0]⟩ := rfl
theorem L146 : ty lay 146 = some ⟨.fn, 1, 8, [.nilFunc]⟩ := rfl
theorem L148 : ty lay 148 = some ⟨.fn, 1, 8, [.nilFunc]⟩ := rfl
theorem L149 : ty lay 149 = some ⟨.fn, 1, 8, [.nilFunc]⟩ := rfl
theorem L151 : ty lay 151 = some ⟨.fn, 1, 8, [.nilFunc]⟩ := rfl
theorem L152 : ty lay 152 = some ⟨.fn, 1, 8, [.nilFunc]⟩ := rfl
theorem L153 : ty lay 153 = some ⟨.fn, 1, 8, [.nilFunc]⟩ := rfl
theorem L154 : ty lay 154 = some ⟨.fn, 1, 8, [.nilFunc]⟩ := rfl
theorem L155 : ty lay 155 = some ⟨.fn, 1, 8, [.nilFunc]⟩ := rfl
theorem L156 : ty lay 156 = some ⟨.fn, 1, 8, [.nilFunc]⟩ := rfl
theorem L157 : ty lay 157 = some ⟨.fn, 1, 8, [.nilFunc]⟩ := rfl
theorem L158 : ty lay 158 = some ⟨.fn, 1, 8, [.nilFunc]⟩ := rfl
theorem L159 : ty lay 159 = some ⟨.fn, 1, 8, [.nilFunc]⟩ := rfl
theorem L160 : ty lay 160 = some ⟨.struct [(0, 22), (1, 3)], 2, 16, [.int .u64 0, .int .i64 0]⟩ := rfl
theorem L161 : ty lay 161 = some ⟨.fn, 1, 8, [.nilFunc]⟩ := rfl
theorem L162 : ty lay 162 = some ⟨.fn, 1, 8, [.nilFunc]⟩ := rfl
theorem L163 : ty lay 163 = some ⟨.fn, 1, 8, [.nilFunc]⟩ := rfl
theorem L164 : ty lay 164 = some ⟨.int .i64, 1, 8, [.int .i64 0]⟩ := rfl
theorem L165 : ty lay 165 = some ⟨.fn, 1, 8, [.nilFunc]⟩ := rfl
theorem L166 : ty lay 166 = some ⟨.fn, 1, 8, [.nilFunc]⟩ := rfl
theorem L167 : ty lay 167 = some ⟨.fn, 1, 8, [.nilFunc]⟩ := rfl
theorem L168 : ty lay 168 = some ⟨.fn, 1, 8, [.nilFunc]⟩ := rfl
theorem L169 : ty lay 169 = some ⟨.fn, 1, 8, [.nilFunc]⟩ := rfl
theorem L170 : ty lay 170 = some ⟨.fn, 1, 8, [.nilFunc]⟩ := rfl
theorem L171 : ty lay 171 = some ⟨.fn, 1, 8, [.nilFunc]⟩ := rfl
theorem L173 : ty lay 173 = some ⟨.fn, 1, 8, [.nilFunc]⟩ := rfl
theorem L174 : ty lay 174 = some ⟨.slice 177, 1, 24, [.slice none 0 0]⟩ := rfl
theorem L175 : ty lay 175 = some ⟨.fn, 1, 8, [.nilFunc]⟩ := rfl
theorem L176 : ty lay 176 = some ⟨.struct [(0, 22), (1, 3), (2, 22), (3, 22)], 4, 32, [.int .u64 0, .int .i64 0, .int .u64 0, .int .u64 0]⟩ := rfl
theorem L177 : ty lay 177 = some ⟨.struct [(0, 22), (1, 3), (2, 22), (3, 22)], 4, 32, [.int .u64 0, .int .i64 0, .int .u64 0, .int .u64 0]⟩ := rfl
theorem L178 : ty lay 178 = some ⟨.fn, 1, 8, [.nilFunc]⟩ := rfl
theorem L179 : ty lay 179 = some ⟨.struct [(0, 102), (4, 102), (8, 3)], 9, 24, [.int .u16 0, .int .u16 0, .int .u16 0, .int .u16 0, .int .u16 0, .int .u16 0, .int .u16 0, .int .u16 0, .int .i64 0]⟩ := rfl
theorem L180 : ty lay 180 = some ⟨.struct [(0, 102), (4, 102), (8, 3)], 9, 24, [.int .u16 0, .int .u16 0, .int .u16 0, .int .u16 0, .int .u16 0, .int .u16 0, .int .u16 0, .int .u16 0, .int .i64 0]⟩ := rfl
theorem L181 : ty lay 181 = some ⟨.fn, 1, 8, [.nilFunc]⟩ := rfl
theorem L182 : ty lay 182 = some ⟨.fn, 1, 8, [.nilFunc]⟩ := rfl
theorem L183 : ty lay 183 = some ⟨.map 3 114, 1, 8, [.map none]⟩ := rfl
theorem L184 : ty lay 184 = some ⟨.struct [(0, 183)], 1, 8, [.map none]⟩ := rfl
theorem L185 : ty lay 185 = some ⟨.struct [(0, 183)], 1, 8, [.map none]⟩ := rfl
theorem L187 : ty lay 187 = some ⟨.fn, 1, 8, [.nilFunc]⟩ := rfl
theorem L188 : ty lay 188 = some ⟨.fn, 1, 8, [.nilFunc]⟩ := rfl
theorem L189 : ty lay 189 = some ⟨.fn, 1, 8, [.nilFunc]⟩ := rfl
theorem L190 : ty lay 190 = some ⟨.fn, 1, 8, [.nilFunc]⟩ := rfl
theorem L191 : ty lay 191 = some ⟨.fn, 1, 8, [.nilFunc]⟩ := rfl
theorem L192 : ty lay 192 = some ⟨.fn, 1, 8, [.nilFunc]⟩ := rfl
theorem L193 : ty lay 193 = some ⟨.fn, 1, 8, [.nilFunc]⟩ := rfl
theorem L194 : ty lay 194 = some ⟨.fn, 1, 8, [.nilFunc]⟩ := rfl
theorem L195 : ty lay 195 = some ⟨.fn, 1, 8, [.nilFunc]⟩ := rfl
theorem L196 : ty lay 196 = some ⟨.fn, 1, 8, [.nilFunc]⟩ := rfl
theorem L197 : ty lay 197 = some ⟨.fn, 1, 8, [.nilFunc]⟩ := rfl
theorem L198 : ty lay 198 = some ⟨.fn, 1, 8, [.nilFunc]⟩ := rfl
theorem L199 : ty lay 199 = some ⟨.fn, 1, 8, [.nilFunc]⟩ := rfl
theorem L200 : ty lay 200 = some ⟨.ptr 137, 1, 8, [.pointer none]⟩ := rfl
theorem L201 : ty lay 201 = some ⟨.fn, 1, 8, [.nilFunc]⟩ := rfl
theorem L202 : ty lay 202 = some ⟨.fn, 1, 8, [.nilFunc]⟩ := rfl
theorem L203 : ty lay 203 = some ⟨.fn, 1, 8, [.nilFunc]⟩ := rfl
theorem L205 : ty lay 205 = some ⟨.fn, 1, 8, [.nilFunc]⟩ := rfl
theorem L207 : ty lay 207 = some ⟨.fn, 1, 8, [.nilFunc]⟩ := rfl
theorem L209 : ty lay 209 = some ⟨.fn, 1, 8, [.nilFunc]⟩ := rfl
theorem L210 : ty lay 210 = some ⟨.fn, 1, 8, [.nilFunc]⟩ := rfl
theorem L212 : ty lay 212 = some ⟨.fn, 1, 8, [.nilFunc]⟩ := rfl
theorem L213 : ty lay 213 = some ⟨.fn, 1, 8, [.nilFunc]⟩ := rfl
theorem L214 : ty lay 214 = some ⟨.fn, 1, 8, [.nilFunc]⟩ := rfl
theorem L216 : ty lay 216 = some ⟨.fn, 1, 8, [.nilFunc]⟩ := rfl
theorem L217 : ty lay 217 = some ⟨.array 2 70, 4, 32, [.int .u64 0, .int .u64 0, .int .u64 0, .int .u64 0]⟩ := rfl
theorem L218 : ty lay 218 = some ⟨.fn, 1, 8, [.nilFunc]⟩ := rfl
theorem L219 : ty lay 219 = some ⟨.fn, 1, 8, [.nilFunc]⟩ := rfl
theorem L220 : ty lay 220 = some ⟨.fn, 1, 8, [.nilFunc]⟩ := rfl
theorem L221 : ty lay 221 = some ⟨.fn, 1, 8, [.nilFunc]⟩ := rfl
theorem L222 : ty lay 222 = some ⟨.fn, 1, 8, [.nilFunc]⟩ := rfl
theorem L223 : ty lay 223 = some ⟨.array 3 24, 9, 72, [.int .u64 0, .int .u64 0, .int .u64 0, .int .u64 0, .int .u64 0, .int .u64 0, .int .u64 0, .int .u64 0, .int .u64 0]⟩ := rfl
theorem L224 : ty lay 224 = some ⟨.fn, 1, 8, [.nilFunc]⟩ := rfl
theorem L225 : ty lay 225 = some ⟨.fn, 1, 8, [.nilFunc]⟩ := rfl
theorem L226 : ty lay 226 = some ⟨.fn, 1, 8, [.nilFunc]⟩ := rfl
theorem L227 : ty lay 227 = some ⟨.fn, 1, 8, [.nilFunc]⟩ := rfl
theorem L228 : ty lay 228 = some ⟨.fn, 1, 8, [.nilFunc]⟩ := rfl
theorem L229 : ty lay 229 = some ⟨.fn, 1, 8, [.nilFunc]⟩ := rfl
theorem L231 : ty lay 231 = some ⟨.fn, 1, 8, [.nilFunc]⟩ := rfl
theorem L232 : ty lay 232 = some ⟨.fn, 1, 8, [.nilFunc]⟩ := rfl
theorem L233 : ty lay 233 = some ⟨.fn, 1, 8, [.nilFunc]⟩ := rfl
theorem L234 : ty lay 234 = some ⟨.fn, 1, 8, [.nilFunc]⟩ := rfl
theorem L235 : ty lay 235 = some ⟨.fn, 1, 8, [.nilFunc]⟩ := rfl
theorem L236 : ty lay 236 = some ⟨.fn, 1, 8, [.nilFunc]⟩ := rfl
theorem L237 : ty lay 237 = some ⟨.fn, 1, 8, [.nilFunc]⟩ := rfl
theorem L238 : ty lay 238 = some ⟨.fn, 1, 8, [.nilFunc]⟩ := rfl
theorem L239 : ty lay 239 = some ⟨.fn, 1, 8, [.nilFunc]⟩ := rfl
theorem L241 : ty lay 241 = some ⟨.fn, 1, 8, [.nilFunc]⟩ := rfl
theorem L242 : ty lay 242 = some ⟨.fn, 1, 8, [.nilFunc]⟩ := rfl
theorem L243 : ty lay 243 = some ⟨.fn, 1, 8, [.nilFunc]⟩ := rfl
theorem L244 : ty lay 244 = some ⟨.fn, 1, 8, [.nilFunc]⟩ := rfl
theorem L245 : ty lay 245 = some ⟨.fn, 1, 8, [.nilFunc]⟩ := rfl
theorem L246 : ty lay 246 = some ⟨.fn, 1, 8, [.nilFunc]⟩ := rfl
theorem L247 : ty lay 247 = some ⟨.fn, 1, 8, [.nilFunc]⟩ := rfl
theorem L248 : ty lay 248 = some ⟨.fn, 1, 8, [.nilFunc]⟩ := rfl
theorem L249 : ty lay 249 = some ⟨.fn, 1, 8, [.nilFunc]⟩ := rfl
theorem L251 : ty lay 251 = some ⟨.fn, 1, 8, [.nilFunc]⟩ := rfl
theorem L252 : ty lay 252 = some ⟨.fn, 1, 8, [.nilFunc]⟩ := rfl
theorem L253 : ty lay 253 = some ⟨.fn, 1, 8, [.nilFunc]⟩ := rfl
theorem L254 : ty lay 254 = some ⟨.fn, 1, 8, [.nilFunc]⟩ := rfl
theorem L255 : ty lay 255 = some ⟨.fn, 1, 8, [.nilFunc]⟩ := rfl
theorem L256 : ty lay 256 = some ⟨.int .i64, 1, 8, [.int .i64 0]⟩ := rfl
theorem L258 : ty lay 258 = some ⟨.fn, 1, 8, [.nilFunc]⟩ := rfl
theorem L259 : ty lay 259 = some ⟨.fn, 1, 8, [.nilFunc]⟩ := rfl
theorem L260 : ty lay 260 = some ⟨.fn, 1, 8, [.nilFunc]⟩ := rfl
theorem L261 : ty lay 261 = some ⟨.fn, 1, 8, [.nilFunc]⟩ := rfl
theorem L262 : ty lay 262 = some ⟨.fn, 1, 8, [.nilFunc]⟩ := rfl
theorem L263 : ty lay 263 = some ⟨.fn, 1, 8, [.nilFunc]⟩ := rfl
theorem L264 : ty lay 264 = some ⟨.int .u32, 1, 4, [.int .u32 0]⟩ := rfl
theorem L265 : ty lay 265 = some ⟨.fn, 1, 8, [.nilFunc]⟩ := rfl
theorem L266 : ty lay 266 = some ⟨.int .u64, 1, 8, [.int .u64 0]⟩ := rfl
theorem L267 : ty lay 267 = some ⟨.fn, 1, 8, [.nilFunc]⟩ := rfl
theorem L268 : ty lay 268 = some ⟨.fn, 1, 8, [.nilFunc]⟩ := rfl
theorem L269 : ty lay 269 = some ⟨.fn, 1, 8, [.nilFunc]⟩ := rfl
theorem L270 : ty lay 270 = some ⟨.ptr 3, 1, 8, [.pointer none]⟩ := rfl
theorem L271 : ty lay 271 = some ⟨.fn, 1, 8, [.nilFunc]⟩ := rfl
theorem L272 : ty lay 272 = some ⟨.ptr 266, 1, 8, [.pointer none]⟩ := rfl
theorem L274 : ty lay 274 = some ⟨.fn, 1, 8, [.nilFunc]⟩ := rfl
theorem L275 : ty lay 275 = some ⟨.fn, 1, 8, [.nilFunc]⟩ := rfl
theorem L281 : ty lay 281 = some ⟨.fn, 1, 8, [.nilFunc]⟩ := rfl
theorem L284 : ty lay 284 = some ⟨.fn, 1, 8, [.nilFunc]⟩ := rfl
theorem L285 : ty lay 285 = some ⟨.ptr 5, 1, 8, [.pointer none]⟩ := rfl
theorem L288 : ty lay 288 = some ⟨.struct [(0, 12), (1, 12), (2, 264), (3, 282), (4, 5), (5, 5), (6, 283), (7, 284), (8, 285), (9, 286), (10, 287)], 11, 48, [.int .u64 0, .int .u64 0, .int .u32 0, .int .u8 0, .int .u8 0, .int .u8 0, .int .u8 0, .nilFunc, .pointer none, .int .i32 0, .int .i32 0]⟩ := rfl
theorem eq23 : EqTyOk Try.prog 23 [0, 0, 0] := ⟨by kernel_rfl, by kernel_rfl, by kernel_rfl⟩
theorem eq24 : EqTyOk Try.prog 24 [0, 0, 0] := ⟨by kernel_rfl, by kernel_rfl, by kernel_rfl⟩
theorem eq30 : EqTyOk Try.prog 30 [0, 1] := ⟨by kernel_rfl, by kernel_rfl, by kernel_rfl⟩
theorem eq31 : EqTyOk Try.prog 31 [0, 1] := ⟨by kernel_rfl, by kernel_rfl, by kernel_rfl⟩
theorem eq37 : EqTyOk Try.prog 37 [0, 0] := ⟨by kernel_rfl, by kernel_rfl, by kernel_rfl⟩
theorem eq38 : EqTyOk Try.prog 38 [0, 0] := ⟨by kernel_rfl, by kernel_rfl, by kernel_rfl⟩
theorem eq50 : EqTyOk Try.prog 50 [0, 0] := ⟨by kernel_rfl, by kernel_rfl, by kernel_rfl⟩
theorem eq51 : EqTyOk Try.prog 51 [0, 0] := ⟨by kernel_rfl, by kernel_rfl, by kernel_rfl⟩
theorem eq60 : EqTyOk Try.prog 60 [0, 0] := ⟨by kernel_rfl, by kernel_rfl, by kernel_rfl⟩
theorem eq61 : EqTyOk Try.prog 61 [0, 0] := ⟨by kernel_rfl, by kernel_rfl, by kernel_rfl⟩
theorem eq63 : EqTyOk Try.prog 63 [0, 0] := ⟨by kernel_rfl, by kernel_rfl, by kernel_rfl⟩
theorem eq65 : EqTyOk Try.prog 65 [0, 0] := ⟨by kernel_rfl, by kernel_rfl, by kernel_rfl⟩
theorem eq66 : EqTyOk Try.prog 66 [0, 0] := ⟨by kernel_rfl, by kernel_rfl, by kernel_rfl⟩
theorem eq69 : EqTyOk Try.prog 69 [0, 0] := ⟨by kernel_rfl, by kernel_rfl, by kernel_rfl⟩
theorem eq70 : EqTyOk Try.prog 70 [0, 0] := ⟨by kernel_rfl, by kernel_rfl, by kernel_rfl⟩
theorem eq71 : EqTyOk Try.prog 71 [0, 0] := ⟨by kernel_rfl, by kernel_rfl, by kernel_rfl⟩
theorem eq72 : EqTyOk Try.prog 72 [0, 0] := ⟨by kernel_rfl, by kernel_rfl, by kernel_rfl⟩
theorem eq73 : EqTyOk Try.prog 73 [0, 0] := ⟨by kernel_rfl, by kernel_rfl, by kernel_rfl⟩
theorem eq74 : EqTyOk Try.prog 74 [0, 0] := ⟨by kernel_rfl, by kernel_rfl, by kernel_rfl⟩
theorem eq78 : EqTyOk Try.prog 78 [0, 0, 0, 0] := ⟨by kernel_rfl, by kernel_rfl, by kernel_rfl⟩
theorem eq79 : EqTyOk Try.prog 79 [0, 0, 0, 0] := ⟨by kernel_rfl, by kernel_rfl, by kernel_rfl⟩
theorem eq94 : EqTyOk Try.prog 94 [2, 1] := ⟨by kernel_rfl, by kernel_rfl, by kernel_rfl⟩
theorem eq95 : EqTyOk Try.prog 95 [2, 1] := ⟨by kernel_rfl, by kernel_rfl, by kernel_rfl⟩
theorem eq101 : EqTyOk Try.prog 101 [0, 0, 0, 0] := ⟨by kernel_rfl, by kernel_rfl, by kernel_rfl⟩
theorem eq102 : EqTyOk Try.prog 102 [0, 0, 0, 0] := ⟨by kernel_rfl, by kernel_rfl, by kernel_rfl⟩
theorem eq103 : EqTyOk Try.prog 103 [0, 0, 0, 0, 0, 0] := ⟨by kernel_rfl, by kernel_rfl, by kernel_rfl⟩
theorem eq104 : EqTyOk Try.prog 104 [0, 0, 0, 0, 0, 0] := ⟨by kernel_rfl, by kernel_rfl, by kernel_rfl⟩
theorem eq113 : EqTyOk Try.prog 113 [0, 0, 1, 0, 0, 0, 0, 0, 0, 0, 0, 0, 0, 0] := ⟨by kernel_rfl, by kernel_rfl, by kernel_rfl⟩
theorem eq114 : EqTyOk Try.prog 114 [0, 0, 1, 0, 0, 0, 0, 0, 0, 0, 0, 0, 0, 0] := ⟨by kernel_rfl, by kernel_rfl, by kernel_rfl⟩
theorem eq115 : EqTyOk Try.prog 115 [0, 0, 0, 1, 0, 0, 0, 0, 0, 0, 0, 0, 0, 0, 0] := ⟨by kernel_rfl, by kernel_rfl, by kernel_rfl⟩
theorem eq116 : EqTyOk Try.prog 116 [0, 0, 0, 1, 0, 0, 0, 0, 0, 0, 0, 0, 0, 0, 0] := ⟨by kernel_rfl, by kernel_rfl, by kernel_rfl⟩
theorem eq126 : EqTyOk Try.prog 126 [0, 1, 1, 0, 0, 0, 0, 0, 0, 0, 0, 0] := ⟨by kernel_rfl, by kernel_rfl, by kernel_rfl⟩
theorem eq127 : EqTyOk Try.prog 127 [0, 1, 1, 0, 0, 0, 0, 0, 0, 0, 0, 0] := ⟨by kernel_rfl, by kernel_rfl, by kernel_rfl⟩
theorem eq130 : EqTyOk Try.prog 130 [0, 0, 0, 0, 1] := ⟨by kernel_rfl, by kernel_rfl, by kernel_rfl⟩
theorem eq131 : EqTyOk Try.prog 131 [0, 0, 0, 0, 1] := ⟨by kernel_rfl, by kernel_rfl, by kernel_rfl⟩
theorem eq137 : EqTyOk Try.prog 137 [0, 0, 0, 0, 1] := ⟨by kernel_rfl, by kernel_rfl, by kernel_rfl⟩
theorem eq144 : EqTyOk Try.prog 144 [2, 0, 0, 0] := ⟨by kernel_rfl, by kernel_rfl, by kernel_rfl⟩
theorem eq145 : EqTyOk Try.prog 145 [2, 0, 0, 0] := ⟨by kernel_rfl, by kernel_rfl, by kernel_rfl⟩
theorem eq160 : EqTyOk Try.prog 160 [0, 0] := ⟨by kernel_rfl, by kernel_rfl, by kernel_rfl⟩
theorem eq176 : EqTyOk Try.prog 176 [0, 0, 0, 0] := ⟨by kernel_rfl, by kernel_rfl, by kernel_rfl⟩
theorem eq177 : EqTyOk Try.prog 177 [0, 0, 0, 0] := ⟨by kernel_rfl, by kernel_rfl, by kernel_rfl⟩
theorem eq179 : EqTyOk Try.prog 179 [0, 0, 0, 0, 0, 0, 0, 0, 0] := ⟨by kernel_rfl, by kernel_rfl, by kernel_rfl⟩
theorem eq180 : EqTyOk Try.prog 180 [0, 0, 0, 0, 0, 0, 0, 0, 0] := ⟨by kernel_rfl, by kernel_rfl, by kernel_rfl⟩
theorem eq217 : EqTyOk Try.prog 217 [0, 0, 0, 0] := ⟨by kernel_rfl, by kernel_rfl, by kernel_rfl⟩
theorem eq223 : EqTyOk Try.prog 223 [0, 0, 0, 0, 0, 0, 0, 0, 0] := ⟨by kernel_rfl, by kernel_rfl, by kernel_rfl⟩
def eqs : EqT := [(23, [0, 0, 0]), (24, [0, 0, 0]), (30, [0, 1]), (31, [0, 1]), (37, [0, 0]), (38, [0, 0]), (50, [0, 0]), (51, [0, 0]), (60, [0, 0]), (61, [0, 0]), (63, [0, 0]), (65, [0, 0]), (66, [0, 0]), (69, [0, 0]), (70, [0, 0]), (71, [0, 0]), (72, [0, 0]), (73, [0, 0]), (74, [0, 0]), (78, [0, 0, 0, 0]), (79, [0, 0, 0, 0]), (94, [2, 1]), (95, [2, 1]), (101, [0, 0, 0, 0]), (102, [0, 0, 0, 0]), (103, [0, 0, 0, 0, 0, 0]), (104, [0, 0, 0, 0, 0, 0]), (113, [0, 0, 1, 0, 0, 0, 0, 0, 0, 0, 0, 0, 0, 0]), (114, [0, 0, 1, 0, 0, 0, 0, 0, 0, 0, 0, 0, 0, 0]), (115, [0, 0, 0, 1, 0, 0, 0, 0, 0, 0, 0, 0, 0, 0, 0]), (116, [0, 0, 0, 1, 0, 0, 0, 0, 0, 0, 0, 0, 0, 0, 0]), (126, [0, 1, 1, 0, 0, 0, 0, 0, 0, 0, 0, 0]), (127, [0, 1, 1, 0, 0, 0, 0, 0, 0, 0, 0, 0]), (130, [0, 0, 0, 0, 1]), (131, [0, 0, 0, 0, 1]), (137, [0, 0, 0, 0, 1]), (144, [2, 0, 0, 0]), (145, [2, 0, 0, 0]), (160, [0, 0]), (176, [0, 0, 0, 0]), (177, [0, 0, 0, 0]), (179, [0, 0, 0, 0, 0, 0, 0, 0, 0]), (180, [0, 0, 0, 0, 0, 0, 0, 0, 0]), (217, [0, 0, 0, 0]), (223, [0, 0, 0, 0, 0, 0, 0, 0, 0])]
theorem eqs_ok : EqOk Try.prog eqs := .cons eq23 <| .cons eq24 <| .cons eq30 <| .cons eq31 <| .cons eq37 <| .cons eq38 <| .cons eq50 <| .cons eq51 <| .cons eq60 <| .cons eq61 <| .cons eq63 <| .cons eq65 <| .cons eq66 <| .cons eq69 <| .cons eq70 <| .cons eq71 <| .cons eq72 <| .cons eq73 <| .cons eq74 <| .cons eq78 <| .cons eq79 <| .cons eq94 <| .cons eq95 <| .cons eq101 <| .cons eq102 <| .cons eq103 <| .cons eq104 <| .cons eq113 <| .cons eq114 <| .cons eq115 <| .cons eq116 <| .cons eq126 <| .cons eq127 <| .cons eq130 <| .cons eq131 <| .cons eq137 <| .cons eq144 <| .cons eq145 <| .cons eq160 <| .cons eq176 <| .cons eq177 <| .cons eq179 <| .cons eq180 <| .cons eq217 <| .cons eq223 <| .nil _
theorem E23 : eqty eqs 23 = some [0, 0, 0] := rfl
theorem E24 : eqty eqs 24 = some [0, 0, 0] := rfl
theorem E30 : eqty eqs 30 = some [0, 1] := rfl
theorem E31 : eqty eqs 31 = some [0, 1] := rfl
theorem E37 : eqty eqs 37 = some [0, 0] := rfl
theorem E38 : eqty eqs 38 = some [0, 0] := rfl
theorem E50 : eqty eqs 50 = some [0, 0] := rfl
theorem E51 : eqty eqs 51 = some [0, 0] := rfl
theorem E60 : eqty eqs 60 = some [0, 0] := rfl
theorem E61 : eqty eqs 61 = some [0, 0] := rfl
theorem E63 : eqty eqs 63 = some [0, 0] := rfl
theorem E65 : eqty eqs 65 = some [0, 0] := rfl
theorem E66 : eqty eqs 66 = some [0, 0] := rfl
theorem E69 : eqty eqs 69 = some [0, 0] := rfl
theorem E70 : eqty eqs 70 = some [0, 0] := rfl
theorem E71 : eqty eqs 71 = some [0, 0] := rfl
theorem E72 : eqty eqs 72 = some [0, 0] := rfl
theorem E73 : eqty eqs 73 = some [0, 0] := rfl
theorem E74 : eqty eqs 74 = some [0, 0] := rfl
theorem E78 : eqty eqs 78 = some [0, 0, 0, 0] := rfl
theorem E79 : eqty eqs 79 = some [0, 0, 0, 0] := rfl
theorem E94 : eqty eqs 94 = some [2, 1] := rfl
theorem E95 : eqty eqs 95 = some [2, 1] := rfl
theorem E101 : eqty eqs 101 = some [0, 0, 0, 0] := rfl
theorem E102 : eqty eqs 102 = some [0, 0, 0, 0] := rfl
theorem E103 : eqty eqs 103 = some [0, 0, 0, 0, 0, 0] := rfl
theorem E104 : eqty eqs 104 = some [0, 0, 0, 0, 0, 0] := rfl
theorem E113 : eqty eqs 113 = some [0, 0, 1, 0, 0, 0, 0, 0, 0, 0, 0, 0, 0, 0] := rfl
theorem E114 : eqty eqs 114 = some [0, 0, 1, 0, 0, 0, 0, 0, 0, 0, 0, 0, 0, 0] := rfl
theorem E115 : eqty eqs 115 = some [0, 0, 0, 1, 0, 0, 0, 0, 0, 0, 0, 0, 0, 0, 0] := rfl
theorem E116 : eqty eqs 116 = some [0, 0, 0, 1, 0, 0, 0, 0, 0, 0, 0, 0, 0, 0, 0] := rfl
theorem E126 : eqty eqs 126 = some [0, 1, 1, 0, 0, 0, 0, 0, 0, 0, 0, 0] := rfl
theorem E127 : eqty eqs 127 = some [0, 1, 1, 0, 0, 0, 0, 0, 0, 0, 0, 0] := rfl
theorem E130 : eqty eqs 130 = some [0, 0, 0, 0, 1] := rfl
theorem E131 : eqty eqs 131 = some [0, 0, 0, 0, 1] := rfl
theorem E137 : eqty eqs 137 = some [0, 0, 0, 0, 1] := rfl
theorem E144 : eqty eqs 144 = some [2, 0, 0, 0] := rfl
theorem E145 : eqty eqs 145 = some [2, 0, 0, 0] := rfl
theorem E160 : eqty eqs 160 = some [0, 0] := rfl
theorem E176 : eqty eqs 176 = some [0, 0, 0, 0] := rfl
theorem E177 : eqty eqs 177 = some [0, 0, 0, 0] := rfl
theorem E179 : eqty eqs 179 = some [0, 0, 0, 0, 0, 0, 0, 0, 0] := rfl
theorem E180 : eqty eqs 180 = some [0, 0, 0, 0, 0, 0, 0, 0, 0] := rfl
theorem E217 : eqty eqs 217 = some [0, 0, 0, 0] := rfl
theorem E223 : eqty eqs 223 = some [0, 0, 0, 0, 0, 0, 0, 0, 0] := rfl
def cx : Cx := ⟨lay, eqs⟩
theorem cx_ok : CxOk Try.prog cx := ⟨lay_ok, eqs_ok⟩
/-- floodgate/floodgatelaw34.LimitTells -/
theorem fn3 : FnOk Try.prog 3 := fun args w => Try.call3 args w
/-- floodgate/floodgatelaw29.ScriptDecodes -/
theorem fn4 : FnOk Try.prog 4 := fun args w => Try.call4 args w
/-- floodgate/floodgatelaw48.ConformBursts -/
theorem fn5 : FnOk Try.prog 5 := fun args w => Try.call5 args w
/-- floodgate/floodgatelaw48.ConformMore -/
theorem fn6 : FnOk Try.prog 6 := fun args w => Try.call6 args w
/-- floodgate/floodgatelaw48.ConformBound -/
theorem fn7 : FnOk Try.prog 7 := fun args w => Try.call7 args w
/-- floodgate/floodgatelaw49.BehindTells -/
theorem fn8 : FnOk Try.prog 8 := fun args w => Try.call8 args w
/-- floodgate/floodgatelaw49.BehindLeast -/
theorem fn9 : FnOk Try.prog 9 := fun args w => Try.call9 args w
/-- floodgate/floodgatelaw29.ScriptEncodes -/
theorem fn10 : FnOk Try.prog 10 := fun args w => Try.call10 args w
/-- floodgate/floodgatelaw29.ScriptBack -/
theorem fn11 : FnOk Try.prog 11 := fun args w => Try.call11 args w
/-- floodgate/floodgatelaw29.ScriptForth -/
theorem fn12 : FnOk Try.prog 12 := fun args w => Try.call12 args w
/-- floodgate/floodgatelaw31.SpansBelow -/
theorem fn13 : FnOk Try.prog 13 := fun args w => Try.call13 args w
/-- floodgate/floodgatelaw34.half -/
theorem fn14 : FnOk Try.prog 14 := fun args w => Try.call14 args w
/-- floodgate/floodgateref34.Broken -/
theorem fn15 : FnOk Try.prog 15 := fun args w => Try.call15 args w
/-- floodgate/limit.Broken -/
theorem fn16 : FnOk Try.prog 16 := fun args w => Try.call16 args w
/-- floodgate/limit.Kept -/
theorem fn17 : FnOk Try.prog 17 := fun args w => Try.call17 args w
/-- floodgate/floodgatelaw29.five -/
theorem fn18 : FnOk Try.prog 18 := fun args w => Try.call18 args w
/-- floodgate/script.Decode -/
theorem fn19 : FnOk Try.prog 19 := fun args w => Try.call19 args w
/-- floodgate/floodgateref29.Decode -/
theorem fn20 : FnOk Try.prog 20 := fun args w => Try.call20 args w
/-- floodgate/floodgateref29.Alike -/
theorem fn21 : FnOk Try.prog 21 := fun args w => Try.call21 args w
/-- floodgate/floodgatelaw48.three -/
theorem fn22 : FnOk Try.prog 22 := fun args w => Try.call22 args w
/-- floodgate/conform.Burst -/
theorem fn23 : FnOk Try.prog 23 := fun args w => Try.call23 args w
/-- floodgate/conform.Conforms -/
theorem fn24 : FnOk Try.prog 24 := fun args w => Try.call24 args w
/-- floodgate/floodgateref48.Of -/
theorem fn25 : FnOk Try.prog 25 := fun args w => Try.call25 args w
/-- floodgate/floodgateref48.Wrong -/
theorem fn26 : FnOk Try.prog 26 := fun args w => Try.call26 args w
/-- floodgate/floodgateref48.Burst -/
theorem fn27 : FnOk Try.prog 27 := fun args w => Try.call27 args w
/-- floodgate/conform.Bound -/
theorem fn28 : FnOk Try.prog 28 := fun args w => Try.call28 args w
/-- floodgate/floodgateref48.Bound -/
theorem fn29 : FnOk Try.prog 29 := fun args w => Try.call29 args w
/-- floodgate/behind.Ahead -/
theorem fn30 : FnOk Try.prog 30 := fun args w => Try.call30 args w
/-- floodgate/fair.Apart -/
theorem fn31 : FnOk Try.prog 31 := fun args w => Try.call31 args w
/-- floodgate/behind.Holds -/
theorem fn32 : FnOk Try.prog 32 := fun args w => Try.call32 args w
/-- floodgate/floodgatelaw49.two -/
theorem fn33 : FnOk Try.prog 33 := fun args w => Try.call33 args w
/-- floodgate/floodgatelaw49.ref -/
theorem fn34 : FnOk Try.prog 34 := fun args w => Try.call34 args w
/-- floodgate/floodgateref49.Ahead -/
theorem fn35 : FnOk Try.prog 35 := fun args w => Try.call35 args w
/-- floodgate/floodgateref33.Slope -/
theorem fn36 : FnOk Try.prog 36 := fun args w => Try.call36 args w
/-- floodgate/floodgateref01.Less -/
theorem fn37 : FnOk Try.prog 37 := fun args w => Try.call37 args w
/-- floodgate/floodgateref33.Most -/
theorem fn38 : FnOk Try.prog 38 := fun args w => Try.call38 args w
/-- floodgate/behind.Least -/
theorem fn39 : FnOk Try.prog 39 := fun args w => Try.call39 args w
/-- floodgate/floodgateref49.May -/
theorem fn40 : FnOk Try.prog 40 := fun args w => Try.call40 args w
/-- floodgate/floodgateref49.Least -/
theorem fn41 : FnOk Try.prog 41 := fun args w => Try.call41 args w
/-- floodgate/floodgatelaw29.few -/
theorem fn42 : FnOk Try.prog 42 := fun args w => Try.call42 args w
/-- floodgate/script.Encode -/
theorem fn43 : FnOk Try.prog 43 := fun args w => Try.call43 args w
/-- floodgate/floodgateref29.Encode -/
theorem fn44 : FnOk Try.prog 44 := fun args w => Try.call44 args w
/-- floodgate/script.Plain -/
theorem fn45 : FnOk Try.prog 45 := fun args w => Try.call45 args w
/-- floodgate/floodgateref29.Same -/
theorem fn46 : FnOk Try.prog 46 := fun args w => Try.call46 args w
/-- floodgate/floodgateref29.Plain -/
theorem fn47 : FnOk Try.prog 47 := fun args w => Try.call47 args w
/-- floodgate/floodgatelaw31.two -/
theorem fn48 : FnOk Try.prog 48 := fun args w => Try.call48 args w
/-- floodgate/hier.New -/
theorem fn49 : FnOk Try.prog 49 := fun args w => Try.call49 args w
/-- (*floodgate/hier.Tree).Add -/
theorem fn50 : FnOk Try.prog 50 := fun args w => Try.call50 args w
/-- (*floodgate/hier.Tree).Del -/
theorem fn51 : FnOk Try.prog 51 := fun args w => Try.call51 args w
/-- (*floodgate/hier.Tree).Set -/
theorem fn52 : FnOk Try.prog 52 := fun args w => Try.call52 args w
/-- floodgate/floodgateref19.One -/
theorem fn53 : FnOk Try.prog 53 := fun args w => Try.call53 args w
/-- floodgate/floodgateplain.Ints -/
theorem fn54 : FnOk Try.prog 54 := fun args w => Try.call54 args w
/-- floodgate/spans.Below -/
theorem fn55 : FnOk Try.prog 55 := fun args w => Try.call55 args w
/-- floodgate/floodgateref31.Below -/
theorem fn56 : FnOk Try.prog 56 := fun args w => Try.call56 args w
/-- floodgate/floodgateref31.Of -/
theorem fn57 : FnOk Try.prog 57 := fun args w => Try.call57 args w
/-- floodgate/floodgateref34.has -/
theorem fn58 : FnOk Try.prog 58 := fun args w => Try.call58 args w
/-- floodgate/floodgateref34.Picked -/
theorem fn59 : FnOk Try.prog 59 := fun args w => Try.call59 args w
/-- floodgate/floodgateref22.Most -/
theorem fn60 : FnOk Try.prog 60 := fun args w => Try.call60 args w
/-- floodgate/spans.Of -/
theorem fn61 : FnOk Try.prog 61 := fun args w => Try.call61 args w
/-- slices.Contains[[]int,int] -/
theorem fn62 : FnOk Try.prog 62 := fun args w => Try.call62 args w
/-- floodgate/upper.Most -/
theorem fn63 : FnOk Try.prog 63 := fun args w => Try.call63 args w
/-- floodgate/script.Decode$1 -/
theorem fn64 : FnOk Try.prog 64 := fun args w => Try.call64 args w
/-- (*floodgate/script.coder).script -/
theorem fn65 : FnOk Try.prog 65 := fun args w => Try.call65 args w
/-- (floodgate/floodgateref29.In).next -/
theorem fn66 : FnOk Try.prog 66 := fun args w => Try.call66 args w
/-- (floodgate/floodgateref29.In).op -/
theorem fn67 : FnOk Try.prog 67 := fun args w => Try.call67 args w
/-- floodgate/conform.each -/
theorem fn68 : FnOk Try.prog 68 := fun args w => Try.call68 args w
/-- floodgate/conform.Burst$1 -/
theorem fn69 : FnOk Try.prog 69 := fun args w => Try.call69 args w
/-- floodgate/wide.Sub -/
theorem fn70 : FnOk Try.prog 70 := fun args w => Try.call70 args w
/-- floodgate/wide.Mul -/
theorem fn71 : FnOk Try.prog 71 := fun args w => Try.call71 args w
/-- floodgate/wide.Add -/
theorem fn72 : FnOk Try.prog 72 := fun args w => Try.call72 args w
/-- floodgate/wide.Compare -/
theorem fn73 : FnOk Try.prog 73 := fun args w => Try.call73 args w
/-- floodgate/ratio.Ceil -/
theorem fn74 : FnOk Try.prog 74 := fun args w => Try.call74 args w
/-- floodgate/floodgateref48.More -/
theorem fn75 : FnOk Try.prog 75 := fun args w => Try.call75 args w
/-- floodgate/floodgateref01.Mul -/
theorem fn76 : FnOk Try.prog 76 := fun args w => Try.call76 args w
/-- floodgate/floodgateref20.Units -/
theorem fn77 : FnOk Try.prog 77 := fun args w => Try.call77 args w
/-- floodgate/floodgateref01.Minus -/
theorem fn78 : FnOk Try.prog 78 := fun args w => Try.call78 args w
/-- floodgate/floodgateref02.Ceil -/
theorem fn79 : FnOk Try.prog 79 := fun args w => Try.call79 args w
/-- floodgate/curve.Right -/
theorem fn80 : FnOk Try.prog 80 := fun args w => Try.call80 args w
/-- floodgate/ratio.Up -/
theorem fn81 : FnOk Try.prog 81 := fun args w => Try.call81 args w
/-- floodgate/curve.Of -/
theorem fn82 : FnOk Try.prog 82 := fun args w => Try.call82 args w
/-- floodgate/floodgateref04.Of -/
theorem fn83 : FnOk Try.prog 83 := fun args w => Try.call83 args w
/-- floodgate/fair.may -/
theorem fn84 : FnOk Try.prog 84 := fun args w => Try.call84 args w
/-- floodgate/fair.Most -/
theorem fn85 : FnOk Try.prog 85 := fun args w => Try.call85 args w
/-- floodgate/floodgateref01.Two -/
theorem fn86 : FnOk Try.prog 86 := fun args w => Try.call86 args w
/-- floodgate/floodgateref49.times -/
theorem fn87 : FnOk Try.prog 87 := fun args w => Try.call87 args w
/-- floodgate/floodgateref33.times -/
theorem fn88 : FnOk Try.prog 88 := fun args w => Try.call88 args w
/-- floodgate/behind.Least$1 -/
theorem fn89 : FnOk Try.prog 89 := fun args w => Try.call89 args w
/-- slices.ContainsFunc[[]uint64,uint64] -/
theorem fn90 : FnOk Try.prog 90 := fun args w => Try.call90 args w
/-- slices.Contains[[]uint64,uint64] -/
theorem fn91 : FnOk Try.prog 91 := fun args w => Try.call91 args w
/-- floodgate/behind.total -/
theorem fn92 : FnOk Try.prog 92 := fun args w => Try.call92 args w
/-- floodgate/floodgateref28.Few -/
theorem fn93 : FnOk Try.prog 93 := fun args w => Try.call93 args w
/-- floodgate/script.Encode$1 -/
theorem fn94 : FnOk Try.prog 94 := fun args w => Try.call94 args w
/-- floodgate/floodgateref29.Fields -/
theorem fn95 : FnOk Try.prog 95 := fun args w => Try.call95 args w
/-- floodgate/floodgateref29.byteAt -/
theorem fn96 : FnOk Try.prog 96 := fun args w => Try.call96 args w
/-- floodgate/floodgatelaw31.two$1 -/
theorem fn97 : FnOk Try.prog 97 := fun args w => Try.call97 args w
/-- floodgate/floodgatelaw31.two$2 -/
theorem fn98 : FnOk Try.prog 98 := fun args w => Try.call98 args w
/-- floodgate/spans.Backlogged -/
theorem fn99 : FnOk Try.prog 99 := fun args w => Try.call99 args w
/-- floodgate/spec.Right -/
theorem fn100 : FnOk Try.prog 100 := fun args w => Try.call100 args w
/-- floodgate/spec.Shares -/
theorem fn101 : FnOk Try.prog 101 := fun args w => Try.call101 args w
/-- (*floodgate/hier.Tree).shares -/
theorem fn102 : FnOk Try.prog 102 := fun args w => Try.call102 args w
/-- (*floodgate/hier.Tree).Depth -/
theorem fn103 : FnOk Try.prog 103 := fun args w => Try.call103 args w
/-- (*floodgate/hier.Tree).Children -/
theorem fn104 : FnOk Try.prog 104 := fun args w => Try.call104 args w
/-- (*floodgate/hier.Tree).Set$1 -/
theorem fn105 : FnOk Try.prog 105 := fun args w => Try.call105 args w
/-- slices.ContainsFunc[[]int,int] -/
theorem fn106 : FnOk Try.prog 106 := fun args w => Try.call106 args w
/-- floodgate/floodgateref18.Add -/
theorem fn107 : FnOk Try.prog 107 := fun args w => Try.call107 args w
/-- floodgate/floodgateref18.Del -/
theorem fn108 : FnOk Try.prog 108 := fun args w => Try.call108 args w
/-- floodgate/floodgateref18.Set -/
theorem fn109 : FnOk Try.prog 109 := fun args w => Try.call109 args w
/-- slices.DeleteFunc[[]int,int] -/
theorem fn110 : FnOk Try.prog 110 := fun args w => Try.call110 args w
/-- (*floodgate/hier.Tree).Leaves -/
theorem fn111 : FnOk Try.prog 111 := fun args w => Try.call111 args w
/-- floodgate/spans.Below$1 -/
theorem fn112 : FnOk Try.prog 112 := fun args w => Try.call112 args w
/-- (*floodgate/hier.Tree).Up -/
theorem fn113 : FnOk Try.prog 113 := fun args w => Try.call113 args w
/-- floodgate/floodgateref31.has -/
theorem fn114 : FnOk Try.prog 114 := fun args w => Try.call114 args w
/-- floodgate/floodgateref18.Up -/
theorem fn115 : FnOk Try.prog 115 := fun args w => Try.call115 args w
/-- floodgate/floodgateref31.Lengths -/
theorem fn116 : FnOk Try.prog 116 := fun args w => Try.call116 args w
/-- floodgate/floodgateref02.Floor -/
theorem fn117 : FnOk Try.prog 117 := fun args w => Try.call117 args w
/-- floodgate/floodgateref04.Service -/
theorem fn118 : FnOk Try.prog 118 := fun args w => Try.call118 args w
/-- floodgate/floodgateref01.Lo -/
theorem fn119 : FnOk Try.prog 119 := fun args w => Try.call119 args w
/-- floodgate/floodgateref01.Of -/
theorem fn120 : FnOk Try.prog 120 := fun args w => Try.call120 args w
/-- floodgate/floodgateref01.Plus -/
theorem fn121 : FnOk Try.prog 121 := fun args w => Try.call121 args w
/-- floodgate/floodgateref01.Hi -/
theorem fn122 : FnOk Try.prog 122 := fun args w => Try.call122 args w
/-- floodgate/spans.length -/
theorem fn123 : FnOk Try.prog 123 := fun args w => Try.call123 args w
/-- slices.Index[[]int,int] -/
theorem fn124 : FnOk Try.prog 124 := fun args w => Try.call124 args w
/-- floodgate/ratio.Floor -/
theorem fn125 : FnOk Try.prog 125 := fun args w => Try.call125 args w
/-- floodgate/curve.Service -/
theorem fn126 : FnOk Try.prog 126 := fun args w => Try.call126 args w
/-- (*floodgate/script.coder).num -/
theorem fn127 : FnOk Try.prog 127 := fun args w => Try.call127 args w
/-- (*floodgate/script.coder).op -/
theorem fn128 : FnOk Try.prog 128 := fun args w => Try.call128 args w
/-- (floodgate/floodgateref29.In).changes -/
theorem fn129 : FnOk Try.prog 129 := fun args w => Try.call129 args w
/-- (floodgate/floodgateref29.In).rules -/
theorem fn130 : FnOk Try.prog 130 := fun args w => Try.call130 args w
/-- (floodgate/floodgateref29.In).head -/
theorem fn131 : FnOk Try.prog 131 := fun args w => Try.call131 args w
/-- floodgate/wide.sub -/
theorem fn132 : FnOk Try.prog 132 := fun args w => Try.call132 args w
/-- floodgate/wide.add -/
theorem fn133 : FnOk Try.prog 133 := fun args w => Try.call133 args w
/-- floodgate/wide.Div -/
theorem fn134 : FnOk Try.prog 134 := fun args w => Try.call134 args w
/-- floodgate/wide.Of -/
theorem fn135 : FnOk Try.prog 135 := fun args w => Try.call135 args w
/-- floodgate/ratio.narrow -/
theorem fn136 : FnOk Try.prog 136 := fun args w => Try.call136 args w
/-- floodgate/floodgateref01.Quotient -/
theorem fn137 : FnOk Try.prog 137 := fun args w => Try.call137 args w
/-- floodgate/fair.slope -/
theorem fn138 : FnOk Try.prog 138 := fun args w => Try.call138 args w
/-- slices.IndexFunc[[]uint64,uint64] -/
theorem fn139 : FnOk Try.prog 139 := fun args w => Try.call139 args w
/-- slices.Index[[]uint64,uint64] -/
theorem fn140 : FnOk Try.prog 140 := fun args w => Try.call140 args w
/-- floodgate/floodgateref29.num -/
theorem fn141 : FnOk Try.prog 141 := fun args w => Try.call141 args w
/-- floodgate/floodgateref29.op -/
theorem fn142 : FnOk Try.prog 142 := fun args w => Try.call142 args w
/-- floodgate/spec.from -/
theorem fn143 : FnOk Try.prog 143 := fun args w => Try.call143 args w
/-- floodgate/spec.Real -/
theorem fn144 : FnOk Try.prog 144 := fun args w => Try.call144 args w
/-- floodgate/spec.Capped -/
theorem fn145 : FnOk Try.prog 145 := fun args w => Try.call145 args w
/-- floodgate/spec.has -/
theorem fn146 : FnOk Try.prog 146 := fun args w => Try.call146 args w
/-- (*floodgate/hier.Tree).which -/
theorem fn147 : FnOk Try.prog 147 := fun args w => Try.call147 args w
/-- (*floodgate/hier.Tree).Children$1 -/
theorem fn148 : FnOk Try.prog 148 := fun args w => Try.call148 args w
/-- slices.IndexFunc[[]int,int] -/
theorem fn149 : FnOk Try.prog 149 := fun args w => Try.call149 args w
/-- floodgate/floodgateref17.Wrong -/
theorem fn150 : FnOk Try.prog 150 := fun args w => Try.call150 args w
/-- floodgate/floodgateref18.Find -/
theorem fn151 : FnOk Try.prog 151 := fun args w => Try.call151 args w
/-- floodgate/floodgateref18.Shares -/
theorem fn152 : FnOk Try.prog 152 := fun args w => Try.call152 args w
/-- floodgate/floodgateref18.put -/
theorem fn153 : FnOk Try.prog 153 := fun args w => Try.call153 args w
/-- floodgate/floodgateref18.Children -/
theorem fn154 : FnOk Try.prog 154 := fun args w => Try.call154 args w
/-- (*floodgate/hier.Tree).Leaves$1 -/
theorem fn155 : FnOk Try.prog 155 := fun args w => Try.call155 args w
/-- (*floodgate/hier.Tree).Get -/
theorem fn156 : FnOk Try.prog 156 := fun args w => Try.call156 args w
/-- floodgate/floodgateref01.Add -/
theorem fn157 : FnOk Try.prog 157 := fun args w => Try.call157 args w
/-- floodgate/script.list[floodgate/api.Change] -/
theorem fn158 : FnOk Try.prog 158 := fun args w => Try.call158 args w
/-- (*floodgate/script.coder).op$1 -/
theorem fn159 : FnOk Try.prog 159 := fun args w => Try.call159 args w
/-- (*floodgate/script.coder).class -/
theorem fn160 : FnOk Try.prog 160 := fun args w => Try.call160 args w
/-- floodgate/script.list[floodgate/api.Rule] -/
theorem fn161 : FnOk Try.prog 161 := fun args w => Try.call161 args w
/-- (*floodgate/script.coder).rule -/
theorem fn162 : FnOk Try.prog 162 := fun args w => Try.call162 args w
/-- (*floodgate/script.coder).packet -/
theorem fn163 : FnOk Try.prog 163 := fun args w => Try.call163 args w
/-- (*floodgate/script.coder).word -/
theorem fn164 : FnOk Try.prog 164 := fun args w => Try.call164 args w
/-- (floodgate/floodgateref29.In).change -/
theorem fn165 : FnOk Try.prog 165 := fun args w => Try.call165 args w
/-- floodgate/floodgateref01.twice -/
theorem fn166 : FnOk Try.prog 166 := fun args w => Try.call166 args w
/-- floodgate/floodgateref01.bit -/
theorem fn167 : FnOk Try.prog 167 := fun args w => Try.call167 args w
/-- floodgate/floodgateref29.change -/
theorem fn168 : FnOk Try.prog 168 := fun args w => Try.call168 args w
/-- floodgate/floodgateref29.rule -/
theorem fn169 : FnOk Try.prog 169 := fun args w => Try.call169 args w
/-- floodgate/floodgateref29.head -/
theorem fn170 : FnOk Try.prog 170 := fun args w => Try.call170 args w
/-- slices.Sort[[]int,int] -/
theorem fn171 : FnOk Try.prog 171 := fun args w => Try.call171 args w
/-- (*floodgate/script.coder).curve -/
theorem fn172 : FnOk Try.prog 172 := fun args w => Try.call172 args w
/-- (*floodgate/script.coder).header -/
theorem fn173 : FnOk Try.prog 173 := fun args w => Try.call173 args w
/-- floodgate/script.bits -/
theorem fn174 : FnOk Try.prog 174 := fun args w => Try.call174 args w
/-- (floodgate/floodgateref29.In).curve -/
theorem fn175 : FnOk Try.prog 175 := fun args w => Try.call175 args w
/-- floodgate/floodgateref29.curve -/
theorem fn176 : FnOk Try.prog 176 := fun args w => Try.call176 args w
/-- slices.pdqsortOrdered[int] -/
theorem fn177 : FnOk Try.prog 177 := fun args w => Try.call177 args w
/-- math/bits.Len -/
theorem fn178 : FnOk Try.prog 178 := fun args w => Try.call178 args w
/-- slices.insertionSortOrdered[int] -/
theorem fn179 : FnOk Try.prog 179 := fun args w => Try.call179 args w
/-- slices.heapSortOrdered[int] -/
theorem fn180 : FnOk Try.prog 180 := fun args w => Try.call180 args w
/-- slices.breakPatternsOrdered[int] -/
theorem fn181 : FnOk Try.prog 181 := fun args w => Try.call181 args w
/-- slices.choosePivotOrdered[int] -/
theorem fn182 : FnOk Try.prog 182 := fun args w => Try.call182 args w
/-- slices.reverseRangeOrdered[int] -/
theorem fn183 : FnOk Try.prog 183 := fun args w => Try.call183 args w
/-- slices.partialInsertionSortOrdered[int] -/
theorem fn184 : FnOk Try.prog 184 := fun args w => Try.call184 args w
/-- cmp.Less[int] -/
theorem fn185 : FnOk Try.prog 185 := fun args w => Try.call185 args w
/-- slices.partitionEqualOrdered[int] -/
theorem fn186 : FnOk Try.prog 186 := fun args w => Try.call186 args w
/-- slices.partitionOrdered[int] -/
theorem fn187 : FnOk Try.prog 187 := fun args w => Try.call187 args w
/-- math/bits.Len32 -/
theorem fn188 : FnOk Try.prog 188 := fun args w => Try.call188 args w
/-- math/bits.Len64 -/
theorem fn189 : FnOk Try.prog 189 := fun args w => Try.call189 args w
/-- slices.siftDownOrdered[int] -/
theorem fn190 : FnOk Try.prog 190 := fun args w => Try.call190 args w
/-- slices.nextPowerOfTwo -/
theorem fn191 : FnOk Try.prog 191 := fun args w => Try.call191 args w
/-- (*slices.xorshift).Next -/
theorem fn192 : FnOk Try.prog 192 := fun args w => Try.call192 args w
/-- slices.medianAdjacentOrdered[int] -/
theorem fn193 : FnOk Try.prog 193 := fun args w => Try.call193 args w
/-- slices.medianOrdered[int] -/
theorem fn194 : FnOk Try.prog 194 := fun args w => Try.call194 args w
/-- cmp.isNaN[int] -/
theorem fn195 : FnOk Try.prog 195 := fun args w => Try.call195 args w
/-- slices.order2Ordered[int] -/
theorem fn196 : FnOk Try.prog 196 := fun args w => Try.call196 args w
attribute [go_sem] cx L1 L2 L3 L4 L5 L9 L12 L17 L20 L21 L22 L23 L24 L25 L26 L27 L28 L29 L30 L31 L32 L34 L35 L36 L37 L38 L39 L40 L41 L42 L44 L45 L46 L47 L48 L49 L50 L51 L53 L54 L55 L56 L57 L58 L59 L60 L61 L62 L63 L64 L65 L66 L67 L68 L69 L70 L71 L72 L73 L74 L76 L77 L78 L79 L80 L81 L82 L83 L84 L85 L86 L87 L88 L89 L90 L91 L93 L94 L95 L96 L97 L98 L99 L100 L101 L102 L103 L104 L105 L106 L107 L108 L109 L110 L111 L112 L113 L114 L115 L116 L117 L118 L119 L120 L121 L122 L123 L124 L125 L126 L127 L128 L129 L130 L131 L132 L133 L134 L135 L136 L137 L138 L139 L140 L141 L142 L143 L144 L145 L146 L148 L149 L151 L152 L153 L154 L155 L156 L157 L158 L159 L160 L161 L162 L163 L164 L165 L166 L167 L168 L169 L170 L171 L173 L174 L175 L176 L177 L178 L179 L180 L181 L182 L183 L184 L185 L187 L188 L189 L190 L191 L192 L193 L194 L195 L196 L197 L198 L199 L200 L201 L202 L203 L205 L207 L209 L210 L212 L213 L214 L216 L217 L218 L219 L220 L221 L222 L223 L224 L225 L226 L227 L228 L229 L231 L232 L233 L234 L235 L236 L237 L238 L239 L241 L242 L243 L244 L245 L246 L247 L248 L249 L251 L252 L253 L254 L255 L256 L258 L259 L260 L261 L262 L263 L264 L265 L266 L267 L268 L269 L270 L271 L272 L274 L275 L281 L284 L285 L288 E23 E24 E30 E31 E37 E38 E50 E51 E60 E61 E63 E65 E66 E69 E70 E71 E72 E73 E74 E78 E79 E94 E95 E101 E102 E103 E104 E113 E114 E115 E116 E126 E127 E130 E131 E137 E144 E145 E160 E176 E177 E179 E180 E217 E223
end Go.Fg.X
