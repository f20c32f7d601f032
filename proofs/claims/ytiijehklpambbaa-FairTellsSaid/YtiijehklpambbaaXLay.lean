/- Facts on the program that a dump holds: the layout of its types, which structs are held against one another cell by cell, and how each function is entered. Written by a program (lay.py). No conditions. -/
import Derived.Test.YtiijehklpambbaaFgTell
import Derived.Test.YtiijehklpambbaaProg
import Derived.KernelRfl
namespace Go.Fg.X
open Go.Proofs Go.Fg
set_option maxRecDepth 100000

theorem ty1 : TyOk Try.prog 1 ⟨.fn, 1, 8, [.nilFunc]⟩ := ⟨by kernel_rfl, by kernel_rfl⟩
theorem ty2 : TyOk Try.prog 2 ⟨.int .i64, 1, 8, [.int .i64 0]⟩ := ⟨by kernel_rfl, by kernel_rfl⟩
theorem ty3 : TyOk Try.prog 3 ⟨.int .i64, 1, 8, [.int .i64 0]⟩ := ⟨by kernel_rfl, by kernel_rfl⟩
theorem ty4 : TyOk Try.prog 4 ⟨.bool, 1, 1, [.bool false]⟩ := ⟨by kernel_rfl, by kernel_rfl⟩
theorem ty5 : TyOk Try.prog 5 ⟨.int .u8, 1, 1, [.int .u8 0]⟩ := ⟨by kernel_rfl, by kernel_rfl⟩
theorem ty9 : TyOk Try.prog 9 ⟨.str, 1, 16, [.string ByteArray.empty]⟩ := ⟨by kernel_rfl, by kernel_rfl⟩
theorem ty12 : TyOk Try.prog 12 ⟨.int .u64, 1, 8, [.int .u64 0]⟩ := ⟨by kernel_rfl, by kernel_rfl⟩
theorem ty17 : TyOk Try.prog 17 ⟨.ptr 257, 1, 8, [.pointer none]⟩ := ⟨by kernel_rfl, by kernel_rfl⟩
theorem ty20 : TyOk Try.prog 20 ⟨.iface, 1, 16, [.nilIface]⟩ := ⟨by kernel_rfl, by kernel_rfl⟩
theorem ty21 : TyOk Try.prog 21 ⟨.int .i32, 1, 4, [.int .i32 0]⟩ := ⟨by kernel_rfl, by kernel_rfl⟩
theorem ty22 : TyOk Try.prog 22 ⟨.slice 36, 1, 24, [.slice none 0 0]⟩ := ⟨by kernel_rfl, by kernel_rfl⟩
theorem ty23 : TyOk Try.prog 23 ⟨.slice 3, 1, 24, [.slice none 0 0]⟩ := ⟨by kernel_rfl, by kernel_rfl⟩
theorem ty24 : TyOk Try.prog 24 ⟨.fn, 1, 8, [.nilFunc]⟩ := ⟨by kernel_rfl, by kernel_rfl⟩
theorem ty25 : TyOk Try.prog 25 ⟨.slice 29, 1, 24, [.slice none 0 0]⟩ := ⟨by kernel_rfl, by kernel_rfl⟩
theorem ty26 : TyOk Try.prog 26 ⟨.fn, 1, 8, [.nilFunc]⟩ := ⟨by kernel_rfl, by kernel_rfl⟩
theorem ty27 : TyOk Try.prog 27 ⟨.int .u64, 1, 8, [.int .u64 0]⟩ := ⟨by kernel_rfl, by kernel_rfl⟩
theorem ty28 : TyOk Try.prog 28 ⟨.struct [(0, 27), (1, 27), (2, 3), (3, 3), (4, 4)], 5, 40, [.int .u64 0, .int .u64 0, .int .i64 0, .int .i64 0, .bool false]⟩ := ⟨by kernel_rfl, by kernel_rfl⟩
theorem ty29 : TyOk Try.prog 29 ⟨.struct [(0, 27), (1, 27), (2, 3), (3, 3), (4, 4)], 5, 40, [.int .u64 0, .int .u64 0, .int .i64 0, .int .i64 0, .bool false]⟩ := ⟨by kernel_rfl, by kernel_rfl⟩
theorem ty30 : TyOk Try.prog 30 ⟨.int .u16, 1, 2, [.int .u16 0]⟩ := ⟨by kernel_rfl, by kernel_rfl⟩
theorem ty31 : TyOk Try.prog 31 ⟨.array 4 30, 4, 8, [.int .u16 0, .int .u16 0, .int .u16 0, .int .u16 0]⟩ := ⟨by kernel_rfl, by kernel_rfl⟩
theorem ty32 : TyOk Try.prog 32 ⟨.array 4 30, 4, 8, [.int .u16 0, .int .u16 0, .int .u16 0, .int .u16 0]⟩ := ⟨by kernel_rfl, by kernel_rfl⟩
theorem ty33 : TyOk Try.prog 33 ⟨.struct [(0, 27), (1, 3), (2, 32)], 6, 24, [.int .u64 0, .int .i64 0, .int .u16 0, .int .u16 0, .int .u16 0, .int .u16 0]⟩ := ⟨by kernel_rfl, by kernel_rfl⟩
theorem ty34 : TyOk Try.prog 34 ⟨.struct [(0, 27), (1, 3), (2, 32)], 6, 24, [.int .u64 0, .int .i64 0, .int .u16 0, .int .u16 0, .int .u16 0, .int .u16 0]⟩ := ⟨by kernel_rfl, by kernel_rfl⟩
theorem ty35 : TyOk Try.prog 35 ⟨.struct [(0, 3), (1, 4), (2, 4), (3, 27), (4, 27), (5, 3), (6, 34)], 12, 64, [.int .i64 0, .bool false, .bool false, .int .u64 0, .int .u64 0, .int .i64 0, .int .u64 0, .int .i64 0, .int .u16 0, .int .u16 0, .int .u16 0, .int .u16 0]⟩ := ⟨by kernel_rfl, by kernel_rfl⟩
theorem ty36 : TyOk Try.prog 36 ⟨.struct [(0, 3), (1, 4), (2, 4), (3, 27), (4, 27), (5, 3), (6, 34)], 12, 64, [.int .i64 0, .bool false, .bool false, .int .u64 0, .int .u64 0, .int .i64 0, .int .u64 0, .int .i64 0, .int .u16 0, .int .u16 0, .int .u16 0, .int .u16 0]⟩ := ⟨by kernel_rfl, by kernel_rfl⟩
theorem ty37 : TyOk Try.prog 37 ⟨.fn, 1, 8, [.nilFunc]⟩ := ⟨by kernel_rfl, by kernel_rfl⟩
theorem ty38 : TyOk Try.prog 38 ⟨.slice 42, 1, 24, [.slice none 0 0]⟩ := ⟨by kernel_rfl, by kernel_rfl⟩
theorem ty39 : TyOk Try.prog 39 ⟨.fn, 1, 8, [.nilFunc]⟩ := ⟨by kernel_rfl, by kernel_rfl⟩
theorem ty40 : TyOk Try.prog 40 ⟨.slice 27, 1, 24, [.slice none 0 0]⟩ := ⟨by kernel_rfl, by kernel_rfl⟩
theorem ty41 : TyOk Try.prog 41 ⟨.fn, 1, 8, [.nilFunc]⟩ := ⟨by kernel_rfl, by kernel_rfl⟩
theorem ty42 : TyOk Try.prog 42 ⟨.struct [(0, 27), (1, 27), (2, 3), (3, 3), (4, 4)], 5, 40, [.int .u64 0, .int .u64 0, .int .i64 0, .int .i64 0, .bool false]⟩ := ⟨by kernel_rfl, by kernel_rfl⟩
theorem ty43 : TyOk Try.prog 43 ⟨.fn, 1, 8, [.nilFunc]⟩ := ⟨by kernel_rfl, by kernel_rfl⟩
theorem ty44 : TyOk Try.prog 44 ⟨.struct [(0, 3), (1, 3)], 2, 16, [.int .i64 0, .int .i64 0]⟩ := ⟨by kernel_rfl, by kernel_rfl⟩
theorem ty45 : TyOk Try.prog 45 ⟨.struct [(0, 3), (1, 3)], 2, 16, [.int .i64 0, .int .i64 0]⟩ := ⟨by kernel_rfl, by kernel_rfl⟩
theorem ty46 : TyOk Try.prog 46 ⟨.slice 135, 1, 24, [.slice none 0 0]⟩ := ⟨by kernel_rfl, by kernel_rfl⟩
theorem ty47 : TyOk Try.prog 47 ⟨.struct [(0, 45), (2, 46)], 3, 40, [.int .i64 0, .int .i64 0, .slice none 0 0]⟩ := ⟨by kernel_rfl, by kernel_rfl⟩
theorem ty48 : TyOk Try.prog 48 ⟨.struct [(0, 45), (2, 46)], 3, 40, [.int .i64 0, .int .i64 0, .slice none 0 0]⟩ := ⟨by kernel_rfl, by kernel_rfl⟩
theorem ty49 : TyOk Try.prog 49 ⟨.fn, 1, 8, [.nilFunc]⟩ := ⟨by kernel_rfl, by kernel_rfl⟩
theorem ty50 : TyOk Try.prog 50 ⟨.fn, 1, 8, [.nilFunc]⟩ := ⟨by kernel_rfl, by kernel_rfl⟩
theorem ty51 : TyOk Try.prog 51 ⟨.fn, 1, 8, [.nilFunc]⟩ := ⟨by kernel_rfl, by kernel_rfl⟩
theorem ty52 : TyOk Try.prog 52 ⟨.fn, 1, 8, [.nilFunc]⟩ := ⟨by kernel_rfl, by kernel_rfl⟩
theorem ty53 : TyOk Try.prog 53 ⟨.fn, 1, 8, [.nilFunc]⟩ := ⟨by kernel_rfl, by kernel_rfl⟩
theorem ty54 : TyOk Try.prog 54 ⟨.fn, 1, 8, [.nilFunc]⟩ := ⟨by kernel_rfl, by kernel_rfl⟩
theorem ty55 : TyOk Try.prog 55 ⟨.fn, 1, 8, [.nilFunc]⟩ := ⟨by kernel_rfl, by kernel_rfl⟩
theorem ty56 : TyOk Try.prog 56 ⟨.fn, 1, 8, [.nilFunc]⟩ := ⟨by kernel_rfl, by kernel_rfl⟩
theorem ty57 : TyOk Try.prog 57 ⟨.slice 63, 1, 24, [.slice none 0 0]⟩ := ⟨by kernel_rfl, by kernel_rfl⟩
theorem ty58 : TyOk Try.prog 58 ⟨.fn, 1, 8, [.nilFunc]⟩ := ⟨by kernel_rfl, by kernel_rfl⟩
theorem ty59 : TyOk Try.prog 59 ⟨.slice 62, 1, 24, [.slice none 0 0]⟩ := ⟨by kernel_rfl, by kernel_rfl⟩
theorem ty60 : TyOk Try.prog 60 ⟨.fn, 1, 8, [.nilFunc]⟩ := ⟨by kernel_rfl, by kernel_rfl⟩
theorem ty61 : TyOk Try.prog 61 ⟨.struct [(0, 27), (1, 27)], 2, 16, [.int .u64 0, .int .u64 0]⟩ := ⟨by kernel_rfl, by kernel_rfl⟩
theorem ty62 : TyOk Try.prog 62 ⟨.struct [(0, 27), (1, 27)], 2, 16, [.int .u64 0, .int .u64 0]⟩ := ⟨by kernel_rfl, by kernel_rfl⟩
theorem ty63 : TyOk Try.prog 63 ⟨.struct [(0, 27), (1, 27)], 2, 16, [.int .u64 0, .int .u64 0]⟩ := ⟨by kernel_rfl, by kernel_rfl⟩
theorem ty64 : TyOk Try.prog 64 ⟨.fn, 1, 8, [.nilFunc]⟩ := ⟨by kernel_rfl, by kernel_rfl⟩
theorem ty65 : TyOk Try.prog 65 ⟨.fn, 1, 8, [.nilFunc]⟩ := ⟨by kernel_rfl, by kernel_rfl⟩
theorem ty66 : TyOk Try.prog 66 ⟨.fn, 1, 8, [.nilFunc]⟩ := ⟨by kernel_rfl, by kernel_rfl⟩
theorem ty67 : TyOk Try.prog 67 ⟨.fn, 1, 8, [.nilFunc]⟩ := ⟨by kernel_rfl, by kernel_rfl⟩
theorem ty69 : TyOk Try.prog 69 ⟨.fn, 1, 8, [.nilFunc]⟩ := ⟨by kernel_rfl, by kernel_rfl⟩
theorem ty70 : TyOk Try.prog 70 ⟨.fn, 1, 8, [.nilFunc]⟩ := ⟨by kernel_rfl, by kernel_rfl⟩
theorem ty71 : TyOk Try.prog 71 ⟨.fn, 1, 8, [.nilFunc]⟩ := ⟨by kernel_rfl, by kernel_rfl⟩
theorem ty72 : TyOk Try.prog 72 ⟨.int .i64, 1, 8, [.int .i64 0]⟩ := ⟨by kernel_rfl, by kernel_rfl⟩
theorem ty73 : TyOk Try.prog 73 ⟨.struct [(0, 3), (1, 72)], 2, 16, [.int .i64 0, .int .i64 0]⟩ := ⟨by kernel_rfl, by kernel_rfl⟩
theorem ty74 : TyOk Try.prog 74 ⟨.struct [(0, 3), (1, 72)], 2, 16, [.int .i64 0, .int .i64 0]⟩ := ⟨by kernel_rfl, by kernel_rfl⟩
theorem ty75 : TyOk Try.prog 75 ⟨.fn, 1, 8, [.nilFunc]⟩ := ⟨by kernel_rfl, by kernel_rfl⟩
theorem ty76 : TyOk Try.prog 76 ⟨.fn, 1, 8, [.nilFunc]⟩ := ⟨by kernel_rfl, by kernel_rfl⟩
theorem ty77 : TyOk Try.prog 77 ⟨.fn, 1, 8, [.nilFunc]⟩ := ⟨by kernel_rfl, by kernel_rfl⟩
theorem ty78 : TyOk Try.prog 78 ⟨.fn, 1, 8, [.nilFunc]⟩ := ⟨by kernel_rfl, by kernel_rfl⟩
theorem ty79 : TyOk Try.prog 79 ⟨.fn, 1, 8, [.nilFunc]⟩ := ⟨by kernel_rfl, by kernel_rfl⟩
theorem ty80 : TyOk Try.prog 80 ⟨.slice 34, 1, 24, [.slice none 0 0]⟩ := ⟨by kernel_rfl, by kernel_rfl⟩
theorem ty81 : TyOk Try.prog 81 ⟨.fn, 1, 8, [.nilFunc]⟩ := ⟨by kernel_rfl, by kernel_rfl⟩
theorem ty82 : TyOk Try.prog 82 ⟨.fn, 1, 8, [.nilFunc]⟩ := ⟨by kernel_rfl, by kernel_rfl⟩
theorem ty83 : TyOk Try.prog 83 ⟨.fn, 1, 8, [.nilFunc]⟩ := ⟨by kernel_rfl, by kernel_rfl⟩
theorem ty84 : TyOk Try.prog 84 ⟨.struct [(0, 27), (1, 27)], 2, 16, [.int .u64 0, .int .u64 0]⟩ := ⟨by kernel_rfl, by kernel_rfl⟩
theorem ty85 : TyOk Try.prog 85 ⟨.struct [(0, 27), (1, 27)], 2, 16, [.int .u64 0, .int .u64 0]⟩ := ⟨by kernel_rfl, by kernel_rfl⟩
theorem ty86 : TyOk Try.prog 86 ⟨.struct [(0, 3), (1, 27)], 2, 16, [.int .i64 0, .int .u64 0]⟩ := ⟨by kernel_rfl, by kernel_rfl⟩
theorem ty87 : TyOk Try.prog 87 ⟨.struct [(0, 3), (1, 27)], 2, 16, [.int .i64 0, .int .u64 0]⟩ := ⟨by kernel_rfl, by kernel_rfl⟩
theorem ty88 : TyOk Try.prog 88 ⟨.struct [(0, 27), (1, 27)], 2, 16, [.int .u64 0, .int .u64 0]⟩ := ⟨by kernel_rfl, by kernel_rfl⟩
theorem ty89 : TyOk Try.prog 89 ⟨.struct [(0, 27), (1, 27)], 2, 16, [.int .u64 0, .int .u64 0]⟩ := ⟨by kernel_rfl, by kernel_rfl⟩
theorem ty91 : TyOk Try.prog 91 ⟨.fn, 1, 8, [.nilFunc]⟩ := ⟨by kernel_rfl, by kernel_rfl⟩
theorem ty92 : TyOk Try.prog 92 ⟨.fn, 1, 8, [.nilFunc]⟩ := ⟨by kernel_rfl, by kernel_rfl⟩
theorem ty93 : TyOk Try.prog 93 ⟨.fn, 1, 8, [.nilFunc]⟩ := ⟨by kernel_rfl, by kernel_rfl⟩
theorem ty94 : TyOk Try.prog 94 ⟨.fn, 1, 8, [.nilFunc]⟩ := ⟨by kernel_rfl, by kernel_rfl⟩
theorem ty95 : TyOk Try.prog 95 ⟨.array 4 27, 4, 32, [.int .u64 0, .int .u64 0, .int .u64 0, .int .u64 0]⟩ := ⟨by kernel_rfl, by kernel_rfl⟩
theorem ty96 : TyOk Try.prog 96 ⟨.array 4 27, 4, 32, [.int .u64 0, .int .u64 0, .int .u64 0, .int .u64 0]⟩ := ⟨by kernel_rfl, by kernel_rfl⟩
theorem ty97 : TyOk Try.prog 97 ⟨.fn, 1, 8, [.nilFunc]⟩ := ⟨by kernel_rfl, by kernel_rfl⟩
theorem ty98 : TyOk Try.prog 98 ⟨.fn, 1, 8, [.nilFunc]⟩ := ⟨by kernel_rfl, by kernel_rfl⟩
theorem ty99 : TyOk Try.prog 99 ⟨.fn, 1, 8, [.nilFunc]⟩ := ⟨by kernel_rfl, by kernel_rfl⟩
theorem ty100 : TyOk Try.prog 100 ⟨.fn, 1, 8, [.nilFunc]⟩ := ⟨by kernel_rfl, by kernel_rfl⟩
theorem ty101 : TyOk Try.prog 101 ⟨.fn, 1, 8, [.nilFunc]⟩ := ⟨by kernel_rfl, by kernel_rfl⟩
theorem ty102 : TyOk Try.prog 102 ⟨.struct [(0, 27), (1, 27), (2, 27)], 3, 24, [.int .u64 0, .int .u64 0, .int .u64 0]⟩ := ⟨by kernel_rfl, by kernel_rfl⟩
theorem ty103 : TyOk Try.prog 103 ⟨.struct [(0, 27), (1, 27), (2, 27)], 3, 24, [.int .u64 0, .int .u64 0, .int .u64 0]⟩ := ⟨by kernel_rfl, by kernel_rfl⟩
theorem ty104 : TyOk Try.prog 104 ⟨.struct [(0, 3), (1, 23)], 2, 32, [.int .i64 0, .slice none 0 0]⟩ := ⟨by kernel_rfl, by kernel_rfl⟩
theorem ty105 : TyOk Try.prog 105 ⟨.struct [(0, 3), (1, 23)], 2, 32, [.int .i64 0, .slice none 0 0]⟩ := ⟨by kernel_rfl, by kernel_rfl⟩
theorem ty106 : TyOk Try.prog 106 ⟨.struct [(0, 3), (1, 4)], 2, 16, [.int .i64 0, .bool false]⟩ := ⟨by kernel_rfl, by kernel_rfl⟩
theorem ty107 : TyOk Try.prog 107 ⟨.struct [(0, 3), (1, 4)], 2, 16, [.int .i64 0, .bool false]⟩ := ⟨by kernel_rfl, by kernel_rfl⟩
theorem ty108 : TyOk Try.prog 108 ⟨.fn, 1, 8, [.nilFunc]⟩ := ⟨by kernel_rfl, by kernel_rfl⟩
theorem ty109 : TyOk Try.prog 109 ⟨.fn, 1, 8, [.nilFunc]⟩ := ⟨by kernel_rfl, by kernel_rfl⟩
theorem ty110 : TyOk Try.prog 110 ⟨.fn, 1, 8, [.nilFunc]⟩ := ⟨by kernel_rfl, by kernel_rfl⟩
theorem ty111 : TyOk Try.prog 111 ⟨.fn, 1, 8, [.nilFunc]⟩ := ⟨by kernel_rfl, by kernel_rfl⟩
theorem ty113 : TyOk Try.prog 113 ⟨.fn, 1, 8, [.nilFunc]⟩ := ⟨by kernel_rfl, by kernel_rfl⟩
theorem ty114 : TyOk Try.prog 114 ⟨.struct [(0, 48), (3, 3)], 4, 48, [.int .i64 0, .int .i64 0, .slice none 0 0, .int .i64 0]⟩ := ⟨by kernel_rfl, by kernel_rfl⟩
theorem ty115 : TyOk Try.prog 115 ⟨.struct [(0, 48), (3, 3)], 4, 48, [.int .i64 0, .int .i64 0, .slice none 0 0, .int .i64 0]⟩ := ⟨by kernel_rfl, by kernel_rfl⟩
theorem ty116 : TyOk Try.prog 116 ⟨.fn, 1, 8, [.nilFunc]⟩ := ⟨by kernel_rfl, by kernel_rfl⟩
theorem ty117 : TyOk Try.prog 117 ⟨.fn, 1, 8, [.nilFunc]⟩ := ⟨by kernel_rfl, by kernel_rfl⟩
theorem ty118 : TyOk Try.prog 118 ⟨.struct [(0, 27), (1, 3)], 2, 16, [.int .u64 0, .int .i64 0]⟩ := ⟨by kernel_rfl, by kernel_rfl⟩
theorem ty119 : TyOk Try.prog 119 ⟨.struct [(0, 27), (1, 3)], 2, 16, [.int .u64 0, .int .i64 0]⟩ := ⟨by kernel_rfl, by kernel_rfl⟩
theorem ty121 : TyOk Try.prog 121 ⟨.fn, 1, 8, [.nilFunc]⟩ := ⟨by kernel_rfl, by kernel_rfl⟩
theorem ty122 : TyOk Try.prog 122 ⟨.fn, 1, 8, [.nilFunc]⟩ := ⟨by kernel_rfl, by kernel_rfl⟩
theorem ty123 : TyOk Try.prog 123 ⟨.slice 189, 1, 24, [.slice none 0 0]⟩ := ⟨by kernel_rfl, by kernel_rfl⟩
theorem ty124 : TyOk Try.prog 124 ⟨.fn, 1, 8, [.nilFunc]⟩ := ⟨by kernel_rfl, by kernel_rfl⟩
theorem ty125 : TyOk Try.prog 125 ⟨.fn, 1, 8, [.nilFunc]⟩ := ⟨by kernel_rfl, by kernel_rfl⟩
theorem ty126 : TyOk Try.prog 126 ⟨.fn, 1, 8, [.nilFunc]⟩ := ⟨by kernel_rfl, by kernel_rfl⟩
theorem ty127 : TyOk Try.prog 127 ⟨.fn, 1, 8, [.nilFunc]⟩ := ⟨by kernel_rfl, by kernel_rfl⟩
theorem ty128 : TyOk Try.prog 128 ⟨.fn, 1, 8, [.nilFunc]⟩ := ⟨by kernel_rfl, by kernel_rfl⟩
theorem ty129 : TyOk Try.prog 129 ⟨.fn, 1, 8, [.nilFunc]⟩ := ⟨by kernel_rfl, by kernel_rfl⟩
theorem ty130 : TyOk Try.prog 130 ⟨.ptr 29, 1, 8, [.pointer none]⟩ := ⟨by kernel_rfl, by kernel_rfl⟩
theorem ty131 : TyOk Try.prog 131 ⟨.fn, 1, 8, [.nilFunc]⟩ := ⟨by kernel_rfl, by kernel_rfl⟩
theorem ty132 : TyOk Try.prog 132 ⟨.slice 195, 1, 24, [.slice none 0 0]⟩ := ⟨by kernel_rfl, by kernel_rfl⟩
theorem ty133 : TyOk Try.prog 133 ⟨.slice 197, 1, 24, [.slice none 0 0]⟩ := ⟨by kernel_rfl, by kernel_rfl⟩
theorem ty134 : TyOk Try.prog 134 ⟨.struct [(0, 3), (1, 132), (2, 133), (3, 34), (9, 27)], 10, 88, [.int .i64 0, .slice none 0 0, .slice none 0 0, .int .u64 0, .int .i64 0, .int .u16 0, .int .u16 0, .int .u16 0, .int .u16 0, .int .u64 0]⟩ := ⟨by kernel_rfl, by kernel_rfl⟩
theorem ty135 : TyOk Try.prog 135 ⟨.struct [(0, 3), (1, 132), (2, 133), (3, 34), (9, 27)], 10, 88, [.int .i64 0, .slice none 0 0, .slice none 0 0, .int .u64 0, .int .i64 0, .int .u16 0, .int .u16 0, .int .u16 0, .int .u16 0, .int .u64 0]⟩ := ⟨by kernel_rfl, by kernel_rfl⟩
theorem ty136 : TyOk Try.prog 136 ⟨.fn, 1, 8, [.nilFunc]⟩ := ⟨by kernel_rfl, by kernel_rfl⟩
theorem ty138 : TyOk Try.prog 138 ⟨.fn, 1, 8, [.nilFunc]⟩ := ⟨by kernel_rfl, by kernel_rfl⟩
theorem ty139 : TyOk Try.prog 139 ⟨.fn, 1, 8, [.nilFunc]⟩ := ⟨by kernel_rfl, by kernel_rfl⟩
theorem ty140 : TyOk Try.prog 140 ⟨.ptr 63, 1, 8, [.pointer none]⟩ := ⟨by kernel_rfl, by kernel_rfl⟩
theorem ty141 : TyOk Try.prog 141 ⟨.struct [(0, 27), (1, 27), (2, 3)], 3, 24, [.int .u64 0, .int .u64 0, .int .i64 0]⟩ := ⟨by kernel_rfl, by kernel_rfl⟩
theorem ty142 : TyOk Try.prog 142 ⟨.struct [(0, 27), (1, 27), (2, 3)], 3, 24, [.int .u64 0, .int .u64 0, .int .i64 0]⟩ := ⟨by kernel_rfl, by kernel_rfl⟩
theorem ty143 : TyOk Try.prog 143 ⟨.fn, 1, 8, [.nilFunc]⟩ := ⟨by kernel_rfl, by kernel_rfl⟩
theorem ty144 : TyOk Try.prog 144 ⟨.fn, 1, 8, [.nilFunc]⟩ := ⟨by kernel_rfl, by kernel_rfl⟩
theorem ty145 : TyOk Try.prog 145 ⟨.fn, 1, 8, [.nilFunc]⟩ := ⟨by kernel_rfl, by kernel_rfl⟩
theorem ty146 : TyOk Try.prog 146 ⟨.ptr 151, 1, 8, [.pointer none]⟩ := ⟨by kernel_rfl, by kernel_rfl⟩
theorem ty147 : TyOk Try.prog 147 ⟨.fn, 1, 8, [.nilFunc]⟩ := ⟨by kernel_rfl, by kernel_rfl⟩
theorem ty148 : TyOk Try.prog 148 ⟨.map 3 80, 1, 8, [.map none]⟩ := ⟨by kernel_rfl, by kernel_rfl⟩
theorem ty149 : TyOk Try.prog 149 ⟨.slice 153, 1, 24, [.slice none 0 0]⟩ := ⟨by kernel_rfl, by kernel_rfl⟩
theorem ty150 : TyOk Try.prog 150 ⟨.struct [(0, 45), (2, 148), (3, 36), (15, 27), (16, 149)], 17, 120, [.int .i64 0, .int .i64 0, .map none, .int .i64 0, .bool false, .bool false, .int .u64 0, .int .u64 0, .int .i64 0, .int .u64 0, .int .i64 0, .int .u16 0, .int .u16 0, .int .u16 0, .int .u16 0, .int .u64 0, .slice none 0 0]⟩ := ⟨by kernel_rfl, by kernel_rfl⟩
theorem ty151 : TyOk Try.prog 151 ⟨.struct [(0, 45), (2, 148), (3, 36), (15, 27), (16, 149)], 17, 120, [.int .i64 0, .int .i64 0, .map none, .int .i64 0, .bool false, .bool false, .int .u64 0, .int .u64 0, .int .i64 0, .int .u64 0, .int .i64 0, .int .u16 0, .int .u16 0, .int .u16 0, .int .u16 0, .int .u64 0, .slice none 0 0]⟩ := ⟨by kernel_rfl, by kernel_rfl⟩
theorem ty152 : TyOk Try.prog 152 ⟨.struct [(0, 72), (1, 145)], 2, 16, [.int .i64 0, .nilFunc]⟩ := ⟨by kernel_rfl, by kernel_rfl⟩
theorem ty153 : TyOk Try.prog 153 ⟨.struct [(0, 72), (1, 145)], 2, 16, [.int .i64 0, .nilFunc]⟩ := ⟨by kernel_rfl, by kernel_rfl⟩
theorem ty154 : TyOk Try.prog 154 ⟨.fn, 1, 8, [.nilFunc]⟩ := ⟨by kernel_rfl, by kernel_rfl⟩
theorem ty155 : TyOk Try.prog 155 ⟨.fn, 1, 8, [.nilFunc]⟩ := ⟨by kernel_rfl, by kernel_rfl⟩
theorem ty156 : TyOk Try.prog 156 ⟨.fn, 1, 8, [.nilFunc]⟩ := ⟨by kernel_rfl, by kernel_rfl⟩
theorem ty157 : TyOk Try.prog 157 ⟨.fn, 1, 8, [.nilFunc]⟩ := ⟨by kernel_rfl, by kernel_rfl⟩
theorem ty158 : TyOk Try.prog 158 ⟨.fn, 1, 8, [.nilFunc]⟩ := ⟨by kernel_rfl, by kernel_rfl⟩
theorem ty160 : TyOk Try.prog 160 ⟨.fn, 1, 8, [.nilFunc]⟩ := ⟨by kernel_rfl, by kernel_rfl⟩
theorem ty161 : TyOk Try.prog 161 ⟨.fn, 1, 8, [.nilFunc]⟩ := ⟨by kernel_rfl, by kernel_rfl⟩
theorem ty162 : TyOk Try.prog 162 ⟨.fn, 1, 8, [.nilFunc]⟩ := ⟨by kernel_rfl, by kernel_rfl⟩
theorem ty163 : TyOk Try.prog 163 ⟨.fn, 1, 8, [.nilFunc]⟩ := ⟨by kernel_rfl, by kernel_rfl⟩
theorem ty164 : TyOk Try.prog 164 ⟨.fn, 1, 8, [.nilFunc]⟩ := ⟨by kernel_rfl, by kernel_rfl⟩
theorem ty165 : TyOk Try.prog 165 ⟨.struct [(0, 27), (1, 3)], 2, 16, [.int .u64 0, .int .i64 0]⟩ := ⟨by kernel_rfl, by kernel_rfl⟩
theorem ty166 : TyOk Try.prog 166 ⟨.struct [(0, 27), (1, 3)], 2, 16, [.int .u64 0, .int .i64 0]⟩ := ⟨by kernel_rfl, by kernel_rfl⟩
theorem ty167 : TyOk Try.prog 167 ⟨.fn, 1, 8, [.nilFunc]⟩ := ⟨by kernel_rfl, by kernel_rfl⟩
theorem ty168 : TyOk Try.prog 168 ⟨.fn, 1, 8, [.nilFunc]⟩ := ⟨by kernel_rfl, by kernel_rfl⟩
theorem ty169 : TyOk Try.prog 169 ⟨.fn, 1, 8, [.nilFunc]⟩ := ⟨by kernel_rfl, by kernel_rfl⟩
theorem ty170 : TyOk Try.prog 170 ⟨.fn, 1, 8, [.nilFunc]⟩ := ⟨by kernel_rfl, by kernel_rfl⟩
theorem ty172 : TyOk Try.prog 172 ⟨.fn, 1, 8, [.nilFunc]⟩ := ⟨by kernel_rfl, by kernel_rfl⟩
theorem ty173 : TyOk Try.prog 173 ⟨.slice 5, 1, 24, [.slice none 0 0]⟩ := ⟨by kernel_rfl, by kernel_rfl⟩
theorem ty174 : TyOk Try.prog 174 ⟨.ptr 177, 1, 8, [.pointer none]⟩ := ⟨by kernel_rfl, by kernel_rfl⟩
theorem ty175 : TyOk Try.prog 175 ⟨.fn, 1, 8, [.nilFunc]⟩ := ⟨by kernel_rfl, by kernel_rfl⟩
theorem ty176 : TyOk Try.prog 176 ⟨.struct [(0, 175), (1, 72)], 2, 16, [.nilFunc, .int .i64 0]⟩ := ⟨by kernel_rfl, by kernel_rfl⟩
theorem ty177 : TyOk Try.prog 177 ⟨.struct [(0, 175), (1, 72)], 2, 16, [.nilFunc, .int .i64 0]⟩ := ⟨by kernel_rfl, by kernel_rfl⟩
theorem ty178 : TyOk Try.prog 178 ⟨.int .u64, 1, 8, [.int .u64 0]⟩ := ⟨by kernel_rfl, by kernel_rfl⟩
theorem ty179 : TyOk Try.prog 179 ⟨.struct [(0, 9), (1, 3), (2, 27), (3, 3)], 4, 40, [.string ByteArray.empty, .int .i64 0, .int .u64 0, .int .i64 0]⟩ := ⟨by kernel_rfl, by kernel_rfl⟩
theorem ty180 : TyOk Try.prog 180 ⟨.struct [(0, 9), (1, 3), (2, 27), (3, 3)], 4, 40, [.string ByteArray.empty, .int .i64 0, .int .u64 0, .int .i64 0]⟩ := ⟨by kernel_rfl, by kernel_rfl⟩
theorem ty181 : TyOk Try.prog 181 ⟨.fn, 1, 8, [.nilFunc]⟩ := ⟨by kernel_rfl, by kernel_rfl⟩
theorem ty183 : TyOk Try.prog 183 ⟨.fn, 1, 8, [.nilFunc]⟩ := ⟨by kernel_rfl, by kernel_rfl⟩
theorem ty184 : TyOk Try.prog 184 ⟨.fn, 1, 8, [.nilFunc]⟩ := ⟨by kernel_rfl, by kernel_rfl⟩
theorem ty185 : TyOk Try.prog 185 ⟨.fn, 1, 8, [.nilFunc]⟩ := ⟨by kernel_rfl, by kernel_rfl⟩
theorem ty186 : TyOk Try.prog 186 ⟨.fn, 1, 8, [.nilFunc]⟩ := ⟨by kernel_rfl, by kernel_rfl⟩
theorem ty187 : TyOk Try.prog 187 ⟨.fn, 1, 8, [.nilFunc]⟩ := ⟨by kernel_rfl, by kernel_rfl⟩
theorem ty188 : TyOk Try.prog 188 ⟨.struct [(0, 27), (1, 27)], 2, 16, [.int .u64 0, .int .u64 0]⟩ := ⟨by kernel_rfl, by kernel_rfl⟩
theorem ty189 : TyOk Try.prog 189 ⟨.struct [(0, 27), (1, 27)], 2, 16, [.int .u64 0, .int .u64 0]⟩ := ⟨by kernel_rfl, by kernel_rfl⟩
theorem ty190 : TyOk Try.prog 190 ⟨.fn, 1, 8, [.nilFunc]⟩ := ⟨by kernel_rfl, by kernel_rfl⟩
theorem ty191 : TyOk Try.prog 191 ⟨.fn, 1, 8, [.nilFunc]⟩ := ⟨by kernel_rfl, by kernel_rfl⟩
theorem ty192 : TyOk Try.prog 192 ⟨.struct [(0, 3), (1, 3), (2, 4), (3, 103), (6, 103), (9, 103), (12, 3), (13, 3)], 14, 112, [.int .i64 0, .int .i64 0, .bool false, .int .u64 0, .int .u64 0, .int .u64 0, .int .u64 0, .int .u64 0, .int .u64 0, .int .u64 0, .int .u64 0, .int .u64 0, .int .i64 0, .int .i64 0]⟩ := ⟨by kernel_rfl, by kernel_rfl⟩
theorem ty193 : TyOk Try.prog 193 ⟨.struct [(0, 3), (1, 3), (2, 4), (3, 103), (6, 103), (9, 103), (12, 3), (13, 3)], 14, 112, [.int .i64 0, .int .i64 0, .bool false, .int .u64 0, .int .u64 0, .int .u64 0, .int .u64 0, .int .u64 0, .int .u64 0, .int .u64 0, .int .u64 0, .int .u64 0, .int .i64 0, .int .i64 0]⟩ := ⟨by kernel_rfl, by kernel_rfl⟩
theorem ty194 : TyOk Try.prog 194 ⟨.struct [(0, 3), (1, 193)], 15, 120, [.int .i64 0, .int .i64 0, .int .i64 0, .bool false, .int .u64 0, .int .u64 0, .int .u64 0, .int .u64 0, .int .u64 0, .int .u64 0, .int .u64 0, .int .u64 0, .int .u64 0, .int .i64 0, .int .i64 0]⟩ := ⟨by kernel_rfl, by kernel_rfl⟩
theorem ty195 : TyOk Try.prog 195 ⟨.struct [(0, 3), (1, 193)], 15, 120, [.int .i64 0, .int .i64 0, .int .i64 0, .bool false, .int .u64 0, .int .u64 0, .int .u64 0, .int .u64 0, .int .u64 0, .int .u64 0, .int .u64 0, .int .u64 0, .int .u64 0, .int .i64 0, .int .i64 0]⟩ := ⟨by kernel_rfl, by kernel_rfl⟩
theorem ty196 : TyOk Try.prog 196 ⟨.struct [(0, 32), (4, 32), (8, 3)], 9, 24, [.int .u16 0, .int .u16 0, .int .u16 0, .int .u16 0, .int .u16 0, .int .u16 0, .int .u16 0, .int .u16 0, .int .i64 0]⟩ := ⟨by kernel_rfl, by kernel_rfl⟩
theorem ty197 : TyOk Try.prog 197 ⟨.struct [(0, 32), (4, 32), (8, 3)], 9, 24, [.int .u16 0, .int .u16 0, .int .u16 0, .int .u16 0, .int .u16 0, .int .u16 0, .int .u16 0, .int .u16 0, .int .i64 0]⟩ := ⟨by kernel_rfl, by kernel_rfl⟩
theorem ty198 : TyOk Try.prog 198 ⟨.ptr 142, 1, 8, [.pointer none]⟩ := ⟨by kernel_rfl, by kernel_rfl⟩
theorem ty199 : TyOk Try.prog 199 ⟨.fn, 1, 8, [.nilFunc]⟩ := ⟨by kernel_rfl, by kernel_rfl⟩
theorem ty200 : TyOk Try.prog 200 ⟨.fn, 1, 8, [.nilFunc]⟩ := ⟨by kernel_rfl, by kernel_rfl⟩
theorem ty201 : TyOk Try.prog 201 ⟨.array 2 85, 4, 32, [.int .u64 0, .int .u64 0, .int .u64 0, .int .u64 0]⟩ := ⟨by kernel_rfl, by kernel_rfl⟩
theorem ty203 : TyOk Try.prog 203 ⟨.fn, 1, 8, [.nilFunc]⟩ := ⟨by kernel_rfl, by kernel_rfl⟩
theorem ty204 : TyOk Try.prog 204 ⟨.fn, 1, 8, [.nilFunc]⟩ := ⟨by kernel_rfl, by kernel_rfl⟩
theorem ty206 : TyOk Try.prog 206 ⟨.fn, 1, 8, [.nilFunc]⟩ := ⟨by kernel_rfl, by kernel_rfl⟩
theorem ty207 : TyOk Try.prog 207 ⟨.fn, 1, 8, [.nilFunc]⟩ := ⟨by kernel_rfl, by kernel_rfl⟩
theorem ty208 : TyOk Try.prog 208 ⟨.fn, 1, 8, [.nilFunc]⟩ := ⟨by kernel_rfl, by kernel_rfl⟩
theorem ty209 : TyOk Try.prog 209 ⟨.fn, 1, 8, [.nilFunc]⟩ := ⟨by kernel_rfl, by kernel_rfl⟩
theorem ty210 : TyOk Try.prog 210 ⟨.fn, 1, 8, [.nilFunc]⟩ := ⟨by kernel_rfl, by kernel_rfl⟩
theorem ty212 : TyOk Try.prog 212 ⟨.fn, 1, 8, [.nilFunc]⟩ := ⟨by kernel_rfl, by kernel_rfl⟩
theorem ty214 : TyOk Try.prog 214 ⟨.fn, 1, 8, [.nilFunc]⟩ := ⟨by kernel_rfl, by kernel_rfl⟩
theorem ty216 : TyOk Try.prog 216 ⟨.fn, 1, 8, [.nilFunc]⟩ := ⟨by kernel_rfl, by kernel_rfl⟩
theorem ty217 : TyOk Try.prog 217 ⟨.fn, 1, 8, [.nilFunc]⟩ := ⟨by kernel_rfl, by kernel_rfl⟩
theorem ty218 : TyOk Try.prog 218 ⟨.int .i64, 1, 8, [.int .i64 0]⟩ := ⟨by kernel_rfl, by kernel_rfl⟩
theorem ty219 : TyOk Try.prog 219 ⟨.fn, 1, 8, [.nilFunc]⟩ := ⟨by kernel_rfl, by kernel_rfl⟩
theorem ty221 : TyOk Try.prog 221 ⟨.fn, 1, 8, [.nilFunc]⟩ := ⟨by kernel_rfl, by kernel_rfl⟩
theorem ty222 : TyOk Try.prog 222 ⟨.fn, 1, 8, [.nilFunc]⟩ := ⟨by kernel_rfl, by kernel_rfl⟩
theorem ty223 : TyOk Try.prog 223 ⟨.fn, 1, 8, [.nilFunc]⟩ := ⟨by kernel_rfl, by kernel_rfl⟩
theorem ty224 : TyOk Try.prog 224 ⟨.fn, 1, 8, [.nilFunc]⟩ := ⟨by kernel_rfl, by kernel_rfl⟩
theorem ty225 : TyOk Try.prog 225 ⟨.fn, 1, 8, [.nilFunc]⟩ := ⟨by kernel_rfl, by kernel_rfl⟩
theorem ty226 : TyOk Try.prog 226 ⟨.fn, 1, 8, [.nilFunc]⟩ := ⟨by kernel_rfl, by kernel_rfl⟩
theorem ty227 : TyOk Try.prog 227 ⟨.fn, 1, 8, [.nilFunc]⟩ := ⟨by kernel_rfl, by kernel_rfl⟩
theorem ty228 : TyOk Try.prog 228 ⟨.fn, 1, 8, [.nilFunc]⟩ := ⟨by kernel_rfl, by kernel_rfl⟩
theorem ty229 : TyOk Try.prog 229 ⟨.fn, 1, 8, [.nilFunc]⟩ := ⟨by kernel_rfl, by kernel_rfl⟩
theorem ty230 : TyOk Try.prog 230 ⟨.fn, 1, 8, [.nilFunc]⟩ := ⟨by kernel_rfl, by kernel_rfl⟩
theorem ty231 : TyOk Try.prog 231 ⟨.fn, 1, 8, [.nilFunc]⟩ := ⟨by kernel_rfl, by kernel_rfl⟩
theorem ty232 : TyOk Try.prog 232 ⟨.fn, 1, 8, [.nilFunc]⟩ := ⟨by kernel_rfl, by kernel_rfl⟩
theorem ty233 : TyOk Try.prog 233 ⟨.fn, 1, 8, [.nilFunc]⟩ := ⟨by kernel_rfl, by kernel_rfl⟩
theorem ty234 : TyOk Try.prog 234 ⟨.fn, 1, 8, [.nilFunc]⟩ := ⟨by kernel_rfl, by kernel_rfl⟩
theorem ty236 : TyOk Try.prog 236 ⟨.fn, 1, 8, [.nilFunc]⟩ := ⟨by kernel_rfl, by kernel_rfl⟩
theorem ty237 : TyOk Try.prog 237 ⟨.fn, 1, 8, [.nilFunc]⟩ := ⟨by kernel_rfl, by kernel_rfl⟩
theorem ty238 : TyOk Try.prog 238 ⟨.fn, 1, 8, [.nilFunc]⟩ := ⟨by kernel_rfl, by kernel_rfl⟩
theorem ty239 : TyOk Try.prog 239 ⟨.fn, 1, 8, [.nilFunc]⟩ := ⟨by kernel_rfl, by kernel_rfl⟩
theorem ty241 : TyOk Try.prog 241 ⟨.fn, 1, 8, [.nilFunc]⟩ := ⟨by kernel_rfl, by kernel_rfl⟩
theorem ty242 : TyOk Try.prog 242 ⟨.fn, 1, 8, [.nilFunc]⟩ := ⟨by kernel_rfl, by kernel_rfl⟩
theorem ty248 : TyOk Try.prog 248 ⟨.fn, 1, 8, [.nilFunc]⟩ := ⟨by kernel_rfl, by kernel_rfl⟩
theorem ty249 : TyOk Try.prog 249 ⟨.int .u32, 1, 4, [.int .u32 0]⟩ := ⟨by kernel_rfl, by kernel_rfl⟩
theorem ty252 : TyOk Try.prog 252 ⟨.fn, 1, 8, [.nilFunc]⟩ := ⟨by kernel_rfl, by kernel_rfl⟩
theorem ty253 : TyOk Try.prog 253 ⟨.ptr 5, 1, 8, [.pointer none]⟩ := ⟨by kernel_rfl, by kernel_rfl⟩
theorem ty256 : TyOk Try.prog 256 ⟨.struct [(0, 12), (1, 12), (2, 249), (3, 250), (4, 5), (5, 5), (6, 251), (7, 252), (8, 253), (9, 254), (10, 255)], 11, 48, [.int .u64 0, .int .u64 0, .int .u32 0, .int .u8 0, .int .u8 0, .int .u8 0, .int .u8 0, .nilFunc, .pointer none, .int .i32 0, .int .i32 0]⟩ := ⟨by kernel_rfl, by kernel_rfl⟩
def lay : Lay := [(1, ⟨.fn, 1, 8, [.nilFunc]⟩),
  (2, ⟨.int .i64, 1, 8, [.int .i64 0]⟩),
  (3, ⟨.int .i64, 1, 8, [.int .i64 0]⟩),
  (4, ⟨.bool, 1, 1, [.bool false]⟩),
  (5, ⟨.int .u8, 1, 1, [.int .u8 0]⟩),
  (9, ⟨.str, 1, 16, [.string ByteArray.empty]⟩),
  (12, ⟨.int .u64, 1, 8, [.int .u64 0]⟩),
  (17, ⟨.ptr 257, 1, 8, [.pointer none]⟩),
  (20, ⟨.iface, 1, 16, [.nilIface]⟩),
  (21, ⟨.int .i32, 1, 4, [.int .i32 0]⟩),
  (22, ⟨.slice 36, 1, 24, [.slice none 0 0]⟩),
  (23, ⟨.slice 3, 1, 24, [.slice none 0 0]⟩),
  (24, ⟨.fn, 1, 8, [.nilFunc]⟩),
  (25, ⟨.slice 29, 1, 24, [.slice none 0 0]⟩),
  (26, ⟨.fn, 1, 8, [.nilFunc]⟩),
  (27, ⟨.int .u64, 1, 8, [.int .u64 0]⟩),
  (28, ⟨.struct [(0, 27), (1, 27), (2, 3), (3, 3), (4, 4)], 5, 40, [.int .u64 0, .int .u64 0, .int .i64 0, .int .i64 0, .bool false]⟩),
  (29, ⟨.struct [(0, 27), (1, 27), (2, 3), (3, 3), (4, 4)], 5, 40, [.int .u64 0, .int .u64 0, .int .i64 0, .int .i64 0, .bool false]⟩),
  (30, ⟨.int .u16, 1, 2, [.int .u16 0]⟩),
  (31, ⟨.array 4 30, 4, 8, [.int .u16 0, .int .u16 0, .int .u16 0, .int .u16 0]⟩),
  (32, ⟨.array 4 30, 4, 8, [.int .u16 0, .int .u16 0, .int .u16 0, .int .u16 0]⟩),
  (33, ⟨.struct [(0, 27), (1, 3), (2, 32)], 6, 24, [.int .u64 0, .int .i64 0, .int .u16 0, .int .u16 0, .int .u16 0, .int .u16 0]⟩),
  (34, ⟨.struct [(0, 27), (1, 3), (2, 32)], 6, 24, [.int .u64 0, .int .i64 0, .int .u16 0, .int .u16 0, .int .u16 0, .int .u16 0]⟩),
  (35, ⟨.struct [(0, 3), (1, 4), (2, 4), (3, 27), (4, 27), (5, 3), (6, 34)], 12, 64, [.int .i64 0, .bool false, .bool false, .int .u64 0, .int .u64 0, .int .i64 0, .int .u64 0, .int .i64 0, .int .u16 0, .int .u16 0, .int .u16 0, .int .u16 0]⟩),
  (36, ⟨.struct [(0, 3), (1, 4), (2, 4), (3, 27), (4, 27), (5, 3), (6, 34)], 12, 64, [.int .i64 0, .bool false, .bool false, .int .u64 0, .int .u64 0, .int .i64 0, .int .u64 0, .int .i64 0, .int .u16 0, .int .u16 0, .int .u16 0, .int .u16 0]⟩),
  (37, ⟨.fn, 1, 8, [.nilFunc]⟩),
  (38, ⟨.slice 42, 1, 24, [.slice none 0 0]⟩),
  (39, ⟨.fn, 1, 8, [.nilFunc]⟩),
  (40, ⟨.slice 27, 1, 24, [.slice none 0 0]⟩),
  (41, ⟨.fn, 1, 8, [.nilFunc]⟩),
  (42, ⟨.struct [(0, 27), (1, 27), (2, 3), (3, 3), (4, 4)], 5, 40, [.int .u64 0, .int .u64 0, .int .i64 0, .int .i64 0, .bool false]⟩),
  (43, ⟨.fn, 1, 8, [.nilFunc]⟩),
  (44, ⟨.struct [(0, 3), (1, 3)], 2, 16, [.int .i64 0, .int .i64 0]⟩),
  (45, ⟨.struct [(0, 3), (1, 3)], 2, 16, [.int .i64 0, .int .i64 0]⟩),
  (46, ⟨.slice 135, 1, 24, [.slice none 0 0]⟩),
  (47, ⟨.struct [(0, 45), (2, 46)], 3, 40, [.int .i64 0, .int .i64 0, .slice none 0 0]⟩),
  (48, ⟨.struct [(0, 45), (2, 46)], 3, 40, [.int .i64 0, .int .i64 0, .slice none 0 0]⟩),
  (49, ⟨.fn, 1, 8, [.nilFunc]⟩),
  (50, ⟨.fn, 1, 8, [.nilFunc]⟩),
  (51, ⟨.fn, 1, 8, [.nilFunc]⟩),
  (52, ⟨.fn, 1, 8, [.nilFunc]⟩),
  (53, ⟨.fn, 1, 8, [.nilFunc]⟩),
  (54, ⟨.fn, 1, 8, [.nilFunc]⟩),
  (55, ⟨.fn, 1, 8, [.nilFunc]⟩),
  (56, ⟨.fn, 1, 8, [.nilFunc]⟩),
  (57, ⟨.slice 63, 1, 24, [.slice none 0 0]⟩),
  (58, ⟨.fn, 1, 8, [.nilFunc]⟩),
  (59, ⟨.slice 62, 1, 24, [.slice none 0 0]⟩),
  (60, ⟨.fn, 1, 8, [.nilFunc]⟩),
  (61, ⟨.struct [(0, 27), (1, 27)], 2, 16, [.int .u64 0, .int .u64 0]⟩),
  (62, ⟨.struct [(0, 27), (1, 27)], 2, 16, [.int .u64 0, .int .u64 0]⟩),
  (63, ⟨.struct [(0, 27), (1, 27)], 2, 16, [.int .u64 0, .int .u64 0]⟩),
  (64, ⟨.fn, 1, 8, [.nilFunc]⟩),
  (65, ⟨.fn, 1, 8, [.nilFunc]⟩),
  (66, ⟨.fn, 1, 8, [.nilFunc]⟩),
  (67, ⟨.fn, 1, 8, [.nilFunc]⟩),
  (69, ⟨.fn, 1, 8, [.nilFunc]⟩),
  (70, ⟨.fn, 1, 8, [.nilFunc]⟩),
  (71, ⟨.fn, 1, 8, [.nilFunc]⟩),
  (72, ⟨.int .i64, 1, 8, [.int .i64 0]⟩),
  (73, ⟨.struct [(0, 3), (1, 72)], 2, 16, [.int .i64 0, .int .i64 0]⟩),
  (74, ⟨.struct [(0, 3), (1, 72)], 2, 16, [.int .i64 0, .int .i64 0]⟩),
  (75, ⟨.fn, 1, 8, [.nilFunc]⟩),
  (76, ⟨.fn, 1, 8, [.nilFunc]⟩),
  (77, ⟨.fn, 1, 8, [.nilFunc]⟩),
  (78, ⟨.fn, 1, 8, [.nilFunc]⟩),
  (79, ⟨.fn, 1, 8, [.nilFunc]⟩),
  (80, ⟨.slice 34, 1, 24, [.slice none 0 0]⟩),
  (81, ⟨.fn, 1, 8, [.nilFunc]⟩),
  (82, ⟨.fn, 1, 8, [.nilFunc]⟩),
  (83, ⟨.fn, 1, 8, [.nilFunc]⟩),
  (84, ⟨.struct [(0, 27), (1, 27)], 2, 16, [.int .u64 0, .int .u64 0]⟩),
  (85, ⟨.struct [(0, 27), (1, 27)], 2, 16, [.int .u64 0, .int .u64 0]⟩),
  (86, ⟨.struct [(0, 3), (1, 27)], 2, 16, [.int .i64 0, .int .u64 0]⟩),
  (87, ⟨.struct [(0, 3), (1, 27)], 2, 16, [.int .i64 0, .int .u64 0]⟩),
  (88, ⟨.struct [(0, 27), (1, 27)], 2, 16, [.int .u64 0, .int .u64 0]⟩),
  (89, ⟨.struct [(0, 27), (1, 27)], 2, 16, [.int .u64 0, .int .u64 0]⟩),
  (91, ⟨.fn, 1, 8, [.nilFunc]⟩),
  (92, ⟨.fn, 1, 8, [.nilFunc]⟩),
  (93, ⟨.fn, 1, 8, [.nilFunc]⟩),
  (94, ⟨.fn, 1, 8, [.nilFunc]⟩),
  (95, ⟨.array 4 27, 4, 32, [.int .u64 0, .int .u64 0, .int .u64 0, .int .u64 0]⟩),
  (96, ⟨.array 4 27, 4, 32, [.int .u64 0, .int .u64 0, .int .u64 0, .int .u64 0]⟩),
  (97, ⟨.fn, 1, 8, [.nilFunc]⟩),
  (98, ⟨.fn, 1, 8, [.nilFunc]⟩),
  (99, ⟨.fn, 1, 8, [.nilFunc]⟩),
  (100, ⟨.fn, 1, 8, [.nilFunc]⟩),
  (101, ⟨.fn, 1, 8, [.nilFunc]⟩),
  (102, ⟨.struct [(0, 27), (1, 27), (2, 27)], 3, 24, [.int .u64 0, .int .u64 0, .int .u64 0]⟩),
  (103, ⟨.struct [(0, 27), (1, 27), (2, 27)], 3, 24, [.int .u64 0, .int .u64 0, .int .u64 0]⟩),
  (104, ⟨.struct [(0, 3), (1, 23)], 2, 32, [.int .i64 0, .slice none 0 0]⟩),
  (105, ⟨.struct [(0, 3), (1, 23)], 2, 32, [.int .i64 0, .slice none 0 0]⟩),
  (106, ⟨.struct [(0, 3), (1, 4)], 2, 16, [.int .i64 0, .bool false]⟩),
  (107, ⟨.struct [(0, 3), (1, 4)], 2, 16, [.int .i64 0, .bool false]⟩),
  (108, ⟨.fn, 1, 8, [.nilFunc]⟩),
  (109, ⟨.fn, 1, 8, [.nilFunc]⟩),
  (110, ⟨.fn, 1, 8, [.nilFunc]⟩),
  (111, ⟨.fn, 1, 8, [.nilFunc]⟩),
  (113, ⟨.fn, 1, 8, [.nilFunc]⟩),
  (114, ⟨.struct [(0, 48), (3, 3)], 4, 48, [.int .i64 0, .int .i64 0, .slice none 0 0, .int .i64 0]⟩),
  (115, ⟨.struct [(0, 48), (3, 3)], 4, 48, [.int .i64 0, .int .i64 0, .slice none 0 0, .int .i64 0]⟩),
  (116, ⟨.fn, 1, 8, [.nilFunc]⟩),
  (117, ⟨.fn, 1, 8, [.nilFunc]⟩),
  (118, ⟨.struct [(0, 27), (1, 3)], 2, 16, [.int .u64 0, .int .i64 0]⟩),
  (119, ⟨.struct [(0, 27), (1, 3)], 2, 16, [.int .u64 0, .int .i64 0]⟩),
  (121, ⟨.fn, 1, 8, [.nilFunc]⟩),
  (122, ⟨.fn, 1, 8, [.nilFunc]⟩),
  (123, ⟨.slice 189, 1, 24, [.slice none 0 0]⟩),
  (124, ⟨.fn, 1, 8, [.nilFunc]⟩),
  (125, ⟨.fn, 1, 8, [.nilFunc]⟩),
  (126, ⟨.fn, 1, 8, [.nilFunc]⟩),
  (127, ⟨.fn, 1, 8, [.nilFunc]⟩),
  (128, ⟨.fn, 1, 8, [.nilFunc]⟩),
  (129, ⟨.fn, 1, 8, [.nilFunc]⟩),
  (130, ⟨.ptr 29, 1, 8, [.pointer none]⟩),
  (131, ⟨.fn, 1, 8, [.nilFunc]⟩),
  (132, ⟨.slice 195, 1, 24, [.slice none 0 0]⟩),
  (133, ⟨.slice 197, 1, 24, [.slice none 0 0]⟩),
  (134, ⟨.struct [(0, 3), (1, 132), (2, 133), (3, 34), (9, 27)], 10, 88, [.int .i64 0, .slice none 0 0, .slice none 0 0, .int .u64 0, .int .i64 0, .int .u16 0, .int .u16 0, .int .u16 0, .int .u16 0, .int .u64 0]⟩),
  (135, ⟨.struct [(0, 3), (1, 132), (2, 133), (3, 34), (9, 27)], 10, 88, [.int .i64 0, .slice none 0 0, .slice none 0 0, .int .u64 0, .int .i64 0, .int .u16 0, .int .u16 0, .int .u16 0, .int .u16 0, .int .u64 0]⟩),
  (136, ⟨.fn, 1, 8, [.nilFunc]⟩),
  (138, ⟨.fn, 1, 8, [.nilFunc]⟩),
  (139, ⟨.fn, 1, 8, [.nilFunc]⟩),
  (140, ⟨.ptr 63, 1, 8, [.pointer none]⟩),
  (141, ⟨.struct [(0, 27), (1, 27), (2, 3)], 3, 24, [.int .u64 0, .int .u64 0, .int .i64 0]⟩),
  (142, ⟨.struct [(0, 27), (1, 27), (2, 3)], 3, 24, [.int .u64 0, .int .u64 0, .int .i64 0]⟩),
  (143, ⟨.fn, 1, 8, [.nilFunc]⟩),
  (144, ⟨.fn, 1, 8, [.nilFunc]⟩),
  (145, ⟨.fn, 1, 8, [.nilFunc]⟩),
  (146, ⟨.ptr 151, 1, 8, [.pointer none]⟩),
  (147, ⟨.fn, 1, 8, [.nilFunc]⟩),
  (148, ⟨.map 3 80, 1, 8, [.map none]⟩),
  (149, ⟨.slice 153, 1, 24, [.slice none 0 0]⟩),
  (150, ⟨.struct [(0, 45), (2, 148), (3, 36), (15, 27), (16, 149)], 17, 120, [.int .i64 0, .int .i64 0, .map none, .int .i64 0, .bool false, .bool false, .int .u64 0, .int .u64 0, .int .i64 0, .int .u64 0, .int .i64 0, .int .u16 0, .int .u16 0, .int .u16 0, .int .u16 0, .int .u64 0, .slice none 0 0]⟩),
  (151, ⟨.struct [(0, 45), (2, 148), (3, 36), (15, 27), (16, 149)], 17, 120, [.int .i64 0, .int .i64 0, .map none, .int .i64 0, .bool false, .bool false, .int .u64 0, .int .u64 0, .int .i64 0, .int .u64 0, .int .i64 0, .int .u16 0, .int .u16 0, .int .u16 0, .int .u16 0, .int .u64 0, .slice none 0 0]⟩),
  (152, ⟨.struct [(0, 72), (1, 145)], 2, 16, [.int .i64 0, .nilFunc]⟩),
  (153, ⟨.struct [(0, 72), (1, 145)], 2, 16, [.int .i64 0, .nilFunc]⟩),
  (154, ⟨.fn, 1, 8, [.nilFunc]⟩),
  (155, ⟨.fn, 1, 8, [.nilFunc]⟩),
  (156, ⟨.fn, 1, 8, [.nilFunc]⟩),
  (157, ⟨.fn, 1, 8, [.nilFunc]⟩),
  (158, ⟨.fn, 1, 8, [.nilFunc]⟩),
  (160, ⟨.fn, 1, 8, [.nilFunc]⟩),
  (161, ⟨.fn, 1, 8, [.nilFunc]⟩),
  (162, ⟨.fn, 1, 8, [.nilFunc]⟩),
  (163, ⟨.fn, 1, 8, [.nilFunc]⟩),
  (164, ⟨.fn, 1, 8, [.nilFunc]⟩),
  (165, ⟨.struct [(0, 27), (1, 3)], 2, 16, [.int .u64 0, .int .i64 0]⟩),
  (166, ⟨.struct [(0, 27), (1, 3)], 2, 16, [.int .u64 0, .int .i64 0]⟩),
  (167, ⟨.fn, 1, 8, [.nilFunc]⟩),
  (168, ⟨.fn, 1, 8, [.nilFunc]⟩),
  (169, ⟨.fn, 1, 8, [.nilFunc]⟩),
  (170, ⟨.fn, 1, 8, [.nilFunc]⟩),
  (172, ⟨.fn, 1, 8, [.nilFunc]⟩),
  (173, ⟨.slice 5, 1, 24, [.slice none 0 0]⟩),
  (174, ⟨.ptr 177, 1, 8, [.pointer none]⟩),
  (175, ⟨.fn, 1, 8, [.nilFunc]⟩),
  (176, ⟨.struct [(0, 175), (1, 72)], 2, 16, [.nilFunc, .int .i64 0]⟩),
  (177, ⟨.struct [(0, 175), (1, 72)], 2, 16, [.nilFunc, .int .i64 0]⟩),
  (178, ⟨.int .u64, 1, 8, [.int .u64 0]⟩),
  (179, ⟨.struct [(0, 9), (1, 3), (2, 27), (3, 3)], 4, 40, [.string ByteArray.empty, .int .i64 0, .int .u64 0, .int .i64 0]⟩),
  (180, ⟨.struct [(0, 9), (1, 3), (2, 27), (3, 3)], 4, 40, [.string ByteArray.empty, .int .i64 0, .int .u64 0, .int .i64 0]⟩),
  (181, ⟨.fn, 1, 8, [.nilFunc]⟩),
  (183, ⟨.fn, 1, 8, [.nilFunc]⟩),
  (184, ⟨.fn, 1, 8, [.nilFunc]⟩),
  (185, ⟨.fn, 1, 8, [.nilFunc]⟩),
  (186, ⟨.fn, 1, 8, [.nilFunc]⟩),
  (187, ⟨.fn, 1, 8, [.nilFunc]⟩),
  (188, ⟨.struct [(0, 27), (1, 27)], 2, 16, [.int .u64 0, .int .u64 0]⟩),
  (189, ⟨.struct [(0, 27), (1, 27)], 2, 16, [.int .u64 0, .int .u64 0]⟩),
  (190, ⟨.fn, 1, 8, [.nilFunc]⟩),
  (191, ⟨.fn, 1, 8, [.nilFunc]⟩),
  (192, ⟨.struct [(0, 3), (1, 3), (2, 4), (3, 103), (6, 103), (9, 103), (12, 3), (13, 3)], 14, 112, [.int .i64 0, .int .i64 0, .bool false, .int .u64 0, .int .u64 0, .int .u64 0, .int .u64 0, .int .u64 0, .int .u64 0, .int .u64 0, .int .u64 0, .int .u64 0, .int .i64 0, .int .i64 0]⟩),
  (193, ⟨.struct [(0, 3), (1, 3), (2, 4), (3, 103), (6, 103), (9, 103), (12, 3), (13, 3)], 14, 112, [.int .i64 0, .int .i64 0, .bool false, .int .u64 0, .int .u64 0, .int .u64 0, .int .u64 0, .int .u64 0, .int .u64 0, .int .u64 0, .int .u64 0, .int .u64 0, .int .i64 0, .int .i64 0]⟩),
  (194, ⟨.struct [(0, 3), (1, 193)], 15, 120, [.int .i64 0, .int .i64 0, .int .i64 0, .bool false, .int .u64 0, .int .u64 0, .int .u64 0, .int .u64 0, .int .u64 0, .int .u64 0, .int .u64 0, .int .u64 0, .int .u64 0, .int .i64 0, .int .i64 0]⟩),
  (195, ⟨.struct [(0, 3), (1, 193)], 15, 120, [.int .i64 0, .int .i64 0, .int .i64 0, .bool false, .int .u64 0, .int .u64 0, .int .u64 0, .int .u64 0, .int .u64 0, .int .u64 0, .int .u64 0, .int .u64 0, .int .u64 0, .int .i64 0, .int .i64 0]⟩),
  (196, ⟨.struct [(0, 32), (4, 32), (8, 3)], 9, 24, [.int .u16 0, .int .u16 0, .int .u16 0, .int .u16 0, .int .u16 0, .int .u16 0, .int .u16 0, .int .u16 0, .int .i64 0]⟩),
  (197, ⟨.struct [(0, 32), (4, 32), (8, 3)], 9, 24, [.int .u16 0, .int .u16 0, .int .u16 0, .int .u16 0, .int .u16 0, .int .u16 0, .int .u16 0, .int .u16 0, .int .i64 0]⟩),
  (198, ⟨.ptr 142, 1, 8, [.pointer none]⟩),
  (199, ⟨.fn, 1, 8, [.nilFunc]⟩),
  (200, ⟨.fn, 1, 8, [.nilFunc]⟩),
  (201, ⟨.array 2 85, 4, 32, [.int .u64 0, .int .u64 0, .int .u64 0, .int .u64 0]⟩),
  (203, ⟨.fn, 1, 8, [.nilFunc]⟩),
  (204, ⟨.fn, 1, 8, [.nilFunc]⟩),
  (206, ⟨.fn, 1, 8, [.nilFunc]⟩),
  (207, ⟨.fn, 1, 8, [.nilFunc]⟩),
  (208, ⟨.fn, 1, 8, [.nilFunc]⟩),
  (209, ⟨.fn, 1, 8, [.nilFunc]⟩),
  (210, ⟨.fn, 1, 8, [.nilFunc]⟩),
  (212, ⟨.fn, 1, 8, [.nilFunc]⟩),
  (214, ⟨.fn, 1, 8, [.nilFunc]⟩),
  (216, ⟨.fn, 1, 8, [.nilFunc]⟩),
  (217, ⟨.fn, 1, 8, [.nilFunc]⟩),
  (218, ⟨.int .i64, 1, 8, [.int .i64 0]⟩),
  (219, ⟨.fn, 1, 8, [.nilFunc]⟩),
  (221, ⟨.fn, 1, 8, [.nilFunc]⟩),
  (222, ⟨.fn, 1, 8, [.nilFunc]⟩),
  (223, ⟨.fn, 1, 8, [.nilFunc]⟩),
  (224, ⟨.fn, 1, 8, [.nilFunc]⟩),
  (225, ⟨.fn, 1, 8, [.nilFunc]⟩),
  (226, ⟨.fn, 1, 8, [.nilFunc]⟩),
  (227, ⟨.fn, 1, 8, [.nilFunc]⟩),
  (228, ⟨.fn, 1, 8, [.nilFunc]⟩),
  (229, ⟨.fn, 1, 8, [.nilFunc]⟩),
  (230, ⟨.fn, 1, 8, [.nilFunc]⟩),
  (231, ⟨.fn, 1, 8, [.nilFunc]⟩),
  (232, ⟨.fn, 1, 8, [.nilFunc]⟩),
  (233, ⟨.fn, 1, 8, [.nilFunc]⟩),
  (234, ⟨.fn, 1, 8, [.nilFunc]⟩),
  (236, ⟨.fn, 1, 8, [.nilFunc]⟩),
  (237, ⟨.fn, 1, 8, [.nilFunc]⟩),
  (238, ⟨.fn, 1, 8, [.nilFunc]⟩),
  (239, ⟨.fn, 1, 8, [.nilFunc]⟩),
  (241, ⟨.fn, 1, 8, [.nilFunc]⟩),
  (242, ⟨.fn, 1, 8, [.nilFunc]⟩),
  (248, ⟨.fn, 1, 8, [.nilFunc]⟩),
  (249, ⟨.int .u32, 1, 4, [.int .u32 0]⟩),
  (252, ⟨.fn, 1, 8, [.nilFunc]⟩),
  (253, ⟨.ptr 5, 1, 8, [.pointer none]⟩),
  (256, ⟨.struct [(0, 12), (1, 12), (2, 249), (3, 250), (4, 5), (5, 5), (6, 251), (7, 252), (8, 253), (9, 254), (10, 255)], 11, 48, [.int .u64 0, .int .u64 0, .int .u32 0, .int .u8 0, .int .u8 0, .int .u8 0, .int .u8 0, .nilFunc, .pointer none, .int .i32 0, .int .i32 0]⟩)]
theorem lay_ok : LayOk Try.prog lay := .cons ty1 <| .cons ty2 <| .cons ty3 <| .cons ty4 <| .cons ty5 <| .cons ty9 <| .cons ty12 <| .cons ty17 <| .cons ty20 <| .cons ty21 <| .cons ty22 <| .cons ty23 <| .cons ty24 <| .cons ty25 <| .cons ty26 <| .cons ty27 <| .cons ty28 <| .cons ty29 <| .cons ty30 <| .cons ty31 <| .cons ty32 <| .cons ty33 <| .cons ty34 <| .cons ty35 <| .cons ty36 <| .cons ty37 <| .cons ty38 <| .cons ty39 <| .cons ty40 <| .cons ty41 <| .cons ty42 <| .cons ty43 <| .cons ty44 <| .cons ty45 <| .cons ty46 <| .cons ty47 <| .cons ty48 <| .cons ty49 <| .cons ty50 <| .cons ty51 <| .cons ty52 <| .cons ty53 <| .cons ty54 <| .cons ty55 <| .cons ty56 <| .cons ty57 <| .cons ty58 <| .cons ty59 <| .cons ty60 <| .cons ty61 <| .cons ty62 <| .cons ty63 <| .cons ty64 <| .cons ty65 <| .cons ty66 <| .cons ty67 <| .cons ty69 <| .cons ty70 <| .cons ty71 <| .cons ty72 <| .cons ty73 <| .cons ty74 <| .cons ty75 <| .cons ty76 <| .cons ty77 <| .cons ty78 <| .cons ty79 <| .cons ty80 <| .cons ty81 <| .cons ty82 <| .cons ty83 <| .cons ty84 <| .cons ty85 <| .cons ty86 <| .cons ty87 <| .cons ty88 <| .cons ty89 <| .cons ty91 <| .cons ty92 <| .cons ty93 <| .cons ty94 <| .cons ty95 <| .cons ty96 <| .cons ty97 <| .cons ty98 <| .cons ty99 <| .cons ty100 <| .cons ty101 <| .cons ty102 <| .cons ty103 <| .cons ty104 <| .cons ty105 <| .cons ty106 <| .cons ty107 <| .cons ty108 <| .cons ty109 <| .cons ty110 <| .cons ty111 <| .cons ty113 <| .cons ty114 <| .cons ty115 <| .cons ty116 <| .cons ty117 <| .cons ty118 <| .cons ty119 <| .cons ty121 <| .cons ty122 <| .cons ty123 <| .cons ty124 <| .cons ty125 <| .cons ty126 <| .cons ty127 <| .cons ty128 <| .cons ty129 <| .cons ty130 <| .cons ty131 <| .cons ty132 <| .cons ty133 <| .cons ty134 <| .cons ty135 <| .cons ty136 <| .cons ty138 <| .cons ty139 <| .cons ty140 <| .cons ty141 <| .cons ty142 <| .cons ty143 <| .cons ty144 <| .cons ty145 <| .cons ty146 <| .cons ty147 <| .cons ty148 <| .cons ty149 <| .cons ty150 <| .cons ty151 <| .cons ty152 <| .cons ty153 <| .cons ty154 <| .cons ty155 <| .cons ty156 <| .cons ty157 <| .cons ty158 <| .cons ty160 <| .cons ty161 <| .cons ty162 <| .cons ty163 <| .cons ty164 <| .cons ty165 <| .cons ty166 <| .cons ty167 <| .cons ty168 <| .cons ty169 <| .cons ty170 <| .cons ty172 <| .cons ty173 <| .cons ty174 <| .cons ty175 <| .cons ty176 <| .cons ty177 <| .cons ty178 <| .cons ty179 <| .cons ty180 <| .cons ty181 <| .cons ty183 <| .cons ty184 <| .cons ty185 <| .cons ty186 <| .cons ty187 <| .cons ty188 <| .cons ty189 <| .cons ty190 <| .cons ty191 <| .cons ty192 <| .cons ty193 <| .cons ty194 <| .cons ty195 <| .cons ty196 <| .cons ty197 <| .cons ty198 <| .cons ty199 <| .cons ty200 <| .cons ty201 <| .cons ty203 <| .cons ty204 <| .cons ty206 <| .cons ty207 <| .cons ty208 <| .cons ty209 <| .cons ty210 <| .cons ty212 <| .cons ty214 <| .cons ty216 <| .cons ty217 <| .cons ty218 <| .cons ty219 <| .cons ty221 <| .cons ty222 <| .cons ty223 <| .cons ty224 <| .cons ty225 <| .cons ty226 <| .cons ty227 <| .cons ty228 <| .cons ty229 <| .cons ty230 <| .cons ty231 <| .cons ty232 <| .cons ty233 <| .cons ty234 <| .cons ty236 <| .cons ty237 <| .cons ty238 <| .cons ty239 <| .cons ty241 <| .cons ty242 <| .cons ty248 <| .cons ty249 <| .cons ty252 <| .cons ty253 <| .cons ty256 <| .nil _
theorem L1 : ty lay 1 = some ⟨.fn, 1, 8, [.nilFunc]⟩ := rfl
theorem L2 : ty lay 2 = some ⟨.int .i64, 1, 8, [.int .i64 0]⟩ := rfl
theorem L3 : ty lay 3 = some ⟨.int .i64, 1, 8, [.int .i64 0]⟩ := rfl
theorem L4 : ty lay 4 = some ⟨.bool, 1, 1, [.bool false]⟩ := rfl
theorem L5 : ty lay 5 = some ⟨.int .u8, 1, 1, [.int .u8 0]⟩ := rfl
theorem L9 : ty lay 9 = some ⟨.str, 1, 16, [.string ByteArray.empty]⟩ := rfl
theorem L12 : ty lay 12 = some ⟨.int .u64, 1, 8, [.int .u64 0]⟩ := rfl
theorem L17 : ty lay 17 = some ⟨.ptr 257, 1, 8, [.pointer none]⟩ := rfl
theorem L20 : ty lay 20 = some ⟨.iface, 1, 16, [.nilIface]⟩ := rfl
theorem L21 : ty lay 21 = some ⟨.int .i32, 1, 4, [.int .i32 0]⟩ := rfl
theorem L22 : ty lay 22 = some ⟨.slice 36, 1, 24, [.slice none 0 0]⟩ := rfl
theorem L23 : ty lay 23 = some ⟨.slice 3, 1, 24, [.slice none 0 0]⟩ := rfl
theorem L24 : ty lay 24 = some ⟨.fn, 1, 8, [.nilFunc]⟩ := rfl
theorem L25 : ty lay 25 = some ⟨.slice 29, 1, 24, [.slice none 0 0]⟩ := rfl
theorem L26 : ty lay 26 = some ⟨.fn, 1, 8, [.nilFunc]⟩ := rfl
theorem L27 : ty lay 27 = some ⟨.int .u64, 1, 8, [.int .u64 0]⟩ := rfl
theorem L28 : ty lay 28 = some ⟨.struct [(0, 27), (1, 27), (2, 3), (3, 3), (4, 4)], 5, 40, [.int .u64 0, .int .u64 0, .int .i64 0, .int .i64 0, .bool false]⟩ := rfl
theorem L29 : ty lay 29 = some ⟨.struct [(0, 27), (1, 27), (2, 3), (3, 3), (4, 4)], 5, 40, [.int .u64 0, .int .u64 0, .int .i64 0, .int .i64 0, .bool false]⟩ := rfl
theorem L30 : ty lay 30 = some ⟨.int .u16, 1, 2, [.int .u16 0]⟩ := rfl
theorem L31 : ty lay 31 = some ⟨.array 4 30, 4, 8, [.int .u16 0, .int .u16 0, .int .u16 0, .int .u16 0]⟩ := rfl
theorem L32 : ty lay 32 = some ⟨.array 4 30, 4, 8, [.int .u16 0, .int .u16 0, .int .u16 0, .int .u16 0]⟩ := rfl
theorem L33 : ty lay 33 = some ⟨.struct [(0, 27), (1, 3), (2, 32)], 6, 24, [.int .u64 0, .int .i64 0, .int .u16 0, .int .u16 0, .int .u16 0, .int .u16 0]⟩ := rfl
theorem L34 : ty lay 34 = some ⟨.struct [(0, 27), (1, 3), (2, 32)], 6, 24, [.int .u64 0, .int .i64 0, .int .u16 0, .int .u16 0, .int .u16 0, .int .u16 0]⟩ := rfl
theorem L35 : ty lay 35 = some ⟨.struct [(0, 3), (1, 4), (2, 4), (3, 27), (4, 27), (5, 3), (6, 34)], 12, 64, [.int .i64 0, .bool false, .bool false, .int .u64 0, .int .u64 0, .int .i64 0, .int .u64 0, .int .i64 0, .int .u16 0, .int .u16 0, .int .u16 0, .int .u16 0]⟩ := rfl
theorem L36 : ty lay 36 = some ⟨.struct [(0, 3), (1, 4), (2, 4), (3, 27), (4, 27), (5, 3), (6, 34)], 12, 64, [.int .i64 0, .bool false, .bool false, .int .u64 0, .int .u64 0, .int .i64 0, .int .u64 0, .int .i64 0, .int .u16 0, .int .u16 0, .int .u16 0, .int .u16 0]⟩ := rfl
theorem L37 : ty lay 37 = some ⟨.fn, 1, 8, [.nilFunc]⟩ := rfl
theorem L38 : ty lay 38 = some ⟨.slice 42, 1, 24, [.slice none 0 0]⟩ := rfl
theorem L39 : ty lay 39 = some ⟨.fn, 1, 8, [.nilFunc]⟩ := rfl
theorem L40 : ty lay 40 = some ⟨.slice 27, 1, 24, [.slice none 0 0]⟩ := rfl
theorem L41 : ty lay 41 = some ⟨.fn, 1, 8, [.nilFunc]⟩ := rfl
theorem L42 : ty lay 42 = some ⟨.struct [(0, 27), (1, 27), (2, 3), (3, 3), (4, 4)], 5, 40, [.int .u64 0, .int .u64 0, .int .i64 0, .int .i64 0, .bool false]⟩ := rfl
theorem L43 : ty lay 43 = some ⟨.fn, 1, 8, [.nilFunc]⟩ := rfl
theorem L44 : ty lay 44 = some ⟨.struct [(0, 3), (1, 3)], 2, 16, [.int .i64 0, .int .i64 0]⟩ := rfl
theorem L45 : ty lay 45 = some ⟨.struct [(0, 3), (1, 3)], 2, 16, [.int .i64 0, .int .i64 0]⟩ := rfl
theorem L46 : ty lay 46 = some ⟨.slice 135, 1, 24, [.slice none 0 0]⟩ := rfl
theorem L47 : ty lay 47 = some ⟨.struct [(0, 45), (2, 46)], 3, 40, [.int .i64 0, .int .i64 0, .slice none 0 0]⟩ := rfl
theorem L48 : ty lay 48 = some ⟨.struct [(0, 45), (2, 46)], 3, 40, [.int .i64 0, .int .i64 0, .slice none 0 0]⟩ := rfl
theorem L49 : ty lay 49 = some ⟨.fn, 1, 8, [.nilFunc]⟩ := rfl
theorem L50 : ty lay 50 = some ⟨.fn, 1, 8, [.nilFunc]⟩ := rfl
theorem L51 : ty lay 51 = some ⟨.fn, 1, 8, [.nilFunc]⟩ := rfl
theorem L52 : ty lay 52 = some ⟨.fn, 1, 8, [.nilFunc]⟩ := rfl
theorem L53 : ty lay 53 = some ⟨.fn, 1, 8, [.nilFunc]⟩ := rfl
theorem L54 : ty lay 54 = some ⟨.fn, 1, 8, [.nilFunc]⟩ := rfl
theorem L55 : ty lay 55 = some ⟨.fn, 1, 8, [.nilFunc]⟩ := rfl
theorem L56 : ty lay 56 = some ⟨.fn, 1, 8, [.nilFunc]⟩ := rfl
theorem L57 : ty lay 57 = some ⟨.slice 63, 1, 24, [.slice none 0 0]⟩ := rfl
theorem L58 : ty lay 58 = some ⟨.fn, 1, 8, [.nilFunc]⟩ := rfl
theorem L59 : ty lay 59 = some ⟨.slice 62, 1, 24, [.slice none 0 0]⟩ := rfl
theorem L60 : ty lay 60 = some ⟨.fn, 1, 8, [.nilFunc]⟩ := rfl
theorem L61 : ty lay 61 = some ⟨.struct [(0, 27), (1, 27)], 2, 16, [.int .u64 0, .int .u64 0]⟩ := rfl
theorem L62 : ty lay 62 = some ⟨.struct [(0, 27), (1, 27)], 2, 16, [.int .u64 0, .int .u64 0]⟩ := rfl
theorem L63 : ty lay 63 = some ⟨.struct [(0, 27), (1, 27)], 2, 16, [.int .u64 0, .int .u64 0]⟩ := rfl
theorem L64 : ty lay 64 = some ⟨.fn, 1, 8, [.nilFunc]⟩ := rfl
theorem L65 : ty lay 65 = some ⟨.fn, 1, 8, [.nilFunc]⟩ := rfl
theorem L66 : ty lay 66 = some ⟨.fn, 1, 8, [.nilFunc]⟩ := rfl
theorem L67 : ty lay 67 = some ⟨.fn, 1, 8, [.nilFunc]⟩ := rfl
theorem L69 : ty lay 69 = some ⟨.fn, 1, 8, [.nilFunc]⟩ := rfl
theorem L70 : ty lay 70 = some ⟨.fn, 1, 8, [.nilFunc]⟩ := rfl
theorem L71 : ty lay 71 = some ⟨.fn, 1, 8, [.nilFunc]⟩ := rfl
theorem L72 : ty lay 72 = some ⟨.int .i64, 1, 8, [.int .i64 0]⟩ := rfl
theorem L73 : ty lay 73 = some ⟨.struct [(0, 3), (1, 72)], 2, 16, [.int .i64 0, .int .i64 0]⟩ := rfl
theorem L74 : ty lay 74 = some ⟨.struct [(0, 3), (1, 72)], 2, 16, [.int .i64 0, .int .i64 0]⟩ := rfl
theorem L75 : ty lay 75 = some ⟨.fn, 1, 8, [.nilFunc]⟩ := rfl
theorem L76 : ty lay 76 = some ⟨.fn, 1, 8, [.nilFunc]⟩ := rfl
theorem L77 : ty lay 77 = some ⟨.fn, 1, 8, [.nilFunc]⟩ := rfl
theorem L78 : ty lay 78 = some ⟨.fn, 1, 8, [.nilFunc]⟩ := rfl
theorem L79 : ty lay 79 = some ⟨.fn, 1, 8, [.nilFunc]⟩ := rfl
theorem L80 : ty lay 80 = some ⟨.slice 34, 1, 24, [.slice none 0 0]⟩ := rfl
theorem L81 : ty lay 81 = some ⟨.fn, 1, 8, [.nilFunc]⟩ := rfl
theorem L82 : ty lay 82 = some ⟨.fn, 1, 8, [.nilFunc]⟩ := rfl
theorem L83 : ty lay 83 = some ⟨.fn, 1, 8, [.nilFunc]⟩ := rfl
theorem L84 : ty lay 84 = some ⟨.struct [(0, 27), (1, 27)], 2, 16, [.int .u64 0, .int .u64 0]⟩ := rfl
theorem L85 : ty lay 85 = some ⟨.struct [(0, 27), (1, 27)], 2, 16, [.int .u64 0, .int .u64 0]⟩ := rfl
theorem L86 : ty lay 86 = some ⟨.struct [(0, 3), (1, 27)], 2, 16, [.int .i64 0, .int .u64 0]⟩ := rfl
theorem L87 : ty lay 87 = some ⟨.struct [(0, 3), (1, 27)], 2, 16, [.int .i64 0, .int .u64 0]⟩ := rfl
theorem L88 : ty lay 88 = some ⟨.struct [(0, 27), (1, 27)], 2, 16, [.int .u64 0, .int .u64 0]⟩ := rfl
theorem L89 : ty lay 89 = some ⟨.struct [(0, 27), (1, 27)], 2, 16, [.int .u64 0, .int .u64 0]⟩ := rfl
theorem L91 : ty lay 91 = some ⟨.fn, 1, 8, [.nilFunc]⟩ := rfl
theorem L92 : ty lay 92 = some ⟨.fn, 1, 8, [.nilFunc]⟩ := rfl
theorem L93 : ty lay 93 = some ⟨.fn, 1, 8, [.nilFunc]⟩ := rfl
theorem L94 : ty lay 94 = some ⟨.fn, 1, 8, [.nilFunc]⟩ := rfl
theorem L95 : ty lay 95 = some ⟨.array 4 27, 4, 32, [.int .u64 0, .int .u64 0, .int .u64 0, .int .u64 0]⟩ := rfl
theorem L96 : ty lay 96 = some ⟨.array 4 27, 4, 32, [.int .u64 0, .int .u64 0, .int .u64 0, .int .u64 0]⟩ := rfl
theorem L97 : ty lay 97 = some ⟨.fn, 1, 8, [.nilFunc]⟩ := rfl
theorem L98 : ty lay 98 = some ⟨.fn, 1, 8, [.nilFunc]⟩ := rfl
theorem L99 : ty lay 99 = some ⟨.fn, 1, 8, [.nilFunc]⟩ := rfl
theorem L100 : ty lay 100 = some ⟨.fn, 1, 8, [.nilFunc]⟩ := rfl
theorem L101 : ty lay 101 = some ⟨.fn, 1, 8, [.nilFunc]⟩ := rfl
theorem L102 : ty lay 102 = some ⟨.struct [(0, 27), (1, 27), (2, 27)], 3, 24, [.int .u64 0, .int .u64 0, .int .u64 0]⟩ := rfl
theorem L103 : ty lay 103 = some ⟨.struct [(0, 27), (1, 27), (2, 27)], 3, 24, [.int .u64 0, .int .u64 0, .int .u64 0]⟩ := rfl
theorem L104 : ty lay 104 = some ⟨.struct [(0, 3), (1, 23)], 2, 32, [.int .i64 0, .slice none 0 0]⟩ := rfl
theorem L105 : ty lay 105 = some ⟨.struct [(0, 3), (1, 23)], 2, 32, [.int .i64 0, .slice none 0 0]⟩ := rfl
theorem L106 : ty lay 106 = some ⟨.struct [(0, 3), (1, 4)], 2, 16, [.int .i64 0, .bool false]⟩ := rfl
theorem L107 : ty lay 107 = some ⟨.struct [(0, 3), (1, 4)], 2, 16, [.int .i64 0, .bool false]⟩ := rfl
theorem L108 : ty lay 108 = some ⟨.fn, 1, 8, [.nilFunc]⟩ := rfl
theorem L109 : ty lay 109 = some ⟨.fn, 1, 8, [.nilFunc]⟩ := rfl
theorem L110 : ty lay 110 = some ⟨.fn, 1, 8, [.nilFunc]⟩ := rfl
theorem L111 : ty lay 111 = some ⟨.fn, 1, 8, [.nilFunc]⟩ := rfl
theorem L113 : ty lay 113 = some ⟨.fn, 1, 8, [.nilFunc]⟩ := rfl
theorem L114 : ty lay 114 = some ⟨.struct [(0, 48), (3, 3)], 4, 48, [.int .i64 0, .int .i64 0, .slice none 0 0, .int .i64 0]⟩ := rfl
theorem L115 : ty lay 115 = some ⟨.struct [(0, 48), (3, 3)], 4, 48, [.int .i64 0, .int .i64 0, .slice none 0 0, .int .i64 0]⟩ := rfl
theorem L116 : ty lay 116 = some ⟨.fn, 1, 8, [.nilFunc]⟩ := rfl
theorem L117 : ty lay 117 = some ⟨.fn, 1, 8, [.nilFunc]⟩ := rfl
theorem L118 : ty lay 118 = some ⟨.struct [(0, 27), (1, 3)], 2, 16, [.int .u64 0, .int .i64 0]⟩ := rfl
theorem L119 : ty lay 119 = some ⟨.struct [(0, 27), (1, 3)], 2, 16, [.int .u64 0, .int .i64 0]⟩ := rfl
theorem L121 : ty lay 121 = some ⟨.fn, 1, 8, [.nilFunc]⟩ := rfl
theorem L122 : ty lay 122 = some ⟨.fn, 1, 8, [.nilFunc]⟩ := rfl
theorem L123 : ty lay 123 = some ⟨.slice 189, 1, 24, [.slice none 0 0]⟩ := rfl
theorem L124 : ty lay 124 = some ⟨.fn, 1, 8, [.nilFunc]⟩ := rfl
theorem L125 : ty lay 125 = some ⟨.fn, 1, 8, [.nilFunc]⟩ := rfl
theorem L126 : ty lay 126 = some ⟨.fn, 1, 8, [.nilFunc]⟩ := rfl
theorem L127 : ty lay 127 = some ⟨.fn, 1, 8, [.nilFunc]⟩ := rfl
theorem L128 : ty lay 128 = some ⟨.fn, 1, 8, [.nilFunc]⟩ := rfl
theorem L129 : ty lay 129 = some ⟨.fn, 1, 8, [.nilFunc]⟩ := rfl
theorem L130 : ty lay 130 = some ⟨.ptr 29, 1, 8, [.pointer none]⟩ := rfl
theorem L131 : ty lay 131 = some ⟨.fn, 1, 8, [.nilFunc]⟩ := rfl
theorem L132 : ty lay 132 = some ⟨.slice 195, 1, 24, [.slice none 0 0]⟩ := rfl
theorem L133 : ty lay 133 = some ⟨.slice 197, 1, 24, [.slice none 0 0]⟩ := rfl
theorem L134 : ty lay 134 = some ⟨.struct [(0, 3), (1, 132), (2, 133), (3, 34), (9, 27)], 10, 88, [.int .i64 0, .slice none 0 0, .slice none 0 0, .int .u64 0, .int .i64 0, .int .u16 0, .int .u16 0, .int .u16 0, .int .u16 0, .int .u64 0]⟩ := rfl
theorem L135 : ty lay 135 = some ⟨.struct [(0, 3), (1, 132), (2, 133), (3, 34), (9, 27)], 10, 88, [.int .i64 0, .slice none 0 0, .slice none 0 0, .int .u64 0, .int .i64 0, .int .u16 0, .int .u16 0, .int .u16 0, .int .u16 0, .int .u64 0]⟩ := rfl
theorem L136 : ty lay 136 = some ⟨.fn, 1, 8, [.nilFunc]⟩ := rfl
theorem L138 : ty lay 138 = some ⟨.fn, 1, 8, [.nilFunc]⟩ := rfl
theorem L139 : ty lay 139 = some ⟨.fn, 1, 8, [.nilFunc]⟩ := rfl
theorem L140 : ty lay 140 = some ⟨.ptr 63, 1, 8, [.pointer none]⟩ := rfl
theorem L141 : ty lay 141 = some ⟨.struct [(0, 27), (1, 27), (2, 3)], 3, 24, [.int .u64 0, .int .u64 0, .int .i64 0]⟩ := rfl
theorem L142 : ty lay 142 = some ⟨.struct [(0, 27), (1, 27), (2, 3)], 3, 24, [.int .u64 0, .int .u64 0, .int .i64 0]⟩ := rfl
theorem L143 : ty lay 143 = some ⟨.fn, 1, 8, [.nilFunc]⟩ := rfl
theorem L144 : ty lay 144 = some ⟨.fn, 1, 8, [.nilFunc]⟩ := rfl
theorem L145 : ty lay 145 = some ⟨.fn, 1, 8, [.nilFunc]⟩ := rfl
theorem L146 : ty lay 146 = some ⟨.ptr 151, 1, 8, [.pointer none]⟩ := rfl
theorem L147 : ty lay 147 = some ⟨.fn, 1, 8, [.nilFunc]⟩ := rfl
theorem L148 : ty lay 148 = some ⟨.map 3 80, 1, 8, [.map none]⟩ := rfl
theorem L149 : ty lay 149 = some ⟨.slice 153, 1, 24, [.slice none 0 0]⟩ := rfl
theorem L150 : ty lay 150 = some ⟨.struct [(0, 45), (2, 148), (3, 36), (15, 27), (16, 149)], 17, 120, [.int .i64 0, .int .i64 0, .map none, .int .i64 0, .bool false, .bool false, .int .u64 0, .int .u64 0, .int .i64 0, .int .u64 0, .int .i64 0, .int .u16 0, .int .u16 0, .int .u16 0, .int .u16 0, .int .u64 0, .slice none 0 0]⟩ := rfl
theorem L151 : ty lay 151 = some ⟨.struct [(0, 45), (2, 148), (3, 36), (15, 27), (16, 149)], 17, 120, [.int .i64 0, .int .i64 0, .map none, .int .i64 0, .bool false, .bool false, .int .u64 0, .int .u64 0, .int .i64 0, .int .u64 0, .int .i64 0, .int .u16 0, .int .u16 0, .int .u16 0, .int .u16 0, .int .u64 0, .slice none 0 0]⟩ := rfl
theorem L152 : ty lay 152 = some ⟨.struct [(0, 72), (1, 145)], 2, 16, [.int .i64 0, .nilFunc]⟩ := rfl
theorem L153 : ty lay 153 = some ⟨.struct [(0, 72), (1, 145)], 2, 16, [.int .i64 0, .nilFunc]⟩ := rfl
theorem L154 : ty lay 154 = some ⟨.fn, 1, 8, [.nilFunc]⟩ := rfl
theorem L155 : ty lay 155 = some ⟨.fn, 1, 8, [.nilFunc]⟩ := rfl
theorem L156 : ty lay 156 = some ⟨.fn, 1, 8, [.nilFunc]⟩ := rfl
theorem L157 : ty lay 157 = some ⟨.fn, 1, 8, [.nilFunc]⟩ := rfl
theorem L158 : ty lay 158 = some ⟨.fn, 1, 8, [.nilFunc]⟩ := rfl
theorem L160 : ty lay 160 = some ⟨.fn, 1, 8, [.nilFunc]⟩ := rfl
theorem L161 : ty lay 161 = some ⟨.fn, 1, 8, [.nilFunc]⟩ := rfl
theorem L162 : ty lay 162 = some ⟨.fn, 1, 8, [.nilFunc]⟩ := rfl
theorem L163 : ty lay 163 = some ⟨.fn, 1, 8, [.nilFunc]⟩ := rfl
theorem L164 : ty lay 164 = some ⟨.fn, 1, 8, [.nilFunc]⟩ := rfl
theorem L165 : ty lay 165 = some ⟨.struct [(0, 27), (1, 3)], 2, 16, [.int .u64 0, .int .i64 0]⟩ := rfl
theorem L166 : ty lay 166 = some ⟨.struct [(0, 27), (1, 3)], 2, 16, [.int .u64 0, .int .i64 0]⟩ := rfl
theorem L167 : ty lay 167 = some ⟨.fn, 1, 8, [.nilFunc]⟩ := rfl
theorem L168 : ty lay 168 = some ⟨.fn, 1, 8, [.nilFunc]⟩ := rfl
theorem L169 : ty lay 169 = some ⟨.fn, 1, 8, [.nilFunc]⟩ := rfl
theorem L170 : ty lay 170 = some ⟨.fn, 1, 8, [.nilFunc]⟩ := rfl
theorem L172 : ty lay 172 = some ⟨.fn, 1, 8, [.nilFunc]⟩ := rfl
theorem L173 : ty lay 173 = some ⟨.slice 5, 1, 24, [.slice none 0 0]⟩ := rfl
theorem L174 : ty lay 174 = some ⟨.ptr 177, 1, 8, [.pointer none]⟩ := rfl
theorem L175 : ty lay 175 = some ⟨.fn, 1, 8, [.nilFunc]⟩ := rfl
theorem L176 : ty lay 176 = some ⟨.struct [(0, 175), (1, 72)], 2, 16, [.nilFunc, .int .i64 0]⟩ := rfl
theorem L177 : ty lay 177 = some ⟨.struct [(0, 175), (1, 72)], 2, 16, [.nilFunc, .int .i64 0]⟩ := rfl
theorem L178 : ty lay 178 = some ⟨.int .u64, 1, 8, [.int .u64 0]⟩ := rfl
theorem L179 : ty lay 179 = some ⟨.struct [(0, 9), (1, 3), (2, 27), (3, 3)], 4, 40, [.string ByteArray.empty, .int .i64 0, .int .u64 0, .int .i64 0]⟩ := rfl
theorem L180 : ty lay 180 = some ⟨.struct [(0, 9), (1, 3), (2, 27), (3, 3)], 4, 40, [.string ByteArray.empty, .int .i64 0, .int .u64 0, .int .i64 0]⟩ := rfl
theorem L181 : ty lay 181 = some ⟨.fn, 1, 8, [.nilFunc]⟩ := rfl
theorem L183 : ty lay 183 = some ⟨.fn, 1, 8, [.nilFunc]⟩ := rfl
theorem L184 : ty lay 184 = some ⟨.fn, 1, 8, [.nilFunc]⟩ := rfl
theorem L185 : ty lay 185 = some ⟨.fn, 1, 8, [.nilFunc]⟩ := rfl
theorem L186 : ty lay 186 = some ⟨.fn, 1, 8, [.nilFunc]⟩ := rfl
theorem L187 : ty lay 187 = some ⟨.fn, 1, 8, [.nilFunc]⟩ := rfl
theorem L188 : ty lay 188 = some ⟨.struct [(0, 27), (1, 27)], 2, 16, [.int .u64 0, .int .u64 0]⟩ := rfl
theorem L189 : ty lay 189 = some ⟨.struct [(0, 27), (1, 27)], 2, 16, [.int .u64 0, .int .u64 0]⟩ := rfl
theorem L190 : ty lay 190 = some ⟨.fn, 1, 8, [.nilFunc]⟩ := rfl
theorem L191 : ty lay 191 = some ⟨.fn, 1, 8, [.nilFunc]⟩ := rfl
theorem L192 : ty lay 192 = some ⟨.struct [(0, 3), (1, 3), (2, 4), (3, 103), (6, 103), (9, 103), (12, 3), (13, 3)], 14, 112, [.int .i64 0, .int .i64 0, .bool false, .int .u64 0, .int .u64 0, .int .u64 0, .int .u64 0, .int .u64 0, .int .u64 0, .int .u64 0, .int .u64 0, .int .u64 0, .int .i64 0, .int .i64 0]⟩ := rfl
theorem L193 : ty lay 193 = some ⟨.struct [(0, 3), (1, 3), (2, 4), (3, 103), (6, 103), (9, 103), (12, 3), (13, 3)], 14, 112, [.int .i64 0, .int .i64 0, .bool false, .int .u64 0, .int .u64 0, .int .u64 0, .int .u64 0, .int .u64 0, .int .u64 0, .int .u64 0, .int .u64 0, .int .u64 0, .int .i64 0, .int .i64 0]⟩ := rfl
theorem L194 : ty lay 194 = some ⟨.struct [(0, 3), (1, 193)], 15, 120, [.int .i64 0, .int .i64 0, .int .i64 0, .bool false, .int .u64 0, .int .u64 0, .int .u64 0, .int .u64 0, .int .u64 0, .int .u64 0, .int .u64 0, .int .u64 0, .int .u64 0, .int .i64 0, .int .i64 0]⟩ := rfl
theorem L195 : ty lay 195 = some ⟨.struct [(0, 3), (1, 193)], 15, 120, [.int .i64 0, .int .i64 0, .int .i64 0, .bool false, .int .u64 0, .int .u64 0, .int .u64 0, .int .u64 0, .int .u64 0, .int .u64 0, .int .u64 0, .int .u64 0, .int .u64 0, .int .i64 0, .int .i64 0]⟩ := rfl
theorem L196 : ty lay 196 = some ⟨.struct [(0, 32), (4, 32), (8, 3)], 9, 24, [.int .u16 0, .int .u16 0, .int .u16 0, .int .u16 0, .int .u16 0, .int .u16 0, .int .u16 0, .int .u16 0, .int .i64 0]⟩ := rfl
theorem L197 : ty lay 197 = some ⟨.struct [(0, 32), (4, 32), (8, 3)], 9, 24, [.int .u16 0, .int .u16 0, .int .u16 0, .int .u16 0, .int .u16 0, .int .u16 0, .int .u16 0, .int .u16 0, .int .i64 0]⟩ := rfl
theorem L198 : ty lay 198 = some ⟨.ptr 142, 1, 8, [.pointer none]⟩ := rfl
theorem L199 : ty lay 199 = some ⟨.fn, 1, 8, [.nilFunc]⟩ := rfl
theorem L200 : ty lay 200 = some ⟨.fn, 1, 8, [.nilFunc]⟩ := rfl
theorem L201 : ty lay 201 = some ⟨.array 2 85, 4, 32, [.int .u64 0, .int .u64 0, .int .u64 0, .int .u64 0]⟩ := rfl
theorem L203 : ty lay 203 = some ⟨.fn, 1, 8, [.nilFunc]⟩ := rfl
theorem L204 : ty lay 204 = some ⟨.fn, 1, 8, [.nilFunc]⟩ := rfl
theorem L206 : ty lay 206 = some ⟨.fn, 1, 8, [.nilFunc]⟩ := rfl
theorem L207 : ty lay 207 = some ⟨.fn, 1, 8, [.nilFunc]⟩ := rfl
theorem L208 : ty lay 208 = some ⟨.fn, 1, 8, [.nilFunc]⟩ := rfl
theorem L209 : ty lay 209 = some ⟨.fn, 1, 8, [.nilFunc]⟩ := rfl
theorem L210 : ty lay 210 = some ⟨.fn, 1, 8, [.nilFunc]⟩ := rfl
theorem L212 : ty lay 212 = some ⟨.fn, 1, 8, [.nilFunc]⟩ := rfl
theorem L214 : ty lay 214 = some ⟨.fn, 1, 8, [.nilFunc]⟩ := rfl
theorem L216 : ty lay 216 = some ⟨.fn, 1, 8, [.nilFunc]⟩ := rfl
theorem L217 : ty lay 217 = some ⟨.fn, 1, 8, [.nilFunc]⟩ := rfl
theorem L218 : ty lay 218 = some ⟨.int .i64, 1, 8, [.int .i64 0]⟩ := rfl
theorem L219 : ty lay 219 = some ⟨.fn, 1, 8, [.nilFunc]⟩ := rfl
theorem L221 : ty lay 221 = some ⟨.fn, 1, 8, [.nilFunc]⟩ := rfl
theorem L222 : ty lay 222 = some ⟨.fn, 1, 8, [.nilFunc]⟩ := rfl
theorem L223 : ty lay 223 = some ⟨.fn, 1, 8, [.nilFunc]⟩ := rfl
theorem L224 : ty lay 224 = some ⟨.fn, 1, 8, [.nilFunc]⟩ := rfl
theorem L225 : ty lay 225 = some ⟨.fn, 1, 8, [.nilFunc]⟩ := rfl
theorem L226 : ty lay 226 = some ⟨.fn, 1, 8, [.nilFunc]⟩ := rfl
theorem L227 : ty lay 227 = some ⟨.fn, 1, 8, [.nilFunc]⟩ := rfl
theorem L228 : ty lay 228 = some ⟨.fn, 1, 8, [.nilFunc]⟩ := rfl
theorem L229 : ty lay 229 = some ⟨.fn, 1, 8, [.nilFunc]⟩ := rfl
theorem L230 : ty lay 230 = some ⟨.fn, 1, 8, [.nilFunc]⟩ := rfl
theorem L231 : ty lay 231 = some ⟨.fn, 1, 8, [.nilFunc]⟩ := rfl
theorem L232 : ty lay 232 = some ⟨.fn, 1, 8, [.nilFunc]⟩ := rfl
theorem L233 : ty lay 233 = some ⟨.fn, 1, 8, [.nilFunc]⟩ := rfl
theorem L234 : ty lay 234 = some ⟨.fn, 1, 8, [.nilFunc]⟩ := rfl
theorem L236 : ty lay 236 = some ⟨.fn, 1, 8, [.nilFunc]⟩ := rfl
theorem L237 : ty lay 237 = some ⟨.fn, 1, 8, [.nilFunc]⟩ := rfl
theorem L238 : ty lay 238 = some ⟨.fn, 1, 8, [.nilFunc]⟩ := rfl
theorem L239 : ty lay 239 = some ⟨.fn, 1, 8, [.nilFunc]⟩ := rfl
theorem L241 : ty lay 241 = some ⟨.fn, 1, 8, [.nilFunc]⟩ := rfl
theorem L242 : ty lay 242 = some ⟨.fn, 1, 8, [.nilFunc]⟩ := rfl
theorem L248 : ty lay 248 = some ⟨.fn, 1, 8, [.nilFunc]⟩ := rfl
theorem L249 : ty lay 249 = some ⟨.int .u32, 1, 4, [.int .u32 0]⟩ := rfl
theorem L252 : ty lay 252 = some ⟨.fn, 1, 8, [.nilFunc]⟩ := rfl
theorem L253 : ty lay 253 = some ⟨.ptr 5, 1, 8, [.pointer none]⟩ := rfl
theorem L256 : ty lay 256 = some ⟨.struct [(0, 12), (1, 12), (2, 249), (3, 250), (4, 5), (5, 5), (6, 251), (7, 252), (8, 253), (9, 254), (10, 255)], 11, 48, [.int .u64 0, .int .u64 0, .int .u32 0, .int .u8 0, .int .u8 0, .int .u8 0, .int .u8 0, .nilFunc, .pointer none, .int .i32 0, .int .i32 0]⟩ := rfl
theorem eq28 : EqTyOk Try.prog 28 [0, 0, 0, 0, 1] := ⟨by kernel_rfl, by kernel_rfl, by kernel_rfl⟩
theorem eq29 : EqTyOk Try.prog 29 [0, 0, 0, 0, 1] := ⟨by kernel_rfl, by kernel_rfl, by kernel_rfl⟩
theorem eq31 : EqTyOk Try.prog 31 [0, 0, 0, 0] := ⟨by kernel_rfl, by kernel_rfl, by kernel_rfl⟩
theorem eq32 : EqTyOk Try.prog 32 [0, 0, 0, 0] := ⟨by kernel_rfl, by kernel_rfl, by kernel_rfl⟩
theorem eq33 : EqTyOk Try.prog 33 [0, 0, 0, 0, 0, 0] := ⟨by kernel_rfl, by kernel_rfl, by kernel_rfl⟩
theorem eq34 : EqTyOk Try.prog 34 [0, 0, 0, 0, 0, 0] := ⟨by kernel_rfl, by kernel_rfl, by kernel_rfl⟩
theorem eq35 : EqTyOk Try.prog 35 [0, 1, 1, 0, 0, 0, 0, 0, 0, 0, 0, 0] := ⟨by kernel_rfl, by kernel_rfl, by kernel_rfl⟩
theorem eq36 : EqTyOk Try.prog 36 [0, 1, 1, 0, 0, 0, 0, 0, 0, 0, 0, 0] := ⟨by kernel_rfl, by kernel_rfl, by kernel_rfl⟩
theorem eq42 : EqTyOk Try.prog 42 [0, 0, 0, 0, 1] := ⟨by kernel_rfl, by kernel_rfl, by kernel_rfl⟩
theorem eq44 : EqTyOk Try.prog 44 [0, 0] := ⟨by kernel_rfl, by kernel_rfl, by kernel_rfl⟩
theorem eq45 : EqTyOk Try.prog 45 [0, 0] := ⟨by kernel_rfl, by kernel_rfl, by kernel_rfl⟩
theorem eq61 : EqTyOk Try.prog 61 [0, 0] := ⟨by kernel_rfl, by kernel_rfl, by kernel_rfl⟩
theorem eq62 : EqTyOk Try.prog 62 [0, 0] := ⟨by kernel_rfl, by kernel_rfl, by kernel_rfl⟩
theorem eq63 : EqTyOk Try.prog 63 [0, 0] := ⟨by kernel_rfl, by kernel_rfl, by kernel_rfl⟩
theorem eq73 : EqTyOk Try.prog 73 [0, 0] := ⟨by kernel_rfl, by kernel_rfl, by kernel_rfl⟩
theorem eq74 : EqTyOk Try.prog 74 [0, 0] := ⟨by kernel_rfl, by kernel_rfl, by kernel_rfl⟩
theorem eq84 : EqTyOk Try.prog 84 [0, 0] := ⟨by kernel_rfl, by kernel_rfl, by kernel_rfl⟩
theorem eq85 : EqTyOk Try.prog 85 [0, 0] := ⟨by kernel_rfl, by kernel_rfl, by kernel_rfl⟩
theorem eq86 : EqTyOk Try.prog 86 [0, 0] := ⟨by kernel_rfl, by kernel_rfl, by kernel_rfl⟩
theorem eq87 : EqTyOk Try.prog 87 [0, 0] := ⟨by kernel_rfl, by kernel_rfl, by kernel_rfl⟩
theorem eq88 : EqTyOk Try.prog 88 [0, 0] := ⟨by kernel_rfl, by kernel_rfl, by kernel_rfl⟩
theorem eq89 : EqTyOk Try.prog 89 [0, 0] := ⟨by kernel_rfl, by kernel_rfl, by kernel_rfl⟩
theorem eq95 : EqTyOk Try.prog 95 [0, 0, 0, 0] := ⟨by kernel_rfl, by kernel_rfl, by kernel_rfl⟩
theorem eq96 : EqTyOk Try.prog 96 [0, 0, 0, 0] := ⟨by kernel_rfl, by kernel_rfl, by kernel_rfl⟩
theorem eq102 : EqTyOk Try.prog 102 [0, 0, 0] := ⟨by kernel_rfl, by kernel_rfl, by kernel_rfl⟩
theorem eq103 : EqTyOk Try.prog 103 [0, 0, 0] := ⟨by kernel_rfl, by kernel_rfl, by kernel_rfl⟩
theorem eq106 : EqTyOk Try.prog 106 [0, 1] := ⟨by kernel_rfl, by kernel_rfl, by kernel_rfl⟩
theorem eq107 : EqTyOk Try.prog 107 [0, 1] := ⟨by kernel_rfl, by kernel_rfl, by kernel_rfl⟩
theorem eq118 : EqTyOk Try.prog 118 [0, 0] := ⟨by kernel_rfl, by kernel_rfl, by kernel_rfl⟩
theorem eq119 : EqTyOk Try.prog 119 [0, 0] := ⟨by kernel_rfl, by kernel_rfl, by kernel_rfl⟩
theorem eq141 : EqTyOk Try.prog 141 [0, 0, 0] := ⟨by kernel_rfl, by kernel_rfl, by kernel_rfl⟩
theorem eq142 : EqTyOk Try.prog 142 [0, 0, 0] := ⟨by kernel_rfl, by kernel_rfl, by kernel_rfl⟩
theorem eq165 : EqTyOk Try.prog 165 [0, 0] := ⟨by kernel_rfl, by kernel_rfl, by kernel_rfl⟩
theorem eq166 : EqTyOk Try.prog 166 [0, 0] := ⟨by kernel_rfl, by kernel_rfl, by kernel_rfl⟩
theorem eq179 : EqTyOk Try.prog 179 [2, 0, 0, 0] := ⟨by kernel_rfl, by kernel_rfl, by kernel_rfl⟩
theorem eq180 : EqTyOk Try.prog 180 [2, 0, 0, 0] := ⟨by kernel_rfl, by kernel_rfl, by kernel_rfl⟩
theorem eq188 : EqTyOk Try.prog 188 [0, 0] := ⟨by kernel_rfl, by kernel_rfl, by kernel_rfl⟩
theorem eq189 : EqTyOk Try.prog 189 [0, 0] := ⟨by kernel_rfl, by kernel_rfl, by kernel_rfl⟩
theorem eq192 : EqTyOk Try.prog 192 [0, 0, 1, 0, 0, 0, 0, 0, 0, 0, 0, 0, 0, 0] := ⟨by kernel_rfl, by kernel_rfl, by kernel_rfl⟩
theorem eq193 : EqTyOk Try.prog 193 [0, 0, 1, 0, 0, 0, 0, 0, 0, 0, 0, 0, 0, 0] := ⟨by kernel_rfl, by kernel_rfl, by kernel_rfl⟩
theorem eq194 : EqTyOk Try.prog 194 [0, 0, 0, 1, 0, 0, 0, 0, 0, 0, 0, 0, 0, 0, 0] := ⟨by kernel_rfl, by kernel_rfl, by kernel_rfl⟩
theorem eq195 : EqTyOk Try.prog 195 [0, 0, 0, 1, 0, 0, 0, 0, 0, 0, 0, 0, 0, 0, 0] := ⟨by kernel_rfl, by kernel_rfl, by kernel_rfl⟩
theorem eq196 : EqTyOk Try.prog 196 [0, 0, 0, 0, 0, 0, 0, 0, 0] := ⟨by kernel_rfl, by kernel_rfl, by kernel_rfl⟩
theorem eq197 : EqTyOk Try.prog 197 [0, 0, 0, 0, 0, 0, 0, 0, 0] := ⟨by kernel_rfl, by kernel_rfl, by kernel_rfl⟩
theorem eq201 : EqTyOk Try.prog 201 [0, 0, 0, 0] := ⟨by kernel_rfl, by kernel_rfl, by kernel_rfl⟩
def eqs : EqT := [(28, [0, 0, 0, 0, 1]), (29, [0, 0, 0, 0, 1]), (31, [0, 0, 0, 0]), (32, [0, 0, 0, 0]), (33, [0, 0, 0, 0, 0, 0]), (34, [0, 0, 0, 0, 0, 0]), (35, [0, 1, 1, 0, 0, 0, 0, 0, 0, 0, 0, 0]), (36, [0, 1, 1, 0, 0, 0, 0, 0, 0, 0, 0, 0]), (42, [0, 0, 0, 0, 1]), (44, [0, 0]), (45, [0, 0]), (61, [0, 0]), (62, [0, 0]), (63, [0, 0]), (73, [0, 0]), (74, [0, 0]), (84, [0, 0]), (85, [0, 0]), (86, [0, 0]), (87, [0, 0]), (88, [0, 0]), (89, [0, 0]), (95, [0, 0, 0, 0]), (96, [0, 0, 0, 0]), (102, [0, 0, 0]), (103, [0, 0, 0]), (106, [0, 1]), (107, [0, 1]), (118, [0, 0]), (119, [0, 0]), (141, [0, 0, 0]), (142, [0, 0, 0]), (165, [0, 0]), (166, [0, 0]), (179, [2, 0, 0, 0]), (180, [2, 0, 0, 0]), (188, [0, 0]), (189, [0, 0]), (192, [0, 0, 1, 0, 0, 0, 0, 0, 0, 0, 0, 0, 0, 0]), (193, [0, 0, 1, 0, 0, 0, 0, 0, 0, 0, 0, 0, 0, 0]), (194, [0, 0, 0, 1, 0, 0, 0, 0, 0, 0, 0, 0, 0, 0, 0]), (195, [0, 0, 0, 1, 0, 0, 0, 0, 0, 0, 0, 0, 0, 0, 0]), (196, [0, 0, 0, 0, 0, 0, 0, 0, 0]), (197, [0, 0, 0, 0, 0, 0, 0, 0, 0]), (201, [0, 0, 0, 0])]
theorem eqs_ok : EqOk Try.prog eqs := .cons eq28 <| .cons eq29 <| .cons eq31 <| .cons eq32 <| .cons eq33 <| .cons eq34 <| .cons eq35 <| .cons eq36 <| .cons eq42 <| .cons eq44 <| .cons eq45 <| .cons eq61 <| .cons eq62 <| .cons eq63 <| .cons eq73 <| .cons eq74 <| .cons eq84 <| .cons eq85 <| .cons eq86 <| .cons eq87 <| .cons eq88 <| .cons eq89 <| .cons eq95 <| .cons eq96 <| .cons eq102 <| .cons eq103 <| .cons eq106 <| .cons eq107 <| .cons eq118 <| .cons eq119 <| .cons eq141 <| .cons eq142 <| .cons eq165 <| .cons eq166 <| .cons eq179 <| .cons eq180 <| .cons eq188 <| .cons eq189 <| .cons eq192 <| .cons eq193 <| .cons eq194 <| .cons eq195 <| .cons eq196 <| .cons eq197 <| .cons eq201 <| .nil _
theorem E28 : eqty eqs 28 = some [0, 0, 0, 0, 1] := rfl
theorem E29 : eqty eqs 29 = some [0, 0, 0, 0, 1] := rfl
theorem E31 : eqty eqs 31 = some [0, 0, 0, 0] := rfl
theorem E32 : eqty eqs 32 = some [0, 0, 0, 0] := rfl
theorem E33 : eqty eqs 33 = some [0, 0, 0, 0, 0, 0] := rfl
theorem E34 : eqty eqs 34 = some [0, 0, 0, 0, 0, 0] := rfl
theorem E35 : eqty eqs 35 = some [0, 1, 1, 0, 0, 0, 0, 0, 0, 0, 0, 0] := rfl
theorem E36 : eqty eqs 36 = some [0, 1, 1, 0, 0, 0, 0, 0, 0, 0, 0, 0] := rfl
theorem E42 : eqty eqs 42 = some [0, 0, 0, 0, 1] := rfl
theorem E44 : eqty eqs 44 = some [0, 0] := rfl
theorem E45 : eqty eqs 45 = some [0, 0] := rfl
theorem E61 : eqty eqs 61 = some [0, 0] := rfl
theorem E62 : eqty eqs 62 = some [0, 0] := rfl
theorem E63 : eqty eqs 63 = some [0, 0] := rfl
theorem E73 : eqty eqs 73 = some [0, 0] := rfl
theorem E74 : eqty eqs 74 = some [0, 0] := rfl
theorem E84 : eqty eqs 84 = some [0, 0] := rfl
theorem E85 : eqty eqs 85 = some [0, 0] := rfl
theorem E86 : eqty eqs 86 = some [0, 0] := rfl
theorem E87 : eqty eqs 87 = some [0, 0] := rfl
theorem E88 : eqty eqs 88 = some [0, 0] := rfl
theorem E89 : eqty eqs 89 = some [0, 0] := rfl
theorem E95 : eqty eqs 95 = some [0, 0, 0, 0] := rfl
theorem E96 : eqty eqs 96 = some [0, 0, 0, 0] := rfl
theorem E102 : eqty eqs 102 = some [0, 0, 0] := rfl
theorem E103 : eqty eqs 103 = some [0, 0, 0] := rfl
theorem E106 : eqty eqs 106 = some [0, 1] := rfl
theorem E107 : eqty eqs 107 = some [0, 1] := rfl
theorem E118 : eqty eqs 118 = some [0, 0] := rfl
theorem E119 : eqty eqs 119 = some [0, 0] := rfl
theorem E141 : eqty eqs 141 = some [0, 0, 0] := rfl
theorem E142 : eqty eqs 142 = some [0, 0, 0] := rfl
theorem E165 : eqty eqs 165 = some [0, 0] := rfl
theorem E166 : eqty eqs 166 = some [0, 0] := rfl
theorem E179 : eqty eqs 179 = some [2, 0, 0, 0] := rfl
theorem E180 : eqty eqs 180 = some [2, 0, 0, 0] := rfl
theorem E188 : eqty eqs 188 = some [0, 0] := rfl
theorem E189 : eqty eqs 189 = some [0, 0] := rfl
theorem E192 : eqty eqs 192 = some [0, 0, 1, 0, 0, 0, 0, 0, 0, 0, 0, 0, 0, 0] := rfl
theorem E193 : eqty eqs 193 = some [0, 0, 1, 0, 0, 0, 0, 0, 0, 0, 0, 0, 0, 0] := rfl
theorem E194 : eqty eqs 194 = some [0, 0, 0, 1, 0, 0, 0, 0, 0, 0, 0, 0, 0, 0, 0] := rfl
theorem E195 : eqty eqs 195 = some [0, 0, 0, 1, 0, 0, 0, 0, 0, 0, 0, 0, 0, 0, 0] := rfl
theorem E196 : eqty eqs 196 = some [0, 0, 0, 0, 0, 0, 0, 0, 0] := rfl
theorem E197 : eqty eqs 197 = some [0, 0, 0, 0, 0, 0, 0, 0, 0] := rfl
theorem E201 : eqty eqs 201 = some [0, 0, 0, 0] := rfl
def cx : Cx := ⟨lay, eqs⟩
theorem cx_ok : CxOk Try.prog cx := ⟨lay_ok, eqs_ok⟩
/-- floodgate/floodgatelaw31.SpansApart -/
theorem fn3 : FnOk Try.prog 3 := fun args w => Try.call3 args w
/-- floodgate/floodgatelaw31.SpansOf -/
theorem fn4 : FnOk Try.prog 4 := fun args w => Try.call4 args w
/-- floodgate/floodgatelaw41.SweepTells -/
theorem fn5 : FnOk Try.prog 5 := fun args w => Try.call5 args w
/-- floodgate/floodgatelaw41.SweepOnce -/
theorem fn6 : FnOk Try.prog 6 := fun args w => Try.call6 args w
/-- floodgate/floodgatelaw35.BusyTells -/
theorem fn7 : FnOk Try.prog 7 := fun args w => Try.call7 args w
/-- floodgate/floodgatelaw36.AuditChecks -/
theorem fn8 : FnOk Try.prog 8 := fun args w => Try.call8 args w
/-- floodgate/floodgatelaw36.AuditWaits -/
theorem fn9 : FnOk Try.prog 9 := fun args w => Try.call9 args w
/-- floodgate/floodgatelaw36.AuditEnough -/
theorem fn10 : FnOk Try.prog 10 := fun args w => Try.call10 args w
/-- floodgate/floodgatelaw33.FairTells -/
theorem fn11 : FnOk Try.prog 11 := fun args w => Try.call11 args w
/-- floodgate/floodgatelaw34.LimitTells -/
theorem fn12 : FnOk Try.prog 12 := fun args w => Try.call12 args w
/-- floodgate/floodgatelaw29.ScriptDecodes -/
theorem fn13 : FnOk Try.prog 13 := fun args w => Try.call13 args w
/-- floodgate/floodgatelaw48.ConformBursts -/
theorem fn14 : FnOk Try.prog 14 := fun args w => Try.call14 args w
/-- floodgate/floodgatelaw31.two -/
theorem fn15 : FnOk Try.prog 15 := fun args w => Try.call15 args w
/-- floodgate/spans.Of -/
theorem fn16 : FnOk Try.prog 16 := fun args w => Try.call16 args w
/-- floodgate/spans.Backlogged -/
theorem fn17 : FnOk Try.prog 17 := fun args w => Try.call17 args w
/-- floodgate/floodgateref31.Of -/
theorem fn18 : FnOk Try.prog 18 := fun args w => Try.call18 args w
/-- floodgate/spans.Since -/
theorem fn19 : FnOk Try.prog 19 := fun args w => Try.call19 args w
/-- floodgate/floodgateref31.Lengths -/
theorem fn20 : FnOk Try.prog 20 := fun args w => Try.call20 args w
/-- floodgate/floodgateref28.Few -/
theorem fn21 : FnOk Try.prog 21 := fun args w => Try.call21 args w
/-- floodgate/floodgatelaw41.five -/
theorem fn22 : FnOk Try.prog 22 := fun args w => Try.call22 args w
/-- floodgate/floodgateref29.Alike -/
theorem fn23 : FnOk Try.prog 23 := fun args w => Try.call23 args w
/-- floodgate/sweep.Sweep -/
theorem fn24 : FnOk Try.prog 24 := fun args w => Try.call24 args w
/-- floodgate/floodgateref41.Sweep -/
theorem fn25 : FnOk Try.prog 25 := fun args w => Try.call25 args w
/-- floodgate/floodgateplain.Ints -/
theorem fn26 : FnOk Try.prog 26 := fun args w => Try.call26 args w
/-- floodgate/sweep.Places -/
theorem fn27 : FnOk Try.prog 27 := fun args w => Try.call27 args w
/-- floodgate/floodgateref41.Places -/
theorem fn28 : FnOk Try.prog 28 := fun args w => Try.call28 args w
/-- floodgate/sweep.Ticks -/
theorem fn29 : FnOk Try.prog 29 := fun args w => Try.call29 args w
/-- floodgate/floodgateref41.Clock -/
theorem fn30 : FnOk Try.prog 30 := fun args w => Try.call30 args w
/-- floodgate/floodgatelaw35.three -/
theorem fn31 : FnOk Try.prog 31 := fun args w => Try.call31 args w
/-- floodgate/busy.Stretches -/
theorem fn32 : FnOk Try.prog 32 := fun args w => Try.call32 args w
/-- floodgate/floodgateref35.Stretches -/
theorem fn33 : FnOk Try.prog 33 := fun args w => Try.call33 args w
/-- floodgate/busy.Sending -/
theorem fn34 : FnOk Try.prog 34 := fun args w => Try.call34 args w
/-- floodgate/busy.Work -/
theorem fn35 : FnOk Try.prog 35 := fun args w => Try.call35 args w
/-- floodgate/floodgateref35.Work -/
theorem fn36 : FnOk Try.prog 36 := fun args w => Try.call36 args w
/-- floodgate/busy.Until -/
theorem fn37 : FnOk Try.prog 37 := fun args w => Try.call37 args w
/-- floodgate/floodgateref35.Until -/
theorem fn38 : FnOk Try.prog 38 := fun args w => Try.call38 args w
/-- floodgate/busy.Late -/
theorem fn39 : FnOk Try.prog 39 := fun args w => Try.call39 args w
/-- floodgate/floodgateref35.Late -/
theorem fn40 : FnOk Try.prog 40 := fun args w => Try.call40 args w
/-- floodgate/floodgatelaw36.late -/
theorem fn41 : FnOk Try.prog 41 := fun args w => Try.call41 args w
/-- floodgate/audit.Check -/
theorem fn42 : FnOk Try.prog 42 := fun args w => Try.call42 args w
/-- floodgate/floodgateref24.May -/
theorem fn43 : FnOk Try.prog 43 := fun args w => Try.call43 args w
/-- floodgate/floodgateref36.Wrong -/
theorem fn44 : FnOk Try.prog 44 := fun args w => Try.call44 args w
/-- floodgate/floodgateref11.Same -/
theorem fn45 : FnOk Try.prog 45 := fun args w => Try.call45 args w
/-- floodgate/audit.Waiting -/
theorem fn46 : FnOk Try.prog 46 := fun args w => Try.call46 args w
/-- floodgate/floodgateref36.Waiting -/
theorem fn47 : FnOk Try.prog 47 := fun args w => Try.call47 args w
/-- floodgate/floodgateref36.Of -/
theorem fn48 : FnOk Try.prog 48 := fun args w => Try.call48 args w
/-- floodgate/fair.Apart -/
theorem fn49 : FnOk Try.prog 49 := fun args w => Try.call49 args w
/-- floodgate/fair.Most -/
theorem fn50 : FnOk Try.prog 50 := fun args w => Try.call50 args w
/-- floodgate/fair.Fair -/
theorem fn51 : FnOk Try.prog 51 := fun args w => Try.call51 args w
/-- floodgate/floodgateref33.Slope -/
theorem fn52 : FnOk Try.prog 52 := fun args w => Try.call52 args w
/-- floodgate/floodgatelaw33.ref -/
theorem fn53 : FnOk Try.prog 53 := fun args w => Try.call53 args w
/-- floodgate/floodgateref33.Apart -/
theorem fn54 : FnOk Try.prog 54 := fun args w => Try.call54 args w
/-- floodgate/floodgateref33.Most -/
theorem fn55 : FnOk Try.prog 55 := fun args w => Try.call55 args w
/-- floodgate/floodgateref01.Less -/
theorem fn56 : FnOk Try.prog 56 := fun args w => Try.call56 args w
/-- floodgate/floodgatelaw33.two -/
theorem fn57 : FnOk Try.prog 57 := fun args w => Try.call57 args w
/-- floodgate/floodgatelaw34.half -/
theorem fn58 : FnOk Try.prog 58 := fun args w => Try.call58 args w
/-- floodgate/floodgateref34.Broken -/
theorem fn59 : FnOk Try.prog 59 := fun args w => Try.call59 args w
/-- floodgate/limit.Broken -/
theorem fn60 : FnOk Try.prog 60 := fun args w => Try.call60 args w
/-- floodgate/limit.Kept -/
theorem fn61 : FnOk Try.prog 61 := fun args w => Try.call61 args w
/-- floodgate/floodgatelaw29.five -/
theorem fn62 : FnOk Try.prog 62 := fun args w => Try.call62 args w
/-- floodgate/script.Decode -/
theorem fn63 : FnOk Try.prog 63 := fun args w => Try.call63 args w
/-- floodgate/floodgateref29.Decode -/
theorem fn64 : FnOk Try.prog 64 := fun args w => Try.call64 args w
/-- floodgate/floodgatelaw48.three -/
theorem fn65 : FnOk Try.prog 65 := fun args w => Try.call65 args w
/-- floodgate/conform.Burst -/
theorem fn66 : FnOk Try.prog 66 := fun args w => Try.call66 args w
/-- floodgate/conform.Conforms -/
theorem fn67 : FnOk Try.prog 67 := fun args w => Try.call67 args w
/-- floodgate/floodgateref48.Of -/
theorem fn68 : FnOk Try.prog 68 := fun args w => Try.call68 args w
/-- floodgate/floodgateref48.Wrong -/
theorem fn69 : FnOk Try.prog 69 := fun args w => Try.call69 args w
/-- floodgate/floodgateref48.Burst -/
theorem fn70 : FnOk Try.prog 70 := fun args w => Try.call70 args w
/-- floodgate/floodgatelaw31.two$1 -/
theorem fn71 : FnOk Try.prog 71 := fun args w => Try.call71 args w
/-- floodgate/floodgatelaw31.two$2 -/
theorem fn72 : FnOk Try.prog 72 := fun args w => Try.call72 args w
/-- floodgate/spans.length -/
theorem fn73 : FnOk Try.prog 73 := fun args w => Try.call73 args w
/-- floodgate/floodgateref31.has -/
theorem fn74 : FnOk Try.prog 74 := fun args w => Try.call74 args w
/-- floodgate/floodgateref29.Same -/
theorem fn75 : FnOk Try.prog 75 := fun args w => Try.call75 args w
/-- floodgate/sweep.swept -/
theorem fn76 : FnOk Try.prog 76 := fun args w => Try.call76 args w
/-- floodgate/floodgateref29.Plain -/
theorem fn77 : FnOk Try.prog 77 := fun args w => Try.call77 args w
/-- floodgate/floodgateref41.Kept -/
theorem fn78 : FnOk Try.prog 78 := fun args w => Try.call78 args w
/-- floodgate/floodgateref41.joined -/
theorem fn79 : FnOk Try.prog 79 := fun args w => Try.call79 args w
/-- floodgate/busy.all -/
theorem fn80 : FnOk Try.prog 80 := fun args w => Try.call80 args w
/-- slices.IndexFunc[[]floodgate/api.Event,floodgate/api.Event] -/
theorem fn81 : FnOk Try.prog 81 := fun args w => Try.call81 args w
/-- (*floodgate/busy.known).learn -/
theorem fn82 : FnOk Try.prog 82 := fun args w => Try.call82 args w
/-- floodgate/audit.newAuditor -/
theorem fn83 : FnOk Try.prog 83 := fun args w => Try.call83 args w
/-- (*floodgate/audit.auditor).take -/
theorem fn84 : FnOk Try.prog 84 := fun args w => Try.call84 args w
/-- floodgate/floodgateref36.done -/
theorem fn85 : FnOk Try.prog 85 := fun args w => Try.call85 args w
/-- floodgate/floodgateref25.Ticks -/
theorem fn86 : FnOk Try.prog 86 := fun args w => Try.call86 args w
/-- floodgate/fair.may -/
theorem fn87 : FnOk Try.prog 87 := fun args w => Try.call87 args w
/-- floodgate/wide.Mul -/
theorem fn88 : FnOk Try.prog 88 := fun args w => Try.call88 args w
/-- floodgate/wide.Compare -/
theorem fn89 : FnOk Try.prog 89 := fun args w => Try.call89 args w
/-- floodgate/wide.Sub -/
theorem fn90 : FnOk Try.prog 90 := fun args w => Try.call90 args w
/-- floodgate/fair.slope -/
theorem fn91 : FnOk Try.prog 91 := fun args w => Try.call91 args w
/-- floodgate/ratio.Up -/
theorem fn92 : FnOk Try.prog 92 := fun args w => Try.call92 args w
/-- floodgate/floodgateref01.Two -/
theorem fn93 : FnOk Try.prog 93 := fun args w => Try.call93 args w
/-- floodgate/floodgateref33.times -/
theorem fn94 : FnOk Try.prog 94 := fun args w => Try.call94 args w
/-- floodgate/floodgateref01.Mul -/
theorem fn95 : FnOk Try.prog 95 := fun args w => Try.call95 args w
/-- floodgate/floodgateref01.Minus -/
theorem fn96 : FnOk Try.prog 96 := fun args w => Try.call96 args w
/-- floodgate/floodgateref02.Ceil -/
theorem fn97 : FnOk Try.prog 97 := fun args w => Try.call97 args w
/-- floodgate/wide.Of -/
theorem fn98 : FnOk Try.prog 98 := fun args w => Try.call98 args w
/-- floodgate/floodgateref34.has -/
theorem fn99 : FnOk Try.prog 99 := fun args w => Try.call99 args w
/-- floodgate/floodgateref34.Picked -/
theorem fn100 : FnOk Try.prog 100 := fun args w => Try.call100 args w
/-- floodgate/floodgateref22.Most -/
theorem fn101 : FnOk Try.prog 101 := fun args w => Try.call101 args w
/-- slices.Contains[[]int,int] -/
theorem fn102 : FnOk Try.prog 102 := fun args w => Try.call102 args w
/-- floodgate/upper.Most -/
theorem fn103 : FnOk Try.prog 103 := fun args w => Try.call103 args w
/-- floodgate/script.Encode -/
theorem fn104 : FnOk Try.prog 104 := fun args w => Try.call104 args w
/-- floodgate/script.Decode$1 -/
theorem fn105 : FnOk Try.prog 105 := fun args w => Try.call105 args w
/-- (*floodgate/script.coder).script -/
theorem fn106 : FnOk Try.prog 106 := fun args w => Try.call106 args w
/-- (floodgate/floodgateref29.In).next -/
theorem fn107 : FnOk Try.prog 107 := fun args w => Try.call107 args w
/-- (floodgate/floodgateref29.In).op -/
theorem fn108 : FnOk Try.prog 108 := fun args w => Try.call108 args w
/-- floodgate/conform.Bound -/
theorem fn109 : FnOk Try.prog 109 := fun args w => Try.call109 args w
/-- floodgate/conform.each -/
theorem fn110 : FnOk Try.prog 110 := fun args w => Try.call110 args w
/-- floodgate/conform.Burst$1 -/
theorem fn111 : FnOk Try.prog 111 := fun args w => Try.call111 args w
/-- floodgate/wide.Add -/
theorem fn112 : FnOk Try.prog 112 := fun args w => Try.call112 args w
/-- floodgate/ratio.Ceil -/
theorem fn113 : FnOk Try.prog 113 := fun args w => Try.call113 args w
/-- floodgate/floodgateref48.More -/
theorem fn114 : FnOk Try.prog 114 := fun args w => Try.call114 args w
/-- floodgate/floodgateref20.Units -/
theorem fn115 : FnOk Try.prog 115 := fun args w => Try.call115 args w
/-- floodgate/script.Plain -/
theorem fn116 : FnOk Try.prog 116 := fun args w => Try.call116 args w
/-- floodgate/audit.newAuditor$1 -/
theorem fn117 : FnOk Try.prog 117 := fun args w => Try.call117 args w
/-- floodgate/audit.newAuditor$1$1 -/
theorem fn118 : FnOk Try.prog 118 := fun args w => Try.call118 args w
/-- floodgate/audit.newAuditor$2 -/
theorem fn119 : FnOk Try.prog 119 := fun args w => Try.call119 args w
/-- floodgate/audit.newAuditor$3 -/
theorem fn120 : FnOk Try.prog 120 := fun args w => Try.call120 args w
/-- floodgate/audit.newAuditor$4 -/
theorem fn121 : FnOk Try.prog 121 := fun args w => Try.call121 args w
/-- floodgate/packet.May -/
theorem fn122 : FnOk Try.prog 122 := fun args w => Try.call122 args w
/-- floodgate/audit.newAuditor$5 -/
theorem fn123 : FnOk Try.prog 123 := fun args w => Try.call123 args w
/-- floodgate/audit.newAuditor$6 -/
theorem fn124 : FnOk Try.prog 124 := fun args w => Try.call124 args w
/-- floodgate/audit.newAuditor$7 -/
theorem fn125 : FnOk Try.prog 125 := fun args w => Try.call125 args w
/-- floodgate/audit.newAuditor$8 -/
theorem fn126 : FnOk Try.prog 126 := fun args w => Try.call126 args w
/-- (*floodgate/audit.auditor).late -/
theorem fn127 : FnOk Try.prog 127 := fun args w => Try.call127 args w
/-- floodgate/wide.sub -/
theorem fn128 : FnOk Try.prog 128 := fun args w => Try.call128 args w
/-- floodgate/floodgateref01.Lo -/
theorem fn129 : FnOk Try.prog 129 := fun args w => Try.call129 args w
/-- floodgate/floodgateref01.Hi -/
theorem fn130 : FnOk Try.prog 130 := fun args w => Try.call130 args w
/-- floodgate/floodgateref01.Plus -/
theorem fn131 : FnOk Try.prog 131 := fun args w => Try.call131 args w
/-- floodgate/floodgateref01.Of -/
theorem fn132 : FnOk Try.prog 132 := fun args w => Try.call132 args w
/-- floodgate/floodgateref01.Quotient -/
theorem fn133 : FnOk Try.prog 133 := fun args w => Try.call133 args w
/-- floodgate/floodgateref02.Floor -/
theorem fn134 : FnOk Try.prog 134 := fun args w => Try.call134 args w
/-- floodgate/floodgateref04.Service -/
theorem fn135 : FnOk Try.prog 135 := fun args w => Try.call135 args w
/-- slices.Index[[]int,int] -/
theorem fn136 : FnOk Try.prog 136 := fun args w => Try.call136 args w
/-- floodgate/ratio.Floor -/
theorem fn137 : FnOk Try.prog 137 := fun args w => Try.call137 args w
/-- floodgate/curve.Service -/
theorem fn138 : FnOk Try.prog 138 := fun args w => Try.call138 args w
/-- floodgate/script.Encode$1 -/
theorem fn139 : FnOk Try.prog 139 := fun args w => Try.call139 args w
/-- (*floodgate/script.coder).num -/
theorem fn140 : FnOk Try.prog 140 := fun args w => Try.call140 args w
/-- (*floodgate/script.coder).op -/
theorem fn141 : FnOk Try.prog 141 := fun args w => Try.call141 args w
/-- (floodgate/floodgateref29.In).changes -/
theorem fn142 : FnOk Try.prog 142 := fun args w => Try.call142 args w
/-- (floodgate/floodgateref29.In).rules -/
theorem fn143 : FnOk Try.prog 143 := fun args w => Try.call143 args w
/-- (floodgate/floodgateref29.In).head -/
theorem fn144 : FnOk Try.prog 144 := fun args w => Try.call144 args w
/-- floodgate/curve.Right -/
theorem fn145 : FnOk Try.prog 145 := fun args w => Try.call145 args w
/-- floodgate/curve.Of -/
theorem fn146 : FnOk Try.prog 146 := fun args w => Try.call146 args w
/-- floodgate/wide.add -/
theorem fn147 : FnOk Try.prog 147 := fun args w => Try.call147 args w
/-- floodgate/wide.Div -/
theorem fn148 : FnOk Try.prog 148 := fun args w => Try.call148 args w
/-- floodgate/ratio.narrow -/
theorem fn149 : FnOk Try.prog 149 := fun args w => Try.call149 args w
/-- floodgate/packet.fits -/
theorem fn150 : FnOk Try.prog 150 := fun args w => Try.call150 args w
/-- floodgate/packet.Ticks -/
theorem fn151 : FnOk Try.prog 151 := fun args w => Try.call151 args w
/-- floodgate/floodgateref01.Add -/
theorem fn152 : FnOk Try.prog 152 := fun args w => Try.call152 args w
/-- floodgate/floodgateref01.twice -/
theorem fn153 : FnOk Try.prog 153 := fun args w => Try.call153 args w
/-- floodgate/floodgateref01.bit -/
theorem fn154 : FnOk Try.prog 154 := fun args w => Try.call154 args w
/-- floodgate/floodgateref04.Of -/
theorem fn155 : FnOk Try.prog 155 := fun args w => Try.call155 args w
/-- floodgate/script.list[floodgate/api.Change] -/
theorem fn156 : FnOk Try.prog 156 := fun args w => Try.call156 args w
/-- (*floodgate/script.coder).op$1 -/
theorem fn157 : FnOk Try.prog 157 := fun args w => Try.call157 args w
/-- (*floodgate/script.coder).class -/
theorem fn158 : FnOk Try.prog 158 := fun args w => Try.call158 args w
/-- floodgate/script.list[floodgate/api.Rule] -/
theorem fn159 : FnOk Try.prog 159 := fun args w => Try.call159 args w
/-- (*floodgate/script.coder).rule -/
theorem fn160 : FnOk Try.prog 160 := fun args w => Try.call160 args w
/-- (*floodgate/script.coder).packet -/
theorem fn161 : FnOk Try.prog 161 := fun args w => Try.call161 args w
/-- (*floodgate/script.coder).word -/
theorem fn162 : FnOk Try.prog 162 := fun args w => Try.call162 args w
/-- (floodgate/floodgateref29.In).change -/
theorem fn163 : FnOk Try.prog 163 := fun args w => Try.call163 args w
/-- (*floodgate/script.coder).curve -/
theorem fn164 : FnOk Try.prog 164 := fun args w => Try.call164 args w
/-- (*floodgate/script.coder).header -/
theorem fn165 : FnOk Try.prog 165 := fun args w => Try.call165 args w
/-- floodgate/script.bits -/
theorem fn166 : FnOk Try.prog 166 := fun args w => Try.call166 args w
/-- (floodgate/floodgateref29.In).curve -/
theorem fn167 : FnOk Try.prog 167 := fun args w => Try.call167 args w
attribute [go_sem] cx L1 L2 L3 L4 L5 L9 L12 L17 L20 L21 L22 L23 L24 L25 L26 L27 L28 L29 L30 L31 L32 L33 L34 L35 L36 L37 L38 L39 L40 L41 L42 L43 L44 L45 L46 L47 L48 L49 L50 L51 L52 L53 L54 L55 L56 L57 L58 L59 L60 L61 L62 L63 L64 L65 L66 L67 L69 L70 L71 L72 L73 L74 L75 L76 L77 L78 L79 L80 L81 L82 L83 L84 L85 L86 L87 L88 L89 L91 L92 L93 L94 L95 L96 L97 L98 L99 L100 L101 L102 L103 L104 L105 L106 L107 L108 L109 L110 L111 L113 L114 L115 L116 L117 L118 L119 L121 L122 L123 L124 L125 L126 L127 L128 L129 L130 L131 L132 L133 L134 L135 L136 L138 L139 L140 L141 L142 L143 L144 L145 L146 L147 L148 L149 L150 L151 L152 L153 L154 L155 L156 L157 L158 L160 L161 L162 L163 L164 L165 L166 L167 L168 L169 L170 L172 L173 L174 L175 L176 L177 L178 L179 L180 L181 L183 L184 L185 L186 L187 L188 L189 L190 L191 L192 L193 L194 L195 L196 L197 L198 L199 L200 L201 L203 L204 L206 L207 L208 L209 L210 L212 L214 L216 L217 L218 L219 L221 L222 L223 L224 L225 L226 L227 L228 L229 L230 L231 L232 L233 L234 L236 L237 L238 L239 L241 L242 L248 L249 L252 L253 L256 E28 E29 E31 E32 E33 E34 E35 E36 E42 E44 E45 E61 E62 E63 E73 E74 E84 E85 E86 E87 E88 E89 E95 E96 E102 E103 E106 E107 E118 E119 E141 E142 E165 E166 E179 E180 E188 E189 E192 E193 E194 E195 E196 E197 E201
end Go.Fg.X
