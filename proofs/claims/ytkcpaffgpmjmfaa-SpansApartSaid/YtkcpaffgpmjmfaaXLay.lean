/- Facts on the program that a dump holds: the layout of its types, which structs are held against one another cell by cell, and how each function is entered. Written by a program (lay.py). No conditions. -/
import Derived.Test.YtkcpaffgpmjmfaaFgSimp
import Derived.Test.YtkcpaffgpmjmfaaProg
import Derived.KernelRfl
namespace Go.Fg.X
open Go.Proofs Go.Fg

theorem ty1 : TyOk Try.prog 1 ⟨.fn, 1, 8, [.nilFunc]⟩ := ⟨by kernel_rfl, by kernel_rfl⟩
theorem ty2 : TyOk Try.prog 2 ⟨.int .i64, 1, 8, [.int .i64 0]⟩ := ⟨by kernel_rfl, by kernel_rfl⟩
theorem ty3 : TyOk Try.prog 3 ⟨.int .i64, 1, 8, [.int .i64 0]⟩ := ⟨by kernel_rfl, by kernel_rfl⟩
theorem ty4 : TyOk Try.prog 4 ⟨.bool, 1, 1, [.bool false]⟩ := ⟨by kernel_rfl, by kernel_rfl⟩
theorem ty5 : TyOk Try.prog 5 ⟨.int .u8, 1, 1, [.int .u8 0]⟩ := ⟨by kernel_rfl, by kernel_rfl⟩
theorem ty9 : TyOk Try.prog 9 ⟨.str, 1, 16, [.string ByteArray.empty]⟩ := ⟨by kernel_rfl, by kernel_rfl⟩
theorem ty12 : TyOk Try.prog 12 ⟨.int .u64, 1, 8, [.int .u64 0]⟩ := ⟨by kernel_rfl, by kernel_rfl⟩
theorem ty17 : TyOk Try.prog 17 ⟨.ptr 64, 1, 8, [.pointer none]⟩ := ⟨by kernel_rfl, by kernel_rfl⟩
theorem ty20 : TyOk Try.prog 20 ⟨.iface, 1, 16, [.nilIface]⟩ := ⟨by kernel_rfl, by kernel_rfl⟩
theorem ty21 : TyOk Try.prog 21 ⟨.int .i32, 1, 4, [.int .i32 0]⟩ := ⟨by kernel_rfl, by kernel_rfl⟩
theorem ty22 : TyOk Try.prog 22 ⟨.slice 36, 1, 24, [.slice none 0 0]⟩ := ⟨by kernel_rfl, by kernel_rfl⟩
theorem ty23 : TyOk Try.prog 23 ⟨.slice 3, 1, 24, [.slice none 0 0]⟩ := ⟨by kernel_rfl, by kernel_rfl⟩
theorem ty24 : TyOk Try.prog 24 ⟨.fn, 1, 8, [.nilFunc]⟩ := ⟨by kernel_rfl, by kernel_rfl⟩
theorem ty25 : TyOk Try.prog 25 ⟨.slice 29, 1, 24, [.slice none 0 0]⟩ := ⟨by kernel_rfl, by kernel_rfl⟩
theorem ty26 : TyOk Try.prog 26 ⟨.fn, 1, 8, [.nilFunc]⟩ := ⟨by kernel_rfl, by kernel_rfl⟩
theorem ty27 : TyOk Try.prog 27 ⟨.int .u64, 1, 8, [.int .u64 0]⟩ := ⟨by kernel_rfl, by kernel_rfl⟩
theorem ty28 : TyOk Try.prog 28 ⟨.struct [(0, 27), (1, 27), (2, 3), (3, 3), (4, 4)], 5, 40, [.int .u64 0, .int .u64 0, .int .i64 0, .int .i64 0, .bool false]⟩ := ⟨by kernel_rfl, by kernel_rfl⟩
theorem ty29 : TyOk Try.prog 29 ⟨.struct [(0, 27), (1, 27), (2, 3), (3, 3), (4, 4)], 5, 40, [.int .u64 0, .int .u64 0, .int .i64 0, .int .i64 0, .bool false]⟩ := ⟨by kernel_rfl, by kernel_rfl⟩
theorem ty30 : TyOk Try.prog 30 ⟨.int .u16, 1, 2, [.int .u16 0]⟩ := ⟨by kernel_rfl, by kernel_rfl⟩
theorem ty31 : TyOk Try.prog 31 ⟨.array 4 30, 4, 8, [.int .u16 0, .int .u16 0, .int .u16 0, .int .u16 0]⟩ := ⟨by kernel_rfl, by kernel_rfl⟩
theorem ty32 : TyOk Try.prog 32 ⟨.array 4 30, 4, 8, [.int .u16 0, .int .u16 0, .int .u16 0, .int .u16 0]⟩ := ⟨by kernel_rfl, by kernel_rfl⟩
theorem ty33 : TyOk Try.prog 33 ⟨.struct [(0, 27), (1, 3), (2, 32)], 6, 24, [.int .u64 0, .int .i64 0, .int .u16 0, .int .u16 0, .int .u16 0, .int .u16 0]⟩ := ⟨by kernel_rfl, by kernel_rfl⟩
theorem ty34 : TyOk Try.prog 34 ⟨.struct [(0, 27), (1, 3), (2, 32)], 6, 24, [.int .u64 0, .int .i64 0, .int .u16 0, .int .u16 0, .int .u16 0, .int .u16 0]⟩ := ⟨by kernel_rfl, by kernel_rfl⟩
theorem ty35 : TyOk Try.prog 35 ⟨.struct [(0, 3), (1, 4), (2, 4), (3, 27), (4, 27), (5, 3), (6, 34)], 12, 64, [.int .i64 0, .bool false, .bool false, .int .u64 0, .int .u64 0, .int .i64 0, .int .u64 0, .int .i64 0, .int .u16 0, .int .u16 0, .int .u16 0, .int .u16 0]⟩ := ⟨by kernel_rfl, by kernel_rfl⟩
theorem ty36 : TyOk Try.prog 36 ⟨.struct [(0, 3), (1, 4), (2, 4), (3, 27), (4, 27), (5, 3), (6, 34)], 12, 64, [.int .i64 0, .bool false, .bool false, .int .u64 0, .int .u64 0, .int .i64 0, .int .u64 0, .int .i64 0, .int .u16 0, .int .u16 0, .int .u16 0, .int .u16 0]⟩ := ⟨by kernel_rfl, by kernel_rfl⟩
theorem ty37 : TyOk Try.prog 37 ⟨.fn, 1, 8, [.nilFunc]⟩ := ⟨by kernel_rfl, by kernel_rfl⟩
theorem ty38 : TyOk Try.prog 38 ⟨.slice 42, 1, 24, [.slice none 0 0]⟩ := ⟨by kernel_rfl, by kernel_rfl⟩
theorem ty39 : TyOk Try.prog 39 ⟨.fn, 1, 8, [.nilFunc]⟩ := ⟨by kernel_rfl, by kernel_rfl⟩
theorem ty40 : TyOk Try.prog 40 ⟨.slice 27, 1, 24, [.slice none 0 0]⟩ := ⟨by kernel_rfl, by kernel_rfl⟩
theorem ty41 : TyOk Try.prog 41 ⟨.fn, 1, 8, [.nilFunc]⟩ := ⟨by kernel_rfl, by kernel_rfl⟩
theorem ty42 : TyOk Try.prog 42 ⟨.struct [(0, 27), (1, 27), (2, 3), (3, 3), (4, 4)], 5, 40, [.int .u64 0, .int .u64 0, .int .i64 0, .int .i64 0, .bool false]⟩ := ⟨by kernel_rfl, by kernel_rfl⟩
theorem ty43 : TyOk Try.prog 43 ⟨.fn, 1, 8, [.nilFunc]⟩ := ⟨by kernel_rfl, by kernel_rfl⟩
theorem ty44 : TyOk Try.prog 44 ⟨.fn, 1, 8, [.nilFunc]⟩ := ⟨by kernel_rfl, by kernel_rfl⟩
theorem ty45 : TyOk Try.prog 45 ⟨.fn, 1, 8, [.nilFunc]⟩ := ⟨by kernel_rfl, by kernel_rfl⟩
theorem ty46 : TyOk Try.prog 46 ⟨.ptr 29, 1, 8, [.pointer none]⟩ := ⟨by kernel_rfl, by kernel_rfl⟩
theorem ty47 : TyOk Try.prog 47 ⟨.fn, 1, 8, [.nilFunc]⟩ := ⟨by kernel_rfl, by kernel_rfl⟩
theorem ty48 : TyOk Try.prog 48 ⟨.fn, 1, 8, [.nilFunc]⟩ := ⟨by kernel_rfl, by kernel_rfl⟩
theorem ty49 : TyOk Try.prog 49 ⟨.fn, 1, 8, [.nilFunc]⟩ := ⟨by kernel_rfl, by kernel_rfl⟩
theorem ty55 : TyOk Try.prog 55 ⟨.fn, 1, 8, [.nilFunc]⟩ := ⟨by kernel_rfl, by kernel_rfl⟩
theorem ty56 : TyOk Try.prog 56 ⟨.int .u32, 1, 4, [.int .u32 0]⟩ := ⟨by kernel_rfl, by kernel_rfl⟩
theorem ty59 : TyOk Try.prog 59 ⟨.fn, 1, 8, [.nilFunc]⟩ := ⟨by kernel_rfl, by kernel_rfl⟩
theorem ty60 : TyOk Try.prog 60 ⟨.ptr 5, 1, 8, [.pointer none]⟩ := ⟨by kernel_rfl, by kernel_rfl⟩
theorem ty63 : TyOk Try.prog 63 ⟨.struct [(0, 12), (1, 12), (2, 56), (3, 57), (4, 5), (5, 5), (6, 58), (7, 59), (8, 60), (9, 61), (10, 62)], 11, 48, [.int .u64 0, .int .u64 0, .int .u32 0, .int .u8 0, .int .u8 0, .int .u8 0, .int .u8 0, .nilFunc, .pointer none, .int .i32 0, .int .i32 0]⟩ := ⟨by kernel_rfl, by kernel_rfl⟩
def lay : Lay := [(1, ⟨.fn, 1, 8, [.nilFunc]⟩),
  (2, ⟨.int .i64, 1, 8, [.int .i64 0]⟩),
  (3, ⟨.int .i64, 1, 8, [.int .i64 0]⟩),
  (4, ⟨.bool, 1, 1, [.bool false]⟩),
  (5, ⟨.int .u8, 1, 1, [.int .u8 0]⟩),
  (9, ⟨.str, 1, 16, [.string ByteArray.empty]⟩),
  (12, ⟨.int .u64, 1, 8, [.int .u64 0]⟩),
  (17, ⟨.ptr 64, 1, 8, [.pointer none]⟩),
  (20, ⟨.iface, 1, 16, [.nilIface]⟩),
  (21, ⟨.int .i32, 1, 4, [.int .i32 0]⟩),
  (22, ⟨.slice 36, 1, 24, [.slice none 0 0]⟩),
  (23, ⟨.slice 3, 1, 24, [.slice none 0 0]⟩),
  (24, ⟨.fn, 1, 8, [.nilFunc]⟩),
  (25, ⟨.slice 29, 1, 24, [.slice none 0 0]⟩),
  (26, ⟨.fn, 1, 8, [.nilFunc]⟩),
  (27, ⟨.int .u64, 1, 8, [.int .u64 0]⟩),
  (28, ⟨.struct [(0, 27), (1, 27), (2, 3), (3, 3), (4, 4)], 5, 40, [.int .u64 0, .int .u64 0, .int .i64 0, .int .i64 0, .bool false]⟩),
  (29, ⟨.struct [(0, 27), (1, 27), (2, 3), (3, 3), (4, 4)], 5, 40, [.int .u64 0, .int .u64 0, .int .i64 0, .int .i64 0, .bool false]⟩),
  (30, ⟨.int .u16, 1, 2, [.int .u16 0]⟩),
  (31, ⟨.array 4 30, 4, 8, [.int .u16 0, .int .u16 0, .int .u16 0, .int .u16 0]⟩),
  (32, ⟨.array 4 30, 4, 8, [.int .u16 0, .int .u16 0, .int .u16 0, .int .u16 0]⟩),
  (33, ⟨.struct [(0, 27), (1, 3), (2, 32)], 6, 24, [.int .u64 0, .int .i64 0, .int .u16 0, .int .u16 0, .int .u16 0, .int .u16 0]⟩),
  (34, ⟨.struct [(0, 27), (1, 3), (2, 32)], 6, 24, [.int .u64 0, .int .i64 0, .int .u16 0, .int .u16 0, .int .u16 0, .int .u16 0]⟩),
  (35, ⟨.struct [(0, 3), (1, 4), (2, 4), (3, 27), (4, 27), (5, 3), (6, 34)], 12, 64, [.int .i64 0, .bool false, .bool false, .int .u64 0, .int .u64 0, .int .i64 0, .int .u64 0, .int .i64 0, .int .u16 0, .int .u16 0, .int .u16 0, .int .u16 0]⟩),
  (36, ⟨.struct [(0, 3), (1, 4), (2, 4), (3, 27), (4, 27), (5, 3), (6, 34)], 12, 64, [.int .i64 0, .bool false, .bool false, .int .u64 0, .int .u64 0, .int .i64 0, .int .u64 0, .int .i64 0, .int .u16 0, .int .u16 0, .int .u16 0, .int .u16 0]⟩),
  (37, ⟨.fn, 1, 8, [.nilFunc]⟩),
  (38, ⟨.slice 42, 1, 24, [.slice none 0 0]⟩),
  (39, ⟨.fn, 1, 8, [.nilFunc]⟩),
  (40, ⟨.slice 27, 1, 24, [.slice none 0 0]⟩),
  (41, ⟨.fn, 1, 8, [.nilFunc]⟩),
  (42, ⟨.struct [(0, 27), (1, 27), (2, 3), (3, 3), (4, 4)], 5, 40, [.int .u64 0, .int .u64 0, .int .i64 0, .int .i64 0, .bool false]⟩),
  (43, ⟨.fn, 1, 8, [.nilFunc]⟩),
  (44, ⟨.fn, 1, 8, [.nilFunc]⟩),
  (45, ⟨.fn, 1, 8, [.nilFunc]⟩),
  (46, ⟨.ptr 29, 1, 8, [.pointer none]⟩),
  (47, ⟨.fn, 1, 8, [.nilFunc]⟩),
  (48, ⟨.fn, 1, 8, [.nilFunc]⟩),
  (49, ⟨.fn, 1, 8, [.nilFunc]⟩),
  (55, ⟨.fn, 1, 8, [.nilFunc]⟩),
  (56, ⟨.int .u32, 1, 4, [.int .u32 0]⟩),
  (59, ⟨.fn, 1, 8, [.nilFunc]⟩),
  (60, ⟨.ptr 5, 1, 8, [.pointer none]⟩),
  (63, ⟨.struct [(0, 12), (1, 12), (2, 56), (3, 57), (4, 5), (5, 5), (6, 58), (7, 59), (8, 60), (9, 61), (10, 62)], 11, 48, [.int .u64 0, .int .u64 0, .int .u32 0, .int .u8 0, .int .u8 0, .int .u8 0, .int .u8 0, .nilFunc, .pointer none, .int .i32 0, .int .i32 0]⟩)]
theorem lay_ok : LayOk Try.prog lay := .cons ty1 <| .cons ty2 <| .cons ty3 <| .cons ty4 <| .cons ty5 <| .cons ty9 <| .cons ty12 <| .cons ty17 <| .cons ty20 <| .cons ty21 <| .cons ty22 <| .cons ty23 <| .cons ty24 <| .cons ty25 <| .cons ty26 <| .cons ty27 <| .cons ty28 <| .cons ty29 <| .cons ty30 <| .cons ty31 <| .cons ty32 <| .cons ty33 <| .cons ty34 <| .cons ty35 <| .cons ty36 <| .cons ty37 <| .cons ty38 <| .cons ty39 <| .cons ty40 <| .cons ty41 <| .cons ty42 <| .cons ty43 <| .cons ty44 <| .cons ty45 <| .cons ty46 <| .cons ty47 <| .cons ty48 <| .cons ty49 <| .cons ty55 <| .cons ty56 <| .cons ty59 <| .cons ty60 <| .cons ty63 <| .nil _
theorem L1 : ty lay 1 = some ⟨.fn, 1, 8, [.nilFunc]⟩ := rfl
theorem L2 : ty lay 2 = some ⟨.int .i64, 1, 8, [.int .i64 0]⟩ := rfl
theorem L3 : ty lay 3 = some ⟨.int .i64, 1, 8, [.int .i64 0]⟩ := rfl
theorem L4 : ty lay 4 = some ⟨.bool, 1, 1, [.bool false]⟩ := rfl
theorem L5 : ty lay 5 = some ⟨.int .u8, 1, 1, [.int .u8 0]⟩ := rfl
theorem L9 : ty lay 9 = some ⟨.str, 1, 16, [.string ByteArray.empty]⟩ := rfl
theorem L12 : ty lay 12 = some ⟨.int .u64, 1, 8, [.int .u64 0]⟩ := rfl
theorem L17 : ty lay 17 = some ⟨.ptr 64, 1, 8, [.pointer none]⟩ := rfl
theorem L20 : ty lay 20 = some ⟨.iface, 1, 16, [.nilIface]⟩ := rfl
theorem L21 : ty lay 21 = some ⟨.int .i32, 1, 4, [.int .i32 0]⟩ := rfl
theorem L22 : ty lay 22 = some ⟨.slice 36, 1, 24, [.slice none 0 0]⟩ := rfl
theorem L23 : ty lay 23 = some ⟨.slice 3, 1, 24, [.slice none 0 0]⟩ := rfl
theorem L24 : ty lay 24 = some ⟨.fn, 1, 8, [.nilFunc]⟩ := rfl
theorem L25 : ty lay 25 = some ⟨.slice 29, 1, 24, [.slice none 0 0]⟩ := rfl
theorem L26 : ty lay 26 = some ⟨.fn, 1, 8, [.nilFunc]⟩ := rfl
theorem L27 : ty lay 27 = some ⟨.int .u64, 1, 8, [.int .u64 0]⟩ := rfl
theorem L28 : ty lay 28 = some ⟨.struct [(0, 27), (1, 27), (2, 3), (3, 3), (4, 4)], 5, 40, [.int .u64 0, .int .u64 0, .int .i64 0, .int .i64 0, .bool false]⟩ := rfl
theorem L29 : ty lay 29 = some ⟨.struct [(0, 27), (1, 27), (2, 3), (3, 3), (4, 4)], 5, 40, [.int .u64 0, .int .u64 0, .int .i64 0, .int .i64 0, .bool false]⟩ := rfl
theorem L30 : ty lay 30 = some ⟨.int .u16, 1, 2, [.int .u16 0]⟩ := rfl
theorem L31 : ty lay 31 = some ⟨.array 4 30, 4, 8, [.int .u16 0, .int .u16 0, .int .u16 0, .int .u16 0]⟩ := rfl
theorem L32 : ty lay 32 = some ⟨.array 4 30, 4, 8, [.int .u16 0, .int .u16 0, .int .u16 0, .int .u16 0]⟩ := rfl
theorem L33 : ty lay 33 = some ⟨.struct [(0, 27), (1, 3), (2, 32)], 6, 24, [.int .u64 0, .int .i64 0, .int .u16 0, .int .u16 0, .int .u16 0, .int .u16 0]⟩ := rfl
theorem L34 : ty lay 34 = some ⟨.struct [(0, 27), (1, 3), (2, 32)], 6, 24, [.int .u64 0, .int .i64 0, .int .u16 0, .int .u16 0, .int .u16 0, .int .u16 0]⟩ := rfl
theorem L35 : ty lay 35 = some ⟨.struct [(0, 3), (1, 4), (2, 4), (3, 27), (4, 27), (5, 3), (6, 34)], 12, 64, [.int .i64 0, .bool false, .bool false, .int .u64 0, .int .u64 0, .int .i64 0, .int .u64 0, .int .i64 0, .int .u16 0, .int .u16 0, .int .u16 0, .int .u16 0]⟩ := rfl
theorem L36 : ty lay 36 = some ⟨.struct [(0, 3), (1, 4), (2, 4), (3, 27), (4, 27), (5, 3), (6, 34)], 12, 64, [.int .i64 0, .bool false, .bool false, .int .u64 0, .int .u64 0, .int .i64 0, .int .u64 0, .int .i64 0, .int .u16 0, .int .u16 0, .int .u16 0, .int .u16 0]⟩ := rfl
theorem L37 : ty lay 37 = some ⟨.fn, 1, 8, [.nilFunc]⟩ := rfl
theorem L38 : ty lay 38 = some ⟨.slice 42, 1, 24, [.slice none 0 0]⟩ := rfl
theorem L39 : ty lay 39 = some ⟨.fn, 1, 8, [.nilFunc]⟩ := rfl
theorem L40 : ty lay 40 = some ⟨.slice 27, 1, 24, [.slice none 0 0]⟩ := rfl
theorem L41 : ty lay 41 = some ⟨.fn, 1, 8, [.nilFunc]⟩ := rfl
theorem L42 : ty lay 42 = some ⟨.struct [(0, 27), (1, 27), (2, 3), (3, 3), (4, 4)], 5, 40, [.int .u64 0, .int .u64 0, .int .i64 0, .int .i64 0, .bool false]⟩ := rfl
theorem L43 : ty lay 43 = some ⟨.fn, 1, 8, [.nilFunc]⟩ := rfl
theorem L44 : ty lay 44 = some ⟨.fn, 1, 8, [.nilFunc]⟩ := rfl
theorem L45 : ty lay 45 = some ⟨.fn, 1, 8, [.nilFunc]⟩ := rfl
theorem L46 : ty lay 46 = some ⟨.ptr 29, 1, 8, [.pointer none]⟩ := rfl
theorem L47 : ty lay 47 = some ⟨.fn, 1, 8, [.nilFunc]⟩ := rfl
theorem L48 : ty lay 48 = some ⟨.fn, 1, 8, [.nilFunc]⟩ := rfl
theorem L49 : ty lay 49 = some ⟨.fn, 1, 8, [.nilFunc]⟩ := rfl
theorem L55 : ty lay 55 = some ⟨.fn, 1, 8, [.nilFunc]⟩ := rfl
theorem L56 : ty lay 56 = some ⟨.int .u32, 1, 4, [.int .u32 0]⟩ := rfl
theorem L59 : ty lay 59 = some ⟨.fn, 1, 8, [.nilFunc]⟩ := rfl
theorem L60 : ty lay 60 = some ⟨.ptr 5, 1, 8, [.pointer none]⟩ := rfl
theorem L63 : ty lay 63 = some ⟨.struct [(0, 12), (1, 12), (2, 56), (3, 57), (4, 5), (5, 5), (6, 58), (7, 59), (8, 60), (9, 61), (10, 62)], 11, 48, [.int .u64 0, .int .u64 0, .int .u32 0, .int .u8 0, .int .u8 0, .int .u8 0, .int .u8 0, .nilFunc, .pointer none, .int .i32 0, .int .i32 0]⟩ := rfl
theorem eq28 : EqTyOk Try.prog 28 [0, 0, 0, 0, 1] := ⟨by kernel_rfl, by kernel_rfl, by kernel_rfl⟩
theorem eq29 : EqTyOk Try.prog 29 [0, 0, 0, 0, 1] := ⟨by kernel_rfl, by kernel_rfl, by kernel_rfl⟩
theorem eq31 : EqTyOk Try.prog 31 [0, 0, 0, 0] := ⟨by kernel_rfl, by kernel_rfl, by kernel_rfl⟩
theorem eq32 : EqTyOk Try.prog 32 [0, 0, 0, 0] := ⟨by kernel_rfl, by kernel_rfl, by kernel_rfl⟩
theorem eq33 : EqTyOk Try.prog 33 [0, 0, 0, 0, 0, 0] := ⟨by kernel_rfl, by kernel_rfl, by kernel_rfl⟩
theorem eq34 : EqTyOk Try.prog 34 [0, 0, 0, 0, 0, 0] := ⟨by kernel_rfl, by kernel_rfl, by kernel_rfl⟩
theorem eq35 : EqTyOk Try.prog 35 [0, 1, 1, 0, 0, 0, 0, 0, 0, 0, 0, 0] := ⟨by kernel_rfl, by kernel_rfl, by kernel_rfl⟩
theorem eq36 : EqTyOk Try.prog 36 [0, 1, 1, 0, 0, 0, 0, 0, 0, 0, 0, 0] := ⟨by kernel_rfl, by kernel_rfl, by kernel_rfl⟩
theorem eq42 : EqTyOk Try.prog 42 [0, 0, 0, 0, 1] := ⟨by kernel_rfl, by kernel_rfl, by kernel_rfl⟩
def eqs : EqT := [(28, [0, 0, 0, 0, 1]), (29, [0, 0, 0, 0, 1]), (31, [0, 0, 0, 0]), (32, [0, 0, 0, 0]), (33, [0, 0, 0, 0, 0, 0]), (34, [0, 0, 0, 0, 0, 0]), (35, [0, 1, 1, 0, 0, 0, 0, 0, 0, 0, 0, 0]), (36, [0, 1, 1, 0, 0, 0, 0, 0, 0, 0, 0, 0]), (42, [0, 0, 0, 0, 1])]
theorem eqs_ok : EqOk Try.prog eqs := .cons eq28 <| .cons eq29 <| .cons eq31 <| .cons eq32 <| .cons eq33 <| .cons eq34 <| .cons eq35 <| .cons eq36 <| .cons eq42 <| .nil _
theorem E28 : eqty eqs 28 = some [0, 0, 0, 0, 1] := rfl
theorem E29 : eqty eqs 29 = some [0, 0, 0, 0, 1] := rfl
theorem E31 : eqty eqs 31 = some [0, 0, 0, 0] := rfl
theorem E32 : eqty eqs 32 = some [0, 0, 0, 0] := rfl
theorem E33 : eqty eqs 33 = some [0, 0, 0, 0, 0, 0] := rfl
theorem E34 : eqty eqs 34 = some [0, 0, 0, 0, 0, 0] := rfl
theorem E35 : eqty eqs 35 = some [0, 1, 1, 0, 0, 0, 0, 0, 0, 0, 0, 0] := rfl
theorem E36 : eqty eqs 36 = some [0, 1, 1, 0, 0, 0, 0, 0, 0, 0, 0, 0] := rfl
theorem E42 : eqty eqs 42 = some [0, 0, 0, 0, 1] := rfl
def cx : Cx := ⟨lay, eqs⟩
theorem cx_ok : CxOk Try.prog cx := ⟨lay_ok, eqs_ok⟩
/-- floodgate/floodgatelaw31.SpansApart -/
theorem fn3 : FnOk Try.prog 3 := fun args w => Try.call3 args w
/-- floodgate/floodgatelaw31.SpansOf -/
theorem fn4 : FnOk Try.prog 4 := fun args w => Try.call4 args w
/-- floodgate/floodgatelaw31.two -/
theorem fn5 : FnOk Try.prog 5 := fun args w => Try.call5 args w
/-- floodgate/spans.Of -/
theorem fn6 : FnOk Try.prog 6 := fun args w => Try.call6 args w
/-- floodgate/spans.Backlogged -/
theorem fn7 : FnOk Try.prog 7 := fun args w => Try.call7 args w
/-- floodgate/floodgateref31.Of -/
theorem fn8 : FnOk Try.prog 8 := fun args w => Try.call8 args w
/-- floodgate/spans.Since -/
theorem fn9 : FnOk Try.prog 9 := fun args w => Try.call9 args w
/-- floodgate/floodgateref31.Lengths -/
theorem fn10 : FnOk Try.prog 10 := fun args w => Try.call10 args w
/-- floodgate/floodgatelaw31.two$1 -/
theorem fn11 : FnOk Try.prog 11 := fun args w => Try.call11 args w
/-- floodgate/floodgatelaw31.two$2 -/
theorem fn12 : FnOk Try.prog 12 := fun args w => Try.call12 args w
/-- floodgate/spans.length -/
theorem fn13 : FnOk Try.prog 13 := fun args w => Try.call13 args w
/-- floodgate/floodgateref31.has -/
theorem fn14 : FnOk Try.prog 14 := fun args w => Try.call14 args w
/-- slices.Contains[[]int,int] -/
theorem fn15 : FnOk Try.prog 15 := fun args w => Try.call15 args w
/-- slices.Index[[]int,int] -/
theorem fn16 : FnOk Try.prog 16 := fun args w => Try.call16 args w
attribute [go_sem] cx L1 L2 L3 L4 L5 L9 L12 L17 L20 L21 L22 L23 L24 L25 L26 L27 L28 L29 L30 L31 L32 L33 L34 L35 L36 L37 L38 L39 L40 L41 L42 L43 L44 L45 L46 L47 L48 L49 L55 L56 L59 L60 L63 E28 E29 E31 E32 E33 E34 E35 E36 E42
end Go.Fg.X
