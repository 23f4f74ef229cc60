/-
  What the laws of these data stand on: contracts of functions, and plain laws.
-/
import Derived.Test.YtdmgmkifjboojaaGreatDoorProg
import Derived.Test.YtdmgmkifjboojaaGreatDoorRows
import Derived.Test.YtdmgmkifjboojaaGreatDoorNXa
import Derived.Test.YtdmgmkifjboojaaGreatDoorNXb
import Derived.Test.YtdmgmkifjboojaaGreatDoorNXc
import Derived.Test.YtdmgmkifjboojaaGreatDoorNXd
set_option linter.unusedVariables false
set_option linter.unusedSimpArgs false
set_option linter.unnecessarySimpa false
namespace Go.Proofs.YtdmgmkifjboojaaGreatDoor
open Go.SX
def TT : List (Option Ty) := [
  none,
  some ⟨.fn, 1, 8, [.nilFunc], false⟩,
  some ⟨(.int .i64), 1, 8, [.int .i64 0], false⟩,
  some ⟨(.int .i64), 1, 8, [.int .i64 0], false⟩,
  some ⟨.bool, 1, 1, [.bool false], false⟩,
  some ⟨(.int .u8), 1, 1, [.int .u8 0], false⟩,
  some ⟨(.int .u8), 1, 1, [.int .u8 0], false⟩,
  some ⟨(.st [(0, 2), (1, 3), (2, 4), (3, 6)]), 4, 24, [.int .i64 0, .int .i64 0, .bool false, .int .u8 0], true⟩,
  some ⟨(.st [(0, 2), (1, 3), (2, 4), (3, 6)]), 4, 24, [.int .i64 0, .int .i64 0, .bool false, .int .u8 0], true⟩,
  some ⟨.str, 1, 16, [.string ⟨#[]⟩], false⟩,
  some ⟨.str, 1, 16, [.string ⟨#[]⟩], false⟩,
  some ⟨.str, 1, 16, [.string ⟨#[]⟩], false⟩,
  some ⟨(.int .u64), 1, 8, [.int .u64 0], false⟩,
  some ⟨(.st [(0, 9), (1, 12)]), 2, 24, [.string ⟨#[]⟩, .int .u64 0], false⟩,
  some ⟨(.st [(0, 9), (1, 12)]), 2, 24, [.string ⟨#[]⟩, .int .u64 0], false⟩,
  some ⟨(.ptr 401), 1, 8, [.pointer none], false⟩,
  some ⟨(.ptr 404), 1, 8, [.pointer none], false⟩,
  some ⟨(.ptr 411), 1, 8, [.pointer none], false⟩,
  some ⟨(.st [(0, 17)]), 1, 8, [.pointer none], false⟩,
  some ⟨(.st [(0, 17)]), 1, 8, [.pointer none], false⟩,
  some ⟨.ifc, 1, 16, [.nilIface], false⟩,
  some ⟨(.int .i32), 1, 4, [.int .i32 0], false⟩,
  some ⟨(.sl 38), 1, 24, [.slice none 0 0], false⟩,
  some ⟨(.sl 42), 1, 24, [.slice none 0 0], false⟩,
  some ⟨(.sl 45), 1, 24, [.slice none 0 0], false⟩,
  some ⟨(.sl 47), 1, 24, [.slice none 0 0], false⟩,
  some ⟨(.sl 51), 1, 24, [.slice none 0 0], false⟩,
  some ⟨(.st [(0, 22), (1, 23), (2, 24), (3, 25), (4, 26), (5, 3), (6, 3), (7, 3), (8, 3)]), 9, 152, [.slice none 0 0, .slice none 0 0, .slice none 0 0, .slice none 0 0, .slice none 0 0, .int .i64 0, .int .i64 0, .int .i64 0, .int .i64 0], true⟩,
  some ⟨(.st [(0, 22), (1, 23), (2, 24), (3, 25), (4, 26), (5, 3), (6, 3), (7, 3), (8, 3)]), 9, 152, [.slice none 0 0, .slice none 0 0, .slice none 0 0, .slice none 0 0, .slice none 0 0, .int .i64 0, .int .i64 0, .int .i64 0, .int .i64 0], true⟩,
  some ⟨.fn, 1, 8, [.nilFunc], false⟩,
  some ⟨(.int .i64), 1, 8, [.int .i64 0], false⟩,
  none,
  some ⟨.fn, 1, 8, [.nilFunc], false⟩,
  some ⟨.fn, 1, 8, [.nilFunc], false⟩,
  some ⟨.fn, 1, 8, [.nilFunc], false⟩,
  some ⟨(.sl 9), 1, 24, [.slice none 0 0], false⟩,
  some ⟨(.int .u64), 1, 8, [.int .u64 0], false⟩,
  some ⟨(.st [(0, 4), (1, 36), (2, 36)]), 3, 24, [.bool false, .int .u64 0, .int .u64 0], true⟩,
  some ⟨(.st [(0, 4), (1, 36), (2, 36)]), 3, 24, [.bool false, .int .u64 0, .int .u64 0], true⟩,
  some ⟨(.st [(0, 38), (3, 3)]), 4, 32, [.bool false, .int .u64 0, .int .u64 0, .int .i64 0], true⟩,
  some ⟨(.st [(0, 38), (3, 3)]), 4, 32, [.bool false, .int .u64 0, .int .u64 0, .int .i64 0], true⟩,
  some ⟨(.st [(0, 40), (4, 3)]), 5, 40, [.bool false, .int .u64 0, .int .u64 0, .int .i64 0, .int .i64 0], true⟩,
  some ⟨(.st [(0, 40), (4, 3)]), 5, 40, [.bool false, .int .u64 0, .int .u64 0, .int .i64 0, .int .i64 0], true⟩,
  some ⟨(.sl 88), 1, 24, [.slice none 0 0], false⟩,
  some ⟨(.st [(0, 9), (1, 3), (2, 43)]), 3, 48, [.string ⟨#[]⟩, .int .i64 0, .slice none 0 0], true⟩,
  some ⟨(.st [(0, 9), (1, 3), (2, 43)]), 3, 48, [.string ⟨#[]⟩, .int .i64 0, .slice none 0 0], true⟩,
  some ⟨(.st [(0, 9), (1, 22), (2, 4)]), 3, 48, [.string ⟨#[]⟩, .slice none 0 0, .bool false], true⟩,
  some ⟨(.st [(0, 9), (1, 22), (2, 4)]), 3, 48, [.string ⟨#[]⟩, .slice none 0 0, .bool false], true⟩,
  some ⟨(.st [(0, 3), (1, 3), (2, 3), (3, 9)]), 4, 40, [.int .i64 0, .int .i64 0, .int .i64 0, .string ⟨#[]⟩], true⟩,
  some ⟨(.st [(0, 3), (1, 3), (2, 3), (3, 9)]), 4, 40, [.int .i64 0, .int .i64 0, .int .i64 0, .string ⟨#[]⟩], true⟩,
  some ⟨(.st [(0, 9), (1, 49)]), 5, 56, [.string ⟨#[]⟩, .int .i64 0, .int .i64 0, .int .i64 0, .string ⟨#[]⟩], true⟩,
  some ⟨(.st [(0, 9), (1, 49)]), 5, 56, [.string ⟨#[]⟩, .int .i64 0, .int .i64 0, .int .i64 0, .string ⟨#[]⟩], true⟩,
  some ⟨.fn, 1, 8, [.nilFunc], false⟩,
  some ⟨.fn, 1, 8, [.nilFunc], false⟩,
  some ⟨(.sl 49), 1, 24, [.slice none 0 0], false⟩,
  none,
  some ⟨.fn, 1, 8, [.nilFunc], false⟩,
  none,
  some ⟨.fn, 1, 8, [.nilFunc], false⟩,
  some ⟨.fn, 1, 8, [.nilFunc], false⟩,
  some ⟨.fn, 1, 8, [.nilFunc], false⟩,
  some ⟨.fn, 1, 8, [.nilFunc], false⟩,
  some ⟨(.sl 85), 1, 24, [.slice none 0 0], false⟩,
  some ⟨(.st [(0, 4), (1, 3), (2, 4), (3, 3), (4, 9)]), 5, 48, [.bool false, .int .i64 0, .bool false, .int .i64 0, .string ⟨#[]⟩], true⟩,
  some ⟨(.st [(0, 4), (1, 3), (2, 4), (3, 3), (4, 9)]), 5, 48, [.bool false, .int .i64 0, .bool false, .int .i64 0, .string ⟨#[]⟩], true⟩,
  some ⟨(.st [(0, 3), (1, 4), (2, 3), (3, 4), (4, 4), (5, 4), (6, 4), (7, 4), (8, 4), (9, 3), (10, 62), (11, 43), (12, 43), (13, 43), (14, 64)]), 19, 184, [.int .i64 0, .bool false, .int .i64 0, .bool false, .bool false, .bool false, .bool false, .bool false, .bool false, .int .i64 0, .slice none 0 0, .slice none 0 0, .slice none 0 0, .slice none 0 0, .bool false, .int .i64 0, .bool false, .int .i64 0, .string ⟨#[]⟩], true⟩,
  some ⟨(.st [(0, 3), (1, 4), (2, 3), (3, 4), (4, 4), (5, 4), (6, 4), (7, 4), (8, 4), (9, 3), (10, 62), (11, 43), (12, 43), (13, 43), (14, 64)]), 19, 184, [.int .i64 0, .bool false, .int .i64 0, .bool false, .bool false, .bool false, .bool false, .bool false, .bool false, .int .i64 0, .slice none 0 0, .slice none 0 0, .slice none 0 0, .slice none 0 0, .bool false, .int .i64 0, .bool false, .int .i64 0, .string ⟨#[]⟩], true⟩,
  some ⟨.fn, 1, 8, [.nilFunc], false⟩,
  none,
  some ⟨.fn, 1, 8, [.nilFunc], false⟩,
  none,
  some ⟨.fn, 1, 8, [.nilFunc], false⟩,
  some ⟨.fn, 1, 8, [.nilFunc], false⟩,
  some ⟨.fn, 1, 8, [.nilFunc], false⟩,
  some ⟨.fn, 1, 8, [.nilFunc], false⟩,
  none,
  some ⟨.fn, 1, 8, [.nilFunc], false⟩,
  some ⟨.fn, 1, 8, [.nilFunc], false⟩,
  none,
  some ⟨.fn, 1, 8, [.nilFunc], false⟩,
  some ⟨.fn, 1, 8, [.nilFunc], false⟩,
  some ⟨.fn, 1, 8, [.nilFunc], false⟩,
  some ⟨(.sl 5), 1, 24, [.slice none 0 0], false⟩,
  some ⟨.fn, 1, 8, [.nilFunc], false⟩,
  some ⟨(.st [(0, 9), (1, 3), (2, 3)]), 3, 32, [.string ⟨#[]⟩, .int .i64 0, .int .i64 0], true⟩,
  some ⟨(.st [(0, 9), (1, 3), (2, 3)]), 3, 32, [.string ⟨#[]⟩, .int .i64 0, .int .i64 0], true⟩,
  some ⟨(.sl 3), 1, 24, [.slice none 0 0], false⟩,
  some ⟨(.st [(0, 9), (1, 3), (2, 3), (3, 3), (4, 9)]), 5, 56, [.string ⟨#[]⟩, .int .i64 0, .int .i64 0, .int .i64 0, .string ⟨#[]⟩], true⟩,
  some ⟨(.st [(0, 9), (1, 3), (2, 3), (3, 3), (4, 9)]), 5, 56, [.string ⟨#[]⟩, .int .i64 0, .int .i64 0, .int .i64 0, .string ⟨#[]⟩], true⟩,
  some ⟨.fn, 1, 8, [.nilFunc], false⟩,
  some ⟨(.st [(0, 9), (1, 34)]), 2, 24, [.string ⟨#[]⟩, .nilFunc], true⟩,
  some ⟨(.st [(0, 9), (1, 34)]), 2, 24, [.string ⟨#[]⟩, .nilFunc], true⟩,
  some ⟨(.sl 91), 1, 24, [.slice none 0 0], false⟩,
  some ⟨.fn, 1, 8, [.nilFunc], false⟩,
  some ⟨.fn, 1, 8, [.nilFunc], false⟩,
  some ⟨.fn, 1, 8, [.nilFunc], false⟩,
  some ⟨.fn, 1, 8, [.nilFunc], false⟩,
  some ⟨.fn, 1, 8, [.nilFunc], false⟩,
  some ⟨.fn, 1, 8, [.nilFunc], false⟩,
  some ⟨.fn, 1, 8, [.nilFunc], false⟩,
  some ⟨.fn, 1, 8, [.nilFunc], false⟩,
  some ⟨.fn, 1, 8, [.nilFunc], false⟩,
  some ⟨.fn, 1, 8, [.nilFunc], false⟩,
  some ⟨.fn, 1, 8, [.nilFunc], false⟩,
  some ⟨.fn, 1, 8, [.nilFunc], false⟩,
  some ⟨.fn, 1, 8, [.nilFunc], false⟩,
  some ⟨.fn, 1, 8, [.nilFunc], false⟩,
  some ⟨.fn, 1, 8, [.nilFunc], false⟩,
  some ⟨(.int .u64), 1, 8, [.int .u64 0], false⟩,
  some ⟨.fn, 1, 8, [.nilFunc], false⟩,
  some ⟨(.ptr 112), 1, 8, [.pointer none], false⟩,
  some ⟨(.st [(0, 9), (1, 3), (2, 4)]), 3, 32, [.string ⟨#[]⟩, .int .i64 0, .bool false], true⟩,
  some ⟨(.st [(0, 9), (1, 3), (2, 4)]), 3, 32, [.string ⟨#[]⟩, .int .i64 0, .bool false], true⟩,
  some ⟨.fn, 1, 8, [.nilFunc], false⟩,
  some ⟨.fn, 1, 8, [.nilFunc], false⟩,
  some ⟨.fn, 1, 8, [.nilFunc], false⟩,
  some ⟨(.st []), 0, 0, [], true⟩,
  some ⟨(.st []), 0, 0, [], true⟩,
  none,
  some ⟨(.ptr 121), 1, 8, [.pointer none], false⟩,
  some ⟨(.st [(0, 9), (1, 3)]), 2, 24, [.string ⟨#[]⟩, .int .i64 0], true⟩,
  some ⟨(.st [(0, 9), (1, 3)]), 2, 24, [.string ⟨#[]⟩, .int .i64 0], true⟩,
  some ⟨(.ptr 162), 1, 8, [.pointer none], false⟩,
  some ⟨(.ptr 66), 1, 8, [.pointer none], false⟩,
  some ⟨.fn, 1, 8, [.nilFunc], false⟩,
  some ⟨(.ptr 4), 1, 8, [.pointer none], false⟩,
  some ⟨.fn, 1, 8, [.nilFunc], false⟩,
  some ⟨(.arr 4 3), 4, 32, [.int .i64 0, .int .i64 0, .int .i64 0, .int .i64 0], false⟩,
  some ⟨.fn, 1, 8, [.nilFunc], false⟩,
  some ⟨.fn, 1, 8, [.nilFunc], false⟩,
  some ⟨(.arr 3 43), 3, 72, [.slice none 0 0, .slice none 0 0, .slice none 0 0], false⟩,
  none,
  some ⟨.fn, 1, 8, [.nilFunc], false⟩,
  some ⟨(.ptr 173), 1, 8, [.pointer none], false⟩,
  none,
  some ⟨.fn, 1, 8, [.nilFunc], false⟩,
  some ⟨(.ptr 181), 1, 8, [.pointer none], false⟩,
  none,
  some ⟨.fn, 1, 8, [.nilFunc], false⟩,
  some ⟨.fn, 1, 8, [.nilFunc], false⟩,
  some ⟨.fn, 1, 8, [.nilFunc], false⟩,
  some ⟨.fn, 1, 8, [.nilFunc], false⟩,
  some ⟨(.sl 193), 1, 24, [.slice none 0 0], false⟩,
  some ⟨.fn, 1, 8, [.nilFunc], false⟩,
  some ⟨.fn, 1, 8, [.nilFunc], false⟩,
  none,
  some ⟨.fn, 1, 8, [.nilFunc], false⟩,
  some ⟨.fn, 1, 8, [.nilFunc], false⟩,
  some ⟨.fn, 1, 8, [.nilFunc], false⟩,
  some ⟨.fn, 1, 8, [.nilFunc], false⟩,
  some ⟨(.ptr 153), 1, 8, [.pointer none], false⟩,
  some ⟨(.mp 202 3), 1, 8, [.map none], false⟩,
  some ⟨(.st [(0, 82), (1, 151)]), 2, 32, [.slice none 0 0, .map none], true⟩,
  some ⟨(.st [(0, 82), (1, 151)]), 2, 32, [.slice none 0 0, .map none], true⟩,
  some ⟨.fn, 1, 8, [.nilFunc], false⟩,
  some ⟨.fn, 1, 8, [.nilFunc], false⟩,
  some ⟨(.sl 43), 1, 24, [.slice none 0 0], false⟩,
  some ⟨.fn, 1, 8, [.nilFunc], false⟩,
  some ⟨(.ptr 160), 1, 8, [.pointer none], false⟩,
  some ⟨(.st [(0, 82), (1, 35), (2, 86)]), 3, 72, [.slice none 0 0, .slice none 0 0, .slice none 0 0], true⟩,
  some ⟨(.st [(0, 82), (1, 35), (2, 86)]), 3, 72, [.slice none 0 0, .slice none 0 0, .slice none 0 0], true⟩,
  some ⟨.fn, 1, 8, [.nilFunc], false⟩,
  some ⟨(.st [(0, 3), (1, 4), (2, 3), (3, 4), (4, 4), (5, 4), (6, 4), (7, 4), (8, 4), (9, 3), (10, 62), (11, 43), (12, 43), (13, 43), (14, 64)]), 19, 184, [.int .i64 0, .bool false, .int .i64 0, .bool false, .bool false, .bool false, .bool false, .bool false, .bool false, .int .i64 0, .slice none 0 0, .slice none 0 0, .slice none 0 0, .slice none 0 0, .bool false, .int .i64 0, .bool false, .int .i64 0, .string ⟨#[]⟩], true⟩,
  some ⟨.fn, 1, 8, [.nilFunc], false⟩,
  some ⟨.fn, 1, 8, [.nilFunc], false⟩,
  some ⟨.fn, 1, 8, [.nilFunc], false⟩,
  some ⟨(.ptr 170), 1, 8, [.pointer none], false⟩,
  some ⟨(.arr 2 166), 2, 16, [.pointer none, .pointer none], false⟩,
  some ⟨(.ptr 42), 1, 8, [.pointer none], false⟩,
  some ⟨(.st [(0, 167), (2, 168)]), 3, 24, [.pointer none, .pointer none, .pointer none], true⟩,
  some ⟨(.st [(0, 167), (2, 168)]), 3, 24, [.pointer none, .pointer none, .pointer none], true⟩,
  some ⟨(.arr 2 170), 6, 48, [.pointer none, .pointer none, .pointer none, .pointer none, .pointer none, .pointer none], false⟩,
  some ⟨(.st [(0, 171)]), 6, 48, [.pointer none, .pointer none, .pointer none, .pointer none, .pointer none, .pointer none], true⟩,
  some ⟨(.st [(0, 171)]), 6, 48, [.pointer none, .pointer none, .pointer none, .pointer none, .pointer none, .pointer none], true⟩,
  some ⟨.fn, 1, 8, [.nilFunc], false⟩,
  some ⟨(.st [(0, 36), (1, 36), (2, 3)]), 3, 24, [.int .u64 0, .int .u64 0, .int .i64 0], true⟩,
  some ⟨(.st [(0, 36), (1, 36), (2, 3)]), 3, 24, [.int .u64 0, .int .u64 0, .int .i64 0], true⟩,
  some ⟨.fn, 1, 8, [.nilFunc], false⟩,
  some ⟨(.ptr 166), 1, 8, [.pointer none], false⟩,
  some ⟨(.mp 9 182), 1, 8, [.map none], false⟩,
  some ⟨(.st [(0, 179)]), 1, 8, [.map none], true⟩,
  some ⟨(.st [(0, 179)]), 1, 8, [.map none], true⟩,
  some ⟨(.ptr 186), 1, 8, [.pointer none], false⟩,
  none,
  some ⟨.fn, 1, 8, [.nilFunc], false⟩,
  some ⟨(.st [(0, 9), (1, 3), (2, 142)]), 3, 48, [.string ⟨#[]⟩, .int .i64 0, .slice none 0 0], true⟩,
  some ⟨(.st [(0, 9), (1, 3), (2, 142)]), 3, 48, [.string ⟨#[]⟩, .int .i64 0, .slice none 0 0], true⟩,
  some ⟨.fn, 1, 8, [.nilFunc], false⟩,
  some ⟨.fn, 1, 8, [.nilFunc], false⟩,
  some ⟨.fn, 1, 8, [.nilFunc], false⟩,
  some ⟨.fn, 1, 8, [.nilFunc], false⟩,
  some ⟨.fn, 1, 8, [.nilFunc], false⟩,
  some ⟨(.st [(0, 9), (1, 3), (2, 3), (3, 3), (4, 35), (5, 35)]), 6, 88, [.string ⟨#[]⟩, .int .i64 0, .int .i64 0, .int .i64 0, .slice none 0 0, .slice none 0 0], true⟩,
  some ⟨(.st [(0, 9), (1, 3), (2, 3), (3, 3), (4, 35), (5, 35)]), 6, 88, [.string ⟨#[]⟩, .int .i64 0, .int .i64 0, .int .i64 0, .slice none 0 0, .slice none 0 0], true⟩,
  some ⟨.fn, 1, 8, [.nilFunc], false⟩,
  some ⟨(.st [(0, 3), (1, 3), (2, 3), (3, 3), (4, 3), (5, 3), (6, 3), (7, 9), (8, 9)]), 9, 88, [.int .i64 0, .int .i64 0, .int .i64 0, .int .i64 0, .int .i64 0, .int .i64 0, .int .i64 0, .string ⟨#[]⟩, .string ⟨#[]⟩], true⟩,
  some ⟨(.st [(0, 3), (1, 3), (2, 3), (3, 3), (4, 3), (5, 3), (6, 3), (7, 9), (8, 9)]), 9, 88, [.int .i64 0, .int .i64 0, .int .i64 0, .int .i64 0, .int .i64 0, .int .i64 0, .int .i64 0, .string ⟨#[]⟩, .string ⟨#[]⟩], true⟩,
  none,
  some ⟨.fn, 1, 8, [.nilFunc], false⟩,
  some ⟨.fn, 1, 8, [.nilFunc], false⟩,
  none,
  some ⟨(.st [(0, 9)]), 1, 16, [.string ⟨#[]⟩], true⟩,
  some ⟨(.st [(0, 9)]), 1, 16, [.string ⟨#[]⟩], true⟩,
  some ⟨.fn, 1, 8, [.nilFunc], false⟩,
  some ⟨.fn, 1, 8, [.nilFunc], false⟩,
  some ⟨.fn, 1, 8, [.nilFunc], false⟩,
  none,
  some ⟨.fn, 1, 8, [.nilFunc], false⟩,
  some ⟨(.ptr 212), 1, 8, [.pointer none], false⟩,
  some ⟨(.mp 255 3), 1, 8, [.map none], false⟩,
  some ⟨(.mp 258 3), 1, 8, [.map none], false⟩,
  some ⟨(.st [(0, 142), (1, 209), (2, 210)]), 3, 40, [.slice none 0 0, .map none, .map none], true⟩,
  some ⟨(.st [(0, 142), (1, 209), (2, 210)]), 3, 40, [.slice none 0 0, .map none, .map none], true⟩,
  some ⟨.fn, 1, 8, [.nilFunc], false⟩,
  some ⟨.fn, 1, 8, [.nilFunc], false⟩,
  some ⟨.fn, 1, 8, [.nilFunc], false⟩,
  some ⟨.fn, 1, 8, [.nilFunc], false⟩,
  some ⟨(.ptr 219), 1, 8, [.pointer none], false⟩,
  some ⟨(.st [(0, 9), (1, 4)]), 2, 24, [.string ⟨#[]⟩, .bool false], true⟩,
  some ⟨(.st [(0, 9), (1, 4)]), 2, 24, [.string ⟨#[]⟩, .bool false], true⟩,
  some ⟨.fn, 1, 8, [.nilFunc], false⟩,
  some ⟨.fn, 1, 8, [.nilFunc], false⟩,
  some ⟨.fn, 1, 8, [.nilFunc], false⟩,
  some ⟨(.st [(0, 80), (1, 222), (2, 204), (3, 222)]), 4, 32, [.nilFunc, .nilFunc, .nilFunc, .nilFunc], true⟩,
  some ⟨(.st [(0, 80), (1, 222), (2, 204), (3, 222)]), 4, 32, [.nilFunc, .nilFunc, .nilFunc, .nilFunc], true⟩,
  some ⟨.fn, 1, 8, [.nilFunc], false⟩,
  some ⟨(.st [(0, 9), (1, 9), (2, 3), (3, 3), (4, 3), (5, 3), (6, 3)]), 7, 72, [.string ⟨#[]⟩, .string ⟨#[]⟩, .int .i64 0, .int .i64 0, .int .i64 0, .int .i64 0, .int .i64 0], true⟩,
  some ⟨(.st [(0, 9), (1, 9), (2, 3), (3, 3), (4, 3), (5, 3), (6, 3)]), 7, 72, [.string ⟨#[]⟩, .string ⟨#[]⟩, .int .i64 0, .int .i64 0, .int .i64 0, .int .i64 0, .int .i64 0], true⟩,
  none,
  some ⟨.fn, 1, 8, [.nilFunc], false⟩,
  none,
  some ⟨.fn, 1, 8, [.nilFunc], false⟩,
  none,
  some ⟨.fn, 1, 8, [.nilFunc], false⟩,
  some ⟨(.st [(0, 9), (1, 86)]), 2, 40, [.string ⟨#[]⟩, .slice none 0 0], true⟩,
  some ⟨(.st [(0, 9), (1, 86)]), 2, 40, [.string ⟨#[]⟩, .slice none 0 0], true⟩,
  none,
  some ⟨.fn, 1, 8, [.nilFunc], false⟩,
  some ⟨(.st [(0, 3), (1, 3), (2, 3), (3, 9)]), 4, 40, [.int .i64 0, .int .i64 0, .int .i64 0, .string ⟨#[]⟩], true⟩,
  some ⟨(.st [(0, 3), (1, 3), (2, 3), (3, 9)]), 4, 40, [.int .i64 0, .int .i64 0, .int .i64 0, .string ⟨#[]⟩], true⟩,
  none,
  some ⟨.fn, 1, 8, [.nilFunc], false⟩,
  some ⟨(.st [(0, 3), (1, 3), (2, 3), (3, 9), (4, 9), (5, 86)]), 6, 80, [.int .i64 0, .int .i64 0, .int .i64 0, .string ⟨#[]⟩, .string ⟨#[]⟩, .slice none 0 0], true⟩,
  some ⟨(.st [(0, 3), (1, 3), (2, 3), (3, 9), (4, 9), (5, 86)]), 6, 80, [.int .i64 0, .int .i64 0, .int .i64 0, .string ⟨#[]⟩, .string ⟨#[]⟩, .slice none 0 0], true⟩,
  none,
  some ⟨.fn, 1, 8, [.nilFunc], false⟩,
  some ⟨(.ptr 248), 1, 8, [.pointer none], false⟩,
  some ⟨(.st [(0, 246), (1, 82)]), 2, 32, [.pointer none, .slice none 0 0], true⟩,
  some ⟨(.st [(0, 246), (1, 82)]), 2, 32, [.pointer none, .slice none 0 0], true⟩,
  some ⟨.ifc, 1, 16, [.nilIface], false⟩,
  some ⟨.ifc, 1, 16, [.nilIface], false⟩,
  some ⟨.fn, 1, 8, [.nilFunc], false⟩,
  none,
  some ⟨.fn, 1, 8, [.nilFunc], false⟩,
  some ⟨(.st [(0, 9), (1, 3), (2, 3)]), 3, 32, [.string ⟨#[]⟩, .int .i64 0, .int .i64 0], true⟩,
  some ⟨(.st [(0, 9), (1, 3), (2, 3)]), 3, 32, [.string ⟨#[]⟩, .int .i64 0, .int .i64 0], true⟩,
  some ⟨(.ptr 193), 1, 8, [.pointer none], false⟩,
  some ⟨(.st [(0, 255), (3, 3), (4, 9)]), 5, 56, [.string ⟨#[]⟩, .int .i64 0, .int .i64 0, .int .i64 0, .string ⟨#[]⟩], true⟩,
  some ⟨(.st [(0, 255), (3, 3), (4, 9)]), 5, 56, [.string ⟨#[]⟩, .int .i64 0, .int .i64 0, .int .i64 0, .string ⟨#[]⟩], true⟩,
  none,
  some ⟨.fn, 1, 8, [.nilFunc], false⟩,
  none,
  some ⟨.fn, 1, 8, [.nilFunc], false⟩,
  some ⟨.fn, 1, 8, [.nilFunc], false⟩,
  some ⟨(.ptr 266), 1, 8, [.pointer none], false⟩,
  some ⟨(.st [(0, 35), (1, 4)]), 2, 32, [.slice none 0 0, .bool false], true⟩,
  some ⟨(.st [(0, 35), (1, 4)]), 2, 32, [.slice none 0 0, .bool false], true⟩,
  some ⟨.fn, 1, 8, [.nilFunc], false⟩,
  some ⟨.fn, 1, 8, [.nilFunc], false⟩,
  some ⟨.fn, 1, 8, [.nilFunc], false⟩,
  none,
  some ⟨.fn, 1, 8, [.nilFunc], false⟩,
  some ⟨(.st [(0, 3), (1, 9)]), 2, 24, [.int .i64 0, .string ⟨#[]⟩], true⟩,
  some ⟨(.st [(0, 3), (1, 9)]), 2, 24, [.int .i64 0, .string ⟨#[]⟩], true⟩,
  some ⟨.fn, 1, 8, [.nilFunc], false⟩,
  none,
  some ⟨.fn, 1, 8, [.nilFunc], false⟩,
  some ⟨.fn, 1, 8, [.nilFunc], false⟩,
  some ⟨.fn, 1, 8, [.nilFunc], false⟩,
  some ⟨.fn, 1, 8, [.nilFunc], false⟩,
  none,
  some ⟨.fn, 1, 8, [.nilFunc], false⟩,
  some ⟨.fn, 1, 8, [.nilFunc], false⟩,
  some ⟨.fn, 1, 8, [.nilFunc], false⟩,
  none,
  some ⟨.fn, 1, 8, [.nilFunc], false⟩,
  some ⟨.fn, 1, 8, [.nilFunc], false⟩,
  some ⟨.fn, 1, 8, [.nilFunc], false⟩,
  some ⟨.fn, 1, 8, [.nilFunc], false⟩,
  some ⟨.fn, 1, 8, [.nilFunc], false⟩,
  none,
  some ⟨.fn, 1, 8, [.nilFunc], false⟩,
  some ⟨.fn, 1, 8, [.nilFunc], false⟩,
  some ⟨(.ptr 5), 1, 8, [.pointer none], false⟩,
  some ⟨.fn, 1, 8, [.nilFunc], false⟩,
  some ⟨.fn, 1, 8, [.nilFunc], false⟩,
  some ⟨.fn, 1, 8, [.nilFunc], false⟩,
  some ⟨(.ptr 321), 1, 8, [.pointer none], false⟩,
  some ⟨.fn, 1, 8, [.nilFunc], false⟩,
  some ⟨.fn, 1, 8, [.nilFunc], false⟩,
  some ⟨.fn, 1, 8, [.nilFunc], false⟩,
  some ⟨.fn, 1, 8, [.nilFunc], false⟩,
  some ⟨.fn, 1, 8, [.nilFunc], false⟩,
  none,
  some ⟨.fn, 1, 8, [.nilFunc], false⟩,
  some ⟨.fn, 1, 8, [.nilFunc], false⟩,
  some ⟨.fn, 1, 8, [.nilFunc], false⟩,
  some ⟨(.ptr 3), 1, 8, [.pointer none], false⟩,
  some ⟨(.sl 307), 1, 24, [.slice none 0 0], false⟩,
  some ⟨.fn, 1, 8, [.nilFunc], false⟩,
  some ⟨.fn, 1, 8, [.nilFunc], false⟩,
  some ⟨.fn, 1, 8, [.nilFunc], false⟩,
  some ⟨.fn, 1, 8, [.nilFunc], false⟩,
  some ⟨.fn, 1, 8, [.nilFunc], false⟩,
  some ⟨(.ptr 316), 1, 8, [.pointer none], false⟩,
  some ⟨(.st [(0, 82), (1, 4)]), 2, 32, [.slice none 0 0, .bool false], true⟩,
  some ⟨(.st [(0, 82), (1, 4)]), 2, 32, [.slice none 0 0, .bool false], true⟩,
  some ⟨.fn, 1, 8, [.nilFunc], false⟩,
  none,
  some ⟨.fn, 1, 8, [.nilFunc], false⟩,
  some ⟨(.st [(0, 9)]), 1, 16, [.string ⟨#[]⟩], true⟩,
  some ⟨(.st [(0, 9)]), 1, 16, [.string ⟨#[]⟩], true⟩,
  some ⟨.fn, 1, 8, [.nilFunc], false⟩,
  some ⟨.fn, 1, 8, [.nilFunc], false⟩,
  some ⟨.fn, 1, 8, [.nilFunc], false⟩,
  some ⟨.fn, 1, 8, [.nilFunc], false⟩,
  some ⟨.fn, 1, 8, [.nilFunc], false⟩,
  some ⟨.fn, 1, 8, [.nilFunc], false⟩,
  some ⟨.fn, 1, 8, [.nilFunc], false⟩,
  some ⟨.fn, 1, 8, [.nilFunc], false⟩,
  some ⟨.fn, 1, 8, [.nilFunc], false⟩,
  some ⟨.fn, 1, 8, [.nilFunc], false⟩,
  some ⟨.fn, 1, 8, [.nilFunc], false⟩,
  some ⟨.fn, 1, 8, [.nilFunc], false⟩,
  some ⟨.fn, 1, 8, [.nilFunc], false⟩,
  none,
  some ⟨.fn, 1, 8, [.nilFunc], false⟩,
  some ⟨.fn, 1, 8, [.nilFunc], false⟩,
  some ⟨.fn, 1, 8, [.nilFunc], false⟩,
  some ⟨.oth, 1, 8, [.pointer none], false⟩,
  some ⟨.fn, 1, 8, [.nilFunc], false⟩,
  some ⟨(.arr 2 3), 2, 16, [.int .i64 0, .int .i64 0], false⟩,
  some ⟨(.sl 341), 1, 24, [.slice none 0 0], false⟩,
  some ⟨.fn, 1, 8, [.nilFunc], false⟩,
  some ⟨.fn, 1, 8, [.nilFunc], false⟩,
  some ⟨.fn, 1, 8, [.nilFunc], false⟩,
  some ⟨.fn, 1, 8, [.nilFunc], false⟩,
  some ⟨.fn, 1, 8, [.nilFunc], false⟩,
  some ⟨(.st []), 0, 0, [], true⟩,
  none,
  none,
  some ⟨.fn, 1, 8, [.nilFunc], false⟩,
  some ⟨.fn, 1, 8, [.nilFunc], false⟩,
  some ⟨.fn, 1, 8, [.nilFunc], false⟩,
  some ⟨.fn, 1, 8, [.nilFunc], false⟩,
  some ⟨(.sl 357), 1, 24, [.slice none 0 0], false⟩,
  some ⟨.fn, 1, 8, [.nilFunc], false⟩,
  some ⟨(.st [(0, 3), (1, 9)]), 2, 24, [.int .i64 0, .string ⟨#[]⟩], true⟩,
  none,
  some ⟨.fn, 1, 8, [.nilFunc], false⟩,
  some ⟨(.arr 32 5), 32, 32, [.int .u8 0, .int .u8 0, .int .u8 0, .int .u8 0, .int .u8 0, .int .u8 0, .int .u8 0, .int .u8 0, .int .u8 0, .int .u8 0, .int .u8 0, .int .u8 0, .int .u8 0, .int .u8 0, .int .u8 0, .int .u8 0, .int .u8 0, .int .u8 0, .int .u8 0, .int .u8 0, .int .u8 0, .int .u8 0, .int .u8 0, .int .u8 0, .int .u8 0, .int .u8 0, .int .u8 0, .int .u8 0, .int .u8 0, .int .u8 0, .int .u8 0, .int .u8 0], false⟩,
  some ⟨.fn, 1, 8, [.nilFunc], false⟩,
  some ⟨.fn, 1, 8, [.nilFunc], false⟩,
  some ⟨(.int .i64), 1, 8, [.int .i64 0], false⟩,
  some ⟨(.ptr 380), 1, 8, [.pointer none], false⟩,
  some ⟨.fn, 1, 8, [.nilFunc], false⟩,
  some ⟨.fn, 1, 8, [.nilFunc], false⟩,
  some ⟨(.arr 24 5), 24, 24, [.int .u8 0, .int .u8 0, .int .u8 0, .int .u8 0, .int .u8 0, .int .u8 0, .int .u8 0, .int .u8 0, .int .u8 0, .int .u8 0, .int .u8 0, .int .u8 0, .int .u8 0, .int .u8 0, .int .u8 0, .int .u8 0, .int .u8 0, .int .u8 0, .int .u8 0, .int .u8 0, .int .u8 0, .int .u8 0, .int .u8 0, .int .u8 0], false⟩,
  some ⟨.fn, 1, 8, [.nilFunc], false⟩,
  some ⟨.fn, 1, 8, [.nilFunc], false⟩,
  none,
  some ⟨.fn, 1, 8, [.nilFunc], false⟩,
  some ⟨.fn, 1, 8, [.nilFunc], false⟩,
  some ⟨.fn, 1, 8, [.nilFunc], false⟩,
  some ⟨.fn, 1, 8, [.nilFunc], false⟩,
  some ⟨.fn, 1, 8, [.nilFunc], false⟩,
  some ⟨.fn, 1, 8, [.nilFunc], false⟩,
  none,
  some ⟨.fn, 1, 8, [.nilFunc], false⟩,
  some ⟨(.st [(0, 9), (1, 9), (2, 250)]), 3, 48, [.string ⟨#[]⟩, .string ⟨#[]⟩, .nilIface], false⟩,
  some ⟨(.st [(0, 9), (1, 9), (2, 250)]), 3, 48, [.string ⟨#[]⟩, .string ⟨#[]⟩, .nilIface], false⟩,
  some ⟨.fn, 1, 8, [.nilFunc], false⟩,
  some ⟨.fn, 1, 8, [.nilFunc], false⟩,
  some ⟨(.arr 20 36), 20, 160, [.int .u64 0, .int .u64 0, .int .u64 0, .int .u64 0, .int .u64 0, .int .u64 0, .int .u64 0, .int .u64 0, .int .u64 0, .int .u64 0, .int .u64 0, .int .u64 0, .int .u64 0, .int .u64 0, .int .u64 0, .int .u64 0, .int .u64 0, .int .u64 0, .int .u64 0, .int .u64 0], false⟩,
  some ⟨(.int .u32), 1, 4, [.int .u32 0], false⟩,
  some ⟨(.arr 65 5), 65, 65, [.int .u8 0, .int .u8 0, .int .u8 0, .int .u8 0, .int .u8 0, .int .u8 0, .int .u8 0, .int .u8 0, .int .u8 0, .int .u8 0, .int .u8 0, .int .u8 0, .int .u8 0, .int .u8 0, .int .u8 0, .int .u8 0, .int .u8 0, .int .u8 0, .int .u8 0, .int .u8 0, .int .u8 0, .int .u8 0, .int .u8 0, .int .u8 0, .int .u8 0, .int .u8 0, .int .u8 0, .int .u8 0, .int .u8 0, .int .u8 0, .int .u8 0, .int .u8 0, .int .u8 0, .int .u8 0, .int .u8 0, .int .u8 0, .int .u8 0, .int .u8 0, .int .u8 0, .int .u8 0, .int .u8 0, .int .u8 0, .int .u8 0, .int .u8 0, .int .u8 0, .int .u8 0, .int .u8 0, .int .u8 0, .int .u8 0, .int .u8 0, .int .u8 0, .int .u8 0, .int .u8 0, .int .u8 0, .int .u8 0, .int .u8 0, .int .u8 0, .int .u8 0, .int .u8 0, .int .u8 0, .int .u8 0, .int .u8 0, .int .u8 0, .int .u8 0, .int .u8 0], false⟩,
  some ⟨.fn, 1, 8, [.nilFunc], false⟩,
  none,
  some ⟨.fn, 1, 8, [.nilFunc], false⟩,
  some ⟨(.ptr 391), 1, 8, [.pointer none], false⟩,
  some ⟨(.st [(0, 9)]), 1, 16, [.string ⟨#[]⟩], true⟩,
  some ⟨(.st [(0, 9)]), 1, 16, [.string ⟨#[]⟩], true⟩,
  some ⟨.fn, 1, 8, [.nilFunc], false⟩,
  some ⟨(.arr 256 5), 256, 256, [.int .u8 0, .int .u8 0, .int .u8 0, .int .u8 0, .int .u8 0, .int .u8 0, .int .u8 0, .int .u8 0, .int .u8 0, .int .u8 0, .int .u8 0, .int .u8 0, .int .u8 0, .int .u8 0, .int .u8 0, .int .u8 0, .int .u8 0, .int .u8 0, .int .u8 0, .int .u8 0, .int .u8 0, .int .u8 0, .int .u8 0, .int .u8 0, .int .u8 0, .int .u8 0, .int .u8 0, .int .u8 0, .int .u8 0, .int .u8 0, .int .u8 0, .int .u8 0, .int .u8 0, .int .u8 0, .int .u8 0, .int .u8 0, .int .u8 0, .int .u8 0, .int .u8 0, .int .u8 0, .int .u8 0, .int .u8 0, .int .u8 0, .int .u8 0, .int .u8 0, .int .u8 0, .int .u8 0, .int .u8 0, .int .u8 0, .int .u8 0, .int .u8 0, .int .u8 0, .int .u8 0, .int .u8 0, .int .u8 0, .int .u8 0, .int .u8 0, .int .u8 0, .int .u8 0, .int .u8 0, .int .u8 0, .int .u8 0, .int .u8 0, .int .u8 0, .int .u8 0, .int .u8 0, .int .u8 0, .int .u8 0, .int .u8 0, .int .u8 0, .int .u8 0, .int .u8 0, .int .u8 0, .int .u8 0, .int .u8 0, .int .u8 0, .int .u8 0, .int .u8 0, .int .u8 0, .int .u8 0, .int .u8 0, .int .u8 0, .int .u8 0, .int .u8 0, .int .u8 0, .int .u8 0, .int .u8 0, .int .u8 0, .int .u8 0, .int .u8 0, .int .u8 0, .int .u8 0, .int .u8 0, .int .u8 0, .int .u8 0, .int .u8 0, .int .u8 0, .int .u8 0, .int .u8 0, .int .u8 0, .int .u8 0, .int .u8 0, .int .u8 0, .int .u8 0, .int .u8 0, .int .u8 0, .int .u8 0, .int .u8 0, .int .u8 0, .int .u8 0, .int .u8 0, .int .u8 0, .int .u8 0, .int .u8 0, .int .u8 0, .int .u8 0, .int .u8 0, .int .u8 0, .int .u8 0, .int .u8 0, .int .u8 0, .int .u8 0, .int .u8 0, .int .u8 0, .int .u8 0, .int .u8 0, .int .u8 0, .int .u8 0, .int .u8 0, .int .u8 0, .int .u8 0, .int .u8 0, .int .u8 0, .int .u8 0, .int .u8 0, .int .u8 0, .int .u8 0, .int .u8 0, .int .u8 0, .int .u8 0, .int .u8 0, .int .u8 0, .int .u8 0, .int .u8 0, .int .u8 0, .int .u8 0, .int .u8 0, .int .u8 0, .int .u8 0, .int .u8 0, .int .u8 0, .int .u8 0, .int .u8 0, .int .u8 0, .int .u8 0, .int .u8 0, .int .u8 0, .int .u8 0, .int .u8 0, .int .u8 0, .int .u8 0, .int .u8 0, .int .u8 0, .int .u8 0, .int .u8 0, .int .u8 0, .int .u8 0, .int .u8 0, .int .u8 0, .int .u8 0, .int .u8 0, .int .u8 0, .int .u8 0, .int .u8 0, .int .u8 0, .int .u8 0, .int .u8 0, .int .u8 0, .int .u8 0, .int .u8 0, .int .u8 0, .int .u8 0, .int .u8 0, .int .u8 0, .int .u8 0, .int .u8 0, .int .u8 0, .int .u8 0, .int .u8 0, .int .u8 0, .int .u8 0, .int .u8 0, .int .u8 0, .int .u8 0, .int .u8 0, .int .u8 0, .int .u8 0, .int .u8 0, .int .u8 0, .int .u8 0, .int .u8 0, .int .u8 0, .int .u8 0, .int .u8 0, .int .u8 0, .int .u8 0, .int .u8 0, .int .u8 0, .int .u8 0, .int .u8 0, .int .u8 0, .int .u8 0, .int .u8 0, .int .u8 0, .int .u8 0, .int .u8 0, .int .u8 0, .int .u8 0, .int .u8 0, .int .u8 0, .int .u8 0, .int .u8 0, .int .u8 0, .int .u8 0, .int .u8 0, .int .u8 0, .int .u8 0, .int .u8 0, .int .u8 0, .int .u8 0, .int .u8 0, .int .u8 0, .int .u8 0, .int .u8 0, .int .u8 0, .int .u8 0, .int .u8 0, .int .u8 0, .int .u8 0, .int .u8 0, .int .u8 0, .int .u8 0, .int .u8 0, .int .u8 0, .int .u8 0, .int .u8 0, .int .u8 0, .int .u8 0, .int .u8 0, .int .u8 0, .int .u8 0, .int .u8 0, .int .u8 0, .int .u8 0, .int .u8 0, .int .u8 0], false⟩,
  some ⟨(.st [(0, 5), (1, 5)]), 2, 2, [.int .u8 0, .int .u8 0], true⟩,
  some ⟨(.st [(0, 5), (1, 5)]), 2, 2, [.int .u8 0, .int .u8 0], true⟩,
  some ⟨(.arr 16 395), 32, 32, [.int .u8 0, .int .u8 0, .int .u8 0, .int .u8 0, .int .u8 0, .int .u8 0, .int .u8 0, .int .u8 0, .int .u8 0, .int .u8 0, .int .u8 0, .int .u8 0, .int .u8 0, .int .u8 0, .int .u8 0, .int .u8 0, .int .u8 0, .int .u8 0, .int .u8 0, .int .u8 0, .int .u8 0, .int .u8 0, .int .u8 0, .int .u8 0, .int .u8 0, .int .u8 0, .int .u8 0, .int .u8 0, .int .u8 0, .int .u8 0, .int .u8 0, .int .u8 0], false⟩,
  none,
  some ⟨.fn, 1, 8, [.nilFunc], false⟩,
  some ⟨(.arr 64 5), 64, 64, [.int .u8 0, .int .u8 0, .int .u8 0, .int .u8 0, .int .u8 0, .int .u8 0, .int .u8 0, .int .u8 0, .int .u8 0, .int .u8 0, .int .u8 0, .int .u8 0, .int .u8 0, .int .u8 0, .int .u8 0, .int .u8 0, .int .u8 0, .int .u8 0, .int .u8 0, .int .u8 0, .int .u8 0, .int .u8 0, .int .u8 0, .int .u8 0, .int .u8 0, .int .u8 0, .int .u8 0, .int .u8 0, .int .u8 0, .int .u8 0, .int .u8 0, .int .u8 0, .int .u8 0, .int .u8 0, .int .u8 0, .int .u8 0, .int .u8 0, .int .u8 0, .int .u8 0, .int .u8 0, .int .u8 0, .int .u8 0, .int .u8 0, .int .u8 0, .int .u8 0, .int .u8 0, .int .u8 0, .int .u8 0, .int .u8 0, .int .u8 0, .int .u8 0, .int .u8 0, .int .u8 0, .int .u8 0, .int .u8 0, .int .u8 0, .int .u8 0, .int .u8 0, .int .u8 0, .int .u8 0, .int .u8 0, .int .u8 0, .int .u8 0, .int .u8 0], false⟩,
  some ⟨(.st [(0, 17), (1, 17), (2, 17), (3, 9)]), 4, 40, [.pointer none, .pointer none, .pointer none, .string ⟨#[]⟩], false⟩,
  some ⟨(.st [(0, 17), (1, 17), (2, 17), (3, 9)]), 4, 40, [.pointer none, .pointer none, .pointer none, .string ⟨#[]⟩], false⟩,
  some ⟨(.arr 0 16), 0, 0, [], false⟩,
  some ⟨(.st [(0, 402)]), 0, 0, [], false⟩,
  some ⟨(.st [(0, 402)]), 0, 0, [], false⟩,
  some ⟨(.int .u8), 1, 1, [.int .u8 0], false⟩,
  some ⟨(.int .u8), 1, 1, [.int .u8 0], false⟩,
  some ⟨.fn, 1, 8, [.nilFunc], false⟩,
  some ⟨(.int .i32), 1, 4, [.int .i32 0], false⟩,
  some ⟨(.int .i32), 1, 4, [.int .i32 0], false⟩,
  some ⟨(.st [(0, 12), (1, 12), (2, 384), (3, 405), (4, 5), (5, 5), (6, 406), (7, 407), (8, 293), (9, 408), (10, 409)]), 11, 48, [.int .u64 0, .int .u64 0, .int .u32 0, .int .u8 0, .int .u8 0, .int .u8 0, .int .u8 0, .nilFunc, .pointer none, .int .i32 0, .int .i32 0], false⟩,
  some ⟨(.st [(0, 12), (1, 12), (2, 384), (3, 405), (4, 5), (5, 5), (6, 406), (7, 407), (8, 293), (9, 408), (10, 409)]), 11, 48, [.int .u64 0, .int .u64 0, .int .u32 0, .int .u8 0, .int .u8 0, .int .u8 0, .int .u8 0, .nilFunc, .pointer none, .int .i32 0, .int .i32 0], false⟩,
  some ⟨.fn, 1, 8, [.nilFunc], false⟩,
  some ⟨.fn, 1, 8, [.nilFunc], false⟩]
theorem TTok (n : Nat) (I : World → Prop) : Ctx.ok ⟨Tryz.prog, TT, n, I⟩ := Ctx.ok_of (by kernel_rfl) n I
theorem mixed : Tryz.prog.follows .mixedOrders = true := by kernel_rfl
end Go.Proofs.YtdmgmkifjboojaaGreatDoor
namespace Go.Proofs.YtdmgmkifjboojaaGreatDoor
open Go.SX
def GG : Nat → Option (List Value) := fun _ => none
end Go.Proofs.YtdmgmkifjboojaaGreatDoor
set_option maxRecDepth 100000
set_option linter.unusedVariables false
set_option linter.unusedSimpArgs false
namespace Go.SX
theorem sInts_get (s : ByteArray) (q : Nat) (h : q < s.size) : (sInts s)[q]? = some (bAt s q) := by
  have h' : q < s.data.toList.length := by simpa using h
  simp only [sInts, List.getElem?_map, List.getElem?_eq_getElem h', Option.map_some, bAt, Int.toNat_natCast, List.getD, Option.getD_some]
theorem bAt_range (s : ByteArray) (q : Int) : 0 ≤ bAt s q ∧ bAt s q ≤ 255 := by
  unfold bAt
  have := (s.data.toList.getD q.toNat 0).toNat_lt
  omega
theorem strOf_sInts (d : ByteArray) : strOfNums (sInts d) = d := by
  apply ByteArray.ext
  apply Array.toList_inj.1
  rw [strOfNums_data]
  unfold sInts
  rw [List.map_map]
  conv => rhs; rw [← List.map_id d.data.toList]
  apply List.map_congr_left
  intro b _
  simp
set_option maxHeartbeats 4000000 in
def lbOk (s : ByteArray) (p : Int) : Prop := p < s.size ∧ bAt s p ≠ 0 ∧ bAt s p ≤ 63 ∧ p + 1 + bAt s p ≤ s.size
def lbPos (s : ByteArray) : Nat → Int
  | 0 => 0
  | k + 1 => lbPos s k + 1 + bAt s (lbPos s k)
structure LbN (s : ByteArray) (N : Nat) : Prop where
  ok : ∀ k, k < N → lbOk s (lbPos s k)
  stop : ¬ lbOk s (lbPos s N)
theorem lbPos_nn (s : ByteArray) : ∀ k, 0 ≤ lbPos s k
  | 0 => by simp [lbPos]
  | k + 1 => by
    have := lbPos_nn s k
    have := bAt_range s (lbPos s k)
    simp only [lbPos]
    omega
theorem lbN_from (s : ByteArray) : ∀ (f k : Nat), (∀ j, j < k → lbOk s (lbPos s j)) → (s.size - lbPos s k).toNat < f → ∃ N, LbN s N
  | 0, k, _, h => by omega
  | f + 1, k, hk, h => by
    by_cases hc : lbOk s (lbPos s k)
    · refine lbN_from s f (k + 1) (fun j hj => ?_) ?_
      · by_cases e : j = k
        · subst e; exact hc
        · exact hk j (by omega)
      · have := bAt_range s (lbPos s k)
        have h0 := hc.1
        simp only [lbPos]
        omega
    · exact ⟨k, hk, hc⟩
theorem lbN_ex (s : ByteArray) : ∃ N, LbN s N := lbN_from s ((s.size - lbPos s 0).toNat + 1) 0 (fun j hj => by omega) (by omega)
theorem LbN.le {s : ByteArray} {N : Nat} (h : LbN s N) : ∀ k, k ≤ N → lbPos s k ≤ s.size
  | 0, _ => by simp [lbPos]
  | k + 1, hk => by
    have := (h.ok k (by omega)).2.2.2
    simp only [lbPos]
    exact this
def lbS (s : ByteArray) (k : Nat) : ByteArray := s.extract (lbPos s k + 1).toNat (lbPos s k + 1 + bAt s (lbPos s k)).toNat
def lbXs (s : ByteArray) (k : Nat) : List Value := [.int .i64 (lbPos s k), .string (lbS s k)]
theorem lbN_uniq {s : ByteArray} {N M : Nat} (h : LbN s N) (k : LbN s M) : N = M := by
  rcases Nat.lt_trichotomy N M with h1 | h1 | h1
  · exact (h.stop (k.ok N h1)).elim
  · exact h1
  · exact (k.stop (h.ok M h1)).elim

def rtB (s : ByteArray) (N : Nat) : Bool := decide (0 < s.size ∧ s.size ≤ 255 ∧ lbPos s N = s.size - 1 ∧ bAt s (lbPos s N) = 0)
noncomputable def rgN (s : ByteArray) : Nat := (lbN_ex s).choose
theorem rgN_ok (s : ByteArray) : LbN s (rgN s) := (lbN_ex s).choose_spec
noncomputable def rgt (s : ByteArray) : Bool := rtB s (rgN s)
theorem rgt_size {s : ByteArray} (h : rgt s = true) : 0 < s.size ∧ s.size ≤ 255 := by
  unfold rgt rtB at h
  simp only [decide_eq_true_eq] at h
  exact ⟨h.1, h.2.1⟩
theorem rgt_end {s : ByteArray} (h : rgt s = true) : lbPos s (rgN s) = s.size - 1 ∧ bAt s (lbPos s (rgN s)) = 0 := by
  unfold rgt rtB at h
  simp only [decide_eq_true_eq] at h
  exact h.2.2
def lowb (x : Int) : Int := if 65 ≤ x ∧ x ≤ 90 then x + 32 else x
theorem lowb_range {x : Int} (h : 0 ≤ x ∧ x ≤ 255) : 0 ≤ lowb x ∧ lowb x ≤ 255 := by unfold lowb; split <;> omega
theorem lowb_zero (x : Int) : lowb x = 0 ↔ x = 0 := by unfold lowb; split <;> omega
theorem lowb_63 (x : Int) : lowb x ≤ 63 ↔ x ≤ 63 := by unfold lowb; split <;> omega
theorem lowb_le {x : Int} (h : x ≤ 63) : lowb x = x := by unfold lowb; rw [if_neg (by omega)]
def lwC (s : ByteArray) (q : Nat) : List Int := ((sInts s).take q).map lowb ++ (sInts s).drop q
theorem lwC_len (s : ByteArray) (q : Nat) : (lwC s q).length = s.size := by
  simp [lwC, sInts_length, List.length_take]; omega
theorem lwC_zero (s : ByteArray) : lwC s 0 = sInts s := by simp [lwC]
theorem lwC_at (s : ByteArray) (q : Nat) (h : q < s.size) : (lwC s q).getD q 0 = bAt s q := by
  have h1 := sInts_get s q h
  unfold lwC
  rw [List.getD_eq_getElem?_getD, List.getElem?_append_right (by simp [List.length_take, sInts_length]; omega)]
  simp only [List.length_map, List.length_take, sInts_length, show min q s.size = q by omega, Nat.sub_self, List.getElem?_drop, Nat.add_zero]
  rw [h1]; rfl
theorem setZ_app : ∀ (a : List Int) (x : Int) (r : List Int) (z : Int), setZ (a ++ x :: r) a.length z = a ++ z :: r
  | [], x, r, z => rfl
  | y :: a, x, r, z => by simp [setZ, setZ_app a x r z]
theorem lwC_set (s : ByteArray) (q : Nat) (h : q < s.size) : setZ (lwC s q) q (lowb (bAt s q)) = lwC s (q + 1) := by
  have h1 := sInts_get s q h
  have hlt : q < (sInts s).length := by rw [sInts_length]; exact h
  have hd : (sInts s).drop q = bAt s q :: (sInts s).drop (q + 1) := by
    rw [List.drop_eq_getElem_cons hlt]
    rw [List.getElem?_eq_getElem hlt] at h1
    rw [Option.some.inj h1]
  have ht : (sInts s).take (q + 1) = (sInts s).take q ++ [bAt s q] := by
    rw [List.take_add_one, h1]; rfl
  unfold lwC
  rw [hd, ht, List.map_append]
  have := setZ_app (((sInts s).take q).map lowb) (bAt s q) ((sInts s).drop (q + 1)) (lowb (bAt s q))
  rw [show (((sInts s).take q).map lowb).length = q by simp [List.length_take, sInts_length]; omega] at this
  rw [this]
  simp
theorem lwC_len1 (s : ByteArray) (q : Nat) (h : q < s.size) (h63 : bAt s q ≤ 63) : lwC s (q + 1) = lwC s q := by
  rw [← lwC_set s q h, show lowb (bAt s q) = bAt s q from if_neg (by omega)]
  have h1 := lwC_at s q h
  have hl := lwC_len s q
  have : ∀ (l : List Int) (q : Nat), q < l.length → setZ l q (l.getD q 0) = l := by
    intro l
    induction l with
    | nil => intro q h; simp at h
    | cons a l ih =>
      intro q h
      cases q with
      | zero => simp [setZ]
      | succ q =>
        have := ih q (by simpa using h)
        simpa [setZ] using this
  rw [← h1]
  exact this _ _ (by omega)
theorem lwC_all (s : ByteArray) : lwC s s.size = (sInts s).map lowb := by
  unfold lwC
  rw [List.take_of_length_le (by rw [sInts_length]; exact Nat.le_refl _), List.drop_eq_nil_of_le (by rw [sInts_length]; exact Nat.le_refl _), List.append_nil]

def lowS (s : ByteArray) : ByteArray := strOfNums ((sInts s).map lowb)
noncomputable def lowN (s : ByteArray) : ByteArray := if rgt s = true then lowS s else s
theorem lowS_size (s : ByteArray) : (lowS s).size = s.size := by
  unfold lowS
  rw [← sInts_length (strOfNums _)]
  simp [sInts, strOfNums_data]
theorem sInts_range (s : ByteArray) : ∀ x, x ∈ sInts s → 0 ≤ x ∧ x ≤ 255 := by
  intro x hx
  unfold sInts at hx
  obtain ⟨b, _, rfl⟩ := List.mem_map.1 hx
  have := b.toNat_lt
  omega
theorem sInts_str' (l : List Int) (h : ∀ x, x ∈ l → 0 ≤ x ∧ x ≤ 255) : sInts (strOfNums l) = l := by
  unfold sInts
  rw [strOfNums_data, List.map_map]
  conv => rhs; rw [← List.map_id l]
  apply List.map_congr_left
  intro x hx
  have := h x hx
  simp
  omega
theorem sInts_lowS (s : ByteArray) : sInts (lowS s) = (sInts s).map lowb := by
  unfold lowS
  refine sInts_str' _ fun x hx => ?_
  obtain ⟨y, hy, rfl⟩ := List.mem_map.1 hx
  exact lowb_range (sInts_range s y hy)
theorem bAt_sInts (s : ByteArray) (p : Int) : bAt s p = (sInts s).getD p.toNat 0 := by
  unfold bAt sInts
  simp only [List.getD_eq_getElem?_getD, List.getElem?_map]
  cases s.data.toList[p.toNat]? <;> rfl
theorem bAt_lowS (s : ByteArray) (p : Int) : bAt (lowS s) p = lowb (bAt s p) := by
  rw [bAt_sInts, bAt_sInts, sInts_lowS]
  simp only [List.getD_eq_getElem?_getD, List.getElem?_map]
  cases (sInts s)[p.toNat]? <;> rfl
theorem lbPos_low {s : ByteArray} {N : Nat} (h : LbN s N) : ∀ k, k ≤ N → lbPos (lowS s) k = lbPos s k
  | 0, _ => rfl
  | k + 1, hk => by
    have ih := lbPos_low h k (by omega)
    obtain ⟨o1, o2, o3, o4⟩ := h.ok k (by omega)
    simp only [lbPos, ih, bAt_lowS]
    rw [lowb_le o3]
theorem lbOk_low (s : ByteArray) (p : Int) : lbOk (lowS s) p ↔ lbOk s p := by
  unfold lbOk
  rw [lowS_size, bAt_lowS]
  constructor
  · rintro ⟨h1, h2, h3, h4⟩
    have h3' := (lowb_63 _).1 h3
    rw [lowb_le h3'] at h4
    exact ⟨h1, fun e => h2 ((lowb_zero _).2 e), h3', h4⟩
  · rintro ⟨h1, h2, h3, h4⟩
    rw [lowb_le h3]
    exact ⟨h1, h2, h3, h4⟩
theorem LbN.low {s : ByteArray} {N : Nat} (h : LbN s N) : LbN (lowS s) N := by
  refine ⟨fun k hk => ?_, fun hx => ?_⟩
  · rw [lbPos_low h k (by omega), lbOk_low]
    exact h.ok k hk
  · rw [lbPos_low h N (Nat.le_refl _), lbOk_low] at hx
    exact h.stop hx
theorem rgN_low (s : ByteArray) : rgN (lowS s) = rgN s := lbN_uniq (rgN_ok (lowS s)) (rgN_ok s).low
theorem rgt_lowS (s : ByteArray) : rgt (lowS s) = rgt s := by
  unfold rgt
  rw [rgN_low]
  unfold rtB
  rw [lowS_size, lbPos_low (rgN_ok s) _ (Nat.le_refl _), bAt_lowS]
  congr 1
  simp only [lowb_zero]
theorem rgt_low (s : ByteArray) : rgt (lowN s) = rgt s := by
  unfold lowN
  split
  · rw [rgt_lowS]
  · rfl
theorem lowN_size (s : ByteArray) : (lowN s).size = s.size := by
  unfold lowN
  split
  · exact lowS_size s
  · rfl
def sufN (s : ByteArray) (k : Nat) : ByteArray := s.extract (lbPos s k).toNat s.size
noncomputable def undB (a b : ByteArray) : Bool := rgt a && rgt b && decide (∃ k, k ≤ rgN a ∧ sufN (lowN a) k = lowN b)
noncomputable def eqB (a b : ByteArray) : Bool := rgt a && rgt b && decide (lowN a = lowN b)
theorem undB_iff {a b : ByteArray} : undB a b = true ↔ rgt a = true ∧ rgt b = true ∧ ∃ k, k ≤ rgN a ∧ sufN (lowN a) k = lowN b := by
  unfold undB
  simp only [Bool.and_eq_true, decide_eq_true_eq, and_assoc]
theorem eqB_iff {a b : ByteArray} : eqB a b = true ↔ rgt a = true ∧ rgt b = true ∧ lowN a = lowN b := by
  unfold eqB
  simp only [Bool.and_eq_true, decide_eq_true_eq, and_assoc]
theorem sufN_zero (s : ByteArray) : sufN s 0 = s := by
  unfold sufN lbPos
  exact ByteArray.extract_zero_size
theorem sufN_last {s : ByteArray} (h : rgt s = true) : sufN s (rgN s) = ⟨#[0]⟩ := by
  obtain ⟨e1, e2⟩ := rgt_end h
  have hz := rgt_size h
  have hsz : (sufN s (rgN s)).size = 1 := by
    unfold sufN
    rw [ByteArray.size_extract]
    omega
  have hb : sInts (sufN s (rgN s)) = [0] := by
    unfold sufN
    unfold sInts
    rw [ByteArray.data_extract]
    simp only [Array.toList_extract, List.extract_eq_take_drop, List.map_take, List.map_drop]
    have h1 : (sInts s).drop (lbPos s (rgN s)).toNat = [bAt s (lbPos s (rgN s))] := by
      have hlt : (lbPos s (rgN s)).toNat < (sInts s).length := by rw [sInts_length]; omega
      have h2 := sInts_get s (lbPos s (rgN s)).toNat (by omega)
      rw [List.drop_eq_getElem_cons hlt]
      rw [List.getElem?_eq_getElem hlt] at h2
      rw [Option.some.inj h2, List.drop_eq_nil_of_le (by rw [sInts_length]; omega), show (((lbPos s (rgN s)).toNat : Nat) : Int) = lbPos s (rgN s) by omega]
    have h1' : (s.data.toList.map fun b => (b.toNat : Int)).drop (lbPos s (rgN s)).toNat = [bAt s (lbPos s (rgN s))] := h1
    rw [h1', e2]
    rw [List.take_of_length_le (by simp; omega)]
  have := strOf_sInts (sufN s (rgN s))
  rw [hb] at this
  rw [← this]
  rfl
theorem undB_congr {a b c : ByteArray} (h : eqB b c = true) : undB a b = undB a c := by
  obtain ⟨h1, h2, h3⟩ := eqB_iff.1 h
  unfold undB
  rw [h1, h2, h3]
theorem eqB_self {a : ByteArray} (h : rgt a = true) : eqB a a = true := eqB_iff.2 ⟨h, h, rfl⟩
theorem least_ex {p : Nat → Prop} (h : ∃ k, p k) : ∃ m, p m ∧ ∀ j, j < m → ¬ p j := by
  obtain ⟨k, hk⟩ := h
  induction k using Nat.strongRecOn with
  | _ k ih =>
    by_cases hx : ∃ j, j < k ∧ p j
    · obtain ⟨j, h1, h2⟩ := hx
      exact ih j h1 h2
    · exact ⟨k, hk, fun j hj hp => hx ⟨j, hj, hp⟩⟩
end Go.SX
set_option maxRecDepth 100000
set_option linter.unusedVariables false
set_option linter.unusedSimpArgs false
namespace Go.SX
def sNat (s : ByteArray) : List Nat := s.data.toList.map (·.toNat)
theorem sNat_length (s : ByteArray) : (sNat s).length = s.size := by simp [sNat]
theorem bAt_sNat (s : ByteArray) (p : Int) : bAt s p = (((sNat s).getD p.toNat 0 : Nat) : Int) := by
  unfold bAt sNat
  simp only [List.getD_eq_getElem?_getD, List.getElem?_map]
  cases s.data.toList[p.toNat]? <;> rfl
theorem sNat_inj {s t : ByteArray} (h : sNat s = sNat t) : s = t := by
  apply ByteArray.ext
  apply Array.toList_inj.1
  unfold sNat at h
  have : ∀ (a b : List UInt8), a.map (·.toNat) = b.map (·.toNat) → a = b := by
    intro a
    induction a with
    | nil => intro b h; cases b with | nil => rfl | cons => simp at h
    | cons x a ih =>
      intro b h
      cases b with
      | nil => simp at h
      | cons y b =>
        simp only [List.map_cons, List.cons.injEq] at h
        rw [ih b h.2, UInt8.toNat_inj.1 h.1]
  exact this _ _ h
theorem sNat_extract (s : ByteArray) (i : Nat) : sNat (s.extract i s.size) = (sNat s).drop i := by
  unfold sNat
  rw [ByteArray.data_extract]
  simp only [Array.toList_extract, List.extract_eq_take_drop, List.map_take, List.map_drop]
  exact List.take_of_length_le (by simp)
def rtL : Nat → List Nat → Bool
  | 0, _ => false
  | _ + 1, [] => false
  | f + 1, x :: l => match Nat.beq x 0 with
    | true => l.isEmpty
    | false => match Nat.ble x 63 with
      | true => rtL f (l.drop x)
      | false => false
def rgtC (s : ByteArray) : Bool := Nat.ble s.size 255 && rtL (s.size + 1) (sNat s)
theorem drop_cons (s : ByteArray) (p : Int) (h0 : 0 ≤ p) (h : p < s.size) : (sNat s).drop p.toNat = (bAt s p).toNat :: (sNat s).drop (p.toNat + 1) := by
  have hlt : p.toNat < (sNat s).length := by rw [sNat_length]; omega
  rw [List.drop_eq_getElem_cons hlt, bAt_sNat]
  simp [List.getD_eq_getElem?_getD, List.getElem?_eq_getElem hlt]
theorem rtL_ok (s : ByteArray) : ∀ (f k : Nat), (∀ j, j < k → lbOk s (lbPos s j)) → (s.size - lbPos s k).toNat < f →
    (rtL f ((sNat s).drop (lbPos s k).toNat) = true ↔ lbPos s (rgN s) = s.size - 1 ∧ bAt s (lbPos s (rgN s)) = 0)
  | 0, k, _, h => by omega
  | f + 1, k, hk, h => by
    have p0 := lbPos_nn s k
    have hr := bAt_range s (lbPos s k)
    by_cases hc : lbOk s (lbPos s k)
    · obtain ⟨o1, o2, o3, o4⟩ := id hc
      rw [drop_cons s _ p0 o1]
      simp only [rtL]
      have e1 : Nat.beq (bAt s (lbPos s k)).toNat 0 = false := by
        cases e : Nat.beq (bAt s (lbPos s k)).toNat 0 with
        | false => rfl
        | true => have := Nat.eq_of_beq_eq_true e; omega
      have e2 : Nat.ble (bAt s (lbPos s k)).toNat 63 = true := Nat.ble_eq_true_of_le (by omega)
      simp only [e1, e2]
      have hn : lbPos s (k + 1) = lbPos s k + 1 + bAt s (lbPos s k) := rfl
      have := rtL_ok s f (k + 1) (fun j hj => by
        by_cases e : j = k
        · subst e; exact hc
        · exact hk j (by omega)) (by omega)
      rw [← this, List.drop_drop, hn]
      have e3 : (lbPos s k + 1 + bAt s (lbPos s k)).toNat = (lbPos s k).toNat + 1 + (bAt s (lbPos s k)).toNat := by omega
      rw [e3]
    · have hN : rgN s = k := lbN_uniq (rgN_ok s) ⟨hk, hc⟩
      rw [hN]
      by_cases h1 : lbPos s k < s.size
      · rw [drop_cons s _ p0 h1]
        simp only [rtL]
        by_cases h2 : bAt s (lbPos s k) = 0
        · rw [h2]
          simp only [Int.toNat_zero, Nat.beq_refl, List.isEmpty_iff, List.drop_eq_nil_iff, sNat_length, and_true]
          omega
        · have e1 : Nat.beq (bAt s (lbPos s k)).toNat 0 = false := by
            cases e : Nat.beq (bAt s (lbPos s k)).toNat 0 with
            | false => rfl
            | true => have := Nat.eq_of_beq_eq_true e; omega
          simp only [e1]
          constructor
          · intro hx
            exfalso
            split at hx
            · rename_i h3
              have h3 := Nat.le_of_ble_eq_true h3
              have h4 : ¬ (lbPos s k + 1 + bAt s (lbPos s k) ≤ s.size) := fun h5 => hc ⟨h1, h2, by omega, h5⟩
              rw [List.drop_drop, List.drop_eq_nil_of_le (by rw [sNat_length]; omega)] at hx
              cases f <;> simp [rtL] at hx
            · cases hx
          · rintro ⟨_, hz⟩
            exact (h2 hz).elim
      · rw [List.drop_eq_nil_of_le (by rw [sNat_length]; omega)]
        simp only [rtL, Bool.false_eq_true, false_iff]
        omega
theorem rgtC_eq (s : ByteArray) : rgtC s = rgt s := by
  have h := rtL_ok s (s.size + 1) 0 (fun j hj => by omega) (by simp [lbPos])
  simp only [lbPos, Int.toNat_zero, List.drop_zero] at h
  unfold rgtC rgt rtB
  rw [Bool.eq_iff_iff]
  simp only [Bool.and_eq_true, decide_eq_true_eq, h]
  have := lbPos_nn s (rgN s)
  constructor
  · rintro ⟨h1, h2, h3⟩
    exact ⟨by omega, Nat.le_of_ble_eq_true h1, h2, h3⟩
  · rintro ⟨h0, h1, h2, h3⟩
    exact ⟨Nat.ble_eq_true_of_le h1, h2, h3⟩
def lowc (x : Nat) : Nat := match Nat.ble 65 x && Nat.ble x 90 with
  | true => x + 32
  | false => x
theorem lowc_eq (x : Nat) : ((lowc x : Nat) : Int) = lowb x := by
  unfold lowc lowb
  by_cases h : 65 ≤ x ∧ x ≤ 90
  · rw [show (Nat.ble 65 x && Nat.ble x 90) = true by simp [Nat.ble_eq_true_of_le h.1, Nat.ble_eq_true_of_le h.2]]
    rw [if_pos (by omega)]
    simp
  · rw [show (Nat.ble 65 x && Nat.ble x 90) = false by
      cases e : (Nat.ble 65 x && Nat.ble x 90) with
      | false => rfl
      | true =>
        simp only [Bool.and_eq_true] at e
        exact (h ⟨Nat.le_of_ble_eq_true e.1, Nat.le_of_ble_eq_true e.2⟩).elim]
    rw [if_neg (by omega)]
def lowL (s : ByteArray) : List Nat := (sNat s).map lowc
theorem sInts_sNat (s : ByteArray) : sInts s = (sNat s).map fun n : Nat => (n : Int) := by
  unfold sInts sNat
  rw [List.map_map]
  rfl
theorem sNat_lowS (s : ByteArray) : sNat (lowS s) = lowL s := by
  have h := sInts_lowS s
  rw [sInts_sNat, sInts_sNat, List.map_map] at h
  have : ∀ (a b : List Nat), a.map (fun n : Nat => (n : Int)) = b.map (lowb ∘ fun n : Nat => (n : Int)) → a = b.map lowc := by
    intro a
    induction a with
    | nil => intro b h; cases b with | nil => rfl | cons => simp at h
    | cons x a ih =>
      intro b h
      cases b with
      | nil => simp at h
      | cons y b =>
        simp only [List.map_cons, List.cons.injEq, Function.comp] at h ⊢
        exact ⟨by have := lowc_eq y; omega, ih b h.2⟩
  exact this _ _ h
def nEqL : List Nat → List Nat → Bool
  | [], [] => true
  | a :: l, b :: r => match Nat.beq a b with
    | true => nEqL l r
    | false => false
  | _, _ => false
theorem nEqL_iff : ∀ (l r : List Nat), nEqL l r = true ↔ l = r
  | [], [] => by simp [nEqL]
  | [], _ :: _ => by simp [nEqL]
  | _ :: _, [] => by simp [nEqL]
  | a :: l, b :: r => by
    simp only [nEqL, List.cons.injEq]
    cases h : Nat.beq a b with
    | true => simp [Nat.eq_of_beq_eq_true h, nEqL_iff l r]
    | false =>
      have : a ≠ b := fun e => by subst e; simp at h
      simp [this]
def undL : Nat → List Nat → List Nat → Bool
  | 0, _, _ => false
  | f + 1, l, m => match nEqL l m with
    | true => true
    | false => match l with
      | [] => false
      | x :: r => match Nat.beq x 0 with
        | true => false
        | false => undL f (r.drop x) m
def undC (a b : ByteArray) : Bool := rgtC a && rgtC b && undL (a.size + 1) (lowL a) (lowL b)
def eqbC (a b : ByteArray) : Bool := rgtC a && rgtC b && nEqL (lowL a) (lowL b)
theorem undL_ok (s : ByteArray) (hs : rgt s = true) (m : List Nat) : ∀ (f k : Nat), k ≤ rgN s → (s.size - lbPos s k).toNat < f →
    (undL f ((sNat s).drop (lbPos s k).toNat) m = true ↔ ∃ j, k ≤ j ∧ j ≤ rgN s ∧ (sNat s).drop (lbPos s j).toNat = m)
  | 0, k, _, h => by omega
  | f + 1, k, hk, h => by
    have p0 := lbPos_nn s k
    have hN := rgN_ok s
    obtain ⟨e1, e2⟩ := rgt_end hs
    have hz := (rgt_size hs).1
    simp only [undL]
    cases hq : nEqL ((sNat s).drop (lbPos s k).toNat) m with
    | true => simp only [true_iff]; exact ⟨k, Nat.le_refl _, hk, (nEqL_iff _ _).1 hq⟩
    | false =>
      have hne : (sNat s).drop (lbPos s k).toNat ≠ m := fun e => by rw [(nEqL_iff _ _).2 e] at hq; cases hq
      simp only
      by_cases hkN : k = rgN s
      · have hp : lbPos s k < s.size := by rw [hkN, e1]; omega
        rw [drop_cons s _ p0 hp, hkN, e2]
        simp only [Int.toNat_zero, Nat.beq_refl, Bool.false_eq_true, false_iff]
        rintro ⟨j, h1, h2, h3⟩
        obtain rfl : j = k := by omega
        exact hne h3
      · obtain ⟨o1, o2, o3, o4⟩ := hN.ok k (by omega)
        have hr := bAt_range s (lbPos s k)
        rw [drop_cons s _ p0 o1]
        have e1 : Nat.beq (bAt s (lbPos s k)).toNat 0 = false := by
          cases e : Nat.beq (bAt s (lbPos s k)).toNat 0 with
          | false => rfl
          | true => have := Nat.eq_of_beq_eq_true e; omega
        simp only [e1]
        have hn : lbPos s (k + 1) = lbPos s k + 1 + bAt s (lbPos s k) := rfl
        have := undL_ok s hs m f (k + 1) (by omega) (by omega)
        have e3 : (lbPos s k + 1 + bAt s (lbPos s k)).toNat = (lbPos s k).toNat + 1 + (bAt s (lbPos s k)).toNat := by omega
        rw [hn, e3] at this
        rw [List.drop_drop, this]
        constructor
        · rintro ⟨j, h1, h2⟩
          exact ⟨j, by omega, h2⟩
        · rintro ⟨j, h1, h2, h3⟩
          refine ⟨j, ?_, h2, h3⟩
          by_cases e : j = k
          · subst e; exact (hne h3).elim
          · omega
theorem undC_eq (a b : ByteArray) : undC a b = undB a b := by
  unfold undC
  rw [rgtC_eq, rgtC_eq]
  unfold undB
  cases ha : rgt a with
  | false => simp
  | true =>
    cases hb : rgt b with
    | false => simp
    | true =>
      simp only [Bool.true_and]
      have hla : lowN a = lowS a := if_pos ha
      have hlb : lowN b = lowS b := if_pos hb
      have hra : rgt (lowS a) = true := by rw [rgt_lowS]; exact ha
      have h := undL_ok (lowS a) hra (lowL b) (a.size + 1) 0 (Nat.zero_le _) (by simp [lbPos, lowS_size])
      simp only [lbPos, Int.toNat_zero, List.drop_zero, sNat_lowS] at h
      rw [Bool.eq_iff_iff, h, decide_eq_true_eq, hla, hlb, rgN_low]
      constructor
      · rintro ⟨j, _, h1, h2⟩
        refine ⟨j, h1, sNat_inj ?_⟩
        unfold sufN
        rw [sNat_extract, sNat_lowS, sNat_lowS]
        exact h2
      · rintro ⟨j, h1, h2⟩
        refine ⟨j, Nat.zero_le _, h1, ?_⟩
        rw [← sNat_lowS b, ← h2]
        unfold sufN
        rw [sNat_extract, sNat_lowS]
end Go.SX
set_option maxRecDepth 100000
set_option linter.unusedVariables false
namespace Go.Proofs.YtdmgmkifjboojaaGreatDoor
open Go.SX
theorem yf_box {J : (Nat → Prop) → World → Prop} {B : Nat} {u : Value} (h : ∀ D w, J D w → w.cell? ⟨B, 0, none⟩ = some u ∧ D B) : ∀ bl D w, YF J bl D w → ∀ i x, [u][i]? = some x → w.cell? ⟨B, 0 + i, none⟩ = some x := by
  rintro bl D w ⟨w2, h1, h2⟩ i x hx
  obtain ⟨g1, g2⟩ := h D w2 h1
  match i, hx with
  | 0, hx =>
    cases hx
    rw [← g1]
    simp only [World.cell?, h2 B g2]
set_option maxHeartbeats 4000000 in
theorem labels_it (s : ByteArray) (hs : s.size < 4294967281) (N : Nat) (hN : LbN s N) : IterOk Tryz.prog 80 (.string s) N (lbXs s) := by
  intro W B l J D hK hB hY h0 hD
  refine (iter_of (P := Tryz.prog) (T := TT) (W := W) (f := 80) (args := [.func (.yield l) #[] #[], .pointer (some ⟨B, 0, none⟩)]) (J0 := J 0) (good := fun J' => J' = J N) (D := D) (TTok 0 _) Tryz.func80 rfl h0 hD (fun J' e => e ▸ hK N (Nat.le_refl _)) rfl ?_).mono ?_
  rotate_left
  · rintro e w' ⟨h1, J', D', rfl, h2, h3⟩
    exact ⟨h1, D', h2, h3⟩
  repeat' ((conv => whnf); first | (with_reducible first | refine TR.seq ?_ | refine TR.region (TTok _ _) ?_ | refine TR.drawn (TTok _ _) mixed ?_ | refine TR.block ?_ | refine TR.ret ?_ | refine TR.exit ?_ | refine TR.skip ?_ | refine TR.condB rfl ?_ | refine Br.cond_t ?_ | refine Br.cond_f ?_ | refine Br.yes (by first | decide | assumption | (apply decide_eq_true; omega)) ?_ | refine Br.non (by first | decide | assumption | (apply decide_eq_false; omega)) ?_ | refine Br.cond_ff ?_ | refine Br.eqT (by omega) ?_ | refine Br.eqF (by omega) ?_ | refine Br.neT (by omega) ?_ | refine Br.neF (by omega) ?_ | refine Ld.mk' _ rfl ?_ | refine Need.mk (by first | decide | omega | kernel_rfl) ?_ | refine Nm.i64 (by omega) ?_ | refine Nm.u64 (by omega) ?_ | refine Nm.u8 (by omega) ?_) | (refine x_exq (TTok _ _) ?_; (conv => whnf); fail_if_success (guard_target =ₛ False)))
  refine TR.loopH (fun k : Nat => [(3, .v (.int .i64 (lbPos s k)))]) (fun k => [(0, ⟨.tab (YF (J k)), 0, 0, k, []⟩)]) (fun k => k ≤ N) (fun k => N - k) 0 (Nat.zero_le _) ?_ ?_
  · repeat' ((conv => whnf); first | exact trivial | exact Fgt.nil | exact Fgt.mk rfl rfl rfl | refine And.intro rfl ?_ | refine And.intro ?_ ?_)
  · intro k hk
    have hbx := yf_box (J := J k) (B := B) (u := .string s) fun D w h => hB k D w hk h
    have p0 := lbPos_nn s k
    have p1 := hN.le k hk
    have hb := bAt_range s (lbPos s k)
    have hsb : (s.size : Int) < 4294967281 := by omega
    have hKk := hK k hk
    by_cases hkN : k < N
    · have hok := hN.ok k hkN
      have hy := hY k hkN
      have hnx : lbPos s (k + 1) = lbPos s k + 1 + bAt s (lbPos s k) := rfl
      obtain ⟨lab, hlab⟩ : ∃ lab, lbS s k = lab := ⟨_, rfl⟩
      unfold lbXs at hy
      rw [hlab] at hy
      unfold lbS at hlab
      obtain ⟨o1, o2, o3, o4⟩ := hok
      have n1 := hnx
      generalize lbPos s (k + 1) = pn at n1 hnx
      have hn2 : (fun k : Nat => lbPos s k) (k + 1) = pn := n1 ▸ rfl
      repeat' ((conv => whnf); first | (with_reducible first | refine TR.seq ?_ | refine TR.region (TTok _ _) ?_ | refine TR.drawn (TTok _ _) mixed ?_ | refine TR.block ?_ | refine TR.ret ?_ | refine TR.exit ?_ | refine TR.skip ?_ | refine TR.condB rfl ?_ | refine Br.cond_t ?_ | refine Br.cond_f ?_ | refine Br.yes (by first | decide | assumption | (apply decide_eq_true; omega)) ?_ | refine Br.non (by first | decide | assumption | (apply decide_eq_false; omega)) ?_ | refine Br.cond_ff ?_ | refine Br.eqT (by omega) ?_ | refine Br.eqF (by omega) ?_ | refine Br.neT (by omega) ?_ | refine Br.neF (by omega) ?_ | refine Ld.mk' _ rfl ?_ | refine Need.mk (by first | decide | omega | kernel_rfl) ?_ | refine Nm.i64 (by omega) ?_ | refine Nm.u64 (by omega) ?_ | refine Nm.u8 (by omega) ?_) | refine x_load_tab (TTok _ _) (c := 0) (ck := ⟨.tab (YF (J k)), 0, 0, k, []⟩) (F := YF (J k)) (us := [.string s]) rfl rfl rfl rfl rfl (fun _ => rfl) rfl hbx ?_ | refine x_yield (W := W) (l := l) (c := 0) (ck := ⟨.tab (YF (J k)), 0, 0, k, []⟩) (J := J k) (J' := J (k + 1)) (r := true) rfl rfl rfl (fun w h => h) hKk rfl rfl hy ?_ | refine Nm.mk' lab hlab ?_ | (refine x_exq (TTok _ _) ?_; (conv => whnf); fail_if_success (guard_target =ₛ False)))
      all_goals (conv => whnf)
      refine ⟨k + 1, by omega, by omega, ?_⟩
      repeat' ((conv => whnf); first | exact trivial | exact Fgt.nil | exact Fgt.mk rfl rfl rfl | refine And.intro rfl ?_ | refine And.intro ?_ ?_)
    · obtain rfl : k = N := by omega
      have hst := hN.stop
      generalize hp : lbPos s k = p at p0 p1 hb hst
      by_cases q1 : p < s.size
      · by_cases q2 : bAt s p = 0
        · skip
          repeat' ((conv => whnf); first | (with_reducible first | refine TR.seq ?_ | refine TR.region (TTok _ _) ?_ | refine TR.drawn (TTok _ _) mixed ?_ | refine TR.block ?_ | refine TR.ret ?_ | refine TR.exit ?_ | refine TR.skip ?_ | refine TR.condB rfl ?_ | refine Br.cond_t ?_ | refine Br.cond_f ?_ | refine Br.yes (by first | decide | assumption | (apply decide_eq_true; omega)) ?_ | refine Br.non (by first | decide | assumption | (apply decide_eq_false; omega)) ?_ | refine Br.cond_ff ?_ | refine Br.eqT (by omega) ?_ | refine Br.eqF (by omega) ?_ | refine Br.neT (by omega) ?_ | refine Br.neF (by omega) ?_ | refine Ld.mk' _ rfl ?_ | refine Need.mk (by first | decide | omega | kernel_rfl) ?_ | refine Nm.i64 (by omega) ?_ | refine Nm.u64 (by omega) ?_ | refine Nm.u8 (by omega) ?_) | refine x_load_tab (TTok _ _) (c := 0) (ck := ⟨.tab (YF (J k)), 0, 0, k, []⟩) (F := YF (J k)) (us := [.string s]) rfl rfl rfl rfl rfl (fun _ => rfl) rfl hbx ?_ | refine Br.non (by simp [q2]) ?_ | (refine x_exq (TTok _ _) ?_; (conv => whnf); fail_if_success (guard_target =ₛ False)))
          all_goals (conv => whnf)
          all_goals exact ⟨_, _, rfl, rfl, rfl⟩
        · by_cases q3 : bAt s p ≤ 63
          · have q4 : (s.size : Int) < p + 1 + bAt s p := by
              by_cases h : p + 1 + bAt s p ≤ s.size
              · exact (hst ⟨q1, q2, q3, h⟩).elim
              · omega
            repeat' ((conv => whnf); first | (with_reducible first | refine TR.seq ?_ | refine TR.region (TTok _ _) ?_ | refine TR.drawn (TTok _ _) mixed ?_ | refine TR.block ?_ | refine TR.ret ?_ | refine TR.exit ?_ | refine TR.skip ?_ | refine TR.condB rfl ?_ | refine Br.cond_t ?_ | refine Br.cond_f ?_ | refine Br.yes (by first | decide | assumption | (apply decide_eq_true; omega)) ?_ | refine Br.non (by first | decide | assumption | (apply decide_eq_false; omega)) ?_ | refine Br.cond_ff ?_ | refine Br.eqT (by omega) ?_ | refine Br.eqF (by omega) ?_ | refine Br.neT (by omega) ?_ | refine Br.neF (by omega) ?_ | refine Ld.mk' _ rfl ?_ | refine Need.mk (by first | decide | omega | kernel_rfl) ?_ | refine Nm.i64 (by omega) ?_ | refine Nm.u64 (by omega) ?_ | refine Nm.u8 (by omega) ?_) | refine x_load_tab (TTok _ _) (c := 0) (ck := ⟨.tab (YF (J k)), 0, 0, k, []⟩) (F := YF (J k)) (us := [.string s]) rfl rfl rfl rfl rfl (fun _ => rfl) rfl hbx ?_ | (refine x_exq (TTok _ _) ?_; (conv => whnf); fail_if_success (guard_target =ₛ False)))
            all_goals (conv => whnf)
            all_goals exact ⟨_, _, rfl, rfl, rfl⟩
          · skip
            repeat' ((conv => whnf); first | (with_reducible first | refine TR.seq ?_ | refine TR.region (TTok _ _) ?_ | refine TR.drawn (TTok _ _) mixed ?_ | refine TR.block ?_ | refine TR.ret ?_ | refine TR.exit ?_ | refine TR.skip ?_ | refine TR.condB rfl ?_ | refine Br.cond_t ?_ | refine Br.cond_f ?_ | refine Br.yes (by first | decide | assumption | (apply decide_eq_true; omega)) ?_ | refine Br.non (by first | decide | assumption | (apply decide_eq_false; omega)) ?_ | refine Br.cond_ff ?_ | refine Br.eqT (by omega) ?_ | refine Br.eqF (by omega) ?_ | refine Br.neT (by omega) ?_ | refine Br.neF (by omega) ?_ | refine Ld.mk' _ rfl ?_ | refine Need.mk (by first | decide | omega | kernel_rfl) ?_ | refine Nm.i64 (by omega) ?_ | refine Nm.u64 (by omega) ?_ | refine Nm.u8 (by omega) ?_) | refine x_load_tab (TTok _ _) (c := 0) (ck := ⟨.tab (YF (J k)), 0, 0, k, []⟩) (F := YF (J k)) (us := [.string s]) rfl rfl rfl rfl rfl (fun _ => rfl) rfl hbx ?_ | (refine x_exq (TTok _ _) ?_; (conv => whnf); fail_if_success (guard_target =ₛ False)))
            all_goals (conv => whnf)
            all_goals exact ⟨_, _, rfl, rfl, rfl⟩
      · skip
        repeat' ((conv => whnf); first | (with_reducible first | refine TR.seq ?_ | refine TR.region (TTok _ _) ?_ | refine TR.drawn (TTok _ _) mixed ?_ | refine TR.block ?_ | refine TR.ret ?_ | refine TR.exit ?_ | refine TR.skip ?_ | refine TR.condB rfl ?_ | refine Br.cond_t ?_ | refine Br.cond_f ?_ | refine Br.yes (by first | decide | assumption | (apply decide_eq_true; omega)) ?_ | refine Br.non (by first | decide | assumption | (apply decide_eq_false; omega)) ?_ | refine Br.cond_ff ?_ | refine Br.eqT (by omega) ?_ | refine Br.eqF (by omega) ?_ | refine Br.neT (by omega) ?_ | refine Br.neF (by omega) ?_ | refine Ld.mk' _ rfl ?_ | refine Need.mk (by first | decide | omega | kernel_rfl) ?_ | refine Nm.i64 (by omega) ?_ | refine Nm.u64 (by omega) ?_ | refine Nm.u8 (by omega) ?_) | refine x_load_tab (TTok _ _) (c := 0) (ck := ⟨.tab (YF (J k)), 0, 0, k, []⟩) (F := YF (J k)) (us := [.string s]) rfl rfl rfl rfl rfl (fun _ => rfl) rfl hbx ?_ | (refine x_exq (TTok _ _) ?_; (conv => whnf); fail_if_success (guard_target =ₛ False)))
        all_goals (conv => whnf)
        all_goals exact ⟨_, _, rfl, rfl, rfl⟩
set_option maxHeartbeats 4000000 in
theorem labels_stop (s : ByteArray) (hs : s.size < 4294967281) (N : Nat) (hN : LbN s N) : IterStop Tryz.prog 80 (.string s) N (lbXs s) := by
  intro m hmN W B l J D hK hB hY hYs h0 hD
  refine (iter_of (P := Tryz.prog) (T := TT) (W := W) (f := 80) (args := [.func (.yield l) #[] #[], .pointer (some ⟨B, 0, none⟩)]) (J0 := J 0) (good := fun J' => J' = J (m + 1)) (D := D) (TTok 0 _) Tryz.func80 rfl h0 hD (fun J' e => e ▸ hK (m + 1) (Nat.le_refl _)) rfl ?_).mono ?_
  rotate_left
  · rintro e w' ⟨h1, J', D', rfl, h2, h3⟩
    exact ⟨h1, D', h2, h3⟩
  repeat' ((conv => whnf); first | (with_reducible first | refine TR.seq ?_ | refine TR.region (TTok _ _) ?_ | refine TR.drawn (TTok _ _) mixed ?_ | refine TR.block ?_ | refine TR.ret ?_ | refine TR.exit ?_ | refine TR.skip ?_ | refine TR.condB rfl ?_ | refine Br.cond_t ?_ | refine Br.cond_f ?_ | refine Br.yes (by first | decide | assumption | (apply decide_eq_true; omega)) ?_ | refine Br.non (by first | decide | assumption | (apply decide_eq_false; omega)) ?_ | refine Br.cond_ff ?_ | refine Br.eqT (by omega) ?_ | refine Br.eqF (by omega) ?_ | refine Br.neT (by omega) ?_ | refine Br.neF (by omega) ?_ | refine Ld.mk' _ rfl ?_ | refine Need.mk (by first | decide | omega | kernel_rfl) ?_ | refine Nm.i64 (by omega) ?_ | refine Nm.u64 (by omega) ?_ | refine Nm.u8 (by omega) ?_) | (refine x_exq (TTok _ _) ?_; (conv => whnf); fail_if_success (guard_target =ₛ False)))
  refine TR.loopH (fun k : Nat => [(3, .v (.int .i64 (lbPos s k)))]) (fun k => [(0, ⟨.tab (YF (J k)), 0, 0, k, []⟩)]) (fun k => k ≤ m) (fun k => m - k) 0 (Nat.zero_le _) ?_ ?_
  · repeat' ((conv => whnf); first | exact trivial | exact Fgt.nil | exact Fgt.mk rfl rfl rfl | refine And.intro rfl ?_ | refine And.intro ?_ ?_)
  · intro k hk
    have hbx := yf_box (J := J k) (B := B) (u := .string s) fun D w h => hB k D w (by omega) h
    have p0 := lbPos_nn s k
    have p1 := hN.le k (by omega)
    have hb := bAt_range s (lbPos s k)
    have hsb : (s.size : Int) < 4294967281 := by omega
    have hKk := hK k (by omega)
    by_cases hkN : k < m
    · have hok := hN.ok k (by omega)
      have hy := hY k hkN
      have hnx : lbPos s (k + 1) = lbPos s k + 1 + bAt s (lbPos s k) := rfl
      obtain ⟨lab, hlab⟩ : ∃ lab, lbS s k = lab := ⟨_, rfl⟩
      unfold lbXs at hy
      rw [hlab] at hy
      unfold lbS at hlab
      obtain ⟨o1, o2, o3, o4⟩ := hok
      have n1 := hnx
      generalize lbPos s (k + 1) = pn at n1 hnx
      have hn2 : (fun k : Nat => lbPos s k) (k + 1) = pn := n1 ▸ rfl
      repeat' ((conv => whnf); first | (with_reducible first | refine TR.seq ?_ | refine TR.region (TTok _ _) ?_ | refine TR.drawn (TTok _ _) mixed ?_ | refine TR.block ?_ | refine TR.ret ?_ | refine TR.exit ?_ | refine TR.skip ?_ | refine TR.condB rfl ?_ | refine Br.cond_t ?_ | refine Br.cond_f ?_ | refine Br.yes (by first | decide | assumption | (apply decide_eq_true; omega)) ?_ | refine Br.non (by first | decide | assumption | (apply decide_eq_false; omega)) ?_ | refine Br.cond_ff ?_ | refine Br.eqT (by omega) ?_ | refine Br.eqF (by omega) ?_ | refine Br.neT (by omega) ?_ | refine Br.neF (by omega) ?_ | refine Ld.mk' _ rfl ?_ | refine Need.mk (by first | decide | omega | kernel_rfl) ?_ | refine Nm.i64 (by omega) ?_ | refine Nm.u64 (by omega) ?_ | refine Nm.u8 (by omega) ?_) | refine x_load_tab (TTok _ _) (c := 0) (ck := ⟨.tab (YF (J k)), 0, 0, k, []⟩) (F := YF (J k)) (us := [.string s]) rfl rfl rfl rfl rfl (fun _ => rfl) rfl hbx ?_ | refine x_yield (W := W) (l := l) (c := 0) (ck := ⟨.tab (YF (J k)), 0, 0, k, []⟩) (J := J k) (J' := J (k + 1)) (r := true) rfl rfl rfl (fun w h => h) hKk rfl rfl hy ?_ | refine Nm.mk' lab hlab ?_ | (refine x_exq (TTok _ _) ?_; (conv => whnf); fail_if_success (guard_target =ₛ False)))
      all_goals (conv => whnf)
      refine ⟨k + 1, by omega, by omega, ?_⟩
      repeat' ((conv => whnf); first | exact trivial | exact Fgt.nil | exact Fgt.mk rfl rfl rfl | refine And.intro rfl ?_ | refine And.intro ?_ ?_)
    · obtain rfl : k = m := by omega
      have hok := hN.ok k (by omega)
      have hy := hYs
      have hnx : lbPos s (k + 1) = lbPos s k + 1 + bAt s (lbPos s k) := rfl
      obtain ⟨lab, hlab⟩ : ∃ lab, lbS s k = lab := ⟨_, rfl⟩
      unfold lbXs at hy
      rw [hlab] at hy
      unfold lbS at hlab
      obtain ⟨o1, o2, o3, o4⟩ := hok
      have n1 := hnx
      generalize lbPos s (k + 1) = pn at n1 hnx
      have hn2 : (fun k : Nat => lbPos s k) (k + 1) = pn := n1 ▸ rfl
      repeat' ((conv => whnf); first | (with_reducible first | refine TR.seq ?_ | refine TR.region (TTok _ _) ?_ | refine TR.drawn (TTok _ _) mixed ?_ | refine TR.block ?_ | refine TR.ret ?_ | refine TR.exit ?_ | refine TR.skip ?_ | refine TR.condB rfl ?_ | refine Br.cond_t ?_ | refine Br.cond_f ?_ | refine Br.yes (by first | decide | assumption | (apply decide_eq_true; omega)) ?_ | refine Br.non (by first | decide | assumption | (apply decide_eq_false; omega)) ?_ | refine Br.cond_ff ?_ | refine Br.eqT (by omega) ?_ | refine Br.eqF (by omega) ?_ | refine Br.neT (by omega) ?_ | refine Br.neF (by omega) ?_ | refine Ld.mk' _ rfl ?_ | refine Need.mk (by first | decide | omega | kernel_rfl) ?_ | refine Nm.i64 (by omega) ?_ | refine Nm.u64 (by omega) ?_ | refine Nm.u8 (by omega) ?_) | refine x_load_tab (TTok _ _) (c := 0) (ck := ⟨.tab (YF (J k)), 0, 0, k, []⟩) (F := YF (J k)) (us := [.string s]) rfl rfl rfl rfl rfl (fun _ => rfl) rfl hbx ?_ | refine x_yield (W := W) (l := l) (c := 0) (ck := ⟨.tab (YF (J k)), 0, 0, k, []⟩) (J := J k) (J' := J (k + 1)) (r := false) rfl rfl rfl (fun w h => h) hKk rfl rfl hy ?_ | refine Nm.mk' lab hlab ?_ | (refine x_exq (TTok _ _) ?_; (conv => whnf); fail_if_success (guard_target =ₛ False)))
      all_goals (conv => whnf)
      all_goals exact ⟨_, _, rfl, rfl, rfl⟩
end Go.Proofs.YtdmgmkifjboojaaGreatDoor
set_option maxRecDepth 100000
set_option linter.unusedVariables false
namespace Go.Proofs.YtdmgmkifjboojaaGreatDoor
open Go.SX
def rtC (s : ByteArray) (z : Int) : List (Option Chunk) := [none, none, none, some ⟨.own, 3, 1, 0, [.v (.int .i64 z)]⟩, some ⟨.own, 9, 1, 0, [.v (.string s)]⟩]
set_option maxHeartbeats 4000000 in
theorem nright_ret (s : ByteArray) (hs : s.size < 4294967281) (N : Nat) (hN : LbN s N) (w : World) : Ret Tryz.prog 48 [.string s] w (.bool (rtB s N)) := by
  refine Ret.ofW (I := fun _ => True) (T := TT) (fun _ _ => trivial) Tryz.func48 (by kernel_rfl) rfl rfl ?_
  by_cases z0 : s.size = 0
  · have hb : rtB s N = false := decide_eq_false (by omega)
    rw [hb]
    repeat' ((conv => whnf); first | (with_reducible first | refine TR.seq ?_ | refine TR.region (TTok _ _) ?_ | refine TR.drawn (TTok _ _) mixed ?_ | refine TR.block ?_ | refine TR.ret ?_ | refine TR.exit ?_ | refine TR.skip ?_ | refine TR.condB rfl ?_ | refine Br.cond_t ?_ | refine Br.cond_f ?_ | refine Br.yes (by first | decide | assumption | (apply decide_eq_true; omega)) ?_ | refine Br.non (by first | decide | assumption | (apply decide_eq_false; omega)) ?_ | refine Br.cond_ff ?_ | refine Br.eqT (by omega) ?_ | refine Br.eqF (by omega) ?_ | refine Br.neT (by omega) ?_ | refine Br.neF (by omega) ?_ | refine Ld.mk' _ rfl ?_ | refine Need.mk (by first | decide | omega | kernel_rfl) ?_ | refine Nm.i64 (by omega) ?_ | refine Nm.u64 (by omega) ?_ | refine Nm.u8 (by omega) ?_ | refine TW.seq (TTok _ _) ?_) | (refine x_exq (TTok _ _) ?_; (conv => whnf); fail_if_success (guard_target =ₛ False)))
    all_goals (conv => whnf)
    all_goals rfl
  · by_cases z1 : 255 < s.size
    · have hb : rtB s N = false := decide_eq_false (by omega)
      rw [hb]
      repeat' ((conv => whnf); first | (with_reducible first | refine TR.seq ?_ | refine TR.region (TTok _ _) ?_ | refine TR.drawn (TTok _ _) mixed ?_ | refine TR.block ?_ | refine TR.ret ?_ | refine TR.exit ?_ | refine TR.skip ?_ | refine TR.condB rfl ?_ | refine Br.cond_t ?_ | refine Br.cond_f ?_ | refine Br.yes (by first | decide | assumption | (apply decide_eq_true; omega)) ?_ | refine Br.non (by first | decide | assumption | (apply decide_eq_false; omega)) ?_ | refine Br.cond_ff ?_ | refine Br.eqT (by omega) ?_ | refine Br.eqF (by omega) ?_ | refine Br.neT (by omega) ?_ | refine Br.neF (by omega) ?_ | refine Ld.mk' _ rfl ?_ | refine Need.mk (by first | decide | omega | kernel_rfl) ?_ | refine Nm.i64 (by omega) ?_ | refine Nm.u64 (by omega) ?_ | refine Nm.u8 (by omega) ?_ | refine TW.seq (TTok _ _) ?_) | (refine x_exq (TTok _ _) ?_; (conv => whnf); fail_if_success (guard_target =ₛ False)))
      all_goals (conv => whnf)
      all_goals rfl
    · conv => whnf
      refine TW.seq (TTok _ _) ?_
      repeat' ((conv => whnf); first | (with_reducible first | refine TR.seq ?_ | refine TR.region (TTok _ _) ?_ | refine TR.drawn (TTok _ _) mixed ?_ | refine TR.block ?_ | refine TR.ret ?_ | refine TR.exit ?_ | refine TR.skip ?_ | refine TR.condB rfl ?_ | refine Br.cond_t ?_ | refine Br.cond_f ?_ | refine Br.yes (by first | decide | assumption | (apply decide_eq_true; omega)) ?_ | refine Br.non (by first | decide | assumption | (apply decide_eq_false; omega)) ?_ | refine Br.cond_ff ?_ | refine Br.eqT (by omega) ?_ | refine Br.eqF (by omega) ?_ | refine Br.neT (by omega) ?_ | refine Br.neF (by omega) ?_ | refine Ld.mk' _ rfl ?_ | refine Need.mk (by first | decide | omega | kernel_rfl) ?_ | refine Nm.i64 (by omega) ?_ | refine Nm.u64 (by omega) ?_ | refine Nm.u8 (by omega) ?_) | (refine x_exq (TTok _ _) ?_; (conv => whnf); fail_if_success (guard_target =ₛ False)))
      refine TW.seq (TTok _ _) ?_
      repeat' ((conv => whnf); first | (with_reducible first | refine TR.seq ?_ | refine TR.region (TTok _ _) ?_ | refine TR.drawn (TTok _ _) mixed ?_ | refine TR.block ?_ | refine TR.ret ?_ | refine TR.exit ?_ | refine TR.skip ?_ | refine TR.condB rfl ?_ | refine Br.cond_t ?_ | refine Br.cond_f ?_ | refine Br.yes (by first | decide | assumption | (apply decide_eq_true; omega)) ?_ | refine Br.non (by first | decide | assumption | (apply decide_eq_false; omega)) ?_ | refine Br.cond_ff ?_ | refine Br.eqT (by omega) ?_ | refine Br.eqF (by omega) ?_ | refine Br.neT (by omega) ?_ | refine Br.neF (by omega) ?_ | refine Ld.mk' _ rfl ?_ | refine Need.mk (by first | decide | omega | kernel_rfl) ?_ | refine Nm.i64 (by omega) ?_ | refine Nm.u64 (by omega) ?_ | refine Nm.u8 (by omega) ?_) | (refine x_exq (TTok _ _) ?_; (conv => whnf); fail_if_success (guard_target =ₛ False)))
      refine TW.seq (TTok _ _) ?_
      repeat' ((conv => whnf); first | (with_reducible first | refine TR.seq ?_ | refine TR.region (TTok _ _) ?_ | refine TR.drawn (TTok _ _) mixed ?_ | refine TR.block ?_ | refine TR.ret ?_ | refine TR.exit ?_ | refine TR.skip ?_ | refine TR.condB rfl ?_ | refine Br.cond_t ?_ | refine Br.cond_f ?_ | refine Br.yes (by first | decide | assumption | (apply decide_eq_true; omega)) ?_ | refine Br.non (by first | decide | assumption | (apply decide_eq_false; omega)) ?_ | refine Br.cond_ff ?_ | refine Br.eqT (by omega) ?_ | refine Br.eqF (by omega) ?_ | refine Br.neT (by omega) ?_ | refine Br.neF (by omega) ?_ | refine Ld.mk' _ rfl ?_ | refine Need.mk (by first | decide | omega | kernel_rfl) ?_ | refine Nm.i64 (by omega) ?_ | refine Nm.u64 (by omega) ?_ | refine Nm.u8 (by omega) ?_) | (refine x_exq (TTok _ _) ?_; (conv => whnf); fail_if_success (guard_target =ₛ False)))
      refine TW.seq2 (TWK.seq (TTok _ _) ?_)
      repeat' ((conv => whnf); first | (with_reducible first | refine TR.seq ?_ | refine TR.region (TTok _ _) ?_ | refine TR.drawn (TTok _ _) mixed ?_ | refine TR.block ?_ | refine TR.ret ?_ | refine TR.exit ?_ | refine TR.skip ?_ | refine TR.condB rfl ?_ | refine TJ.seq ?_ | refine TJ.region (TTok _ _) ?_ | refine TJ.drawn (TTok _ _) mixed ?_ | refine TJ.cond rfl ?_ | refine TJ.block ?_ | refine TJ.loop ?_ | refine LJ.step ?_ | refine TJ.ret ?_ | refine TJ.exit ?_ | refine TJ.skip ?_ | refine TJ.scope ?_ | refine TJ.label ?_ | refine Br.cond_t ?_ | refine Br.cond_f ?_ | refine Br.yes (by first | decide | assumption | (apply decide_eq_true; omega)) ?_ | refine Br.non (by first | decide | assumption | (apply decide_eq_false; omega)) ?_ | refine Br.cond_ff ?_ | refine Br.eqT (by omega) ?_ | refine Br.eqF (by omega) ?_ | refine Br.neT (by omega) ?_ | refine Br.neF (by omega) ?_ | refine Ld.mk' _ rfl ?_ | refine Need.mk (by first | decide | omega | kernel_rfl) ?_ | refine Nm.i64 (by omega) ?_ | refine Nm.u64 (by omega) ?_ | refine Nm.u8 (by omega) ?_) | refine x_call (f := 50) (TTok _ _) rfl rfl Tryz.func50 (by kernel_rfl) rfl ?_ | (refine x_exq (TTok _ _) ?_; (conv => whnf); fail_if_success (guard_target =ₛ False)))
      refine TWK.range (TTok _ _) (gf := 80) (c0 := 4) (v0 := 0) (ty := 9) (u := .string s) (N := N) (n := 8) (xs := lbXs s) (C := (fun k => rtC s (lbPos s k))) rfl (fun k _ => ⟨1, rfl⟩) rfl (fun k _ => own_all rfl (Nat.le_of_ble_eq_true rfl)) ⟨Tryz.f80, Tryz.func80, by kernel_rfl, by kernel_rfl⟩ (labels_it s hs N hN) (fun k _ => rfl) (res_one (t := 2) (by kernel_rfl)) (fun k hk => ?_) ?_
      · have p0 := lbPos_nn s k
        have p1 := hN.le k (by omega)
        obtain ⟨o1, o2, o3, o4⟩ := hN.ok k hk
        have hb := bAt_range s (lbPos s k)
        have hsb : (s.size : Int) < 4294967281 := by omega
        have hlz : ((lbS s k).size : Int) = bAt s (lbPos s k) := by
          unfold lbS
          rw [ByteArray.size_extract]
          omega
        have hpn : lbPos s k + 1 + ((lbS s k).size : Int) = lbPos s (k + 1) := by
          rw [hlz]
          rfl
        unfold lbXs
        generalize lbS s k = lab at hlz hpn
        repeat' ((conv => whnf); first | (with_reducible first | refine TR.seq ?_ | refine TR.region (TTok _ _) ?_ | refine TR.drawn (TTok _ _) mixed ?_ | refine TR.block ?_ | refine TR.ret ?_ | refine TR.exit ?_ | refine TR.skip ?_ | refine TR.condB rfl ?_ | refine Br.cond_t ?_ | refine Br.cond_f ?_ | refine Br.yes (by first | decide | assumption | (apply decide_eq_true; omega)) ?_ | refine Br.non (by first | decide | assumption | (apply decide_eq_false; omega)) ?_ | refine Br.cond_ff ?_ | refine Br.eqT (by omega) ?_ | refine Br.eqF (by omega) ?_ | refine Br.neT (by omega) ?_ | refine Br.neF (by omega) ?_ | refine Ld.mk' _ rfl ?_ | refine Need.mk (by first | decide | omega | kernel_rfl) ?_ | refine Nm.i64 (by omega) ?_ | refine Nm.u64 (by omega) ?_ | refine Nm.u8 (by omega) ?_) | refine And.intro rfl ?_ | (refine x_exq (TTok _ _) ?_; (conv => whnf); fail_if_success (guard_target =ₛ False)))
        all_goals (conv => whnf)
        all_goals exact congrArg (rtC s) hpn
      · have p0 := lbPos_nn s N
        have p1 := hN.le N (by omega)
        have hb := bAt_range s (lbPos s N)
        by_cases q1 : lbPos s N = s.size - 1
        · by_cases q2 : bAt s (lbPos s N) = 0
          · have hr : rtB s N = true := decide_eq_true ⟨by omega, by omega, q1, q2⟩
            rw [hr]
            generalize lbPos s N = p at p0 p1 hb q1 q2
            repeat' ((conv => whnf); first | (with_reducible first | refine TR.seq ?_ | refine TR.region (TTok _ _) ?_ | refine TR.drawn (TTok _ _) mixed ?_ | refine TR.block ?_ | refine TR.ret ?_ | refine TR.exit ?_ | refine TR.skip ?_ | refine TR.condB rfl ?_ | refine Br.cond_t ?_ | refine Br.cond_f ?_ | refine Br.yes (by first | decide | assumption | (apply decide_eq_true; omega)) ?_ | refine Br.non (by first | decide | assumption | (apply decide_eq_false; omega)) ?_ | refine Br.cond_ff ?_ | refine Br.eqT (by omega) ?_ | refine Br.eqF (by omega) ?_ | refine Br.neT (by omega) ?_ | refine Br.neF (by omega) ?_ | refine Ld.mk' _ rfl ?_ | refine Need.mk (by first | decide | omega | kernel_rfl) ?_ | refine Nm.i64 (by omega) ?_ | refine Nm.u64 (by omega) ?_ | refine Nm.u8 (by omega) ?_) | refine Br.yes (by simp [q2]) ?_ | (refine x_exq (TTok _ _) ?_; (conv => whnf); fail_if_success (guard_target =ₛ False)))
            all_goals (conv => whnf)
            all_goals first | rfl | simp [val, q2]
          · have hr : rtB s N = false := decide_eq_false fun h => q2 h.2.2.2
            rw [hr]
            generalize lbPos s N = p at p0 p1 hb q1 q2
            repeat' ((conv => whnf); first | (with_reducible first | refine TR.seq ?_ | refine TR.region (TTok _ _) ?_ | refine TR.drawn (TTok _ _) mixed ?_ | refine TR.block ?_ | refine TR.ret ?_ | refine TR.exit ?_ | refine TR.skip ?_ | refine TR.condB rfl ?_ | refine Br.cond_t ?_ | refine Br.cond_f ?_ | refine Br.yes (by first | decide | assumption | (apply decide_eq_true; omega)) ?_ | refine Br.non (by first | decide | assumption | (apply decide_eq_false; omega)) ?_ | refine Br.cond_ff ?_ | refine Br.eqT (by omega) ?_ | refine Br.eqF (by omega) ?_ | refine Br.neT (by omega) ?_ | refine Br.neF (by omega) ?_ | refine Ld.mk' _ rfl ?_ | refine Need.mk (by first | decide | omega | kernel_rfl) ?_ | refine Nm.i64 (by omega) ?_ | refine Nm.u64 (by omega) ?_ | refine Nm.u8 (by omega) ?_) | (refine x_exq (TTok _ _) ?_; (conv => whnf); fail_if_success (guard_target =ₛ False)))
            all_goals (conv => whnf)
            all_goals first | rfl | simp [val, q2]
        · have hr : rtB s N = false := decide_eq_false fun h => q1 h.2.2.1
          rw [hr]
          generalize lbPos s N = p at p0 p1 hb q1
          repeat' ((conv => whnf); first | (with_reducible first | refine TR.seq ?_ | refine TR.region (TTok _ _) ?_ | refine TR.drawn (TTok _ _) mixed ?_ | refine TR.block ?_ | refine TR.ret ?_ | refine TR.exit ?_ | refine TR.skip ?_ | refine TR.condB rfl ?_ | refine Br.cond_t ?_ | refine Br.cond_f ?_ | refine Br.yes (by first | decide | assumption | (apply decide_eq_true; omega)) ?_ | refine Br.non (by first | decide | assumption | (apply decide_eq_false; omega)) ?_ | refine Br.cond_ff ?_ | refine Br.eqT (by omega) ?_ | refine Br.eqF (by omega) ?_ | refine Br.neT (by omega) ?_ | refine Br.neF (by omega) ?_ | refine Ld.mk' _ rfl ?_ | refine Need.mk (by first | decide | omega | kernel_rfl) ?_ | refine Nm.i64 (by omega) ?_ | refine Nm.u64 (by omega) ?_ | refine Nm.u8 (by omega) ?_) | (refine x_exq (TTok _ _) ?_; (conv => whnf); fail_if_success (guard_target =ₛ False)))
          all_goals (conv => whnf)
          all_goals rfl
theorem nright (s : ByteArray) (hs : s.size < 4294967281) (w : World) : Ret Tryz.prog 48 [.string s] w (.bool (rgt s)) := nright_ret s hs _ (rgN_ok s) w
end Go.Proofs.YtdmgmkifjboojaaGreatDoor
set_option maxRecDepth 100000
set_option linter.unusedVariables false
set_option linter.unusedSimpArgs false
namespace Go.Proofs.YtdmgmkifjboojaaGreatDoor
open Go.SX
theorem or32_fin : ∀ a : Fin 26, IntKind.u8.wrap (BitVec.ofInt IntKind.u8.bits ((a.val : Int) + 65) ||| BitVec.ofInt IntKind.u8.bits 32).toNat = (a.val : Int) + 65 + 32 := by decide +kernel
theorem or32 {x : Int} (h : 65 ≤ x ∧ x ≤ 90) : IntKind.u8.wrap (BitVec.ofInt IntKind.u8.bits x ||| BitVec.ofInt IntKind.u8.bits 32).toNat = x + 32 := by
  have := or32_fin ⟨(x - 65).toNat, by omega⟩
  simp only [show (((x - 65).toNat : Nat) : Int) + 65 = x by omega] at this
  exact this
theorem small_ret (x : Int) (hx : 0 ≤ x ∧ x ≤ 255) (w : World) : Ret Tryz.prog 79 [.int .u8 x] w (.int .u8 (lowb x)) := by
  by_cases h1 : 65 ≤ x
  · by_cases h2 : x ≤ 90
    · rw [show lowb x = x + 32 from if_pos ⟨h1, h2⟩]
      have h3 := or32 ⟨h1, h2⟩
      refine Ret.tj (I := fun _ => True) (fun _ _ => trivial) (TTok 0 _) Tryz.func79 (by kernel_rfl) rfl ?_
      repeat' ((conv => whnf); first | (with_reducible first | refine TJ.seq ?_ | refine TJ.region (TTok _ _) ?_ | refine TJ.drawn (TTok _ _) mixed ?_ | refine TJ.cond rfl ?_ | refine TJ.block ?_ | refine TJ.loop ?_ | refine LJ.step ?_ | refine TJ.ret ?_ | refine TJ.exit ?_ | refine TJ.skip ?_ | refine TJ.scope ?_ | refine TJ.label ?_ | refine Br.cond_t ?_ | refine Br.cond_f ?_ | refine Br.yes (by first | decide | assumption | (apply decide_eq_true; omega)) ?_ | refine Br.non (by first | decide | assumption | (apply decide_eq_false; omega)) ?_ | refine Br.cond_ff ?_ | refine Br.eqT (by omega) ?_ | refine Br.eqF (by omega) ?_ | refine Br.neT (by omega) ?_ | refine Br.neF (by omega) ?_ | refine Nm.mk' _ h3 ?_ | refine Ld.mk' _ rfl ?_ | refine Need.mk (by first | decide | omega | kernel_rfl) ?_ | refine Nm.i64 (by omega) ?_ | refine Nm.u64 (by omega) ?_ | refine Nm.u8 (by omega) ?_) | (refine x_exq (TTok _ _) ?_; (conv => whnf); fail_if_success (guard_target =ₛ False)))
      all_goals (conv => whnf)
      all_goals first | rfl | trace_state
    · rw [show lowb x = x from if_neg (fun h => h2 h.2)]
      refine Ret.tj (I := fun _ => True) (fun _ _ => trivial) (TTok 0 _) Tryz.func79 (by kernel_rfl) rfl ?_
      repeat' ((conv => whnf); first | (with_reducible first | refine TJ.seq ?_ | refine TJ.region (TTok _ _) ?_ | refine TJ.drawn (TTok _ _) mixed ?_ | refine TJ.cond rfl ?_ | refine TJ.block ?_ | refine TJ.loop ?_ | refine LJ.step ?_ | refine TJ.ret ?_ | refine TJ.exit ?_ | refine TJ.skip ?_ | refine TJ.scope ?_ | refine TJ.label ?_ | refine Br.cond_t ?_ | refine Br.cond_f ?_ | refine Br.yes (by first | decide | assumption | (apply decide_eq_true; omega)) ?_ | refine Br.non (by first | decide | assumption | (apply decide_eq_false; omega)) ?_ | refine Br.cond_ff ?_ | refine Br.eqT (by omega) ?_ | refine Br.eqF (by omega) ?_ | refine Br.neT (by omega) ?_ | refine Br.neF (by omega) ?_ | refine Ld.mk' _ rfl ?_ | refine Need.mk (by first | decide | omega | kernel_rfl) ?_ | refine Nm.i64 (by omega) ?_ | refine Nm.u64 (by omega) ?_ | refine Nm.u8 (by omega) ?_) | (refine x_exq (TTok _ _) ?_; (conv => whnf); fail_if_success (guard_target =ₛ False)))
      all_goals (conv => whnf)
      all_goals first | rfl | trace_state
  · rw [show lowb x = x from if_neg (fun h => h1 h.1)]
    refine Ret.tj (I := fun _ => True) (fun _ _ => trivial) (TTok 0 _) Tryz.func79 (by kernel_rfl) rfl ?_
    repeat' ((conv => whnf); first | (with_reducible first | refine TJ.seq ?_ | refine TJ.region (TTok _ _) ?_ | refine TJ.drawn (TTok _ _) mixed ?_ | refine TJ.cond rfl ?_ | refine TJ.block ?_ | refine TJ.loop ?_ | refine LJ.step ?_ | refine TJ.ret ?_ | refine TJ.exit ?_ | refine TJ.skip ?_ | refine TJ.scope ?_ | refine TJ.label ?_ | refine Br.cond_t ?_ | refine Br.cond_f ?_ | refine Br.yes (by first | decide | assumption | (apply decide_eq_true; omega)) ?_ | refine Br.non (by first | decide | assumption | (apply decide_eq_false; omega)) ?_ | refine Br.cond_ff ?_ | refine Br.eqT (by omega) ?_ | refine Br.eqF (by omega) ?_ | refine Br.neT (by omega) ?_ | refine Br.neF (by omega) ?_ | refine Ld.mk' _ rfl ?_ | refine Need.mk (by first | decide | omega | kernel_rfl) ?_ | refine Nm.i64 (by omega) ?_ | refine Nm.u64 (by omega) ?_ | refine Nm.u8 (by omega) ?_) | (refine x_exq (TTok _ _) ?_; (conv => whnf); fail_if_success (guard_target =ₛ False)))
    all_goals (conv => whnf)
    all_goals first | rfl | trace_state
theorem its_rep (n : Nat) : List.replicate n (AV.v (.int .u8 0)) = byt (List.replicate n 0) := by simp [byt]
theorem putL_all (a b : List Int) (h : a.length = b.length) : putL (byt a) 0 (byt b) = some (byt b) := by
  have : ∀ (a b : List AV), a.length = b.length → putL a 0 b = some b := by
    intro a
    induction a with
    | nil => intro b h; cases b with | nil => rfl | cons x b => simp at h
    | cons y a ih =>
      intro b h
      cases b with
      | nil => simp at h
      | cons x b =>
        have := ih b (by simpa using h)
        simp [putL, this]
  exact this _ _ (by simp [byt, h])
def lwH (s : ByteArray) (q : Nat) : List (Option Chunk) := [none, none, none, some ⟨.own, 82, 1, 0, [.sl 13 0 0 s.size]⟩, none, none, none, none, none, none, none, none, none, some ⟨.row, 5, 1, 0, byt (lwC s q)⟩, some ⟨.own, 9, 1, 0, [.v (.string s)]⟩]
set_option maxHeartbeats 8000000 in
theorem nlower_ret (s : ByteArray) (hs : s.size < 4294967281) (w : World) : Ret Tryz.prog 49 [.string s] w (.string (if rgt s = true then strOfNums ((sInts s).map lowb) else s)) := by
  have h115 := fun w => nright s hs w
  refine Ret.ofW (I := fun _ => True) (T := TT) (fun _ _ => trivial) Tryz.func49 (by kernel_rfl) rfl rfl ?_
  cases hr : rgt s with
  | false =>
    rw [hr] at h115
    rw [if_neg (by simp)]
    repeat' ((conv => whnf); first | (with_reducible first | refine TR.seq ?_ | refine TR.region (TTok _ _) ?_ | refine TR.drawn (TTok _ _) mixed ?_ | refine TR.block ?_ | refine TR.ret ?_ | refine TR.exit ?_ | refine TR.skip ?_ | refine TR.condB rfl ?_ | refine Br.cond_t ?_ | refine Br.cond_f ?_ | refine Br.yes (by first | decide | assumption | (apply decide_eq_true; omega)) ?_ | refine Br.non (by first | decide | assumption | (apply decide_eq_false; omega)) ?_ | refine Br.cond_ff ?_ | refine Br.eqT (by omega) ?_ | refine Br.eqF (by omega) ?_ | refine Br.neT (by omega) ?_ | refine Br.neF (by omega) ?_ | refine Ld.mk' _ rfl ?_ | refine Need.mk (by first | decide | omega | kernel_rfl) ?_ | refine Nm.i64 (by omega) ?_ | refine Nm.u64 (by omega) ?_ | refine Nm.u8 (by omega) ?_ | refine x_ret (f := 48) rfl rfl (fun w _ => h115 w) ?_ | refine TW.seq (TTok _ _) ?_) | (refine x_exq (TTok _ _) ?_; (conv => whnf); fail_if_success (guard_target =ₛ False)))
    all_goals (conv => whnf)
    all_goals first | rfl | trace_state
  | true =>
    rw [hr] at h115
    rw [if_pos rfl]
    have hz := rgt_size hr
    have hpl := putL_all (List.replicate s.size 0) (sInts s) (by simp [sInts_length])
    rw [← its_rep] at hpl
    conv => whnf
    refine TW.seq (TTok _ _) ?_
    repeat' ((conv => whnf); first | (with_reducible first | refine TR.seq ?_ | refine TR.region (TTok _ _) ?_ | refine TR.drawn (TTok _ _) mixed ?_ | refine TR.block ?_ | refine TR.ret ?_ | refine TR.exit ?_ | refine TR.skip ?_ | refine TR.condB rfl ?_ | refine Br.cond_t ?_ | refine Br.cond_f ?_ | refine Br.yes (by first | decide | assumption | (apply decide_eq_true; omega)) ?_ | refine Br.non (by first | decide | assumption | (apply decide_eq_false; omega)) ?_ | refine Br.cond_ff ?_ | refine Br.eqT (by omega) ?_ | refine Br.eqF (by omega) ?_ | refine Br.neT (by omega) ?_ | refine Br.neF (by omega) ?_ | refine Ld.mk' _ rfl ?_ | refine Need.mk (by first | decide | omega | kernel_rfl) ?_ | refine Nm.i64 (by omega) ?_ | refine Nm.u64 (by omega) ?_ | refine Nm.u8 (by omega) ?_) | (refine x_exq (TTok _ _) ?_; (conv => whnf); fail_if_success (guard_target =ₛ False)))
    refine TW.seq (TTok _ _) ?_
    repeat' ((conv => whnf); first | (with_reducible first | refine TR.seq ?_ | refine TR.region (TTok _ _) ?_ | refine TR.drawn (TTok _ _) mixed ?_ | refine TR.block ?_ | refine TR.ret ?_ | refine TR.exit ?_ | refine TR.skip ?_ | refine TR.condB rfl ?_ | refine Br.cond_t ?_ | refine Br.cond_f ?_ | refine Br.yes (by first | decide | assumption | (apply decide_eq_true; omega)) ?_ | refine Br.non (by first | decide | assumption | (apply decide_eq_false; omega)) ?_ | refine Br.cond_ff ?_ | refine Br.eqT (by omega) ?_ | refine Br.eqF (by omega) ?_ | refine Br.neT (by omega) ?_ | refine Br.neF (by omega) ?_ | refine Ld.mk' _ rfl ?_ | refine Need.mk (by first | decide | omega | kernel_rfl) ?_ | refine Nm.i64 (by omega) ?_ | refine Nm.u64 (by omega) ?_ | refine Nm.u8 (by omega) ?_ | refine x_ret (f := 48) rfl rfl (fun w _ => h115 w) ?_) | (refine x_exq (TTok _ _) ?_; (conv => whnf); fail_if_success (guard_target =ₛ False)))
    refine TW.seq (TTok _ _) ?_
    repeat' ((conv => whnf); first | (with_reducible first | refine TR.seq ?_ | refine TR.region (TTok _ _) ?_ | refine TR.drawn (TTok _ _) mixed ?_ | refine TR.block ?_ | refine TR.ret ?_ | refine TR.exit ?_ | refine TR.skip ?_ | refine TR.condB rfl ?_ | refine Br.cond_t ?_ | refine Br.cond_f ?_ | refine Br.yes (by first | decide | assumption | (apply decide_eq_true; omega)) ?_ | refine Br.non (by first | decide | assumption | (apply decide_eq_false; omega)) ?_ | refine Br.cond_ff ?_ | refine Br.eqT (by omega) ?_ | refine Br.eqF (by omega) ?_ | refine Br.neT (by omega) ?_ | refine Br.neF (by omega) ?_ | refine Ld.mk' _ rfl ?_ | refine Need.mk (by first | decide | omega | kernel_rfl) ?_ | refine Nm.i64 (by omega) ?_ | refine Nm.u64 (by omega) ?_ | refine Nm.u8 (by omega) ?_) | refine x_make (TTok _ _) (d := 13) (n := s.size) rfl rfl rfl rfl rfl rfl rfl rfl rfl (by dsimp only; omega) (by unfold maxLen; omega) ?_ | (refine x_exq (TTok _ _) ?_; (conv => whnf); fail_if_success (guard_target =ₛ False)))
    refine TW.seq (TTok _ _) ?_
    repeat' ((conv => whnf); first | (with_reducible first | refine TR.seq ?_ | refine TR.region (TTok _ _) ?_ | refine TR.drawn (TTok _ _) mixed ?_ | refine TR.block ?_ | refine TR.ret ?_ | refine TR.exit ?_ | refine TR.skip ?_ | refine TR.condB rfl ?_ | refine Br.cond_t ?_ | refine Br.cond_f ?_ | refine Br.yes (by first | decide | assumption | (apply decide_eq_true; omega)) ?_ | refine Br.non (by first | decide | assumption | (apply decide_eq_false; omega)) ?_ | refine Br.cond_ff ?_ | refine Br.eqT (by omega) ?_ | refine Br.eqF (by omega) ?_ | refine Br.neT (by omega) ?_ | refine Br.neF (by omega) ?_ | refine Ld.mk' _ rfl ?_ | refine Need.mk (by first | decide | omega | kernel_rfl) ?_ | refine Nm.i64 (by omega) ?_ | refine Nm.u64 (by omega) ?_ | refine Nm.u8 (by omega) ?_) | refine x_copy_str (TTok _ _) (c := 13) rfl rfl rfl rfl rfl rfl rfl rfl rfl rfl rfl (by omega) (Nat.le_refl _) hpl ?_ | (refine x_exq (TTok _ _) ?_; (conv => whnf); fail_if_success (guard_target =ₛ False)))
    refine TW.seq2 (TWK.seq (TTok _ _) ?_)
    repeat' ((conv => whnf); first | (with_reducible first | refine TR.seq ?_ | refine TR.region (TTok _ _) ?_ | refine TR.drawn (TTok _ _) mixed ?_ | refine TR.block ?_ | refine TR.ret ?_ | refine TR.exit ?_ | refine TR.skip ?_ | refine TR.condB rfl ?_ | refine TJ.seq ?_ | refine TJ.region (TTok _ _) ?_ | refine TJ.drawn (TTok _ _) mixed ?_ | refine TJ.cond rfl ?_ | refine TJ.block ?_ | refine TJ.loop ?_ | refine LJ.step ?_ | refine TJ.ret ?_ | refine TJ.exit ?_ | refine TJ.skip ?_ | refine TJ.scope ?_ | refine TJ.label ?_ | refine Br.cond_t ?_ | refine Br.cond_f ?_ | refine Br.yes (by first | decide | assumption | (apply decide_eq_true; omega)) ?_ | refine Br.non (by first | decide | assumption | (apply decide_eq_false; omega)) ?_ | refine Br.cond_ff ?_ | refine Br.eqT (by omega) ?_ | refine Br.eqF (by omega) ?_ | refine Br.neT (by omega) ?_ | refine Br.neF (by omega) ?_ | refine Ld.mk' _ rfl ?_ | refine Need.mk (by first | decide | omega | kernel_rfl) ?_ | refine Nm.i64 (by omega) ?_ | refine Nm.u64 (by omega) ?_ | refine Nm.u8 (by omega) ?_) | refine x_call (f := 50) (TTok _ _) rfl rfl Tryz.func50 (by kernel_rfl) rfl ?_ | (refine x_exq (TTok _ _) ?_; (conv => whnf); fail_if_success (guard_target =ₛ False)))
    have hN := rgN_ok s
    have hrt : lbPos s (rgN s) = s.size - 1 ∧ bAt s (lbPos s (rgN s)) = 0 := by
      have h := hr
      unfold rgt rtB at h
      simp only [decide_eq_true_eq] at h
      exact h.2.2
    refine TWK.range (TTok _ _) (gf := 80) (c0 := 14) (v0 := 0) (ty := 9) (u := .string s) (N := rgN s) (n := 15) (xs := lbXs s) (C := fun k => lwH s (lbPos s k).toNat) rfl (fun k _ => ⟨1, rfl⟩) (by show lwH s 0 = _; unfold lwH; rw [lwC_zero]) (fun k _ => own_all rfl (Nat.le_of_ble_eq_true rfl)) ⟨Tryz.f80, Tryz.func80, by kernel_rfl, by kernel_rfl⟩ (labels_it s hs (rgN s) hN) (fun k _ => rfl) (res_one (t := 2) (by kernel_rfl)) (fun k hk => ?_) ?_
    · have p0 := lbPos_nn s k
      have p1 := hN.le k (by omega)
      obtain ⟨o1, o2, o3, o4⟩ := hN.ok k hk
      have hb := bAt_range s (lbPos s k)
      have hlz : ((lbS s k).size : Int) = bAt s (lbPos s k) := by
        unfold lbS
        rw [ByteArray.size_extract]
        omega
      have hpn : lbPos s (k + 1) = lbPos s k + 1 + ((lbS s k).size : Int) := by
        rw [hlz]
        rfl
      have hP : ((lbPos s k).toNat : Int) = lbPos s k := by omega
      have hl1 : lwC s (lbPos s k).toNat = lwC s ((lbPos s k).toNat + 1) := (lwC_len1 s (lbPos s k).toNat (by omega) (by rw [hP]; exact o3)).symm
      have hend : (lbPos s (k + 1)).toNat = (lbPos s k).toNat + 1 + (lbS s k).size := by omega
      dsimp only
      rw [hend]
      unfold lbXs lwH
      rw [hl1]
      generalize lbS s k = lab at hlz hpn hend
      generalize lbPos s k = P at p0 p1 o1 o2 o3 o4 hb hlz hpn hP
      have hsz : P + 1 + (lab.size : Int) ≤ s.size := by omega
      repeat' ((conv => whnf); first | (with_reducible first | refine TR.seq ?_ | refine TR.region (TTok _ _) ?_ | refine TR.drawn (TTok _ _) mixed ?_ | refine TR.block ?_ | refine TR.ret ?_ | refine TR.exit ?_ | refine TR.skip ?_ | refine TR.condB rfl ?_ | refine Br.cond_t ?_ | refine Br.cond_f ?_ | refine Br.yes (by first | decide | assumption | (apply decide_eq_true; omega)) ?_ | refine Br.non (by first | decide | assumption | (apply decide_eq_false; omega)) ?_ | refine Br.cond_ff ?_ | refine Br.eqT (by omega) ?_ | refine Br.eqF (by omega) ?_ | refine Br.neT (by omega) ?_ | refine Br.neF (by omega) ?_ | refine Ld.mk' _ rfl ?_ | refine Need.mk (by first | decide | omega | kernel_rfl) ?_ | refine Nm.i64 (by omega) ?_ | refine Nm.u64 (by omega) ?_ | refine Nm.u8 (by omega) ?_) | refine And.intro rfl ?_ | (refine x_exq (TTok _ _) ?_; (conv => whnf); fail_if_success (guard_target =ₛ False)))
      refine TR.loopH (fun i : Nat => [(23, .v (.int .i64 i))]) (fun i => [(13, ⟨.row, 5, 1, 0, byt (lwC s (P.toNat + 1 + i))⟩)]) (fun i => i ≤ lab.size) (fun i => lab.size - i) 0 (Nat.zero_le _) ?_ ?_
      · repeat' ((conv => whnf); first | exact trivial | exact Fgt.nil | exact Fgt.mk rfl rfl rfl | refine And.intro rfl ?_ | refine And.intro ?_ ?_)
        all_goals trace_state
      · intro i hi
        by_cases hil : i < lab.size
        · have hq : P.toNat + 1 + i < s.size := by omega
          have hld : subL (byt (lwC s (P.toNat + 1 + i))) (0 * 1 + (P + 1 + (i : Int)).toNat * 1) 1 = some [.v (.int .u8 (bAt s (P.toNat + 1 + i : Nat)))] := by
            have h1 := subL_byt_at (lwC s (P.toNat + 1 + i)) (P.toNat + 1 + i) (by rw [lwC_len]; exact hq)
            rw [lwC_at s _ hq] at h1
            rw [show 0 * 1 + (P + 1 + (i : Int)).toNat * 1 = P.toNat + 1 + i by omega]
            exact h1
          have hpb : putL (byt (lwC s (P.toNat + 1 + i))) (0 * 1 + (P + 1 + (i : Int)).toNat * 1) [.v (.int .u8 (lowb (bAt s (P.toNat + 1 + i : Nat))))] = some (byt (lwC s (P.toNat + 1 + (i + 1)))) := by
            rw [show 0 * 1 + (P + 1 + (i : Int)).toNat * 1 = P.toNat + 1 + i by omega, putL_byt _ _ _ (by rw [lwC_len]; exact hq), lwC_set s _ hq]
            rfl
          have hsm := fun w => small_ret (bAt s (P.toNat + 1 + i : Nat)) (bAt_range s _) w
          repeat' ((conv => whnf); first | (with_reducible first | refine TR.seq ?_ | refine TR.region (TTok _ _) ?_ | refine TR.drawn (TTok _ _) mixed ?_ | refine TR.block ?_ | refine TR.ret ?_ | refine TR.exit ?_ | refine TR.skip ?_ | refine TR.condB rfl ?_ | refine Br.cond_t ?_ | refine Br.cond_f ?_ | refine Br.yes (by first | decide | assumption | (apply decide_eq_true; omega)) ?_ | refine Br.non (by first | decide | assumption | (apply decide_eq_false; omega)) ?_ | refine Br.cond_ff ?_ | refine Br.eqT (by omega) ?_ | refine Br.eqF (by omega) ?_ | refine Br.neT (by omega) ?_ | refine Br.neF (by omega) ?_ | refine Ld.mk' _ rfl ?_ | refine Need.mk (by first | decide | omega | kernel_rfl) ?_ | refine Nm.i64 (by omega) ?_ | refine Nm.u64 (by omega) ?_ | refine Nm.u8 (by omega) ?_ | refine x_ret (f := 79) rfl rfl (fun w _ => hsm w) ?_) | refine Ld.mk' _ hld ?_ | refine Ld.mk' _ hpb ?_ | (refine x_exq (TTok _ _) ?_; (conv => whnf); fail_if_success (guard_target =ₛ False)))
          all_goals (conv => whnf)
          refine ⟨i + 1, by omega, by omega, ?_⟩
          repeat' ((conv => whnf); first | exact trivial | exact Fgt.nil | exact Fgt.mk rfl rfl rfl | refine And.intro rfl ?_ | refine And.intro ?_ ?_)
          all_goals trace_state
        · obtain rfl : i = lab.size := by omega
          repeat' ((conv => whnf); first | (with_reducible first | refine TR.seq ?_ | refine TR.region (TTok _ _) ?_ | refine TR.drawn (TTok _ _) mixed ?_ | refine TR.block ?_ | refine TR.ret ?_ | refine TR.exit ?_ | refine TR.skip ?_ | refine TR.condB rfl ?_ | refine Br.cond_t ?_ | refine Br.cond_f ?_ | refine Br.yes (by first | decide | assumption | (apply decide_eq_true; omega)) ?_ | refine Br.non (by first | decide | assumption | (apply decide_eq_false; omega)) ?_ | refine Br.cond_ff ?_ | refine Br.eqT (by omega) ?_ | refine Br.eqF (by omega) ?_ | refine Br.neT (by omega) ?_ | refine Br.neF (by omega) ?_ | refine Ld.mk' _ rfl ?_ | refine Need.mk (by first | decide | omega | kernel_rfl) ?_ | refine Nm.i64 (by omega) ?_ | refine Nm.u64 (by omega) ?_ | refine Nm.u8 (by omega) ?_) | refine And.intro rfl ?_ | (refine x_exq (TTok _ _) ?_; (conv => whnf); fail_if_success (guard_target =ₛ False)))
          all_goals (conv => whnf)
          all_goals first | rfl | trace_state
    · have hfin : lwC s (lbPos s (rgN s)).toNat = (sInts s).map lowb := by
        have h1 := lwC_len1 s (lbPos s (rgN s)).toNat (by omega) (by rw [show (((lbPos s (rgN s)).toNat : Nat) : Int) = lbPos s (rgN s) by omega, hrt.2]; decide)
        rw [← h1, show (lbPos s (rgN s)).toNat + 1 = s.size by omega, lwC_all]
      dsimp only
      unfold lwH
      rw [hfin]
      have hsub : subL (byt ((sInts s).map lowb)) 0 s.size = some (byt ((sInts s).map lowb)) := by
        have := subL_byt_take ((sInts s).map lowb) s.size (by simp [sInts_length])
        rwa [List.take_of_length_le (by simp [sInts_length])] at this
      repeat' ((conv => whnf); first | (with_reducible first | refine TR.seq ?_ | refine TR.region (TTok _ _) ?_ | refine TR.drawn (TTok _ _) mixed ?_ | refine TR.block ?_ | refine TR.ret ?_ | refine TR.exit ?_ | refine TR.skip ?_ | refine TR.condB rfl ?_ | refine Br.cond_t ?_ | refine Br.cond_f ?_ | refine Br.yes (by first | decide | assumption | (apply decide_eq_true; omega)) ?_ | refine Br.non (by first | decide | assumption | (apply decide_eq_false; omega)) ?_ | refine Br.cond_ff ?_ | refine Br.eqT (by omega) ?_ | refine Br.eqF (by omega) ?_ | refine Br.neT (by omega) ?_ | refine Br.neF (by omega) ?_ | refine Ld.mk' _ rfl ?_ | refine Need.mk (by first | decide | omega | kernel_rfl) ?_ | refine Nm.i64 (by omega) ?_ | refine Nm.u64 (by omega) ?_ | refine Nm.u8 (by omega) ?_) | refine Ld.mk' _ hsub ?_ | (rw [bytL_byt]; conv => whnf) | refine Nm.keep ?_ | (refine x_exq (TTok _ _) ?_; (conv => whnf); fail_if_success (guard_target =ₛ False)))
      all_goals (conv => whnf)
      all_goals first | rfl | trace_state
theorem nlower (s : ByteArray) (hs : s.size < 4294967281) (w : World) : Ret Tryz.prog 49 [.string s] w (.string (lowN s)) := nlower_ret s hs w
end Go.Proofs.YtdmgmkifjboojaaGreatDoor
set_option maxRecDepth 100000
set_option linter.unusedVariables false
set_option linter.unusedSimpArgs false
namespace Go.Proofs.YtdmgmkifjboojaaGreatDoor
open Go.SX
theorem nequal (a b : ByteArray) (ha : a.size < 4294967281) (hb : b.size < 4294967281) (w : World) : Ret Tryz.prog 47 [.string a, .string b] w (.bool (eqB a b)) := by
  have h1 := fun w => nright a ha w
  have h2 := fun w => nright b hb w
  have h3 := fun w => nlower a ha w
  have h4 := fun w => nlower b hb w
  obtain ⟨v, hv⟩ : ∃ v, eqB a b = v := ⟨_, rfl⟩
  rw [hv]
  unfold eqB at hv
  refine Ret.tj (I := fun _ => True) (fun _ _ => trivial) (TTok 0 _) Tryz.func47 (by kernel_rfl) rfl ?_
  cases e1 : rgt a with
  | false =>
    rw [e1] at h1 hv
    cases e2 : rgt b <;> rw [e2] at h2 hv <;> subst hv
    all_goals skip
    all_goals repeat' ((conv => whnf); first | (with_reducible first | refine TJ.seq ?_ | refine TJ.region (TTok _ _) ?_ | refine TJ.drawn (TTok _ _) mixed ?_ | refine TJ.cond rfl ?_ | refine TJ.block ?_ | refine TJ.loop ?_ | refine LJ.step ?_ | refine TJ.ret ?_ | refine TJ.exit ?_ | refine TJ.skip ?_ | refine TJ.scope ?_ | refine TJ.label ?_ | refine Br.cond_t ?_ | refine Br.cond_f ?_ | refine Br.yes (by first | decide | assumption | (apply decide_eq_true; omega)) ?_ | refine Br.non (by first | decide | assumption | (apply decide_eq_false; omega)) ?_ | refine Br.cond_ff ?_ | refine Br.eqT (by omega) ?_ | refine Br.eqF (by omega) ?_ | refine Br.neT (by omega) ?_ | refine Br.neF (by omega) ?_ | refine x_ret (f := 48) rfl rfl (fun w _ => h1 w) ?_ | refine x_ret (f := 48) rfl rfl (fun w _ => h2 w) ?_ | refine Ld.mk' _ rfl ?_ | refine Need.mk (by first | decide | omega | kernel_rfl) ?_ | refine Nm.i64 (by omega) ?_ | refine Nm.u64 (by omega) ?_ | refine Nm.u8 (by omega) ?_) | (refine x_exq (TTok _ _) ?_; (conv => whnf); fail_if_success (guard_target =ₛ False)))
    all_goals (conv => whnf)
    all_goals first | rfl | trace_state
  | true =>
    rw [e1] at h1 hv
    cases e2 : rgt b with
    | false =>
      rw [e2] at h2 hv
      subst hv
      repeat' ((conv => whnf); first | (with_reducible first | refine TJ.seq ?_ | refine TJ.region (TTok _ _) ?_ | refine TJ.drawn (TTok _ _) mixed ?_ | refine TJ.cond rfl ?_ | refine TJ.block ?_ | refine TJ.loop ?_ | refine LJ.step ?_ | refine TJ.ret ?_ | refine TJ.exit ?_ | refine TJ.skip ?_ | refine TJ.scope ?_ | refine TJ.label ?_ | refine Br.cond_t ?_ | refine Br.cond_f ?_ | refine Br.yes (by first | decide | assumption | (apply decide_eq_true; omega)) ?_ | refine Br.non (by first | decide | assumption | (apply decide_eq_false; omega)) ?_ | refine Br.cond_ff ?_ | refine Br.eqT (by omega) ?_ | refine Br.eqF (by omega) ?_ | refine Br.neT (by omega) ?_ | refine Br.neF (by omega) ?_ | refine x_ret (f := 48) rfl rfl (fun w _ => h1 w) ?_ | refine x_ret (f := 48) rfl rfl (fun w _ => h2 w) ?_ | refine Ld.mk' _ rfl ?_ | refine Need.mk (by first | decide | omega | kernel_rfl) ?_ | refine Nm.i64 (by omega) ?_ | refine Nm.u64 (by omega) ?_ | refine Nm.u8 (by omega) ?_) | (refine x_exq (TTok _ _) ?_; (conv => whnf); fail_if_success (guard_target =ₛ False)))
      all_goals (conv => whnf)
      all_goals first | rfl | trace_state
    | true =>
      rw [e2] at h2 hv
      simp only [Bool.true_and] at hv
      generalize lowN a = la at h3 hv
      generalize lowN b = lb at h4 hv
      subst hv
      repeat' ((conv => whnf); first | (with_reducible first | refine TJ.seq ?_ | refine TJ.region (TTok _ _) ?_ | refine TJ.drawn (TTok _ _) mixed ?_ | refine TJ.cond rfl ?_ | refine TJ.block ?_ | refine TJ.loop ?_ | refine LJ.step ?_ | refine TJ.ret ?_ | refine TJ.exit ?_ | refine TJ.skip ?_ | refine TJ.scope ?_ | refine TJ.label ?_ | refine Br.cond_t ?_ | refine Br.cond_f ?_ | refine Br.yes (by first | decide | assumption | (apply decide_eq_true; omega)) ?_ | refine Br.non (by first | decide | assumption | (apply decide_eq_false; omega)) ?_ | refine Br.cond_ff ?_ | refine Br.eqT (by omega) ?_ | refine Br.eqF (by omega) ?_ | refine Br.neT (by omega) ?_ | refine Br.neF (by omega) ?_ | refine x_ret (f := 48) rfl rfl (fun w _ => h1 w) ?_ | refine x_ret (f := 48) rfl rfl (fun w _ => h2 w) ?_ | refine x_ret (f := 49) rfl rfl (fun w _ => h3 w) ?_ | refine x_ret (f := 49) rfl rfl (fun w _ => h4 w) ?_ | refine Ld.mk' _ rfl ?_ | refine Need.mk (by first | decide | omega | kernel_rfl) ?_ | refine Nm.i64 (by omega) ?_ | refine Nm.u64 (by omega) ?_ | refine Nm.u8 (by omega) ?_) | (refine x_exq (TTok _ _) ?_; (conv => whnf); fail_if_success (guard_target =ₛ False)))
      all_goals (conv => whnf)
      all_goals first | rfl | trace_state
end Go.Proofs.YtdmgmkifjboojaaGreatDoor
set_option maxRecDepth 100000
set_option linter.unusedVariables false
set_option linter.unusedSimpArgs false
namespace Go.Proofs.YtdmgmkifjboojaaGreatDoor
open Go.SX
def uC (la lb : ByteArray) (b : Bool) : List (Option Chunk) := [none, none, none, none, some ⟨.own, 4, 1, 0, [.v (.bool b)]⟩, some ⟨.own, 9, 1, 0, [.v (.string la)]⟩, some ⟨.own, 9, 1, 0, [.v (.string lb)]⟩]
def uD (la lb : ByteArray) (b : Bool) : List (Option Chunk) := [none, none, none, none, some ⟨.own, 4, 1, 0, [.v (.bool b)]⟩, some ⟨.own, 9, 1, 0, [.v (.string la)]⟩, some ⟨.own, 9, 1, 0, [.v (.string lb)]⟩, some ⟨.own, 9, 1, 0, [.v (.string la)]⟩]
set_option maxHeartbeats 8000000 in
theorem nunder (a b : ByteArray) (ha : a.size < 4294967281) (hb : b.size < 4294967281) (w : World) : Ret Tryz.prog 22 [.string a, .string b] w (.bool (undB a b)) := by
  have h1 := fun w => nright a ha w
  have h2 := fun w => nright b hb w
  have h3 := fun w => nlower a ha w
  have h4 := fun w => nlower b hb w
  refine Ret.ofW (I := fun _ => True) (T := TT) (fun _ _ => trivial) Tryz.func22 (by kernel_rfl) rfl rfl ?_
  conv => whnf
  refine TW.seq (TTok _ _) ?_
  repeat' ((conv => whnf); first | (with_reducible first | refine TR.seq ?_ | refine TR.region (TTok _ _) ?_ | refine TR.drawn (TTok _ _) mixed ?_ | refine TR.block ?_ | refine TR.ret ?_ | refine TR.exit ?_ | refine TR.skip ?_ | refine TR.condB rfl ?_ | refine Br.cond_t ?_ | refine Br.cond_f ?_ | refine Br.yes (by first | decide | assumption | (apply decide_eq_true; omega)) ?_ | refine Br.non (by first | decide | assumption | (apply decide_eq_false; omega)) ?_ | refine Br.cond_ff ?_ | refine Br.eqT (by omega) ?_ | refine Br.eqF (by omega) ?_ | refine Br.neT (by omega) ?_ | refine Br.neF (by omega) ?_ | refine Ld.mk' _ rfl ?_ | refine Need.mk (by first | decide | omega | kernel_rfl) ?_ | refine Nm.i64 (by omega) ?_ | refine Nm.u64 (by omega) ?_ | refine Nm.u8 (by omega) ?_) | (refine x_exq (TTok _ _) ?_; (conv => whnf); fail_if_success (guard_target =ₛ False)))
  refine TW.seq (TTok _ _) ?_
  cases e1 : rgt a with
  | false =>
    have hv : undB a b = false := by unfold undB; rw [e1]; rfl
    rw [hv]
    rw [e1] at h1
    cases e2 : rgt b <;> rw [e2] at h2
    all_goals repeat' ((conv => whnf); first | (with_reducible first | refine TR.seq ?_ | refine TR.region (TTok _ _) ?_ | refine TR.drawn (TTok _ _) mixed ?_ | refine TR.block ?_ | refine TR.ret ?_ | refine TR.exit ?_ | refine TR.skip ?_ | refine TR.condB rfl ?_ | refine Br.cond_t ?_ | refine Br.cond_f ?_ | refine Br.yes (by first | decide | assumption | (apply decide_eq_true; omega)) ?_ | refine Br.non (by first | decide | assumption | (apply decide_eq_false; omega)) ?_ | refine Br.cond_ff ?_ | refine Br.eqT (by omega) ?_ | refine Br.eqF (by omega) ?_ | refine Br.neT (by omega) ?_ | refine Br.neF (by omega) ?_ | refine x_ret (f := 48) rfl rfl (fun w _ => h1 w) ?_ | refine x_ret (f := 48) rfl rfl (fun w _ => h2 w) ?_ | refine Ld.mk' _ rfl ?_ | refine Need.mk (by first | decide | omega | kernel_rfl) ?_ | refine Nm.i64 (by omega) ?_ | refine Nm.u64 (by omega) ?_ | refine Nm.u8 (by omega) ?_) | (refine x_exq (TTok _ _) ?_; (conv => whnf); fail_if_success (guard_target =ₛ False)))
    all_goals (conv => whnf)
    all_goals first | rfl | exact ⟨rfl, rfl⟩ | trace_state
  | true =>
    rw [e1] at h1
    cases e2 : rgt b with
    | false =>
      have hv : undB a b = false := by unfold undB; rw [e1, e2]; rfl
      rw [hv]
      rw [e2] at h2
      repeat' ((conv => whnf); first | (with_reducible first | refine TR.seq ?_ | refine TR.region (TTok _ _) ?_ | refine TR.drawn (TTok _ _) mixed ?_ | refine TR.block ?_ | refine TR.ret ?_ | refine TR.exit ?_ | refine TR.skip ?_ | refine TR.condB rfl ?_ | refine Br.cond_t ?_ | refine Br.cond_f ?_ | refine Br.yes (by first | decide | assumption | (apply decide_eq_true; omega)) ?_ | refine Br.non (by first | decide | assumption | (apply decide_eq_false; omega)) ?_ | refine Br.cond_ff ?_ | refine Br.eqT (by omega) ?_ | refine Br.eqF (by omega) ?_ | refine Br.neT (by omega) ?_ | refine Br.neF (by omega) ?_ | refine x_ret (f := 48) rfl rfl (fun w _ => h1 w) ?_ | refine x_ret (f := 48) rfl rfl (fun w _ => h2 w) ?_ | refine Ld.mk' _ rfl ?_ | refine Need.mk (by first | decide | omega | kernel_rfl) ?_ | refine Nm.i64 (by omega) ?_ | refine Nm.u64 (by omega) ?_ | refine Nm.u8 (by omega) ?_) | (refine x_exq (TTok _ _) ?_; (conv => whnf); fail_if_success (guard_target =ₛ False)))
      all_goals (conv => whnf)
      all_goals first | rfl | exact ⟨rfl, rfl⟩ | trace_state
    | true =>
      rw [e2] at h2
      have hz := rgt_size e1
      have hz2 := rgt_size e2
      have hla : (lowN a).size = a.size := lowN_size a
      have hlb : (lowN b).size = b.size := lowN_size b
      have hra : rgt (lowN a) = true := by rw [rgt_low]; exact e1
      have hN : rgN (lowN a) = rgN a := by
        unfold lowN
        rw [if_pos e1, rgN_low]
      have hu : undB a b = decide (∃ k, k ≤ rgN a ∧ sufN (lowN a) k = lowN b) := by unfold undB; rw [e1, e2]; rfl
      rw [← hN] at hu
      generalize lowN a = la at h3 hla hra hN hu
      generalize lowN b = lb at h4 hlb hu
      repeat' ((conv => whnf); first | (with_reducible first | refine TR.seq ?_ | refine TR.region (TTok _ _) ?_ | refine TR.drawn (TTok _ _) mixed ?_ | refine TR.block ?_ | refine TR.ret ?_ | refine TR.exit ?_ | refine TR.skip ?_ | refine TR.condB rfl ?_ | refine Br.cond_t ?_ | refine Br.cond_f ?_ | refine Br.yes (by first | decide | assumption | (apply decide_eq_true; omega)) ?_ | refine Br.non (by first | decide | assumption | (apply decide_eq_false; omega)) ?_ | refine Br.cond_ff ?_ | refine Br.eqT (by omega) ?_ | refine Br.eqF (by omega) ?_ | refine Br.neT (by omega) ?_ | refine Br.neF (by omega) ?_ | refine x_ret (f := 48) rfl rfl (fun w _ => h1 w) ?_ | refine x_ret (f := 48) rfl rfl (fun w _ => h2 w) ?_ | refine Ld.mk' _ rfl ?_ | refine Need.mk (by first | decide | omega | kernel_rfl) ?_ | refine Nm.i64 (by omega) ?_ | refine Nm.u64 (by omega) ?_ | refine Nm.u8 (by omega) ?_) | (refine x_exq (TTok _ _) ?_; (conv => whnf); fail_if_success (guard_target =ₛ False)))
      refine TW.seq (TTok _ _) ?_
      repeat' ((conv => whnf); first | (with_reducible first | refine TR.seq ?_ | refine TR.region (TTok _ _) ?_ | refine TR.drawn (TTok _ _) mixed ?_ | refine TR.block ?_ | refine TR.ret ?_ | refine TR.exit ?_ | refine TR.skip ?_ | refine TR.condB rfl ?_ | refine Br.cond_t ?_ | refine Br.cond_f ?_ | refine Br.yes (by first | decide | assumption | (apply decide_eq_true; omega)) ?_ | refine Br.non (by first | decide | assumption | (apply decide_eq_false; omega)) ?_ | refine Br.cond_ff ?_ | refine Br.eqT (by omega) ?_ | refine Br.eqF (by omega) ?_ | refine Br.neT (by omega) ?_ | refine Br.neF (by omega) ?_ | refine x_ret (f := 49) rfl rfl (fun w _ => h3 w) ?_ | refine x_ret (f := 49) rfl rfl (fun w _ => h4 w) ?_ | refine Ld.mk' _ rfl ?_ | refine Need.mk (by first | decide | omega | kernel_rfl) ?_ | refine Nm.i64 (by omega) ?_ | refine Nm.u64 (by omega) ?_ | refine Nm.u8 (by omega) ?_) | (refine x_exq (TTok _ _) ?_; (conv => whnf); fail_if_success (guard_target =ₛ False)))
      refine TW.seq (TTok _ _) ?_
      by_cases q0 : la = lb
      · have hv : undB a b = true := by rw [hu]; exact decide_eq_true ⟨0, Nat.zero_le _, by rw [sufN_zero]; exact q0⟩
        rw [hv]
        repeat' ((conv => whnf); first | (with_reducible first | refine TR.seq ?_ | refine TR.region (TTok _ _) ?_ | refine TR.drawn (TTok _ _) mixed ?_ | refine TR.block ?_ | refine TR.ret ?_ | refine TR.exit ?_ | refine TR.skip ?_ | refine TR.condB rfl ?_ | refine Br.cond_t ?_ | refine Br.cond_f ?_ | refine Br.yes (by first | decide | assumption | (apply decide_eq_true; omega)) ?_ | refine Br.non (by first | decide | assumption | (apply decide_eq_false; omega)) ?_ | refine Br.cond_ff ?_ | refine Br.eqT (by omega) ?_ | refine Br.eqF (by omega) ?_ | refine Br.neT (by omega) ?_ | refine Br.neF (by omega) ?_ | refine Ld.mk' _ rfl ?_ | refine Need.mk (by first | decide | omega | kernel_rfl) ?_ | refine Nm.i64 (by omega) ?_ | refine Nm.u64 (by omega) ?_ | refine Nm.u8 (by omega) ?_) | (refine x_exq (TTok _ _) ?_; (conv => whnf); fail_if_success (guard_target =ₛ False)))
        all_goals (conv => whnf)
        all_goals first | rfl | exact ⟨rfl, rfl⟩ | trace_state
      · by_cases q1 : lb = ⟨#[0]⟩
        · have hv : undB a b = true := by rw [hu]; exact decide_eq_true ⟨rgN la, Nat.le_refl _, by rw [sufN_last hra]; exact q1.symm⟩
          rw [hv]
          repeat' ((conv => whnf); first | (with_reducible first | refine TR.seq ?_ | refine TR.region (TTok _ _) ?_ | refine TR.drawn (TTok _ _) mixed ?_ | refine TR.block ?_ | refine TR.ret ?_ | refine TR.exit ?_ | refine TR.skip ?_ | refine TR.condB rfl ?_ | refine Br.non (decide_eq_false q0) ?_ | refine Br.yes (decide_eq_true q1) ?_ | refine Br.cond_t ?_ | refine Br.cond_f ?_ | refine Br.yes (by first | decide | assumption | (apply decide_eq_true; omega)) ?_ | refine Br.non (by first | decide | assumption | (apply decide_eq_false; omega)) ?_ | refine Br.cond_ff ?_ | refine Br.eqT (by omega) ?_ | refine Br.eqF (by omega) ?_ | refine Br.neT (by omega) ?_ | refine Br.neF (by omega) ?_ | refine Ld.mk' _ rfl ?_ | refine Need.mk (by first | decide | omega | kernel_rfl) ?_ | refine Nm.i64 (by omega) ?_ | refine Nm.u64 (by omega) ?_ | refine Nm.u8 (by omega) ?_) | (refine x_exq (TTok _ _) ?_; (conv => whnf); fail_if_success (guard_target =ₛ False)))
          all_goals (conv => whnf)
          all_goals first | rfl | exact ⟨rfl, rfl⟩ | trace_state
        · skip
          repeat' ((conv => whnf); first | (with_reducible first | refine TR.seq ?_ | refine TR.region (TTok _ _) ?_ | refine TR.drawn (TTok _ _) mixed ?_ | refine TR.block ?_ | refine TR.ret ?_ | refine TR.exit ?_ | refine TR.skip ?_ | refine TR.condB rfl ?_ | refine Br.non (decide_eq_false q0) ?_ | refine Br.non (decide_eq_false q1) ?_ | refine Br.cond_t ?_ | refine Br.cond_f ?_ | refine Br.yes (by first | decide | assumption | (apply decide_eq_true; omega)) ?_ | refine Br.non (by first | decide | assumption | (apply decide_eq_false; omega)) ?_ | refine Br.cond_ff ?_ | refine Br.eqT (by omega) ?_ | refine Br.eqF (by omega) ?_ | refine Br.neT (by omega) ?_ | refine Br.neF (by omega) ?_ | refine Ld.mk' _ rfl ?_ | refine Need.mk (by first | decide | omega | kernel_rfl) ?_ | refine Nm.i64 (by omega) ?_ | refine Nm.u64 (by omega) ?_ | refine Nm.u8 (by omega) ?_) | (refine x_exq (TTok _ _) ?_; (conv => whnf); fail_if_success (guard_target =ₛ False)))
          refine TW.seq2 (TWK.seq (TTok _ _) ?_)
          repeat' ((conv => whnf); first | (with_reducible first | refine TR.seq ?_ | refine TR.region (TTok _ _) ?_ | refine TR.drawn (TTok _ _) mixed ?_ | refine TR.block ?_ | refine TR.ret ?_ | refine TR.exit ?_ | refine TR.skip ?_ | refine TR.condB rfl ?_ | refine TJ.seq ?_ | refine TJ.region (TTok _ _) ?_ | refine TJ.drawn (TTok _ _) mixed ?_ | refine TJ.cond rfl ?_ | refine TJ.block ?_ | refine TJ.loop ?_ | refine LJ.step ?_ | refine TJ.ret ?_ | refine TJ.exit ?_ | refine TJ.skip ?_ | refine TJ.scope ?_ | refine TJ.label ?_ | refine Br.cond_t ?_ | refine Br.cond_f ?_ | refine Br.yes (by first | decide | assumption | (apply decide_eq_true; omega)) ?_ | refine Br.non (by first | decide | assumption | (apply decide_eq_false; omega)) ?_ | refine Br.cond_ff ?_ | refine Br.eqT (by omega) ?_ | refine Br.eqF (by omega) ?_ | refine Br.neT (by omega) ?_ | refine Br.neF (by omega) ?_ | refine Ld.mk' _ rfl ?_ | refine Need.mk (by first | decide | omega | kernel_rfl) ?_ | refine Nm.i64 (by omega) ?_ | refine Nm.u64 (by omega) ?_ | refine Nm.u8 (by omega) ?_) | refine x_call (f := 50) (TTok _ _) rfl rfl Tryz.func50 (by kernel_rfl) rfl ?_ | (refine x_exq (TTok _ _) ?_; (conv => whnf); fail_if_success (guard_target =ₛ False)))
          have hLN := rgN_ok la
          have hsz : la.size < 4294967281 := by omega
          by_cases hex : ∃ k, k < rgN la ∧ sufN la k = lb
          · obtain ⟨m, ⟨hm1, hm2⟩, hm3⟩ := least_ex hex
            have hv : undB a b = true := by rw [hu]; exact decide_eq_true ⟨m, by omega, hm2⟩
            rw [hv]
            refine TWK.rangeSM (TTok _ _) (gf := 80) (c0 := 7) (v0 := 0) (ty := 9) (u := .string la) (N := rgN la) (m := m) (n := 8) (e0 := .ret) (cj := .ret) (xs := lbXs la) (C := fun k => uD la lb (decide (m < k))) rfl hm1 rfl (fun k _ => ⟨1, rfl⟩) (by show uD la lb (decide (m < 0)) = _; rw [decide_eq_false (by omega)]; rfl) (fun k _ => own_all rfl (Nat.le_of_ble_eq_true rfl)) ⟨Tryz.f80, Tryz.func80, by kernel_rfl, by kernel_rfl⟩ (labels_stop la hsz (rgN la) hLN) (fun k _ => rfl) (fun k hk => ?_) ?_ ?_
            · have p0 := lbPos_nn la k
              have p1 := hLN.le k (by omega)
              have hne : ¬ sufN la k = lb := fun e => hm3 k hk ⟨by omega, e⟩
              show setPK _ _ fun fr => TR _ _ (roundK _ _ (uD la lb (decide (m < k))) (uD la lb (decide (m < k + 1)))) ⟨fr, uD la lb (decide (m < k))⟩
              rw [decide_eq_false (p := m < k) (by omega), decide_eq_false (p := m < k + 1) (by omega)]
              unfold lbXs
              repeat' ((conv => whnf); first | (with_reducible first | refine TR.seq ?_ | refine TR.region (TTok _ _) ?_ | refine TR.drawn (TTok _ _) mixed ?_ | refine TR.block ?_ | refine TR.ret ?_ | refine TR.exit ?_ | refine TR.skip ?_ | refine TR.condB rfl ?_ | refine Br.non (decide_eq_false hne) ?_ | refine Br.cond_t ?_ | refine Br.cond_f ?_ | refine Br.yes (by first | decide | assumption | (apply decide_eq_true; omega)) ?_ | refine Br.non (by first | decide | assumption | (apply decide_eq_false; omega)) ?_ | refine Br.cond_ff ?_ | refine Br.eqT (by omega) ?_ | refine Br.eqF (by omega) ?_ | refine Br.neT (by omega) ?_ | refine Br.neF (by omega) ?_ | refine Ld.mk' _ rfl ?_ | refine Need.mk (by first | decide | omega | kernel_rfl) ?_ | refine Nm.i64 (by omega) ?_ | refine Nm.u64 (by omega) ?_ | refine Nm.u8 (by omega) ?_) | refine Nm.mk' (sufN la k) rfl ?_ | refine And.intro rfl ?_ | (refine x_exq (TTok _ _) ?_; (conv => whnf); fail_if_success (guard_target =ₛ False)))
              all_goals (conv => whnf)
              all_goals first | rfl | exact ⟨rfl, rfl⟩ | trace_state
            · have p0 := lbPos_nn la m
              have p1 := hLN.le m (by omega)
              show setPK _ _ fun fr => TR _ _ (roundKx _ _ (uD la lb (decide (m < m))) _ (uD la lb (decide (m < m + 1)))) ⟨fr, uD la lb (decide (m < m))⟩
              rw [decide_eq_false (p := m < m) (by omega), decide_eq_true (p := m < m + 1) (by omega)]
              unfold lbXs
              repeat' ((conv => whnf); first | (with_reducible first | refine TR.seq ?_ | refine TR.region (TTok _ _) ?_ | refine TR.drawn (TTok _ _) mixed ?_ | refine TR.block ?_ | refine TR.ret ?_ | refine TR.exit ?_ | refine TR.skip ?_ | refine TR.condB rfl ?_ | refine Br.yes (decide_eq_true hm2) ?_ | refine Br.cond_t ?_ | refine Br.cond_f ?_ | refine Br.yes (by first | decide | assumption | (apply decide_eq_true; omega)) ?_ | refine Br.non (by first | decide | assumption | (apply decide_eq_false; omega)) ?_ | refine Br.cond_ff ?_ | refine Br.eqT (by omega) ?_ | refine Br.eqF (by omega) ?_ | refine Br.neT (by omega) ?_ | refine Br.neF (by omega) ?_ | refine Ld.mk' _ rfl ?_ | refine Need.mk (by first | decide | omega | kernel_rfl) ?_ | refine Nm.i64 (by omega) ?_ | refine Nm.u64 (by omega) ?_ | refine Nm.u8 (by omega) ?_) | refine Nm.mk' (sufN la m) rfl ?_ | refine And.intro rfl ?_ | (refine x_exq (TTok _ _) ?_; (conv => whnf); fail_if_success (guard_target =ₛ False)))
              all_goals (conv => whnf)
              all_goals first | rfl | exact ⟨rfl, rfl⟩ | trace_state
            · show TR _ _ _ ⟨_, uD la lb (decide (m < m + 1))⟩
              rw [decide_eq_true (p := m < m + 1) (by omega)]
              repeat' ((conv => whnf); first | (with_reducible first | refine TR.seq ?_ | refine TR.region (TTok _ _) ?_ | refine TR.drawn (TTok _ _) mixed ?_ | refine TR.block ?_ | refine TR.ret ?_ | refine TR.exit ?_ | refine TR.skip ?_ | refine TR.condB rfl ?_ | refine Br.cond_t ?_ | refine Br.cond_f ?_ | refine Br.yes (by first | decide | assumption | (apply decide_eq_true; omega)) ?_ | refine Br.non (by first | decide | assumption | (apply decide_eq_false; omega)) ?_ | refine Br.cond_ff ?_ | refine Br.eqT (by omega) ?_ | refine Br.eqF (by omega) ?_ | refine Br.neT (by omega) ?_ | refine Br.neF (by omega) ?_ | refine Ld.mk' _ rfl ?_ | refine Need.mk (by first | decide | omega | kernel_rfl) ?_ | refine Nm.i64 (by omega) ?_ | refine Nm.u64 (by omega) ?_ | refine Nm.u8 (by omega) ?_) | (refine x_exq (TTok _ _) ?_; (conv => whnf); fail_if_success (guard_target =ₛ False)))
              all_goals (conv => whnf)
              all_goals first | rfl | exact ⟨rfl, rfl⟩ | trace_state
          · have hv : undB a b = false := by
              rw [hu]
              refine decide_eq_false fun ⟨k, h5, h6⟩ => ?_
              by_cases e : k = rgN la
              · subst e
                rw [sufN_last hra] at h6
                exact q1 h6.symm
              · exact hex ⟨k, by omega, h6⟩
            rw [hv]
            refine TWK.rangeM (TTok _ _) (gf := 80) (c0 := 7) (v0 := 0) (ty := 9) (u := .string la) (N := rgN la) (n := 8) (xs := lbXs la) (C := fun k => uD la lb false) rfl (fun k _ => ⟨1, rfl⟩) rfl (fun k _ => own_all rfl (Nat.le_of_ble_eq_true rfl)) ⟨Tryz.f80, Tryz.func80, by kernel_rfl, by kernel_rfl⟩ (labels_it la hsz (rgN la) hLN) (fun k _ => rfl) (fun k hk => ?_) ?_
            · have p0 := lbPos_nn la k
              have p1 := hLN.le k (by omega)
              have hne : ¬ sufN la k = lb := fun e => hex ⟨k, by omega, e⟩
              unfold lbXs
              repeat' ((conv => whnf); first | (with_reducible first | refine TR.seq ?_ | refine TR.region (TTok _ _) ?_ | refine TR.drawn (TTok _ _) mixed ?_ | refine TR.block ?_ | refine TR.ret ?_ | refine TR.exit ?_ | refine TR.skip ?_ | refine TR.condB rfl ?_ | refine Br.non (decide_eq_false hne) ?_ | refine Br.cond_t ?_ | refine Br.cond_f ?_ | refine Br.yes (by first | decide | assumption | (apply decide_eq_true; omega)) ?_ | refine Br.non (by first | decide | assumption | (apply decide_eq_false; omega)) ?_ | refine Br.cond_ff ?_ | refine Br.eqT (by omega) ?_ | refine Br.eqF (by omega) ?_ | refine Br.neT (by omega) ?_ | refine Br.neF (by omega) ?_ | refine Ld.mk' _ rfl ?_ | refine Need.mk (by first | decide | omega | kernel_rfl) ?_ | refine Nm.i64 (by omega) ?_ | refine Nm.u64 (by omega) ?_ | refine Nm.u8 (by omega) ?_) | refine Nm.mk' (sufN la k) rfl ?_ | refine And.intro rfl ?_ | (refine x_exq (TTok _ _) ?_; (conv => whnf); fail_if_success (guard_target =ₛ False)))
              all_goals (conv => whnf)
              all_goals first | rfl | exact ⟨rfl, rfl⟩ | trace_state
            · skip
              repeat' ((conv => whnf); first | (with_reducible first | refine TR.seq ?_ | refine TR.region (TTok _ _) ?_ | refine TR.drawn (TTok _ _) mixed ?_ | refine TR.block ?_ | refine TR.ret ?_ | refine TR.exit ?_ | refine TR.skip ?_ | refine TR.condB rfl ?_ | refine Br.cond_t ?_ | refine Br.cond_f ?_ | refine Br.yes (by first | decide | assumption | (apply decide_eq_true; omega)) ?_ | refine Br.non (by first | decide | assumption | (apply decide_eq_false; omega)) ?_ | refine Br.cond_ff ?_ | refine Br.eqT (by omega) ?_ | refine Br.eqF (by omega) ?_ | refine Br.neT (by omega) ?_ | refine Br.neF (by omega) ?_ | refine Ld.mk' _ rfl ?_ | refine Need.mk (by first | decide | omega | kernel_rfl) ?_ | refine Nm.i64 (by omega) ?_ | refine Nm.u64 (by omega) ?_ | refine Nm.u8 (by omega) ?_) | (refine x_exq (TTok _ _) ?_; (conv => whnf); fail_if_success (guard_target =ₛ False)))
              all_goals (conv => whnf)
              all_goals first | rfl | exact ⟨rfl, rfl⟩ | trace_state
end Go.Proofs.YtdmgmkifjboojaaGreatDoor
set_option maxRecDepth 100000
set_option linter.unusedVariables false
namespace Go.Proofs.YtdmgmkifjboojaaGreatDoor
open Go.SX
def KK : Nat → Option KSpec := fun _ => none
def Kd : Nat → Bool := fun _ => false
def Ka : Nat → List Value → Option AV
  | 22, [.string a, .string b] => match Nat.ble a.data.toList.length 1000 && Nat.ble b.data.toList.length 1000 with
    | true => some (.v (.bool (undC a b)))
    | false => none
  | _, _ => none
theorem Ka_ok (I : World → Prop) : ∀ f vs R, Ka f vs = some R → ∀ w, I w → RetA Tryz.prog f vs w R := by
  intro f vs R h w hw
  unfold Ka at h
  split at h
  · rename_i a b
    split at h
    · rename_i hl
      cases h
      simp only [Bool.and_eq_true] at hl
      have h1 := Nat.le_of_ble_eq_true hl.1
      have h2 := Nat.le_of_ble_eq_true hl.2
      rw [undC_eq]
      exact (nunder a b (by show a.data.size < _; rw [← Array.length_toList]; omega) (by show b.data.size < _; rw [← Array.length_toList]; omega) w).toA
    · cases h
  · cases h
theorem examples_run : runFD Kd Ka 339 KK GG (fun f => Tryz.prog.funcs[f]?) TT 1000 14 Tryz.f15 [] (wantB true) = true := by kernel_rfl
theorem examples_ret (I : World → Prop) (hI : ∀ w w', I w → Mod w w' (fun _ => False) → I w') {w : World} (h : I w) : Ret Tryz.prog 15 [] w (.bool true) := by
  have hr := examples_run
  unfold runFD at hr
  split at hr
  · rename_i c hb
    exact Ret.runBD (I := fun _ => True) (fun w' hm => trivial) (fun f => Tryz.prog.funcs[f]?) GG (fun w hw g cells hg => by cases hg) Kd (fun f hf => by cases hf) Ka (Ka_ok _) 339 Tryz.underlying339 KK (fun f sp hf => by cases hf) 1000 14 (TTok 0 _) mixed (fun f fn hf => hf) Tryz.func15 (by kernel_rfl) hb hr wantB_eq
  · cases hr
end Go.Proofs.YtdmgmkifjboojaaGreatDoor
set_option maxRecDepth 100000
set_option linter.unusedVariables false
set_option linter.unusedSimpArgs false
namespace Go.Proofs.YtdmgmkifjboojaaGreatDoor
open Go.SX
def SvAt (I : World → Prop) (sv : Value) (m : Nat) (us : List Value) : Prop :=
  us.length = m * 3 ∧ (∀ q, q ∈ us → q.oneCell' = true) ∧ m < 1099511627776 ∧ ((sv = .slice none 0 0 ∧ m = 0) ∨ ∃ ad c, sv = .slice (some ad) m c ∧ ∀ w, I w → ∀ j q, us[j]? = some q → w.cell? (ad.add j) = some q)
def clC (us : List Value) (v : Nat) : List (Option Chunk) := [some ⟨.row, 38, 3, v, us.map .v⟩]
theorem clone_con (I : World → Prop) (sv : Value) (m : Nat) (us : List Value) (h : SvAt I sv m us) : Con Tryz.prog I 46 (fun _ => [.v sv]) (fun _ => []) (fun _ : Nat => True) (fun p s => .sl (s 0) p 0 m) (fun p _ => clC us p) (fun _ => False) := by
  obtain ⟨h1, h2, h3, h4⟩ := h
  refine Con.of (TTok _ _) Tryz.func46 (by kernel_rfl) rfl rfl rfl (fun σ => rfl) (fun σ => rfl) (fun _ _ _ => rfl) (fun _ σ _ => by simp [clC, mapR, renK, renL_vals]) (fun _ _ => CEnd.of rfl rfl (by simp [clC, refsInC, refsInL_vals])) ?_
  rcases h4 with ⟨rfl, rfl⟩ | ⟨ad, c, rfl, h5⟩
  · obtain rfl : us = [] := List.eq_nil_of_length_eq_zero (by omega)
    repeat' ((conv => whnf); first | refine TR.nil_slot (code := .ret) 2 0 38 3 rfl rfl ?_ | (with_reducible first | refine TR.seq ?_ | refine TR.regionL ?_ | refine TR.drawn (TTok _ _) mixed ?_ | refine TR.block ?_ | refine TR.ret ?_ | refine TR.exit ?_ | refine TR.skip ?_ | refine TR.condB rfl ?_ | refine TRL.nil ?_ | refine Br.cond_t ?_ | refine Br.cond_f ?_ | refine Br.yes (by first | decide | assumption | (apply decide_eq_true; omega)) ?_ | refine Br.non (by first | decide | assumption | (apply decide_eq_false; omega)) ?_ | refine Br.cond_ff ?_ | refine Br.eqT (by omega) ?_ | refine Br.eqF (by omega) ?_ | refine Br.neT (by omega) ?_ | refine Br.neF (by omega) ?_ | refine Ld.mk' _ rfl ?_ | refine Need.mk (by first | decide | omega | kernel_rfl) ?_ | refine Nm.i64 (by omega) ?_ | refine Nm.u64 (by omega) ?_ | refine Nm.u8 (by omega) ?_ | refine Nm.keep ?_ | refine Need.mk (by dsimp only; omega) ?_) | refine Br.non rfl ?_ | refine Br.yes rfl ?_ | refine x_eq_sl_nil (TTok _ _) _ (.inl rfl) rfl rfl rfl rfl rfl ?_ | refine TRL.step (TTok _ _) ?_ | (refine x_exq (TTok _ _) ?_; (conv => whnf); fail_if_success (guard_target =ₛ False)))
    all_goals (conv => whnf)
    all_goals first | exact ⟨0, trivial, rfl, rfl, trivial⟩ | trace_state
  · skip
    repeat' ((conv => whnf); first | refine TR.mv 5 0 rfl rfl rfl (Nat.zero_le _) (Nat.zero_le _) ?_ | (with_reducible first | refine TR.seq ?_ | refine TR.regionL ?_ | refine TR.drawn (TTok _ _) mixed ?_ | refine TR.block ?_ | refine TR.ret ?_ | refine TR.exit ?_ | refine TR.skip ?_ | refine TR.condB rfl ?_ | refine TRL.nil ?_ | refine Br.cond_t ?_ | refine Br.cond_f ?_ | refine Br.yes (by first | decide | assumption | (apply decide_eq_true; omega)) ?_ | refine Br.non (by first | decide | assumption | (apply decide_eq_false; omega)) ?_ | refine Br.cond_ff ?_ | refine Br.eqT (by omega) ?_ | refine Br.eqF (by omega) ?_ | refine Br.neT (by omega) ?_ | refine Br.neF (by omega) ?_ | refine Ld.mk' _ rfl ?_ | refine Need.mk (by first | decide | omega | kernel_rfl) ?_ | refine Nm.i64 (by omega) ?_ | refine Nm.u64 (by omega) ?_ | refine Nm.u8 (by omega) ?_ | refine Nm.keep ?_ | refine Need.mk (by dsimp only; omega) ?_) | refine Br.non rfl ?_ | refine Br.yes rfl ?_ | refine x_eq_sl_nil (TTok _ _) _ (.inl rfl) rfl rfl rfl rfl rfl ?_ | refine x_append (cr := []) (m := m) (l := us.map .v) (TTok _ _) rfl rfl rfl rfl rfl rfl rfl rfl rfl rfl (by decide) rfl rfl (Src.ext rfl h1 h2 h5) (fun _ _ h => by cases h) (by unfold maxLen; omega) (by dsimp only; omega) ?_ | refine TRL.step (TTok _ _) ?_ | (refine x_exq (TTok _ _) ?_; (conv => whnf); fail_if_success (guard_target =ₛ False)))
    all_goals (conv => whnf)
    all_goals
      refine ⟨1, trivial, ?_, ?_⟩
      · show AV.sl 0 1 0 (0 + m) = AV.sl 0 1 0 m
        rw [Nat.zero_add]
      · refine ⟨?_, trivial⟩
        show some (Chunk.mk .row 38 3 1 (swL 5 0 (us.map .v))) = _
        rw [swL_vals]
end Go.Proofs.YtdmgmkifjboojaaGreatDoor
set_option maxRecDepth 100000
set_option linter.unusedVariables false
set_option linter.unusedSimpArgs false
namespace Go.Proofs.YtdmgmkifjboojaaGreatDoor
open Go.SX
structure Up where
  name : ByteArray
  ad : Option Addr
  m : Nat
  cp : Nat
  fwd : Bool
def Up.sv (u : Up) : Value := .slice u.ad u.m u.cp
structure An where
  name : ByteArray
  tag : Int
  alg : Int
  kind : Int
  dig : ByteArray
def upC (u : Up) : List Value := [.string u.name, .slice u.ad u.m u.cp, .bool u.fwd]
def upsC (l : List Up) : List Value := l.flatMap upC
def anC (a : An) : List Value := [.string a.name, .int .i64 a.tag, .int .i64 a.alg, .int .i64 a.kind, .string a.dig]
def ansC (l : List An) : List Value := l.flatMap anC
def up0 : Up := ⟨⟨#[]⟩, none, 0, 0, false⟩
noncomputable def stepU (n : ByteArray) (b u : Up) : Up := if undB n u.name = true ∧ b.name.size < u.name.size then u else b
noncomputable def bestU (n : ByteArray) (l : List Up) : Up := l.foldl (stepU n) up0
theorem flatMap_len {α : Type} (f : α → List Value) (k : Nat) (hf : ∀ a, (f a).length = k) : ∀ l : List α, (l.flatMap f).length = l.length * k
  | [] => by simp
  | a :: l => by rw [List.flatMap_cons, List.length_append, flatMap_len f k hf l, hf, List.length_cons, Nat.succ_mul]; omega
theorem subL_flat {α : Type} (f : α → List Value) (k : Nat) (hf : ∀ a, (f a).length = k) : ∀ (l : List α) (i : Nat) (a : α), l[i]? = some a → subL ((l.flatMap f).map .v) (i * k) k = some ((f a).map .v)
  | [], i, a, h => by simp at h
  | b :: l, 0, a, h => by
    simp only [List.getElem?_cons_zero, Option.some.injEq] at h
    subst h
    have : ∀ (xs ys : List AV), subL (xs ++ ys) 0 xs.length = some xs := by
      intro xs
      induction xs with
      | nil => intro ys; cases ys <;> rfl
      | cons x xs ih => intro ys; simp only [List.cons_append, List.length_cons, subL, ih ys]
    have h2 := this ((f b).map .v) ((l.flatMap f).map .v)
    rw [List.length_map, hf] at h2
    rw [List.flatMap_cons, List.map_append, Nat.zero_mul]
    exact h2
  | b :: l, i + 1, a, h => by
    have ih := subL_flat f k hf l i a (by simpa using h)
    have : ∀ (xs ys : List AV) (m q : Nat), subL (xs ++ ys) (xs.length + m) q = subL ys m q := by
      intro xs
      induction xs with
      | nil => intro ys m q; simp
      | cons x xs ih =>
        intro ys m q
        rw [List.cons_append, List.length_cons, show xs.length + 1 + m = (xs.length + m) + 1 by omega]
        simp only [subL]
        exact ih ys m q
    have h2 := this ((f b).map .v) ((l.flatMap f).map .v) (i * k) k
    rw [List.length_map, hf] at h2
    rw [List.flatMap_cons, List.map_append, show (i + 1) * k = k + i * k by rw [Nat.succ_mul]; omega, h2]
    exact ih
theorem bestU_step (n : ByteArray) (l : List Up) (i : Nat) (u : Up) (h : l[i]? = some u) : bestU n (l.take (i + 1)) = stepU n (bestU n (l.take i)) u := by
  unfold bestU
  rw [List.take_add_one, h]
  simp [List.foldl_append]
theorem bestU_mem (n : ByteArray) (l : List Up) : bestU n l = up0 ∨ bestU n l ∈ l := by
  have : ∀ (l : List Up) (b : Up), l.foldl (stepU n) b = b ∨ l.foldl (stepU n) b ∈ l := by
    intro l
    induction l with
    | nil => intro b; exact .inl rfl
    | cons u l ih =>
      intro b
      rw [List.foldl_cons]
      have hs : stepU n b u = u ∨ stepU n b u = b := by
        unfold stepU
        split
        · exact .inl rfl
        · exact .inr rfl
      rcases ih (stepU n b u) with h | h
      · rw [h]
        rcases hs with h2 | h2
        · rw [h2]; exact .inr (by simp)
        · rw [h2]; exact .inl rfl
      · exact .inr (List.mem_cons_of_mem _ h)
  exact this l up0
theorem noRefL_vals (ms : List Nat) : ∀ us : List Value, noRefL ms (us.map .v) = true
  | [] => rfl
  | u :: us => by simp only [List.map_cons, noRefL, noRef, noRefL_vals ms us, Bool.and_self]
def coH (l : List Up) (la : List An) (v v2 : Nat) : List (Option Chunk) := [some ⟨.ro, 47, 3, v, (upsC l).map .v⟩, some ⟨.ro, 51, 5, v2, (ansC la).map .v⟩]
def coC (l : List Up) (la : List An) (v v2 : Nat) (us : List Value) (p : Nat) : List (Option Chunk) := [some ⟨.ro, 47, 3, v, (upsC l).map .v⟩, some ⟨.ro, 51, 5, v2, (ansC la).map .v⟩, some ⟨.row, 38, 3, p, us.map .v⟩]
def SvIn (I : World → Prop) (l : List Up) (f : Up → Nat × List Value) : Prop := ∀ u, u ∈ up0 :: l → SvAt I u.sv (f u).1 (f u).2
set_option maxHeartbeats 8000000 in
theorem upstream_con (I : World → Prop) (n : ByteArray) (hn : n.size < 1073741824) (l : List Up) (la : List An) (v v2 : Nat) (hl : l.length < 1073741824) (hs : ∀ u, u ∈ l → u.name.size < 1073741824) (f : Up → Nat × List Value) (hf : SvIn I l f) (a0 a1 a2 i5 i6 i7 i8 : Value) :
    Con Tryz.prog I 20 (fun s => [.agg [.v a0, .v a1, .v a2, .sl (s 0) v 0 l.length, .sl (s 1) v2 0 la.length, .v i5, .v i6, .v i7, .v i8], .v (.string n)]) (fun _ => coH l la v v2) (fun _ : Nat => True)
      (fun p s => .tup [.agg [.v (.string (bestU n l).name), .sl (s 2) p 0 (f (bestU n l)).1, .v (.bool (bestU n l).fwd)], .v (.bool (!decide ((bestU n l).name = ⟨#[]⟩)))]) (fun p _ => coC l la v v2 (f (bestU n l)).2 p) (fun _ => False) := by
  have hb : SvAt I (bestU n l).sv (f (bestU n l)).1 (f (bestU n l)).2 := by
    refine hf _ ?_
    rcases bestU_mem n l with h | h
    · rw [h]; simp
    · exact List.mem_cons_of_mem _ h
  obtain ⟨B, hB⟩ : ∃ B, bestU n l = B := ⟨_, rfl⟩
  rw [hB] at hb ⊢
  refine Con.of (TTok _ _) Tryz.func20 (by kernel_rfl) rfl (by simp [coH, refsInC, refsInL_vals]) rfl (fun σ => rfl) (fun σ => by simp [coH, mapR, renK, renL_vals]) (fun _ _ _ => rfl) (fun _ σ _ => by simp [coC, mapR, renK, renL_vals]) (fun _ _ => CEnd.of (by simp [coH, coC, keepS, keep1, allOwn, CK.owned]) rfl (by simp [coC, refsInC, refsInL_vals])) ?_
  unfold coH
  repeat' ((conv => whnf); first | (with_reducible first | refine TR.seq ?_ | refine TR.regionL ?_ | refine TR.drawn (TTok _ _) mixed ?_ | refine TR.block ?_ | refine TR.ret ?_ | refine TR.exit ?_ | refine TR.skip ?_ | refine TR.condB rfl ?_ | refine TRL.nil ?_ | refine Br.cond_t ?_ | refine Br.cond_f ?_ | refine Br.yes (by first | decide | assumption | (apply decide_eq_true; omega)) ?_ | refine Br.non (by first | decide | assumption | (apply decide_eq_false; omega)) ?_ | refine Br.cond_ff ?_ | refine Br.eqT (by omega) ?_ | refine Br.eqF (by omega) ?_ | refine Br.neT (by omega) ?_ | refine Br.neF (by omega) ?_ | refine Ld.mk' _ rfl ?_ | refine Need.mk (by first | decide | omega | kernel_rfl) ?_ | refine Nm.i64 (by omega) ?_ | refine Nm.u64 (by omega) ?_ | refine Nm.u8 (by omega) ?_ | refine Nm.keep ?_ | refine Need.mk (by dsimp only; omega) ?_) | refine TRL.step (TTok _ _) ?_ | (refine x_exq (TTok _ _) ?_; (conv => whnf); fail_if_success (guard_target =ₛ False)))
  all_goals (conv => whnf)
  have hsz : ∀ k : Nat, (bestU n (l.take k)).name.size < 1073741824 := by
    intro k
    rcases bestU_mem n (l.take k) with h | h
    · rw [h]; decide
    · exact hs _ (List.mem_of_mem_take h)
  refine TR.loopH (fun x : Int × Up => [(12, .v (.int .i64 x.1))]) (fun x => [(6, ⟨.own, 47, 3, 0, [.v (.string x.2.name), .v (.slice x.2.ad x.2.m x.2.cp), .v (.bool x.2.fwd)]⟩)]) (fun x => 0 ≤ x.1 ∧ x.1 ≤ l.length ∧ bestU n (l.take x.1.toNat) = x.2) (fun x => (l.length - x.1).toNat) (0, up0) ⟨by simp, by simp, rfl⟩ ?_ ?_
  · repeat' ((conv => whnf); first | exact trivial | exact Fgt.nil | exact Fgt.mk rfl rfl rfl | exact Fgt.mk rfl (by simp only [noRefC, noRefL_vals]; rfl) rfl | refine And.intro rfl ?_ | refine And.intro ?_ ?_)
  · rintro ⟨i, ⟨bn, ba, bm, bc, bf⟩⟩ ⟨i0, i1, hbe⟩
    dsimp only at i0 i1 hbe
    have hbz := hsz i.toNat
    rw [hbe] at hbz
    dsimp only at hbz
    by_cases hi : i < l.length
    · obtain ⟨u, hu⟩ : ∃ u, l[i.toNat]? = some u := ⟨l[i.toNat], by rw [List.getElem?_eq_getElem]⟩
      have huz := hs u (List.mem_of_getElem? hu)
      have hsub : ∀ o, o = i.toNat * 3 → subL ((upsC l).map .v) o 3 = some [.v (.string u.name), .v (.slice u.ad u.m u.cp), .v (.bool u.fwd)] := by
        rintro _ rfl
        exact subL_flat upC 3 (fun _ => rfl) l i.toNat u hu
      have hst := bestU_step n l i.toNat u hu
      rw [hbe] at hst
      have hnx : (i + 1).toNat = i.toNat + 1 := by omega
      have hc := fun w => nunder n u.name (by omega) (by omega) w
      obtain ⟨un, ua, um, uc, uf⟩ := u
      dsimp only at huz hsub hc
      by_cases h1 : undB n un = true
      · rw [h1] at hc
        by_cases h2 : bn.size < un.size
        · have hst' : bestU n (l.take (i.toNat + 1)) = ⟨un, ua, um, uc, uf⟩ := by rw [hst]; exact if_pos ⟨h1, h2⟩
          have hgt : decide ((un.size : Int) > (bn.size : Int)) = true := decide_eq_true (by omega)
          repeat' ((conv => whnf); first | (with_reducible first | refine TR.seq ?_ | refine TR.regionL ?_ | refine TR.drawn (TTok _ _) mixed ?_ | refine TR.block ?_ | refine TR.ret ?_ | refine TR.exit ?_ | refine TR.skip ?_ | refine TR.condB rfl ?_ | refine TRL.nil ?_ | refine Br.cond_t ?_ | refine Br.cond_f ?_ | refine Br.yes (by first | decide | assumption | (apply decide_eq_true; omega)) ?_ | refine Br.non (by first | decide | assumption | (apply decide_eq_false; omega)) ?_ | refine Br.cond_ff ?_ | refine Br.eqT (by omega) ?_ | refine Br.eqF (by omega) ?_ | refine Br.neT (by omega) ?_ | refine Br.neF (by omega) ?_ | refine Ld.mk' _ (hsub _ (by dsimp only; omega)) ?_ | refine Ld.mk' _ rfl ?_ | refine Need.mk (by first | decide | omega | kernel_rfl) ?_ | refine Nm.i64 (by omega) ?_ | refine Nm.u64 (by omega) ?_ | refine Nm.u8 (by omega) ?_ | refine Nm.keep ?_ | refine Need.mk (by dsimp only; omega) ?_ | refine x_ret (f := 22) rfl rfl (fun w _ => hc w) ?_) | refine Br.yes hgt ?_ | refine Br.non hgt ?_ | refine Br.non rfl ?_ | refine Br.yes rfl ?_ | refine TRL.step (TTok _ _) ?_ | (refine x_exq (TTok _ _) ?_; (conv => whnf); fail_if_success (guard_target =ₛ False)))
          all_goals (conv => whnf)
          all_goals refine ⟨(i + 1, ⟨un, ua, um, uc, uf⟩), ⟨by dsimp only; omega, by dsimp only; omega, by dsimp only; rw [hnx]; exact hst'⟩, by dsimp only; omega, ?_⟩
          all_goals repeat' ((conv => whnf); first | exact trivial | exact Fgt.nil | exact Fgt.mk rfl rfl rfl | exact Fgt.mk rfl (by simp only [noRefC, noRefL_vals]; rfl) rfl | refine And.intro rfl ?_ | refine And.intro ?_ ?_)

        · have hst' : bestU n (l.take (i.toNat + 1)) = ⟨bn, ba, bm, bc, bf⟩ := by rw [hst]; exact if_neg (fun h => h2 h.2)
          have hgt : decide ((un.size : Int) > (bn.size : Int)) = false := decide_eq_false (by omega)
          repeat' ((conv => whnf); first | (with_reducible first | refine TR.seq ?_ | refine TR.regionL ?_ | refine TR.drawn (TTok _ _) mixed ?_ | refine TR.block ?_ | refine TR.ret ?_ | refine TR.exit ?_ | refine TR.skip ?_ | refine TR.condB rfl ?_ | refine TRL.nil ?_ | refine Br.cond_t ?_ | refine Br.cond_f ?_ | refine Br.yes (by first | decide | assumption | (apply decide_eq_true; omega)) ?_ | refine Br.non (by first | decide | assumption | (apply decide_eq_false; omega)) ?_ | refine Br.cond_ff ?_ | refine Br.eqT (by omega) ?_ | refine Br.eqF (by omega) ?_ | refine Br.neT (by omega) ?_ | refine Br.neF (by omega) ?_ | refine Ld.mk' _ (hsub _ (by dsimp only; omega)) ?_ | refine Ld.mk' _ rfl ?_ | refine Need.mk (by first | decide | omega | kernel_rfl) ?_ | refine Nm.i64 (by omega) ?_ | refine Nm.u64 (by omega) ?_ | refine Nm.u8 (by omega) ?_ | refine Nm.keep ?_ | refine Need.mk (by dsimp only; omega) ?_ | refine x_ret (f := 22) rfl rfl (fun w _ => hc w) ?_) | refine Br.yes hgt ?_ | refine Br.non hgt ?_ | refine Br.non rfl ?_ | refine Br.yes rfl ?_ | refine TRL.step (TTok _ _) ?_ | (refine x_exq (TTok _ _) ?_; (conv => whnf); fail_if_success (guard_target =ₛ False)))
          all_goals (conv => whnf)
          all_goals refine ⟨(i + 1, ⟨bn, ba, bm, bc, bf⟩), ⟨by dsimp only; omega, by dsimp only; omega, by dsimp only; rw [hnx]; exact hst'⟩, by dsimp only; omega, ?_⟩
          all_goals repeat' ((conv => whnf); first | exact trivial | exact Fgt.nil | exact Fgt.mk rfl rfl rfl | exact Fgt.mk rfl (by simp only [noRefC, noRefL_vals]; rfl) rfl | refine And.intro rfl ?_ | refine And.intro ?_ ?_)

      · have hst' : bestU n (l.take (i.toNat + 1)) = ⟨bn, ba, bm, bc, bf⟩ := by rw [hst]; exact if_neg (fun h => h1 h.1)
        have h1' : undB n un = false := by
          cases e : undB n un with
          | false => rfl
          | true => exact (h1 e).elim
        rw [h1'] at hc
        have hgt : True := trivial
        repeat' ((conv => whnf); first | (with_reducible first | refine TR.seq ?_ | refine TR.regionL ?_ | refine TR.drawn (TTok _ _) mixed ?_ | refine TR.block ?_ | refine TR.ret ?_ | refine TR.exit ?_ | refine TR.skip ?_ | refine TR.condB rfl ?_ | refine TRL.nil ?_ | refine Br.cond_t ?_ | refine Br.cond_f ?_ | refine Br.yes (by first | decide | assumption | (apply decide_eq_true; omega)) ?_ | refine Br.non (by first | decide | assumption | (apply decide_eq_false; omega)) ?_ | refine Br.cond_ff ?_ | refine Br.eqT (by omega) ?_ | refine Br.eqF (by omega) ?_ | refine Br.neT (by omega) ?_ | refine Br.neF (by omega) ?_ | refine Ld.mk' _ (hsub _ (by dsimp only; omega)) ?_ | refine Ld.mk' _ rfl ?_ | refine Need.mk (by first | decide | omega | kernel_rfl) ?_ | refine Nm.i64 (by omega) ?_ | refine Nm.u64 (by omega) ?_ | refine Nm.u8 (by omega) ?_ | refine Nm.keep ?_ | refine Need.mk (by dsimp only; omega) ?_ | refine x_ret (f := 22) rfl rfl (fun w _ => hc w) ?_) | refine Br.yes hgt ?_ | refine Br.non hgt ?_ | refine Br.non rfl ?_ | refine Br.yes rfl ?_ | refine TRL.step (TTok _ _) ?_ | (refine x_exq (TTok _ _) ?_; (conv => whnf); fail_if_success (guard_target =ₛ False)))
        all_goals (conv => whnf)
        all_goals refine ⟨(i + 1, ⟨bn, ba, bm, bc, bf⟩), ⟨by dsimp only; omega, by dsimp only; omega, by dsimp only; rw [hnx]; exact hst'⟩, by dsimp only; omega, ?_⟩
        all_goals repeat' ((conv => whnf); first | exact trivial | exact Fgt.nil | exact Fgt.mk rfl rfl rfl | exact Fgt.mk rfl (by simp only [noRefC, noRefL_vals]; rfl) rfl | refine And.intro rfl ?_ | refine And.intro ?_ ?_)

    · have hiL : i.toNat = l.length := by omega
      rw [hiL, List.take_length, hB] at hbe
      subst hbe
      dsimp only at hb ⊢
      have hcl := clone_con I (.slice ba bm bc) _ _ hb
      repeat' ((conv => whnf); first | (refine TR.drop 2 rfl (Nat.le_refl 2) (by simp only [unO, noRefC, noRefL_vals]; rfl) ?_) | (with_reducible first | refine TR.seq ?_ | refine TR.regionL ?_ | refine TR.drawn (TTok _ _) mixed ?_ | refine TR.block ?_ | refine TR.ret ?_ | refine TR.exit ?_ | refine TR.skip ?_ | refine TR.condB rfl ?_ | refine TRL.nil ?_ | refine Br.cond_t ?_ | refine Br.cond_f ?_ | refine Br.yes (by first | decide | assumption | (apply decide_eq_true; omega)) ?_ | refine Br.non (by first | decide | assumption | (apply decide_eq_false; omega)) ?_ | refine Br.cond_ff ?_ | refine Br.eqT (by omega) ?_ | refine Br.eqF (by omega) ?_ | refine Br.neT (by omega) ?_ | refine Br.neF (by omega) ?_ | refine Ld.mk' _ rfl ?_ | refine Need.mk (by first | decide | omega | kernel_rfl) ?_ | refine Nm.i64 (by omega) ?_ | refine Nm.u64 (by omega) ?_ | refine Nm.u8 (by omega) ?_ | refine Nm.keep ?_ | refine Need.mk (by dsimp only; omega) ?_) | (refine TRL.con [] [2] hcl rfl rfl rfl rfl trivial rfl rfl (fun p _ => ⟨⟨rfl, trivial⟩, ?_⟩) (fun _ h => h.elim)) | refine TRL.step (TTok _ _) ?_ | (refine x_exq (TTok _ _) ?_; (conv => whnf); fail_if_success (guard_target =ₛ False)))
      all_goals (conv => whnf)
      all_goals exact ⟨_, trivial, rfl, rfl, rfl, rfl, trivial⟩
end Go.Proofs.YtdmgmkifjboojaaGreatDoor
set_option maxRecDepth 100000
set_option linter.unusedVariables false
set_option linter.unusedSimpArgs false
namespace Go.Proofs.YtdmgmkifjboojaaGreatDoor
open Go.SX
noncomputable def stepA (n : ByteArray) (b : ByteArray) (a : An) : ByteArray := if undB n a.name = true ∧ b.size < a.name.size then a.name else b
noncomputable def bestA (n : ByteArray) (l : List An) : ByteArray := l.foldl (stepA n) ⟨#[]⟩
def dsC (a : An) : List Value := [.int .i64 a.tag, .int .i64 a.alg, .int .i64 a.kind, .string a.dig]
noncomputable def ownA (b : ByteArray) (l : List An) : List An := l.filter fun a => eqB a.name b
theorem bestA_step (n : ByteArray) (l : List An) (i : Nat) (u : An) (h : l[i]? = some u) : bestA n (l.take (i + 1)) = stepA n (bestA n (l.take i)) u := by
  unfold bestA
  rw [List.take_add_one, h]
  simp [List.foldl_append]
theorem bestA_mem (n : ByteArray) (l : List An) : bestA n l = ⟨#[]⟩ ∨ ∃ a, a ∈ l ∧ a.name = bestA n l ∧ undB n a.name = true := by
  have : ∀ (l : List An) (b : ByteArray), l.foldl (stepA n) b = b ∨ ∃ a, a ∈ l ∧ a.name = l.foldl (stepA n) b ∧ undB n a.name = true := by
    intro l
    induction l with
    | nil => intro b; exact .inl rfl
    | cons u l ih =>
      intro b
      rw [List.foldl_cons]
      rcases ih (stepA n b u) with h | ⟨a, h1, h2, h3⟩
      · by_cases hc : undB n u.name = true ∧ b.size < u.name.size
        · exact .inr ⟨u, by simp, by rw [h]; unfold stepA; rw [if_pos hc], hc.1⟩
        · refine .inl ?_
          rw [h]
          unfold stepA
          rw [if_neg hc]
      · exact .inr ⟨a, List.mem_cons_of_mem _ h1, h2, h3⟩
  exact this l ⟨#[]⟩
theorem ownA_step (b : ByteArray) (l : List An) (i : Nat) (u : An) (h : l[i]? = some u) : ownA b (l.take (i + 1)) = if eqB u.name b = true then ownA b (l.take i) ++ [u] else ownA b (l.take i) := by
  unfold ownA
  rw [List.take_add_one, h]
  simp only [Option.toList, List.filter_append, List.filter_cons, List.filter_nil]
  split <;> simp
theorem noRefL_cat (ms : List Nat) : ∀ a b : List AV, noRefL ms (a ++ b) = (noRefL ms a && noRefL ms b)
  | [], b => by simp [noRefL]
  | x :: a, b => by simp only [List.cons_append, noRefL, noRefL_cat ms a b, Bool.and_assoc]
def anCC (l : List Up) (la : List An) (v v2 : Nat) (o : List An) (p : Nat) : List (Option Chunk) := [some ⟨.ro, 47, 3, v, (upsC l).map .v⟩, some ⟨.ro, 51, 5, v2, (ansC la).map .v⟩, some ⟨.row, 49, 4, p, (o.flatMap dsC).map .v⟩]
set_option maxHeartbeats 8000000 in
theorem anchor_nil (I : World → Prop) (n : ByteArray) (hn : n.size < 1073741824) (l : List Up) (la : List An) (v v2 : Nat) (hl : la.length < 1073741824) (hs : ∀ u, u ∈ la → u.name.size < 1073741824) (a0 a1 a2 i5 i6 i7 i8 : Value) (hB : bestA n la = ⟨#[]⟩) :
    Con Tryz.prog I 21 (fun s => [.agg [.v a0, .v a1, .v a2, .sl (s 0) v 0 l.length, .sl (s 1) v2 0 la.length, .v i5, .v i6, .v i7, .v i8], .v (.string n)]) (fun _ => coH l la v v2) (fun _ : Nat => True) (fun p s => .tup [.v (.string ⟨#[]⟩), .sl (s 2) p 0 0, .v (.bool false)]) (fun p _ => anCC l la v v2 [] p) (fun _ => False) := by
  refine Con.of (TTok _ _) Tryz.func21 (by kernel_rfl) rfl (by simp [coH, refsInC, refsInL_vals]) rfl (fun σ => rfl) (fun σ => by simp [coH, mapR, renK, renL_vals]) (fun _ _ _ => rfl) (fun _ σ _ => by simp [anCC, mapR, renK, renL_vals, renL]) (fun _ _ => CEnd.of (by simp [coH, anCC, keepS, keep1, allOwn, CK.owned]) rfl (by simp [anCC, refsInC, refsInL_vals, refsInL])) ?_
  unfold coH
  repeat' ((conv => whnf); first | (with_reducible first | refine TR.seq ?_ | refine TR.regionL ?_ | refine TR.drawn (TTok _ _) mixed ?_ | refine TR.block ?_ | refine TR.ret ?_ | refine TR.exit ?_ | refine TR.skip ?_ | refine TR.condB rfl ?_ | refine TRL.nil ?_ | refine Br.cond_t ?_ | refine Br.cond_f ?_ | refine Br.yes (by first | decide | assumption | (apply decide_eq_true; omega)) ?_ | refine Br.non (by first | decide | assumption | (apply decide_eq_false; omega)) ?_ | refine Br.cond_ff ?_ | refine Br.eqT (by omega) ?_ | refine Br.eqF (by omega) ?_ | refine Br.neT (by omega) ?_ | refine Br.neF (by omega) ?_ | refine Ld.mk' _ rfl ?_ | refine Need.mk (by first | decide | omega | kernel_rfl) ?_ | refine Nm.i64 (by omega) ?_ | refine Nm.u64 (by omega) ?_ | refine Nm.u8 (by omega) ?_ | refine Nm.keep ?_ | refine Need.mk (by dsimp only; omega) ?_) | refine TRL.step (TTok _ _) ?_ | (refine x_exq (TTok _ _) ?_; (conv => whnf); fail_if_success (guard_target =ₛ False)))
  all_goals (conv => whnf)
  have hsz : ∀ k : Nat, (bestA n (la.take k)).size < 1073741824 := by
    intro k
    rcases bestA_mem n (la.take k) with h | ⟨a, h1, h2, _⟩
    · rw [h]; decide
    · rw [← h2]; exact hs _ (List.mem_of_mem_take h1)
  refine TR.loopH (fun x : Int × ByteArray => [(16, .v (.int .i64 x.1)), (7, .v (.string x.2))]) (fun x => []) (fun x => 0 ≤ x.1 ∧ x.1 ≤ la.length ∧ bestA n (la.take x.1.toNat) = x.2) (fun x => (la.length - x.1).toNat) (0, ⟨#[]⟩) ⟨by simp, by simp, rfl⟩ ?_ ?_
  · repeat' ((conv => whnf); first | exact trivial | exact Fgt.nil | exact Fgt.mk rfl rfl rfl | exact Fgt.mk rfl (by simp only [noRefC, noRefL_cat, noRefL_vals]; rfl) rfl | refine And.intro rfl ?_ | refine And.intro ?_ ?_)
  · rintro ⟨i, b⟩ ⟨i0, i1, hbe⟩
    dsimp only at i0 i1 hbe
    have hbz := hsz i.toNat
    rw [hbe] at hbz
    by_cases hi : i < la.length
    · obtain ⟨u, hu⟩ : ∃ u, la[i.toNat]? = some u := ⟨la[i.toNat], by rw [List.getElem?_eq_getElem]⟩
      have huz := hs u (List.mem_of_getElem? hu)
      have hsub : ∀ o, o = i.toNat * 5 → subL ((ansC la).map .v) o 5 = some [.v (.string u.name), .v (.int .i64 u.tag), .v (.int .i64 u.alg), .v (.int .i64 u.kind), .v (.string u.dig)] := by
        rintro _ rfl
        exact subL_flat anC 5 (fun _ => rfl) la i.toNat u hu
      have hst := bestA_step n la i.toNat u hu
      rw [hbe] at hst
      have hnx : (i + 1).toNat = i.toNat + 1 := by omega
      have hc := fun w => nunder n u.name (by omega) (by omega) w
      obtain ⟨un, ut, ua, uk, ud⟩ := u
      dsimp only at huz hsub hc
      by_cases h1 : undB n un = true
      · rw [h1] at hc
        by_cases h2 : b.size < un.size
        · have hst' : bestA n (la.take (i.toNat + 1)) = un := by rw [hst]; exact if_pos ⟨h1, h2⟩
          have hgt : decide ((un.size : Int) > (b.size : Int)) = true := decide_eq_true (by omega)
          repeat' ((conv => whnf); first | (with_reducible first | refine TR.seq ?_ | refine TR.regionL ?_ | refine TR.drawn (TTok _ _) mixed ?_ | refine TR.block ?_ | refine TR.ret ?_ | refine TR.exit ?_ | refine TR.skip ?_ | refine TR.condB rfl ?_ | refine TRL.nil ?_ | refine Br.cond_t ?_ | refine Br.cond_f ?_ | refine Br.yes (by first | decide | assumption | (apply decide_eq_true; omega)) ?_ | refine Br.non (by first | decide | assumption | (apply decide_eq_false; omega)) ?_ | refine Br.cond_ff ?_ | refine Br.eqT (by omega) ?_ | refine Br.eqF (by omega) ?_ | refine Br.neT (by omega) ?_ | refine Br.neF (by omega) ?_ | refine Ld.mk' _ (hsub _ (by dsimp only; omega)) ?_ | refine Ld.mk' _ rfl ?_ | refine Need.mk (by first | decide | omega | kernel_rfl) ?_ | refine Nm.i64 (by omega) ?_ | refine Nm.u64 (by omega) ?_ | refine Nm.u8 (by omega) ?_ | refine Nm.keep ?_ | refine Need.mk (by dsimp only; omega) ?_ | refine x_ret (f := 22) rfl rfl (fun w _ => hc w) ?_) | refine Br.yes hgt ?_ | refine Br.non hgt ?_ | refine Br.non rfl ?_ | refine Br.yes rfl ?_ | refine TRL.step (TTok _ _) ?_ | (refine x_exq (TTok _ _) ?_; (conv => whnf); fail_if_success (guard_target =ₛ False)))
          all_goals (conv => whnf)
          all_goals refine ⟨(i + 1, un), ⟨by dsimp only; omega, by dsimp only; omega, by dsimp only; rw [hnx]; exact hst'⟩, by dsimp only; omega, ?_⟩
          all_goals repeat' ((conv => whnf); first | exact trivial | exact Fgt.nil | exact Fgt.mk rfl rfl rfl | exact Fgt.mk rfl (by simp only [noRefC, noRefL_cat, noRefL_vals]; rfl) rfl | refine And.intro rfl ?_ | refine And.intro ?_ ?_)

        · have hst' : bestA n (la.take (i.toNat + 1)) = b := by rw [hst]; exact if_neg (fun h => h2 h.2)
          have hgt : decide ((un.size : Int) > (b.size : Int)) = false := decide_eq_false (by omega)
          repeat' ((conv => whnf); first | (with_reducible first | refine TR.seq ?_ | refine TR.regionL ?_ | refine TR.drawn (TTok _ _) mixed ?_ | refine TR.block ?_ | refine TR.ret ?_ | refine TR.exit ?_ | refine TR.skip ?_ | refine TR.condB rfl ?_ | refine TRL.nil ?_ | refine Br.cond_t ?_ | refine Br.cond_f ?_ | refine Br.yes (by first | decide | assumption | (apply decide_eq_true; omega)) ?_ | refine Br.non (by first | decide | assumption | (apply decide_eq_false; omega)) ?_ | refine Br.cond_ff ?_ | refine Br.eqT (by omega) ?_ | refine Br.eqF (by omega) ?_ | refine Br.neT (by omega) ?_ | refine Br.neF (by omega) ?_ | refine Ld.mk' _ (hsub _ (by dsimp only; omega)) ?_ | refine Ld.mk' _ rfl ?_ | refine Need.mk (by first | decide | omega | kernel_rfl) ?_ | refine Nm.i64 (by omega) ?_ | refine Nm.u64 (by omega) ?_ | refine Nm.u8 (by omega) ?_ | refine Nm.keep ?_ | refine Need.mk (by dsimp only; omega) ?_ | refine x_ret (f := 22) rfl rfl (fun w _ => hc w) ?_) | refine Br.yes hgt ?_ | refine Br.non hgt ?_ | refine Br.non rfl ?_ | refine Br.yes rfl ?_ | refine TRL.step (TTok _ _) ?_ | (refine x_exq (TTok _ _) ?_; (conv => whnf); fail_if_success (guard_target =ₛ False)))
          all_goals (conv => whnf)
          all_goals refine ⟨(i + 1, b), ⟨by dsimp only; omega, by dsimp only; omega, by dsimp only; rw [hnx]; exact hst'⟩, by dsimp only; omega, ?_⟩
          all_goals repeat' ((conv => whnf); first | exact trivial | exact Fgt.nil | exact Fgt.mk rfl rfl rfl | exact Fgt.mk rfl (by simp only [noRefC, noRefL_cat, noRefL_vals]; rfl) rfl | refine And.intro rfl ?_ | refine And.intro ?_ ?_)

      · have hst' : bestA n (la.take (i.toNat + 1)) = b := by rw [hst]; exact if_neg (fun h => h1 h.1)
        have h1' : undB n un = false := by
          cases e : undB n un with
          | false => rfl
          | true => exact (h1 e).elim
        rw [h1'] at hc
        have hgt : True := trivial
        repeat' ((conv => whnf); first | (with_reducible first | refine TR.seq ?_ | refine TR.regionL ?_ | refine TR.drawn (TTok _ _) mixed ?_ | refine TR.block ?_ | refine TR.ret ?_ | refine TR.exit ?_ | refine TR.skip ?_ | refine TR.condB rfl ?_ | refine TRL.nil ?_ | refine Br.cond_t ?_ | refine Br.cond_f ?_ | refine Br.yes (by first | decide | assumption | (apply decide_eq_true; omega)) ?_ | refine Br.non (by first | decide | assumption | (apply decide_eq_false; omega)) ?_ | refine Br.cond_ff ?_ | refine Br.eqT (by omega) ?_ | refine Br.eqF (by omega) ?_ | refine Br.neT (by omega) ?_ | refine Br.neF (by omega) ?_ | refine Ld.mk' _ (hsub _ (by dsimp only; omega)) ?_ | refine Ld.mk' _ rfl ?_ | refine Need.mk (by first | decide | omega | kernel_rfl) ?_ | refine Nm.i64 (by omega) ?_ | refine Nm.u64 (by omega) ?_ | refine Nm.u8 (by omega) ?_ | refine Nm.keep ?_ | refine Need.mk (by dsimp only; omega) ?_ | refine x_ret (f := 22) rfl rfl (fun w _ => hc w) ?_) | refine Br.yes hgt ?_ | refine Br.non hgt ?_ | refine Br.non rfl ?_ | refine Br.yes rfl ?_ | refine TRL.step (TTok _ _) ?_ | (refine x_exq (TTok _ _) ?_; (conv => whnf); fail_if_success (guard_target =ₛ False)))
        all_goals (conv => whnf)
        all_goals refine ⟨(i + 1, b), ⟨by dsimp only; omega, by dsimp only; omega, by dsimp only; rw [hnx]; exact hst'⟩, by dsimp only; omega, ?_⟩
        all_goals repeat' ((conv => whnf); first | exact trivial | exact Fgt.nil | exact Fgt.mk rfl rfl rfl | exact Fgt.mk rfl (by simp only [noRefC, noRefL_cat, noRefL_vals]; rfl) rfl | refine And.intro rfl ?_ | refine And.intro ?_ ?_)

    · have hiL : i.toNat = la.length := by omega
      rw [hiL, List.take_length, hB] at hbe
      subst hbe
      repeat' ((conv => whnf); first | (refine TR.nil_slot (code := .ret) 5 10 49 4 rfl rfl ?_) | (refine TR.drop (c := .ret) 2 rfl (Nat.le_refl 2) (by simp only [unO, noRefC, noRefL_vals]; rfl) ?_) | refine TR.mv (cd := .ret) 10 2 rfl rfl rfl (Nat.le_of_ble_eq_true rfl) (Nat.le_refl 2) ?_ | (with_reducible first | refine TR.seq ?_ | refine TR.regionL ?_ | refine TR.drawn (TTok _ _) mixed ?_ | refine TR.block ?_ | refine TR.ret ?_ | refine TR.exit ?_ | refine TR.skip ?_ | refine TR.condB rfl ?_ | refine TRL.nil ?_ | refine Br.cond_t ?_ | refine Br.cond_f ?_ | refine Br.yes (by first | decide | assumption | (apply decide_eq_true; omega)) ?_ | refine Br.non (by first | decide | assumption | (apply decide_eq_false; omega)) ?_ | refine Br.cond_ff ?_ | refine Br.eqT (by omega) ?_ | refine Br.eqF (by omega) ?_ | refine Br.neT (by omega) ?_ | refine Br.neF (by omega) ?_ | refine Ld.mk' _ rfl ?_ | refine Need.mk (by first | decide | omega | kernel_rfl) ?_ | refine Nm.i64 (by omega) ?_ | refine Nm.u64 (by omega) ?_ | refine Nm.u8 (by omega) ?_ | refine Nm.keep ?_ | refine Need.mk (by dsimp only; omega) ?_) | refine Br.non rfl ?_ | refine Br.yes rfl ?_ | refine TRL.step (TTok _ _) ?_ | (refine x_exq (TTok _ _) ?_; (conv => whnf); fail_if_success (guard_target =ₛ False)))
      all_goals (conv => whnf)
      all_goals refine ⟨0, trivial, rfl, ?_, ?_, ?_, trivial⟩
      · show some (Chunk.mk .ro 47 3 v (swL 10 2 ((upsC l).map .v))) = _
        rw [swL_vals]
      · show some (Chunk.mk .ro 51 5 v2 (swL 10 2 ((ansC la).map .v))) = _
        rw [swL_vals]
      · rfl
set_option maxHeartbeats 8000000 in
theorem anchor_some (I : World → Prop) (n : ByteArray) (hn : n.size < 1073741824) (l : List Up) (la : List An) (v v2 : Nat) (hl : la.length < 1073741824) (hs : ∀ u, u ∈ la → u.name.size < 1073741824) (a0 a1 a2 i5 i6 i7 i8 : Value) (B : ByteArray) (hB : bestA n la = B) (hne : B ≠ ⟨#[]⟩) :
    Con Tryz.prog I 21 (fun s => [.agg [.v a0, .v a1, .v a2, .sl (s 0) v 0 l.length, .sl (s 1) v2 0 la.length, .v i5, .v i6, .v i7, .v i8], .v (.string n)]) (fun _ => coH l la v v2) (fun _ : Nat => True) (fun p s => .tup [.v (.string B), .sl (s 2) p 0 (ownA B la).length, .v (.bool true)]) (fun p _ => anCC l la v v2 (ownA B la) p) (fun _ => False) := by
  refine Con.of (TTok _ _) Tryz.func21 (by kernel_rfl) rfl (by simp [coH, refsInC, refsInL_vals]) rfl (fun σ => rfl) (fun σ => by simp [coH, mapR, renK, renL_vals]) (fun _ _ _ => rfl) (fun _ σ _ => by simp [anCC, mapR, renK, renL_vals, renL]) (fun _ _ => CEnd.of (by simp [coH, anCC, keepS, keep1, allOwn, CK.owned]) rfl (by simp [anCC, refsInC, refsInL_vals, refsInL])) ?_
  unfold coH
  repeat' ((conv => whnf); first | (with_reducible first | refine TR.seq ?_ | refine TR.regionL ?_ | refine TR.drawn (TTok _ _) mixed ?_ | refine TR.block ?_ | refine TR.ret ?_ | refine TR.exit ?_ | refine TR.skip ?_ | refine TR.condB rfl ?_ | refine TRL.nil ?_ | refine Br.cond_t ?_ | refine Br.cond_f ?_ | refine Br.yes (by first | decide | assumption | (apply decide_eq_true; omega)) ?_ | refine Br.non (by first | decide | assumption | (apply decide_eq_false; omega)) ?_ | refine Br.cond_ff ?_ | refine Br.eqT (by omega) ?_ | refine Br.eqF (by omega) ?_ | refine Br.neT (by omega) ?_ | refine Br.neF (by omega) ?_ | refine Ld.mk' _ rfl ?_ | refine Need.mk (by first | decide | omega | kernel_rfl) ?_ | refine Nm.i64 (by omega) ?_ | refine Nm.u64 (by omega) ?_ | refine Nm.u8 (by omega) ?_ | refine Nm.keep ?_ | refine Need.mk (by dsimp only; omega) ?_) | refine TRL.step (TTok _ _) ?_ | (refine x_exq (TTok _ _) ?_; (conv => whnf); fail_if_success (guard_target =ₛ False)))
  all_goals (conv => whnf)
  have hsz : ∀ k : Nat, (bestA n (la.take k)).size < 1073741824 := by
    intro k
    rcases bestA_mem n (la.take k) with h | ⟨a, h1, h2, _⟩
    · rw [h]; decide
    · rw [← h2]; exact hs _ (List.mem_of_mem_take h1)
  refine TR.loopH (fun x : Int × ByteArray => [(16, .v (.int .i64 x.1)), (7, .v (.string x.2))]) (fun x => []) (fun x => 0 ≤ x.1 ∧ x.1 ≤ la.length ∧ bestA n (la.take x.1.toNat) = x.2) (fun x => (la.length - x.1).toNat) (0, ⟨#[]⟩) ⟨by simp, by simp, rfl⟩ ?_ ?_
  · repeat' ((conv => whnf); first | exact trivial | exact Fgt.nil | exact Fgt.mk rfl rfl rfl | exact Fgt.mk rfl (by simp only [noRefC, noRefL_cat, noRefL_vals]; rfl) rfl | refine And.intro rfl ?_ | refine And.intro ?_ ?_)
  · rintro ⟨i, b⟩ ⟨i0, i1, hbe⟩
    dsimp only at i0 i1 hbe
    have hbz := hsz i.toNat
    rw [hbe] at hbz
    by_cases hi : i < la.length
    · obtain ⟨u, hu⟩ : ∃ u, la[i.toNat]? = some u := ⟨la[i.toNat], by rw [List.getElem?_eq_getElem]⟩
      have huz := hs u (List.mem_of_getElem? hu)
      have hsub : ∀ o, o = i.toNat * 5 → subL ((ansC la).map .v) o 5 = some [.v (.string u.name), .v (.int .i64 u.tag), .v (.int .i64 u.alg), .v (.int .i64 u.kind), .v (.string u.dig)] := by
        rintro _ rfl
        exact subL_flat anC 5 (fun _ => rfl) la i.toNat u hu
      have hst := bestA_step n la i.toNat u hu
      rw [hbe] at hst
      have hnx : (i + 1).toNat = i.toNat + 1 := by omega
      have hc := fun w => nunder n u.name (by omega) (by omega) w
      obtain ⟨un, ut, ua, uk, ud⟩ := u
      dsimp only at huz hsub hc
      by_cases h1 : undB n un = true
      · rw [h1] at hc
        by_cases h2 : b.size < un.size
        · have hst' : bestA n (la.take (i.toNat + 1)) = un := by rw [hst]; exact if_pos ⟨h1, h2⟩
          have hgt : decide ((un.size : Int) > (b.size : Int)) = true := decide_eq_true (by omega)
          repeat' ((conv => whnf); first | (with_reducible first | refine TR.seq ?_ | refine TR.regionL ?_ | refine TR.drawn (TTok _ _) mixed ?_ | refine TR.block ?_ | refine TR.ret ?_ | refine TR.exit ?_ | refine TR.skip ?_ | refine TR.condB rfl ?_ | refine TRL.nil ?_ | refine Br.cond_t ?_ | refine Br.cond_f ?_ | refine Br.yes (by first | decide | assumption | (apply decide_eq_true; omega)) ?_ | refine Br.non (by first | decide | assumption | (apply decide_eq_false; omega)) ?_ | refine Br.cond_ff ?_ | refine Br.eqT (by omega) ?_ | refine Br.eqF (by omega) ?_ | refine Br.neT (by omega) ?_ | refine Br.neF (by omega) ?_ | refine Ld.mk' _ (hsub _ (by dsimp only; omega)) ?_ | refine Ld.mk' _ rfl ?_ | refine Need.mk (by first | decide | omega | kernel_rfl) ?_ | refine Nm.i64 (by omega) ?_ | refine Nm.u64 (by omega) ?_ | refine Nm.u8 (by omega) ?_ | refine Nm.keep ?_ | refine Need.mk (by dsimp only; omega) ?_ | refine x_ret (f := 22) rfl rfl (fun w _ => hc w) ?_) | refine Br.yes hgt ?_ | refine Br.non hgt ?_ | refine Br.non rfl ?_ | refine Br.yes rfl ?_ | refine TRL.step (TTok _ _) ?_ | (refine x_exq (TTok _ _) ?_; (conv => whnf); fail_if_success (guard_target =ₛ False)))
          all_goals (conv => whnf)
          all_goals refine ⟨(i + 1, un), ⟨by dsimp only; omega, by dsimp only; omega, by dsimp only; rw [hnx]; exact hst'⟩, by dsimp only; omega, ?_⟩
          all_goals repeat' ((conv => whnf); first | exact trivial | exact Fgt.nil | exact Fgt.mk rfl rfl rfl | exact Fgt.mk rfl (by simp only [noRefC, noRefL_cat, noRefL_vals]; rfl) rfl | refine And.intro rfl ?_ | refine And.intro ?_ ?_)

        · have hst' : bestA n (la.take (i.toNat + 1)) = b := by rw [hst]; exact if_neg (fun h => h2 h.2)
          have hgt : decide ((un.size : Int) > (b.size : Int)) = false := decide_eq_false (by omega)
          repeat' ((conv => whnf); first | (with_reducible first | refine TR.seq ?_ | refine TR.regionL ?_ | refine TR.drawn (TTok _ _) mixed ?_ | refine TR.block ?_ | refine TR.ret ?_ | refine TR.exit ?_ | refine TR.skip ?_ | refine TR.condB rfl ?_ | refine TRL.nil ?_ | refine Br.cond_t ?_ | refine Br.cond_f ?_ | refine Br.yes (by first | decide | assumption | (apply decide_eq_true; omega)) ?_ | refine Br.non (by first | decide | assumption | (apply decide_eq_false; omega)) ?_ | refine Br.cond_ff ?_ | refine Br.eqT (by omega) ?_ | refine Br.eqF (by omega) ?_ | refine Br.neT (by omega) ?_ | refine Br.neF (by omega) ?_ | refine Ld.mk' _ (hsub _ (by dsimp only; omega)) ?_ | refine Ld.mk' _ rfl ?_ | refine Need.mk (by first | decide | omega | kernel_rfl) ?_ | refine Nm.i64 (by omega) ?_ | refine Nm.u64 (by omega) ?_ | refine Nm.u8 (by omega) ?_ | refine Nm.keep ?_ | refine Need.mk (by dsimp only; omega) ?_ | refine x_ret (f := 22) rfl rfl (fun w _ => hc w) ?_) | refine Br.yes hgt ?_ | refine Br.non hgt ?_ | refine Br.non rfl ?_ | refine Br.yes rfl ?_ | refine TRL.step (TTok _ _) ?_ | (refine x_exq (TTok _ _) ?_; (conv => whnf); fail_if_success (guard_target =ₛ False)))
          all_goals (conv => whnf)
          all_goals refine ⟨(i + 1, b), ⟨by dsimp only; omega, by dsimp only; omega, by dsimp only; rw [hnx]; exact hst'⟩, by dsimp only; omega, ?_⟩
          all_goals repeat' ((conv => whnf); first | exact trivial | exact Fgt.nil | exact Fgt.mk rfl rfl rfl | exact Fgt.mk rfl (by simp only [noRefC, noRefL_cat, noRefL_vals]; rfl) rfl | refine And.intro rfl ?_ | refine And.intro ?_ ?_)

      · have hst' : bestA n (la.take (i.toNat + 1)) = b := by rw [hst]; exact if_neg (fun h => h1 h.1)
        have h1' : undB n un = false := by
          cases e : undB n un with
          | false => rfl
          | true => exact (h1 e).elim
        rw [h1'] at hc
        have hgt : True := trivial
        repeat' ((conv => whnf); first | (with_reducible first | refine TR.seq ?_ | refine TR.regionL ?_ | refine TR.drawn (TTok _ _) mixed ?_ | refine TR.block ?_ | refine TR.ret ?_ | refine TR.exit ?_ | refine TR.skip ?_ | refine TR.condB rfl ?_ | refine TRL.nil ?_ | refine Br.cond_t ?_ | refine Br.cond_f ?_ | refine Br.yes (by first | decide | assumption | (apply decide_eq_true; omega)) ?_ | refine Br.non (by first | decide | assumption | (apply decide_eq_false; omega)) ?_ | refine Br.cond_ff ?_ | refine Br.eqT (by omega) ?_ | refine Br.eqF (by omega) ?_ | refine Br.neT (by omega) ?_ | refine Br.neF (by omega) ?_ | refine Ld.mk' _ (hsub _ (by dsimp only; omega)) ?_ | refine Ld.mk' _ rfl ?_ | refine Need.mk (by first | decide | omega | kernel_rfl) ?_ | refine Nm.i64 (by omega) ?_ | refine Nm.u64 (by omega) ?_ | refine Nm.u8 (by omega) ?_ | refine Nm.keep ?_ | refine Need.mk (by dsimp only; omega) ?_ | refine x_ret (f := 22) rfl rfl (fun w _ => hc w) ?_) | refine Br.yes hgt ?_ | refine Br.non hgt ?_ | refine Br.non rfl ?_ | refine Br.yes rfl ?_ | refine TRL.step (TTok _ _) ?_ | (refine x_exq (TTok _ _) ?_; (conv => whnf); fail_if_success (guard_target =ₛ False)))
        all_goals (conv => whnf)
        all_goals refine ⟨(i + 1, b), ⟨by dsimp only; omega, by dsimp only; omega, by dsimp only; rw [hnx]; exact hst'⟩, by dsimp only; omega, ?_⟩
        all_goals repeat' ((conv => whnf); first | exact trivial | exact Fgt.nil | exact Fgt.mk rfl rfl rfl | exact Fgt.mk rfl (by simp only [noRefC, noRefL_cat, noRefL_vals]; rfl) rfl | refine And.intro rfl ?_ | refine And.intro ?_ ?_)

    · have hiL : i.toNat = la.length := by omega
      rw [hiL, List.take_length, hB] at hbe
      subst hbe
      have hnB : decide (B = ⟨#[]⟩) = false := decide_eq_false hne
      repeat' ((conv => whnf); first | (with_reducible first | refine TR.seq ?_ | refine TR.regionL ?_ | refine TR.drawn (TTok _ _) mixed ?_ | refine TR.block ?_ | refine TR.ret ?_ | refine TR.exit ?_ | refine TR.skip ?_ | refine TR.condB rfl ?_ | refine TRL.nil ?_ | refine Br.cond_t ?_ | refine Br.cond_f ?_ | refine Br.yes (by first | decide | assumption | (apply decide_eq_true; omega)) ?_ | refine Br.non (by first | decide | assumption | (apply decide_eq_false; omega)) ?_ | refine Br.cond_ff ?_ | refine Br.eqT (by omega) ?_ | refine Br.eqF (by omega) ?_ | refine Br.neT (by omega) ?_ | refine Br.neF (by omega) ?_ | refine Ld.mk' _ rfl ?_ | refine Need.mk (by first | decide | omega | kernel_rfl) ?_ | refine Nm.i64 (by omega) ?_ | refine Nm.u64 (by omega) ?_ | refine Nm.u8 (by omega) ?_ | refine Nm.keep ?_ | refine Need.mk (by dsimp only; omega) ?_) | refine Br.non hnB ?_ | refine Br.non rfl ?_ | refine Br.yes rfl ?_ | refine TRL.step (TTok _ _) ?_ | (refine x_exq (TTok _ _) ?_; (conv => whnf); fail_if_success (guard_target =ₛ False)))
      refine TR.nil_slot 10 10 49 4 rfl rfl ?_
      conv => whnf
      refine TR.loopH (fun j : Int => [(40, .v (.int .i64 j)), (10, .sl 10 (ownA B (la.take j.toNat)).length 0 (ownA B (la.take j.toNat)).length)]) (fun j => [(10, ⟨.row, 49, 4, (ownA B (la.take j.toNat)).length, ((ownA B (la.take j.toNat)).flatMap dsC).map .v⟩)]) (fun j => 0 ≤ j ∧ j ≤ la.length) (fun j => (la.length - j).toNat) 0 ⟨by simp, by simp⟩ ?_ ?_
      · repeat' ((conv => whnf); first | exact trivial | exact Fgt.nil | exact Fgt.mk rfl rfl rfl | exact Fgt.mk rfl (by simp only [noRefC, noRefL_cat, noRefL_vals]; rfl) rfl | refine And.intro rfl ?_ | refine And.intro ?_ ?_)
      · rintro j ⟨j0, j1⟩
        by_cases hj : j < la.length
        · obtain ⟨u, hu⟩ : ∃ u, la[j.toNat]? = some u := ⟨la[j.toNat], by rw [List.getElem?_eq_getElem]⟩
          have huz := hs u (List.mem_of_getElem? hu)
          have hsub : ∀ o, o = j.toNat * 5 → subL ((ansC la).map .v) o 5 = some [.v (.string u.name), .v (.int .i64 u.tag), .v (.int .i64 u.alg), .v (.int .i64 u.kind), .v (.string u.dig)] := by
            rintro _ rfl
            exact subL_flat anC 5 (fun _ => rfl) la j.toNat u hu
          have hst := ownA_step B la j.toNat u hu
          have hnx : (j + 1).toNat = j.toNat + 1 := by omega
          have hBz : B.size < 1073741824 := by have := hsz la.length; rw [List.take_length, hB] at this; exact this
          have hc := fun w => nequal u.name B (by omega) (by omega) w
          have hfl : (ownA B (la.take j.toNat)).length ≤ j.toNat := by
            have h1 := List.length_filter_le (fun a : An => eqB a.name B) (la.take j.toNat)
            have h2 := List.length_take_le j.toNat la
            unfold ownA
            omega
          obtain ⟨ow, how⟩ : ∃ ow, ownA B (la.take j.toNat) = ow := ⟨_, rfl⟩
          rw [how] at hst hfl
          have hln : (((ow.flatMap dsC).map AV.v)).length = ow.length * 4 := by rw [List.length_map, flatMap_len dsC 4 (fun _ => rfl)]
          by_cases h1 : eqB u.name B = true
          · rw [if_pos h1] at hst
            rw [h1] at hc
            have hcells : ((ownA B (la.take (j + 1).toNat)).flatMap dsC).map AV.v = (ow.flatMap dsC).map .v ++ (dsC u).map .v := by
              rw [hnx, hst, List.flatMap_append, List.map_append]
              simp
            have hlen : (ownA B (la.take (j + 1).toNat)).length = ow.length + 1 := by rw [hnx, hst]; simp
            obtain ⟨un, ut, ua, uk, ud⟩ := u
            dsimp only at huz hsub hc
            rw [how]
            repeat' ((conv => whnf); first | (with_reducible first | refine TR.seq ?_ | refine TR.regionL ?_ | refine TR.drawn (TTok _ _) mixed ?_ | refine TR.block ?_ | refine TR.ret ?_ | refine TR.exit ?_ | refine TR.skip ?_ | refine TR.condB rfl ?_ | refine TRL.nil ?_ | refine Br.cond_t ?_ | refine Br.cond_f ?_ | refine Br.yes (by first | decide | assumption | (apply decide_eq_true; omega)) ?_ | refine Br.non (by first | decide | assumption | (apply decide_eq_false; omega)) ?_ | refine Br.cond_ff ?_ | refine Br.eqT (by omega) ?_ | refine Br.eqF (by omega) ?_ | refine Br.neT (by omega) ?_ | refine Br.neF (by omega) ?_ | refine Ld.mk' _ (hsub _ (by dsimp only; omega)) ?_ | refine Ld.mk' _ rfl ?_ | refine Need.mk (by first | decide | omega | kernel_rfl) ?_ | refine Nm.i64 (by omega) ?_ | refine Nm.u64 (by omega) ?_ | refine Nm.u8 (by omega) ?_ | refine Nm.keep ?_ | refine Need.mk (by dsimp only; omega) ?_ | refine x_ret (f := 47) rfl rfl (fun w _ => hc w) ?_) | refine x_app (TTok _ _) (c := 10) 40 rfl rfl rfl rfl rfl rfl rfl rfl rfl rfl (by decide) rfl rfl rfl rfl rfl rfl rfl rfl rfl hln (by unfold maxLen; omega) (by omega) ?_ | refine Br.non rfl ?_ | refine Br.yes rfl ?_ | refine TRL.step (TTok _ _) ?_ | (refine x_exq (TTok _ _) ?_; (conv => whnf); fail_if_success (guard_target =ₛ False)))
            all_goals (conv => whnf)
            all_goals refine ⟨j + 1, ⟨by omega, by omega⟩, by omega, ?_⟩
            all_goals rw [hcells, hlen]
            all_goals repeat' ((conv => whnf); first | exact trivial | exact Fgt.nil | exact Fgt.mk rfl rfl rfl | exact Fgt.mk rfl (by simp only [noRefC, noRefL_cat, noRefL_vals]; rfl) rfl | refine And.intro rfl ?_ | refine And.intro ?_ ?_)
            all_goals trace_state
          · rw [if_neg h1] at hst
            have h1' : eqB u.name B = false := by
              cases e : eqB u.name B with
              | false => rfl
              | true => exact (h1 e).elim
            rw [h1'] at hc
            obtain ⟨un, ut, ua, uk, ud⟩ := u
            dsimp only at huz hsub hc
            rw [how]
            repeat' ((conv => whnf); first | (with_reducible first | refine TR.seq ?_ | refine TR.regionL ?_ | refine TR.drawn (TTok _ _) mixed ?_ | refine TR.block ?_ | refine TR.ret ?_ | refine TR.exit ?_ | refine TR.skip ?_ | refine TR.condB rfl ?_ | refine TRL.nil ?_ | refine Br.cond_t ?_ | refine Br.cond_f ?_ | refine Br.yes (by first | decide | assumption | (apply decide_eq_true; omega)) ?_ | refine Br.non (by first | decide | assumption | (apply decide_eq_false; omega)) ?_ | refine Br.cond_ff ?_ | refine Br.eqT (by omega) ?_ | refine Br.eqF (by omega) ?_ | refine Br.neT (by omega) ?_ | refine Br.neF (by omega) ?_ | refine Ld.mk' _ (hsub _ (by dsimp only; omega)) ?_ | refine Ld.mk' _ rfl ?_ | refine Need.mk (by first | decide | omega | kernel_rfl) ?_ | refine Nm.i64 (by omega) ?_ | refine Nm.u64 (by omega) ?_ | refine Nm.u8 (by omega) ?_ | refine Nm.keep ?_ | refine Need.mk (by dsimp only; omega) ?_ | refine x_ret (f := 47) rfl rfl (fun w _ => hc w) ?_) | refine x_app (TTok _ _) (c := 10) 40 rfl rfl rfl rfl rfl rfl rfl rfl rfl rfl (by decide) rfl rfl rfl rfl rfl rfl rfl rfl rfl hln (by unfold maxLen; omega) (by omega) ?_ | refine Br.non rfl ?_ | refine Br.yes rfl ?_ | refine TRL.step (TTok _ _) ?_ | (refine x_exq (TTok _ _) ?_; (conv => whnf); fail_if_success (guard_target =ₛ False)))
            all_goals (conv => whnf)
            all_goals refine ⟨j + 1, ⟨by omega, by omega⟩, by omega, ?_⟩
            all_goals rw [hnx, hst]
            all_goals repeat' ((conv => whnf); first | exact trivial | exact Fgt.nil | exact Fgt.mk rfl rfl rfl | exact Fgt.mk rfl (by simp only [noRefC, noRefL_cat, noRefL_vals]; rfl) rfl | refine And.intro rfl ?_ | refine And.intro ?_ ?_)
            all_goals trace_state
        · have hjL : j.toNat = la.length := by omega
          rw [hjL, List.take_length]
          repeat' ((conv => whnf); first | (refine TR.drop 2 rfl (Nat.le_refl 2) (by simp only [unO, noRefC, noRefL_vals]; rfl) ?_) | refine TR.mv 10 2 rfl rfl rfl (Nat.le_of_ble_eq_true rfl) (Nat.le_refl 2) ?_ | (with_reducible first | refine TR.seq ?_ | refine TR.regionL ?_ | refine TR.drawn (TTok _ _) mixed ?_ | refine TR.block ?_ | refine TR.ret ?_ | refine TR.exit ?_ | refine TR.skip ?_ | refine TR.condB rfl ?_ | refine TRL.nil ?_ | refine Br.cond_t ?_ | refine Br.cond_f ?_ | refine Br.yes (by first | decide | assumption | (apply decide_eq_true; omega)) ?_ | refine Br.non (by first | decide | assumption | (apply decide_eq_false; omega)) ?_ | refine Br.cond_ff ?_ | refine Br.eqT (by omega) ?_ | refine Br.eqF (by omega) ?_ | refine Br.neT (by omega) ?_ | refine Br.neF (by omega) ?_ | refine Ld.mk' _ rfl ?_ | refine Need.mk (by first | decide | omega | kernel_rfl) ?_ | refine Nm.i64 (by omega) ?_ | refine Nm.u64 (by omega) ?_ | refine Nm.u8 (by omega) ?_ | refine Nm.keep ?_ | refine Need.mk (by dsimp only; omega) ?_) | refine Br.non rfl ?_ | refine Br.yes rfl ?_ | refine TRL.step (TTok _ _) ?_ | (refine x_exq (TTok _ _) ?_; (conv => whnf); fail_if_success (guard_target =ₛ False)))
          all_goals (conv => whnf)
          all_goals refine ⟨_, trivial, rfl, ?_, ?_, ?_, trivial⟩
          · show some (Chunk.mk .ro 47 3 v (swL 10 2 ((upsC l).map .v))) = _
            rw [swL_vals]
          · show some (Chunk.mk .ro 51 5 v2 (swL 10 2 ((ansC la).map .v))) = _
            rw [swL_vals]
          · show some (Chunk.mk .row 49 4 _ (swL 10 2 (((ownA B la).flatMap dsC).map .v))) = _
            rw [swL_vals]
end Go.Proofs.YtdmgmkifjboojaaGreatDoor
set_option maxRecDepth 100000
set_option linter.unusedVariables false
set_option linter.unusedSimpArgs false
namespace Go.Proofs.YtdmgmkifjboojaaGreatDoor
open Go.SX
theorem rgt_nil : rgt ⟨#[]⟩ = false := by
  cases h : rgt ⟨#[]⟩ with
  | false => rfl
  | true => have := (rgt_size h).1; simp [ByteArray.size] at this
theorem ownA_nil (l : List An) : ownA ⟨#[]⟩ l = [] := by
  unfold ownA
  refine List.filter_eq_nil_iff.2 fun a _ => ?_
  unfold eqB
  simp [rgt_nil]
theorem anchor_con (I : World → Prop) (n : ByteArray) (hn : n.size < 1073741824) (l : List Up) (la : List An) (v v2 : Nat) (hl : la.length < 1073741824) (hs : ∀ u, u ∈ la → u.name.size < 1073741824) (a0 a1 a2 i5 i6 i7 i8 : Value) (B : ByteArray) (hB : bestA n la = B) :
    Con Tryz.prog I 21 (fun s => [.agg [.v a0, .v a1, .v a2, .sl (s 0) v 0 l.length, .sl (s 1) v2 0 la.length, .v i5, .v i6, .v i7, .v i8], .v (.string n)]) (fun _ => coH l la v v2) (fun _ : Nat => True) (fun p s => .tup [.v (.string B), .sl (s 2) p 0 (ownA B la).length, .v (.bool (!decide (B = ⟨#[]⟩)))]) (fun p _ => anCC l la v v2 (ownA B la) p) (fun _ => False) := by
  by_cases hne : B = ⟨#[]⟩
  · subst hne
    rw [ownA_nil]
    exact anchor_nil I n hn l la v v2 hl hs a0 a1 a2 i5 i6 i7 i8 hB
  · rw [decide_eq_false hne]
    exact anchor_some I n hn l la v v2 hl hs a0 a1 a2 i5 i6 i7 i8 B hB hne
def roH (l : List Up) (la : List An) (v v2 : Nat) : List (Option Chunk) := [some ⟨.row, 47, 3, v, (upsC l).map .v⟩, some ⟨.row, 51, 5, v2, (ansC la).map .v⟩]
theorem upstream_row (I : World → Prop) (n : ByteArray) (hn : n.size < 1073741824) (l : List Up) (la : List An) (v v2 : Nat) (hl : l.length < 1073741824) (hs : ∀ u, u ∈ l → u.name.size < 1073741824) (f : Up → Nat × List Value) (hf : SvIn I l f) (a0 a1 a2 i5 i6 i7 i8 : Value) :
    Con Tryz.prog I 20 (fun s => [.agg [.v a0, .v a1, .v a2, .sl (s 0) v 0 l.length, .sl (s 1) v2 0 la.length, .v i5, .v i6, .v i7, .v i8], .v (.string n)]) (fun _ => roH l la v v2) (fun _ : Nat => True)
      (fun p s => .tup [.agg [.v (.string (bestU n l).name), .sl (s 2) p 0 (f (bestU n l)).1, .v (.bool (bestU n l).fwd)], .v (.bool (!decide ((bestU n l).name = ⟨#[]⟩)))]) (fun p _ => roH l la v v2 ++ [some ⟨.row, 38, 3, p, (f (bestU n l)).2.map .v⟩]) (fun _ => False) := by
  have h := upstream_con I n hn l la v v2 hl hs f hf a0 a1 a2 i5 i6 i7 i8
  have h1 := h.strong (H' := fun _ => [some ⟨.row, 47, 3, v, (upsC l).map .v⟩, some ⟨.ro, 51, 5, v2, (ansC la).map .v⟩]) (C' := fun p _ => [some ⟨.row, 47, 3, v, (upsC l).map .v⟩, some ⟨.ro, 51, 5, v2, (ansC la).map .v⟩, some ⟨.row, 38, 3, p, (f (bestU n l)).2.map .v⟩]) 0 ⟨.row, 47, 3, v, (upsC l).map .v⟩ rfl rfl rfl (fun _ _ => rfl) (fun _ _ => rfl)
    (by simp [refsInC, refsInL_vals]) rfl (fun σ => by simp [mapR, renK, renL_vals]) (fun _ σ _ => by simp [mapR, renK, renL_vals]) (fun _ _ => CEnd.of (by simp [keepS, keep1, allOwn, CK.owned]) rfl (by simp [refsInC, refsInL_vals]))
  exact h1.strong (H' := fun _ => roH l la v v2) (C' := fun p _ => roH l la v v2 ++ [some ⟨.row, 38, 3, p, (f (bestU n l)).2.map .v⟩]) 1 ⟨.row, 51, 5, v2, (ansC la).map .v⟩ rfl rfl rfl (fun _ _ => rfl) (fun _ _ => rfl)
    (by simp [roH, refsInC, refsInL_vals]) rfl (fun σ => by simp [roH, mapR, renK, renL_vals]) (fun _ σ _ => by simp [roH, mapR, renK, renL_vals]) (fun _ _ => CEnd.of (by simp [roH, keepS, keep1, allOwn, CK.owned]) rfl (by simp [roH, refsInC, refsInL_vals]))
theorem anchor_row (I : World → Prop) (n : ByteArray) (hn : n.size < 1073741824) (l : List Up) (la : List An) (v v2 : Nat) (hl : la.length < 1073741824) (hs : ∀ u, u ∈ la → u.name.size < 1073741824) (a0 a1 a2 i5 i6 i7 i8 : Value) (B : ByteArray) (hB : bestA n la = B) :
    Con Tryz.prog I 21 (fun s => [.agg [.v a0, .v a1, .v a2, .sl (s 0) v 0 l.length, .sl (s 1) v2 0 la.length, .v i5, .v i6, .v i7, .v i8], .v (.string n)]) (fun _ => roH l la v v2) (fun _ : Nat => True) (fun p s => .tup [.v (.string B), .sl (s 2) p 0 (ownA B la).length, .v (.bool (!decide (B = ⟨#[]⟩)))]) (fun p _ => roH l la v v2 ++ [some ⟨.row, 49, 4, p, ((ownA B la).flatMap dsC).map .v⟩]) (fun _ => False) := by
  have h := anchor_con I n hn l la v v2 hl hs a0 a1 a2 i5 i6 i7 i8 B hB
  have h1 := h.strong (H' := fun _ => [some ⟨.row, 47, 3, v, (upsC l).map .v⟩, some ⟨.ro, 51, 5, v2, (ansC la).map .v⟩]) (C' := fun p _ => [some ⟨.row, 47, 3, v, (upsC l).map .v⟩, some ⟨.ro, 51, 5, v2, (ansC la).map .v⟩, some ⟨.row, 49, 4, p, ((ownA B la).flatMap dsC).map .v⟩]) 0 ⟨.row, 47, 3, v, (upsC l).map .v⟩ rfl rfl rfl (fun _ _ => rfl) (fun _ _ => rfl)
    (by simp [refsInC, refsInL_vals]) rfl (fun σ => by simp [mapR, renK, renL_vals]) (fun _ σ _ => by simp [mapR, renK, renL_vals]) (fun _ _ => CEnd.of (by simp [keepS, keep1, allOwn, CK.owned]) rfl (by simp [refsInC, refsInL_vals]))
  exact h1.strong (H' := fun _ => roH l la v v2) (C' := fun p _ => roH l la v v2 ++ [some ⟨.row, 49, 4, p, ((ownA B la).flatMap dsC).map .v⟩]) 1 ⟨.row, 51, 5, v2, (ansC la).map .v⟩ rfl rfl rfl (fun _ _ => rfl) (fun _ _ => rfl)
    (by simp [roH, refsInC, refsInL_vals]) rfl (fun σ => by simp [roH, mapR, renK, renL_vals]) (fun _ σ _ => by simp [roH, mapR, renK, renL_vals]) (fun _ _ => CEnd.of (by simp [roH, keepS, keep1, allOwn, CK.owned]) rfl (by simp [roH, refsInC, refsInL_vals]))
end Go.Proofs.YtdmgmkifjboojaaGreatDoor
set_option maxRecDepth 100000
set_option linter.unusedVariables false
set_option linter.unusedSimpArgs false
namespace Go.Proofs.YtdmgmkifjboojaaGreatDoor
open Go.SX
theorem bestU_app (n : ByteArray) (l : List Up) (u : Up) : bestU n (l ++ [u]) = stepU n (bestU n l) u := by unfold bestU; rw [List.foldl_append]; rfl
theorem bestA_app (n : ByteArray) (l : List An) (u : An) : bestA n (l ++ [u]) = stepA n (bestA n l) u := by unfold bestA; rw [List.foldl_append]; rfl
theorem bestU_und (n : ByteArray) (l : List Up) (h : (bestU n l).name ≠ ⟨#[]⟩) : undB n (bestU n l).name = true := by
  have : ∀ (l : List Up) (b : Up), (b.name = ⟨#[]⟩ ∨ undB n b.name = true) → ((l.foldl (stepU n) b).name = ⟨#[]⟩ ∨ undB n (l.foldl (stepU n) b).name = true) := by
    intro l
    induction l with
    | nil => intro b hb; exact hb
    | cons u l ih =>
      intro b hb
      rw [List.foldl_cons]
      refine ih _ ?_
      unfold stepU
      split
      · rename_i hc; exact .inr hc.1
      · exact hb
  rcases this l up0 (.inl rfl) with h1 | h1
  · exact (h h1).elim
  · exact h1
theorem ownA_pos (n : ByteArray) (l : List An) (h : bestA n l ≠ ⟨#[]⟩) : 0 < (ownA (bestA n l) l).length ∧ undB n (bestA n l) = true := by
  rcases bestA_mem n l with h1 | ⟨a, h1, h2, h3⟩
  · exact (h h1).elim
  · rw [h2] at h3
    refine ⟨?_, h3⟩
    have hr := (undB_iff.1 h3).2.1
    have : a ∈ ownA (bestA n l) l := by
      unfold ownA
      rw [List.mem_filter]
      exact ⟨h1, by rw [h2]; exact eqB_self hr⟩
    exact List.length_pos_of_mem this
theorem ownA_app (b : ByteArray) (l : List An) (u : An) (h : eqB u.name b = false) : ownA b (l ++ [u]) = ownA b l := by
  unfold ownA
  rw [List.filter_append]
  simp [h]
theorem near_own (n : ByteArray) (l : List An) (u : An) (h : undB n u.name = false) : bestA n (l ++ [u]) = bestA n l ∧ ownA (bestA n l) (l ++ [u]) = ownA (bestA n l) l := by
  refine ⟨by rw [bestA_app]; unfold stepA; rw [if_neg (by rw [h]; simp)], ?_⟩
  by_cases hb : bestA n l = ⟨#[]⟩
  · rw [hb, ownA_nil, ownA_nil]
  · refine ownA_app _ _ _ ?_
    cases he : eqB u.name (bestA n l) with
    | false => rfl
    | true =>
      have h2 := (ownA_pos n l hb).2
      rw [← undB_congr (a := n) he, h] at h2
      cases h2
structure NearH (I : World → Prop) (n : ByteArray) (l : List Up) (la : List An) (m : Up) (an : An) (f : Up → Nat × List Value) : Prop where
  hI : ∀ w w', I w → Mod w w' (fun _ => False) → I w'
  hn : n.size < 1073741824
  hl : l.length < 1073741823
  hla : la.length < 1073741823
  hs : ∀ u, u ∈ l → u.name.size < 1073741824
  hsa : ∀ u, u ∈ la → u.name.size < 1073741824
  hm : m.name.size < 1073741824
  han : an.name.size < 1073741824
  hf : SvIn I (l ++ [m]) f
theorem SvIn.left {I : World → Prop} {l : List Up} {m : Up} {f : Up → Nat × List Value} (h : SvIn I (l ++ [m]) f) : SvIn I l f := fun u hu => h u (by
  rcases List.mem_cons.1 hu with rfl | hu
  · simp
  · simp [hu])
end Go.Proofs.YtdmgmkifjboojaaGreatDoor
set_option maxRecDepth 100000
set_option linter.unusedVariables false
namespace Go.Proofs.YtdmgmkifjboojaaGreatDoor
open Go.SX
theorem list_of {α : Type} {P : Nat → α → Prop} : ∀ m, (∀ i, i < m → ∃ x, P i x) → ∃ l : List α, l.length = m ∧ ∀ i x, l[i]? = some x → P i x
  | 0, _ => ⟨[], rfl, fun i x h => by simp at h⟩
  | m + 1, h => by
    obtain ⟨l, h1, h2⟩ := list_of m fun i hi => h i (by omega)
    obtain ⟨x, hx⟩ := h m (by omega)
    refine ⟨l ++ [x], by simp [h1], fun i y hy => ?_⟩
    rcases Nat.lt_or_ge i l.length with h3 | h3
    · rw [List.getElem?_append_left h3] at hy
      exact h2 i y hy
    · rw [List.getElem?_append_right h3] at hy
      cases hd : i - l.length with
      | zero =>
        rw [hd] at hy
        simp at hy
        subst hy
        have : i = m := by omega
        subst this
        exact hx
      | succ k =>
        rw [hd] at hy
        simp at hy
theorem flat_dec {α : Type} (f : α → List Value) (c : Nat) (hc : ∀ x, (f x).length = c) : ∀ (l : List α) (j : Nat) (q : Value), (l.flatMap f)[j]? = some q → ∃ i x k, l[i]? = some x ∧ (f x)[k]? = some q ∧ j = i * c + k
  | [], j, q, h => by simp at h
  | x :: l, j, q, h => by
    rw [List.flatMap_cons] at h
    rcases Nat.lt_or_ge j (f x).length with h1 | h1
    · rw [List.getElem?_append_left h1] at h
      exact ⟨0, x, j, rfl, h, by omega⟩
    · rw [List.getElem?_append_right h1, hc] at h
      obtain ⟨i, y, k, h2, h3, h4⟩ := flat_dec f c hc l _ q h
      rw [hc] at h1
      exact ⟨i + 1, y, k, by simpa using h2, h3, by rw [Nat.succ_mul]; omega⟩
theorem adds (a : Addr) (i j : Nat) : (a.add i).add j = a.add (i + j) := by
  obtain ⟨b, o, s⟩ := a
  unfold Addr.add
  by_cases h1 : i = 0
  · subst h1
    simp
  · by_cases h2 : j = 0
    · subst h2
      simp
    · simp [h1, h2]
      all_goals omega
theorem fit_sl {W : World} {B n e : Nat} {t : TypeId} {y : Ty} {cs : List Value} (hy : getO TT t = some y) (hd : y.d = .sl e) (h : Fit TT W B (n + 1) t cs) : ∃ a m c, cs = [.slice a m c] := by
  unfold Fit at h
  rw [hy] at h
  simp only [hd] at h
  rcases h with rfl | ⟨a, m, c, rfl, _⟩
  · exact ⟨_, _, _, rfl⟩
  · exact ⟨_, _, _, rfl⟩
def SvW (W : World) (sv : Value) (m : Nat) (us : List Value) : Prop :=
  us.length = m * 3 ∧ (∀ q, q ∈ us → q.oneCell' = true) ∧ ((sv = .slice none 0 0 ∧ m = 0) ∨ ∃ ad c, sv = .slice (some ad) m c ∧ ∀ j q, us[j]? = some q → W.cell? (ad.add j) = some q)
theorem fit_svs {W : World} {B n : Nat} {cs : List Value} (h : Fit TT W B (n + 3) 22 cs) : ∃ ad m c us, cs = [.slice ad m c] ∧ m ≤ B ∧ SvW W (.slice ad m c) m us := by
  rcases h with rfl | ⟨a, m, cap, rfl, hmc, hB, _, hc⟩
  · exact ⟨_, _, _, [], rfl, Nat.zero_le _, rfl, fun q hq => by simp at hq, .inl ⟨rfl, rfl⟩⟩
  · obtain ⟨l, h1, h2⟩ := list_of (P := fun i (z : Bool × Int × Int) => ∀ j q, [Value.bool z.1, .int .u64 z.2.1, .int .u64 z.2.2][j]? = some q → W.cell? (a.add (i * 3 + j)) = some q) m fun i hi => by
      obtain ⟨xs, g1, g2, g3⟩ := hc i hi
      obtain ⟨hl, p1, p2, p3, _⟩ := g3
      match xs, hl with
      | [x0, x1, x2], _ =>
        obtain ⟨y0, e1⟩ := p1
        obtain ⟨y1, e2, _⟩ := p2
        obtain ⟨y2, e3, _⟩ := p3
        simp at e1 e2 e3
        subst e1 e2 e3
        refine ⟨(y0, y1, y2), fun j q hq => ?_⟩
        have hj : j < 3 := by
          rcases Nat.lt_or_ge j 3 with h1 | h1
          · exact h1
          · rw [List.getElem?_eq_none (by simpa using h1)] at hq; cases hq
        rw [← adds]
        exact (g2 j hj).trans hq
    subst h1
    refine ⟨_, _, _, l.flatMap fun z => [Value.bool z.1, .int .u64 z.2.1, .int .u64 z.2.2], rfl, hB, flatMap_len _ 3 (fun _ => rfl) l, fun q hq => ?_, .inr ⟨a, cap, rfl, fun j q hq => ?_⟩⟩
    · simp only [List.mem_flatMap] at hq
      obtain ⟨z, _, hz⟩ := hq
      simp at hz
      rcases hz with rfl | rfl | rfl <;> rfl
    · obtain ⟨i, r, k, g1, g2, rfl⟩ := flat_dec _ 3 (fun _ => rfl) l j q hq
      exact h2 i r g1 k q g2
theorem fit_up {W : World} {B n : Nat} {xs : List Value} (h : Fit TT W B (n + 4) 47 xs) : ∃ (u : Up) (us : List Value), xs = upC u ∧ u.name.size ≤ B ∧ u.m ≤ B ∧ SvW W u.sv u.m us := by
  obtain ⟨hl, p1, p2, p3, _⟩ := h
  match xs, hl with
  | [x0, x1, x2], _ =>
    obtain ⟨s, e1, hs⟩ := p1
    obtain ⟨ad, m, c, us, e2, h4, h5⟩ := fit_svs p2
    obtain ⟨b, e3⟩ := p3
    simp at e1 e2 e3
    subst e1 e2 e3
    exact ⟨⟨s, ad, m, c, b⟩, us, rfl, hs, h4, h5⟩
theorem fit_an {W : World} {B n : Nat} {xs : List Value} (h : Fit TT W B (n + 4) 51 xs) : ∃ (u : An), xs = anC u ∧ u.name.size ≤ B := by
  obtain ⟨hl, p1, p2, _⟩ := h
  obtain ⟨_, g1, g2, g3, g4, _⟩ := p2
  match xs, hl with
  | [x0, x1, x2, x3, x4], _ =>
    obtain ⟨s, e1, hs⟩ := p1
    obtain ⟨y1, e2, _⟩ := g1
    obtain ⟨y2, e3, _⟩ := g2
    obtain ⟨y3, e4, _⟩ := g3
    obtain ⟨d, e5, _⟩ := g4
    simp at e1 e2 e3 e4 e5
    subst e1 e2 e3 e4 e5
    exact ⟨⟨s, y1, y2, y3, d⟩, rfl, hs⟩
theorem fit_ups {W : World} {B n : Nat} {cs : List Value} (h : Fit TT W B (n + 5) 25 cs) : ∃ (sv : Value) (l : List Up), cs = [sv] ∧ l.length ≤ B ∧ FSlE W sv l.length 3 (upsC l) ∧ ∀ u, u ∈ l → u.name.size ≤ B ∧ u.m ≤ B ∧ ∃ us, SvW W u.sv u.m us := by
  rcases h with rfl | ⟨a, m, cap, rfl, hmc, hB, ⟨_, hsp⟩, hc⟩
  · exact ⟨_, [], rfl, Nat.zero_le _, ⟨rfl, .inl ⟨rfl, rfl⟩⟩, fun u hu => by simp at hu⟩
  · obtain ⟨l, h1, h2⟩ := list_of (P := fun i (u : Up) => (∀ j q, (upC u)[j]? = some q → W.cell? (a.add (i * 3 + j)) = some q) ∧ u.name.size ≤ B ∧ u.m ≤ B ∧ ∃ us, SvW W u.sv u.m us) m fun i hi => by
      obtain ⟨xs, g1, g2, g3⟩ := hc i hi
      obtain ⟨u, us, rfl, h4, h5, h6⟩ := fit_up g3
      refine ⟨u, fun j q hq => ?_, h4, h5, us, h6⟩
      have hj : j < 3 := by
        rcases Nat.lt_or_ge j 3 with h1 | h1
        · exact h1
        · rw [List.getElem?_eq_none (by simpa [upC] using h1)] at hq; cases hq
      rw [← adds]
      exact (g2 j hj).trans hq
    subst h1
    refine ⟨_, l, rfl, hB, ⟨flatMap_len upC 3 (fun _ => rfl) l, .inr ⟨a, cap, rfl, hmc, fun hcap => hsp _ rfl hcap (by decide), fun j q hq => ?_⟩⟩, fun u hu => ?_⟩
    · obtain ⟨i, r, k, g1, g2, rfl⟩ := flat_dec upC 3 (fun _ => rfl) l j q hq
      exact (h2 i r g1).1 k q g2
    · obtain ⟨i, hi⟩ := List.mem_iff_getElem?.1 hu
      exact (h2 i u hi).2
theorem fit_ans {W : World} {B n : Nat} {cs : List Value} (h : Fit TT W B (n + 5) 26 cs) : ∃ (sv : Value) (l : List An), cs = [sv] ∧ l.length ≤ B ∧ FSlE W sv l.length 5 (ansC l) ∧ ∀ u, u ∈ l → u.name.size ≤ B := by
  rcases h with rfl | ⟨a, m, cap, rfl, hmc, hB, ⟨_, hsp⟩, hc⟩
  · exact ⟨_, [], rfl, Nat.zero_le _, ⟨rfl, .inl ⟨rfl, rfl⟩⟩, fun u hu => by simp at hu⟩
  · obtain ⟨l, h1, h2⟩ := list_of (P := fun i (u : An) => (∀ j q, (anC u)[j]? = some q → W.cell? (a.add (i * 5 + j)) = some q) ∧ u.name.size ≤ B) m fun i hi => by
      obtain ⟨xs, g1, g2, g3⟩ := hc i hi
      obtain ⟨u, rfl, h4⟩ := fit_an g3
      refine ⟨u, fun j q hq => ?_, h4⟩
      have hj : j < 5 := by
        rcases Nat.lt_or_ge j 5 with h1 | h1
        · exact h1
        · rw [List.getElem?_eq_none (by simpa [anC] using h1)] at hq; cases hq
      rw [← adds]
      exact (g2 j hj).trans hq
    subst h1
    refine ⟨_, l, rfl, hB, ⟨flatMap_len anC 5 (fun _ => rfl) l, .inr ⟨a, cap, rfl, hmc, fun hcap => hsp _ rfl hcap (by decide), fun j q hq => ?_⟩⟩, fun u hu => ?_⟩
    · obtain ⟨i, r, k, g1, g2, rfl⟩ := flat_dec anC 5 (fun _ => rfl) l j q hq
      exact (h2 i r g1).1 k q g2
    · obtain ⟨i, hi⟩ := List.mem_iff_getElem?.1 hu
      exact (h2 i u hi).2
theorem fit_cfg {W : World} {B : Nat} {v : Value} (h : FitV TT W B 28 v) : ∃ (b0 b1 b2 : Option Addr) (n0 n1 n2 d0 d1 d2 : Nat) (su sa : Value) (l : List Up) (la : List An) (j5 j6 j7 j8 : Int), v = .agg #[.slice b0 n0 d0, .slice b1 n1 d1, .slice b2 n2 d2, su, sa, .int .i64 j5, .int .i64 j6, .int .i64 j7, .int .i64 j8] ∧
    l.length ≤ B ∧ FSlE W su l.length 3 (upsC l) ∧ (∀ u, u ∈ l → u.name.size ≤ B ∧ u.m ≤ B ∧ ∃ us, SvW W u.sv u.m us) ∧ la.length ≤ B ∧ FSlE W sa la.length 5 (ansC la) ∧ ∀ u, u ∈ la → u.name.size ≤ B := by
  obtain ⟨cs, hf, rfl⟩ := h
  obtain ⟨hl, h0, h1, h2, h3, h4, h5, h6, h7, h8, _⟩ := hf
  match cs, hl with
  | [y0, y1, y2, y3, y4, y5, y6, y7, y8], _ =>
    obtain ⟨a0, n0, d0, e0⟩ := fit_sl rfl rfl h0
    obtain ⟨a1, n1, d1, e1⟩ := fit_sl rfl rfl h1
    obtain ⟨a2, n2, d2, e2⟩ := fit_sl rfl rfl h2
    obtain ⟨su, l, e3, g3, g4, g5⟩ := fit_ups h3
    obtain ⟨sa, la, e4, g6, g7, g8⟩ := fit_ans h4
    obtain ⟨x5, e5, _⟩ := h5
    obtain ⟨x6, e6, _⟩ := h6
    obtain ⟨x7, e7, _⟩ := h7
    obtain ⟨x8, e8, _⟩ := h8
    simp at e0 e1 e2 e3 e4 e5 e6 e7 e8
    subst e0 e1 e2 e3 e4 e5 e6 e7 e8
    exact ⟨_, _, _, _, _, _, _, _, _, _, _, l, la, _, _, _, _, rfl, g3, g4, g5, g6, g7, g8⟩
theorem laid_pos {P : Program} {l : List (String × DataW Unit)} {W : World} (h : laidMet P l W) {name : String} {d : DataW Unit} (hm : (name, d) ∈ l) : 0 < W.heap.size := by
  obtain ⟨ps, hl, _⟩ := h
  obtain ⟨g', t', cs, fuel, p, hg', ht', hvar, hd⟩ := laidVars_mem hl _ _ hm
  unfold World.var? at hvar
  rw [hg'] at hvar
  rcases Nat.eq_zero_or_pos W.heap.size with h0 | h0
  · exfalso
    simp [Array.size_eq_zero_iff.1 h0] at hvar
  · exact h0
end Go.Proofs.YtdmgmkifjboojaaGreatDoor
