/-
  What the laws of these data stand on: contracts of functions, and plain laws.
-/
import Derived.Test.YtdmgmkifjboojaaGreatDoorProg
import Derived.Test.YtdmgmkifjboojaaGreatDoorFXa
import Derived.Test.YtdmgmkifjboojaaGreatDoorFXb
import Derived.Test.YtdmgmkifjboojaaGreatDoorFXc
import Derived.Test.YtdmgmkifjboojaaGreatDoorFXd
set_option linter.unusedVariables false
set_option linter.unusedSimpArgs false
set_option linter.unnecessarySimpa false
namespace Go.Proofs.YtdmgmkifjboojaaGreatDoor
open Go.SX
def TT : List (Option Ty) := [
  none,
  some ⟨.fn, 1, 8, [.nilFunc], false⟩,
  some ⟨(.int .i64), 1, 8, [.int .i64 0], false⟩,
  some ⟨(.int .i64), 1, 8, [.int .i64 0], false⟩,
  some ⟨.bool, 1, 1, [.bool false], false⟩,
  some ⟨(.int .u8), 1, 1, [.int .u8 0], false⟩,
  some ⟨(.int .u8), 1, 1, [.int .u8 0], false⟩,
  some ⟨(.st [(0, 2), (1, 3), (2, 4), (3, 6)]), 4, 24, [.int .i64 0, .int .i64 0, .bool false, .int .u8 0], true⟩,
  some ⟨(.st [(0, 2), (1, 3), (2, 4), (3, 6)]), 4, 24, [.int .i64 0, .int .i64 0, .bool false, .int .u8 0], true⟩,
  some ⟨.str, 1, 16, [.string ⟨#[]⟩], false⟩,
  some ⟨.str, 1, 16, [.string ⟨#[]⟩], false⟩,
  some ⟨.str, 1, 16, [.string ⟨#[]⟩], false⟩,
  some ⟨(.int .u64), 1, 8, [.int .u64 0], false⟩,
  some ⟨(.st [(0, 9), (1, 12)]), 2, 24, [.string ⟨#[]⟩, .int .u64 0], false⟩,
  some ⟨(.st [(0, 9), (1, 12)]), 2, 24, [.string ⟨#[]⟩, .int .u64 0], false⟩,
  some ⟨(.ptr 401), 1, 8, [.pointer none], false⟩,
  some ⟨(.ptr 404), 1, 8, [.pointer none], false⟩,
  some ⟨(.ptr 411), 1, 8, [.pointer none], false⟩,
  some ⟨(.st [(0, 17)]), 1, 8, [.pointer none], false⟩,
  some ⟨(.st [(0, 17)]), 1, 8, [.pointer none], false⟩,
  some ⟨.ifc, 1, 16, [.nilIface], false⟩,
  some ⟨(.int .i32), 1, 4, [.int .i32 0], false⟩,
  some ⟨(.sl 38), 1, 24, [.slice none 0 0], false⟩,
  some ⟨(.sl 42), 1, 24, [.slice none 0 0], false⟩,
  some ⟨(.sl 45), 1, 24, [.slice none 0 0], false⟩,
  some ⟨(.sl 47), 1, 24, [.slice none 0 0], false⟩,
  some ⟨(.sl 51), 1, 24, [.slice none 0 0], false⟩,
  some ⟨(.st [(0, 22), (1, 23), (2, 24), (3, 25), (4, 26), (5, 3), (6, 3), (7, 3), (8, 3)]), 9, 152, [.slice none 0 0, .slice none 0 0, .slice none 0 0, .slice none 0 0, .slice none 0 0, .int .i64 0, .int .i64 0, .int .i64 0, .int .i64 0], true⟩,
  some ⟨(.st [(0, 22), (1, 23), (2, 24), (3, 25), (4, 26), (5, 3), (6, 3), (7, 3), (8, 3)]), 9, 152, [.slice none 0 0, .slice none 0 0, .slice none 0 0, .slice none 0 0, .slice none 0 0, .int .i64 0, .int .i64 0, .int .i64 0, .int .i64 0], true⟩,
  some ⟨.fn, 1, 8, [.nilFunc], false⟩,
  some ⟨(.int .i64), 1, 8, [.int .i64 0], false⟩,
  none,
  some ⟨.fn, 1, 8, [.nilFunc], false⟩,
  some ⟨.fn, 1, 8, [.nilFunc], false⟩,
  some ⟨.fn, 1, 8, [.nilFunc], false⟩,
  some ⟨(.sl 9), 1, 24, [.slice none 0 0], false⟩,
  some ⟨(.int .u64), 1, 8, [.int .u64 0], false⟩,
  some ⟨(.st [(0, 4), (1, 36), (2, 36)]), 3, 24, [.bool false, .int .u64 0, .int .u64 0], true⟩,
  some ⟨(.st [(0, 4), (1, 36), (2, 36)]), 3, 24, [.bool false, .int .u64 0, .int .u64 0], true⟩,
  some ⟨(.st [(0, 38), (3, 3)]), 4, 32, [.bool false, .int .u64 0, .int .u64 0, .int .i64 0], true⟩,
  some ⟨(.st [(0, 38), (3, 3)]), 4, 32, [.bool false, .int .u64 0, .int .u64 0, .int .i64 0], true⟩,
  some ⟨(.st [(0, 40), (4, 3)]), 5, 40, [.bool false, .int .u64 0, .int .u64 0, .int .i64 0, .int .i64 0], true⟩,
  some ⟨(.st [(0, 40), (4, 3)]), 5, 40, [.bool false, .int .u64 0, .int .u64 0, .int .i64 0, .int .i64 0], true⟩,
  some ⟨(.sl 88), 1, 24, [.slice none 0 0], false⟩,
  some ⟨(.st [(0, 9), (1, 3), (2, 43)]), 3, 48, [.string ⟨#[]⟩, .int .i64 0, .slice none 0 0], true⟩,
  some ⟨(.st [(0, 9), (1, 3), (2, 43)]), 3, 48, [.string ⟨#[]⟩, .int .i64 0, .slice none 0 0], true⟩,
  some ⟨(.st [(0, 9), (1, 22), (2, 4)]), 3, 48, [.string ⟨#[]⟩, .slice none 0 0, .bool false], true⟩,
  some ⟨(.st [(0, 9), (1, 22), (2, 4)]), 3, 48, [.string ⟨#[]⟩, .slice none 0 0, .bool false], true⟩,
  some ⟨(.st [(0, 3), (1, 3), (2, 3), (3, 9)]), 4, 40, [.int .i64 0, .int .i64 0, .int .i64 0, .string ⟨#[]⟩], true⟩,
  some ⟨(.st [(0, 3), (1, 3), (2, 3), (3, 9)]), 4, 40, [.int .i64 0, .int .i64 0, .int .i64 0, .string ⟨#[]⟩], true⟩,
  some ⟨(.st [(0, 9), (1, 49)]), 5, 56, [.string ⟨#[]⟩, .int .i64 0, .int .i64 0, .int .i64 0, .string ⟨#[]⟩], true⟩,
  some ⟨(.st [(0, 9), (1, 49)]), 5, 56, [.string ⟨#[]⟩, .int .i64 0, .int .i64 0, .int .i64 0, .string ⟨#[]⟩], true⟩,
  some ⟨.fn, 1, 8, [.nilFunc], false⟩,
  some ⟨.fn, 1, 8, [.nilFunc], false⟩,
  some ⟨(.sl 49), 1, 24, [.slice none 0 0], false⟩,
  none,
  some ⟨.fn, 1, 8, [.nilFunc], false⟩,
  none,
  some ⟨.fn, 1, 8, [.nilFunc], false⟩,
  some ⟨.fn, 1, 8, [.nilFunc], false⟩,
  some ⟨.fn, 1, 8, [.nilFunc], false⟩,
  some ⟨.fn, 1, 8, [.nilFunc], false⟩,
  some ⟨(.sl 85), 1, 24, [.slice none 0 0], false⟩,
  some ⟨(.st [(0, 4), (1, 3), (2, 4), (3, 3), (4, 9)]), 5, 48, [.bool false, .int .i64 0, .bool false, .int .i64 0, .string ⟨#[]⟩], true⟩,
  some ⟨(.st [(0, 4), (1, 3), (2, 4), (3, 3), (4, 9)]), 5, 48, [.bool false, .int .i64 0, .bool false, .int .i64 0, .string ⟨#[]⟩], true⟩,
  some ⟨(.st [(0, 3), (1, 4), (2, 3), (3, 4), (4, 4), (5, 4), (6, 4), (7, 4), (8, 4), (9, 3), (10, 62), (11, 43), (12, 43), (13, 43), (14, 64)]), 19, 184, [.int .i64 0, .bool false, .int .i64 0, .bool false, .bool false, .bool false, .bool false, .bool false, .bool false, .int .i64 0, .slice none 0 0, .slice none 0 0, .slice none 0 0, .slice none 0 0, .bool false, .int .i64 0, .bool false, .int .i64 0, .string ⟨#[]⟩], true⟩,
  some ⟨(.st [(0, 3), (1, 4), (2, 3), (3, 4), (4, 4), (5, 4), (6, 4), (7, 4), (8, 4), (9, 3), (10, 62), (11, 43), (12, 43), (13, 43), (14, 64)]), 19, 184, [.int .i64 0, .bool false, .int .i64 0, .bool false, .bool false, .bool false, .bool false, .bool false, .bool false, .int .i64 0, .slice none 0 0, .slice none 0 0, .slice none 0 0, .slice none 0 0, .bool false, .int .i64 0, .bool false, .int .i64 0, .string ⟨#[]⟩], true⟩,
  some ⟨.fn, 1, 8, [.nilFunc], false⟩,
  none,
  some ⟨.fn, 1, 8, [.nilFunc], false⟩,
  none,
  some ⟨.fn, 1, 8, [.nilFunc], false⟩,
  some ⟨.fn, 1, 8, [.nilFunc], false⟩,
  some ⟨.fn, 1, 8, [.nilFunc], false⟩,
  some ⟨.fn, 1, 8, [.nilFunc], false⟩,
  none,
  some ⟨.fn, 1, 8, [.nilFunc], false⟩,
  some ⟨.fn, 1, 8, [.nilFunc], false⟩,
  none,
  some ⟨.fn, 1, 8, [.nilFunc], false⟩,
  some ⟨.fn, 1, 8, [.nilFunc], false⟩,
  some ⟨.fn, 1, 8, [.nilFunc], false⟩,
  some ⟨(.sl 5), 1, 24, [.slice none 0 0], false⟩,
  some ⟨.fn, 1, 8, [.nilFunc], false⟩,
  some ⟨(.st [(0, 9), (1, 3), (2, 3)]), 3, 32, [.string ⟨#[]⟩, .int .i64 0, .int .i64 0], true⟩,
  some ⟨(.st [(0, 9), (1, 3), (2, 3)]), 3, 32, [.string ⟨#[]⟩, .int .i64 0, .int .i64 0], true⟩,
  some ⟨(.sl 3), 1, 24, [.slice none 0 0], false⟩,
  some ⟨(.st [(0, 9), (1, 3), (2, 3), (3, 3), (4, 9)]), 5, 56, [.string ⟨#[]⟩, .int .i64 0, .int .i64 0, .int .i64 0, .string ⟨#[]⟩], true⟩,
  some ⟨(.st [(0, 9), (1, 3), (2, 3), (3, 3), (4, 9)]), 5, 56, [.string ⟨#[]⟩, .int .i64 0, .int .i64 0, .int .i64 0, .string ⟨#[]⟩], true⟩,
  some ⟨.fn, 1, 8, [.nilFunc], false⟩,
  some ⟨(.st [(0, 9), (1, 34)]), 2, 24, [.string ⟨#[]⟩, .nilFunc], true⟩,
  some ⟨(.st [(0, 9), (1, 34)]), 2, 24, [.string ⟨#[]⟩, .nilFunc], true⟩,
  some ⟨(.sl 91), 1, 24, [.slice none 0 0], false⟩,
  some ⟨.fn, 1, 8, [.nilFunc], false⟩,
  some ⟨.fn, 1, 8, [.nilFunc], false⟩,
  some ⟨.fn, 1, 8, [.nilFunc], false⟩,
  some ⟨.fn, 1, 8, [.nilFunc], false⟩,
  some ⟨.fn, 1, 8, [.nilFunc], false⟩,
  some ⟨.fn, 1, 8, [.nilFunc], false⟩,
  some ⟨.fn, 1, 8, [.nilFunc], false⟩,
  some ⟨.fn, 1, 8, [.nilFunc], false⟩,
  some ⟨.fn, 1, 8, [.nilFunc], false⟩,
  some ⟨.fn, 1, 8, [.nilFunc], false⟩,
  some ⟨.fn, 1, 8, [.nilFunc], false⟩,
  some ⟨.fn, 1, 8, [.nilFunc], false⟩,
  some ⟨.fn, 1, 8, [.nilFunc], false⟩,
  some ⟨.fn, 1, 8, [.nilFunc], false⟩,
  some ⟨.fn, 1, 8, [.nilFunc], false⟩,
  some ⟨(.int .u64), 1, 8, [.int .u64 0], false⟩,
  some ⟨.fn, 1, 8, [.nilFunc], false⟩,
  some ⟨(.ptr 112), 1, 8, [.pointer none], false⟩,
  some ⟨(.st [(0, 9), (1, 3), (2, 4)]), 3, 32, [.string ⟨#[]⟩, .int .i64 0, .bool false], true⟩,
  some ⟨(.st [(0, 9), (1, 3), (2, 4)]), 3, 32, [.string ⟨#[]⟩, .int .i64 0, .bool false], true⟩,
  some ⟨.fn, 1, 8, [.nilFunc], false⟩,
  some ⟨.fn, 1, 8, [.nilFunc], false⟩,
  some ⟨.fn, 1, 8, [.nilFunc], false⟩,
  some ⟨(.st []), 0, 0, [], true⟩,
  some ⟨(.st []), 0, 0, [], true⟩,
  none,
  some ⟨(.ptr 121), 1, 8, [.pointer none], false⟩,
  some ⟨(.st [(0, 9), (1, 3)]), 2, 24, [.string ⟨#[]⟩, .int .i64 0], true⟩,
  some ⟨(.st [(0, 9), (1, 3)]), 2, 24, [.string ⟨#[]⟩, .int .i64 0], true⟩,
  some ⟨(.ptr 162), 1, 8, [.pointer none], false⟩,
  some ⟨(.ptr 66), 1, 8, [.pointer none], false⟩,
  some ⟨.fn, 1, 8, [.nilFunc], false⟩,
  some ⟨(.ptr 4), 1, 8, [.pointer none], false⟩,
  some ⟨.fn, 1, 8, [.nilFunc], false⟩,
  some ⟨(.arr 4 3), 4, 32, [.int .i64 0, .int .i64 0, .int .i64 0, .int .i64 0], false⟩,
  some ⟨.fn, 1, 8, [.nilFunc], false⟩,
  some ⟨.fn, 1, 8, [.nilFunc], false⟩,
  some ⟨(.arr 3 43), 3, 72, [.slice none 0 0, .slice none 0 0, .slice none 0 0], false⟩,
  none,
  some ⟨.fn, 1, 8, [.nilFunc], false⟩,
  some ⟨(.ptr 173), 1, 8, [.pointer none], false⟩,
  none,
  some ⟨.fn, 1, 8, [.nilFunc], false⟩,
  some ⟨(.ptr 181), 1, 8, [.pointer none], false⟩,
  none,
  some ⟨.fn, 1, 8, [.nilFunc], false⟩,
  some ⟨.fn, 1, 8, [.nilFunc], false⟩,
  some ⟨.fn, 1, 8, [.nilFunc], false⟩,
  some ⟨.fn, 1, 8, [.nilFunc], false⟩,
  some ⟨(.sl 193), 1, 24, [.slice none 0 0], false⟩,
  some ⟨.fn, 1, 8, [.nilFunc], false⟩,
  some ⟨.fn, 1, 8, [.nilFunc], false⟩,
  none,
  some ⟨.fn, 1, 8, [.nilFunc], false⟩,
  some ⟨.fn, 1, 8, [.nilFunc], false⟩,
  some ⟨.fn, 1, 8, [.nilFunc], false⟩,
  some ⟨.fn, 1, 8, [.nilFunc], false⟩,
  some ⟨(.ptr 153), 1, 8, [.pointer none], false⟩,
  some ⟨(.mp 202 3), 1, 8, [.map none], false⟩,
  some ⟨(.st [(0, 82), (1, 151)]), 2, 32, [.slice none 0 0, .map none], true⟩,
  some ⟨(.st [(0, 82), (1, 151)]), 2, 32, [.slice none 0 0, .map none], true⟩,
  some ⟨.fn, 1, 8, [.nilFunc], false⟩,
  some ⟨.fn, 1, 8, [.nilFunc], false⟩,
  some ⟨(.sl 43), 1, 24, [.slice none 0 0], false⟩,
  some ⟨.fn, 1, 8, [.nilFunc], false⟩,
  some ⟨(.ptr 160), 1, 8, [.pointer none], false⟩,
  some ⟨(.st [(0, 82), (1, 35), (2, 86)]), 3, 72, [.slice none 0 0, .slice none 0 0, .slice none 0 0], true⟩,
  some ⟨(.st [(0, 82), (1, 35), (2, 86)]), 3, 72, [.slice none 0 0, .slice none 0 0, .slice none 0 0], true⟩,
  some ⟨.fn, 1, 8, [.nilFunc], false⟩,
  some ⟨(.st [(0, 3), (1, 4), (2, 3), (3, 4), (4, 4), (5, 4), (6, 4), (7, 4), (8, 4), (9, 3), (10, 62), (11, 43), (12, 43), (13, 43), (14, 64)]), 19, 184, [.int .i64 0, .bool false, .int .i64 0, .bool false, .bool false, .bool false, .bool false, .bool false, .bool false, .int .i64 0, .slice none 0 0, .slice none 0 0, .slice none 0 0, .slice none 0 0, .bool false, .int .i64 0, .bool false, .int .i64 0, .string ⟨#[]⟩], true⟩,
  some ⟨.fn, 1, 8, [.nilFunc], false⟩,
  some ⟨.fn, 1, 8, [.nilFunc], false⟩,
  some ⟨.fn, 1, 8, [.nilFunc], false⟩,
  some ⟨(.ptr 170), 1, 8, [.pointer none], false⟩,
  some ⟨(.arr 2 166), 2, 16, [.pointer none, .pointer none], false⟩,
  some ⟨(.ptr 42), 1, 8, [.pointer none], false⟩,
  some ⟨(.st [(0, 167), (2, 168)]), 3, 24, [.pointer none, .pointer none, .pointer none], true⟩,
  some ⟨(.st [(0, 167), (2, 168)]), 3, 24, [.pointer none, .pointer none, .pointer none], true⟩,
  some ⟨(.arr 2 170), 6, 48, [.pointer none, .pointer none, .pointer none, .pointer none, .pointer none, .pointer none], false⟩,
  some ⟨(.st [(0, 171)]), 6, 48, [.pointer none, .pointer none, .pointer none, .pointer none, .pointer none, .pointer none], true⟩,
  some ⟨(.st [(0, 171)]), 6, 48, [.pointer none, .pointer none, .pointer none, .pointer none, .pointer none, .pointer none], true⟩,
  some ⟨.fn, 1, 8, [.nilFunc], false⟩,
  some ⟨(.st [(0, 36), (1, 36), (2, 3)]), 3, 24, [.int .u64 0, .int .u64 0, .int .i64 0], true⟩,
  some ⟨(.st [(0, 36), (1, 36), (2, 3)]), 3, 24, [.int .u64 0, .int .u64 0, .int .i64 0], true⟩,
  some ⟨.fn, 1, 8, [.nilFunc], false⟩,
  some ⟨(.ptr 166), 1, 8, [.pointer none], false⟩,
  some ⟨(.mp 9 182), 1, 8, [.map none], false⟩,
  some ⟨(.st [(0, 179)]), 1, 8, [.map none], true⟩,
  some ⟨(.st [(0, 179)]), 1, 8, [.map none], true⟩,
  some ⟨(.ptr 186), 1, 8, [.pointer none], false⟩,
  none,
  some ⟨.fn, 1, 8, [.nilFunc], false⟩,
  some ⟨(.st [(0, 9), (1, 3), (2, 142)]), 3, 48, [.string ⟨#[]⟩, .int .i64 0, .slice none 0 0], true⟩,
  some ⟨(.st [(0, 9), (1, 3), (2, 142)]), 3, 48, [.string ⟨#[]⟩, .int .i64 0, .slice none 0 0], true⟩,
  some ⟨.fn, 1, 8, [.nilFunc], false⟩,
  some ⟨.fn, 1, 8, [.nilFunc], false⟩,
  some ⟨.fn, 1, 8, [.nilFunc], false⟩,
  some ⟨.fn, 1, 8, [.nilFunc], false⟩,
  some ⟨.fn, 1, 8, [.nilFunc], false⟩,
  some ⟨(.st [(0, 9), (1, 3), (2, 3), (3, 3), (4, 35), (5, 35)]), 6, 88, [.string ⟨#[]⟩, .int .i64 0, .int .i64 0, .int .i64 0, .slice none 0 0, .slice none 0 0], true⟩,
  some ⟨(.st [(0, 9), (1, 3), (2, 3), (3, 3), (4, 35), (5, 35)]), 6, 88, [.string ⟨#[]⟩, .int .i64 0, .int .i64 0, .int .i64 0, .slice none 0 0, .slice none 0 0], true⟩,
  some ⟨.fn, 1, 8, [.nilFunc], false⟩,
  some ⟨(.st [(0, 3), (1, 3), (2, 3), (3, 3), (4, 3), (5, 3), (6, 3), (7, 9), (8, 9)]), 9, 88, [.int .i64 0, .int .i64 0, .int .i64 0, .int .i64 0, .int .i64 0, .int .i64 0, .int .i64 0, .string ⟨#[]⟩, .string ⟨#[]⟩], true⟩,
  some ⟨(.st [(0, 3), (1, 3), (2, 3), (3, 3), (4, 3), (5, 3), (6, 3), (7, 9), (8, 9)]), 9, 88, [.int .i64 0, .int .i64 0, .int .i64 0, .int .i64 0, .int .i64 0, .int .i64 0, .int .i64 0, .string ⟨#[]⟩, .string ⟨#[]⟩], true⟩,
  none,
  some ⟨.fn, 1, 8, [.nilFunc], false⟩,
  some ⟨.fn, 1, 8, [.nilFunc], false⟩,
  none,
  some ⟨(.st [(0, 9)]), 1, 16, [.string ⟨#[]⟩], true⟩,
  some ⟨(.st [(0, 9)]), 1, 16, [.string ⟨#[]⟩], true⟩,
  some ⟨.fn, 1, 8, [.nilFunc], false⟩,
  some ⟨.fn, 1, 8, [.nilFunc], false⟩,
  some ⟨.fn, 1, 8, [.nilFunc], false⟩,
  none,
  some ⟨.fn, 1, 8, [.nilFunc], false⟩,
  some ⟨(.ptr 212), 1, 8, [.pointer none], false⟩,
  some ⟨(.mp 255 3), 1, 8, [.map none], false⟩,
  some ⟨(.mp 258 3), 1, 8, [.map none], false⟩,
  some ⟨(.st [(0, 142), (1, 209), (2, 210)]), 3, 40, [.slice none 0 0, .map none, .map none], true⟩,
  some ⟨(.st [(0, 142), (1, 209), (2, 210)]), 3, 40, [.slice none 0 0, .map none, .map none], true⟩,
  some ⟨.fn, 1, 8, [.nilFunc], false⟩,
  some ⟨.fn, 1, 8, [.nilFunc], false⟩,
  some ⟨.fn, 1, 8, [.nilFunc], false⟩,
  some ⟨.fn, 1, 8, [.nilFunc], false⟩,
  some ⟨(.ptr 219), 1, 8, [.pointer none], false⟩,
  some ⟨(.st [(0, 9), (1, 4)]), 2, 24, [.string ⟨#[]⟩, .bool false], true⟩,
  some ⟨(.st [(0, 9), (1, 4)]), 2, 24, [.string ⟨#[]⟩, .bool false], true⟩,
  some ⟨.fn, 1, 8, [.nilFunc], false⟩,
  some ⟨.fn, 1, 8, [.nilFunc], false⟩,
  some ⟨.fn, 1, 8, [.nilFunc], false⟩,
  some ⟨(.st [(0, 80), (1, 222), (2, 204), (3, 222)]), 4, 32, [.nilFunc, .nilFunc, .nilFunc, .nilFunc], true⟩,
  some ⟨(.st [(0, 80), (1, 222), (2, 204), (3, 222)]), 4, 32, [.nilFunc, .nilFunc, .nilFunc, .nilFunc], true⟩,
  some ⟨.fn, 1, 8, [.nilFunc], false⟩,
  some ⟨(.st [(0, 9), (1, 9), (2, 3), (3, 3), (4, 3), (5, 3), (6, 3)]), 7, 72, [.string ⟨#[]⟩, .string ⟨#[]⟩, .int .i64 0, .int .i64 0, .int .i64 0, .int .i64 0, .int .i64 0], true⟩,
  some ⟨(.st [(0, 9), (1, 9), (2, 3), (3, 3), (4, 3), (5, 3), (6, 3)]), 7, 72, [.string ⟨#[]⟩, .string ⟨#[]⟩, .int .i64 0, .int .i64 0, .int .i64 0, .int .i64 0, .int .i64 0], true⟩,
  none,
  some ⟨.fn, 1, 8, [.nilFunc], false⟩,
  none,
  some ⟨.fn, 1, 8, [.nilFunc], false⟩,
  none,
  some ⟨.fn, 1, 8, [.nilFunc], false⟩,
  some ⟨(.st [(0, 9), (1, 86)]), 2, 40, [.string ⟨#[]⟩, .slice none 0 0], true⟩,
  some ⟨(.st [(0, 9), (1, 86)]), 2, 40, [.string ⟨#[]⟩, .slice none 0 0], true⟩,
  none,
  some ⟨.fn, 1, 8, [.nilFunc], false⟩,
  some ⟨(.st [(0, 3), (1, 3), (2, 3), (3, 9)]), 4, 40, [.int .i64 0, .int .i64 0, .int .i64 0, .string ⟨#[]⟩], true⟩,
  some ⟨(.st [(0, 3), (1, 3), (2, 3), (3, 9)]), 4, 40, [.int .i64 0, .int .i64 0, .int .i64 0, .string ⟨#[]⟩], true⟩,
  none,
  some ⟨.fn, 1, 8, [.nilFunc], false⟩,
  some ⟨(.st [(0, 3), (1, 3), (2, 3), (3, 9), (4, 9), (5, 86)]), 6, 80, [.int .i64 0, .int .i64 0, .int .i64 0, .string ⟨#[]⟩, .string ⟨#[]⟩, .slice none 0 0], true⟩,
  some ⟨(.st [(0, 3), (1, 3), (2, 3), (3, 9), (4, 9), (5, 86)]), 6, 80, [.int .i64 0, .int .i64 0, .int .i64 0, .string ⟨#[]⟩, .string ⟨#[]⟩, .slice none 0 0], true⟩,
  none,
  some ⟨.fn, 1, 8, [.nilFunc], false⟩,
  some ⟨(.ptr 248), 1, 8, [.pointer none], false⟩,
  some ⟨(.st [(0, 246), (1, 82)]), 2, 32, [.pointer none, .slice none 0 0], true⟩,
  some ⟨(.st [(0, 246), (1, 82)]), 2, 32, [.pointer none, .slice none 0 0], true⟩,
  some ⟨.ifc, 1, 16, [.nilIface], false⟩,
  some ⟨.ifc, 1, 16, [.nilIface], false⟩,
  some ⟨.fn, 1, 8, [.nilFunc], false⟩,
  none,
  some ⟨.fn, 1, 8, [.nilFunc], false⟩,
  some ⟨(.st [(0, 9), (1, 3), (2, 3)]), 3, 32, [.string ⟨#[]⟩, .int .i64 0, .int .i64 0], true⟩,
  some ⟨(.st [(0, 9), (1, 3), (2, 3)]), 3, 32, [.string ⟨#[]⟩, .int .i64 0, .int .i64 0], true⟩,
  some ⟨(.ptr 193), 1, 8, [.pointer none], false⟩,
  some ⟨(.st [(0, 255), (3, 3), (4, 9)]), 5, 56, [.string ⟨#[]⟩, .int .i64 0, .int .i64 0, .int .i64 0, .string ⟨#[]⟩], true⟩,
  some ⟨(.st [(0, 255), (3, 3), (4, 9)]), 5, 56, [.string ⟨#[]⟩, .int .i64 0, .int .i64 0, .int .i64 0, .string ⟨#[]⟩], true⟩,
  none,
  some ⟨.fn, 1, 8, [.nilFunc], false⟩,
  none,
  some ⟨.fn, 1, 8, [.nilFunc], false⟩,
  some ⟨.fn, 1, 8, [.nilFunc], false⟩,
  some ⟨(.ptr 266), 1, 8, [.pointer none], false⟩,
  some ⟨(.st [(0, 35), (1, 4)]), 2, 32, [.slice none 0 0, .bool false], true⟩,
  some ⟨(.st [(0, 35), (1, 4)]), 2, 32, [.slice none 0 0, .bool false], true⟩,
  some ⟨.fn, 1, 8, [.nilFunc], false⟩,
  some ⟨.fn, 1, 8, [.nilFunc], false⟩,
  some ⟨.fn, 1, 8, [.nilFunc], false⟩,
  none,
  some ⟨.fn, 1, 8, [.nilFunc], false⟩,
  some ⟨(.st [(0, 3), (1, 9)]), 2, 24, [.int .i64 0, .string ⟨#[]⟩], true⟩,
  some ⟨(.st [(0, 3), (1, 9)]), 2, 24, [.int .i64 0, .string ⟨#[]⟩], true⟩,
  some ⟨.fn, 1, 8, [.nilFunc], false⟩,
  none,
  some ⟨.fn, 1, 8, [.nilFunc], false⟩,
  some ⟨.fn, 1, 8, [.nilFunc], false⟩,
  some ⟨.fn, 1, 8, [.nilFunc], false⟩,
  some ⟨.fn, 1, 8, [.nilFunc], false⟩,
  none,
  some ⟨.fn, 1, 8, [.nilFunc], false⟩,
  some ⟨.fn, 1, 8, [.nilFunc], false⟩,
  some ⟨.fn, 1, 8, [.nilFunc], false⟩,
  none,
  some ⟨.fn, 1, 8, [.nilFunc], false⟩,
  some ⟨.fn, 1, 8, [.nilFunc], false⟩,
  some ⟨.fn, 1, 8, [.nilFunc], false⟩,
  some ⟨.fn, 1, 8, [.nilFunc], false⟩,
  some ⟨.fn, 1, 8, [.nilFunc], false⟩,
  none,
  some ⟨.fn, 1, 8, [.nilFunc], false⟩,
  some ⟨.fn, 1, 8, [.nilFunc], false⟩,
  some ⟨(.ptr 5), 1, 8, [.pointer none], false⟩,
  some ⟨.fn, 1, 8, [.nilFunc], false⟩,
  some ⟨.fn, 1, 8, [.nilFunc], false⟩,
  some ⟨.fn, 1, 8, [.nilFunc], false⟩,
  some ⟨(.ptr 321), 1, 8, [.pointer none], false⟩,
  some ⟨.fn, 1, 8, [.nilFunc], false⟩,
  some ⟨.fn, 1, 8, [.nilFunc], false⟩,
  some ⟨.fn, 1, 8, [.nilFunc], false⟩,
  some ⟨.fn, 1, 8, [.nilFunc], false⟩,
  some ⟨.fn, 1, 8, [.nilFunc], false⟩,
  none,
  some ⟨.fn, 1, 8, [.nilFunc], false⟩,
  some ⟨.fn, 1, 8, [.nilFunc], false⟩,
  some ⟨.fn, 1, 8, [.nilFunc], false⟩,
  some ⟨(.ptr 3), 1, 8, [.pointer none], false⟩,
  some ⟨(.sl 307), 1, 24, [.slice none 0 0], false⟩,
  some ⟨.fn, 1, 8, [.nilFunc], false⟩,
  some ⟨.fn, 1, 8, [.nilFunc], false⟩,
  some ⟨.fn, 1, 8, [.nilFunc], false⟩,
  some ⟨.fn, 1, 8, [.nilFunc], false⟩,
  some ⟨.fn, 1, 8, [.nilFunc], false⟩,
  some ⟨(.ptr 316), 1, 8, [.pointer none], false⟩,
  some ⟨(.st [(0, 82), (1, 4)]), 2, 32, [.slice none 0 0, .bool false], true⟩,
  some ⟨(.st [(0, 82), (1, 4)]), 2, 32, [.slice none 0 0, .bool false], true⟩,
  some ⟨.fn, 1, 8, [.nilFunc], false⟩,
  none,
  some ⟨.fn, 1, 8, [.nilFunc], false⟩,
  some ⟨(.st [(0, 9)]), 1, 16, [.string ⟨#[]⟩], true⟩,
  some ⟨(.st [(0, 9)]), 1, 16, [.string ⟨#[]⟩], true⟩,
  some ⟨.fn, 1, 8, [.nilFunc], false⟩,
  some ⟨.fn, 1, 8, [.nilFunc], false⟩,
  some ⟨.fn, 1, 8, [.nilFunc], false⟩,
  some ⟨.fn, 1, 8, [.nilFunc], false⟩,
  some ⟨.fn, 1, 8, [.nilFunc], false⟩,
  some ⟨.fn, 1, 8, [.nilFunc], false⟩,
  some ⟨.fn, 1, 8, [.nilFunc], false⟩,
  some ⟨.fn, 1, 8, [.nilFunc], false⟩,
  some ⟨.fn, 1, 8, [.nilFunc], false⟩,
  some ⟨.fn, 1, 8, [.nilFunc], false⟩,
  some ⟨.fn, 1, 8, [.nilFunc], false⟩,
  some ⟨.fn, 1, 8, [.nilFunc], false⟩,
  some ⟨.fn, 1, 8, [.nilFunc], false⟩,
  none,
  some ⟨.fn, 1, 8, [.nilFunc], false⟩,
  some ⟨.fn, 1, 8, [.nilFunc], false⟩,
  some ⟨.fn, 1, 8, [.nilFunc], false⟩,
  some ⟨.oth, 1, 8, [.pointer none], false⟩,
  some ⟨.fn, 1, 8, [.nilFunc], false⟩,
  some ⟨(.arr 2 3), 2, 16, [.int .i64 0, .int .i64 0], false⟩,
  some ⟨(.sl 341), 1, 24, [.slice none 0 0], false⟩,
  some ⟨.fn, 1, 8, [.nilFunc], false⟩,
  some ⟨.fn, 1, 8, [.nilFunc], false⟩,
  some ⟨.fn, 1, 8, [.nilFunc], false⟩,
  some ⟨.fn, 1, 8, [.nilFunc], false⟩,
  some ⟨.fn, 1, 8, [.nilFunc], false⟩,
  some ⟨(.st []), 0, 0, [], true⟩,
  none,
  none,
  some ⟨.fn, 1, 8, [.nilFunc], false⟩,
  some ⟨.fn, 1, 8, [.nilFunc], false⟩,
  some ⟨.fn, 1, 8, [.nilFunc], false⟩,
  some ⟨.fn, 1, 8, [.nilFunc], false⟩,
  some ⟨(.sl 357), 1, 24, [.slice none 0 0], false⟩,
  some ⟨.fn, 1, 8, [.nilFunc], false⟩,
  some ⟨(.st [(0, 3), (1, 9)]), 2, 24, [.int .i64 0, .string ⟨#[]⟩], true⟩,
  none,
  some ⟨.fn, 1, 8, [.nilFunc], false⟩,
  some ⟨(.arr 32 5), 32, 32, [.int .u8 0, .int .u8 0, .int .u8 0, .int .u8 0, .int .u8 0, .int .u8 0, .int .u8 0, .int .u8 0, .int .u8 0, .int .u8 0, .int .u8 0, .int .u8 0, .int .u8 0, .int .u8 0, .int .u8 0, .int .u8 0, .int .u8 0, .int .u8 0, .int .u8 0, .int .u8 0, .int .u8 0, .int .u8 0, .int .u8 0, .int .u8 0, .int .u8 0, .int .u8 0, .int .u8 0, .int .u8 0, .int .u8 0, .int .u8 0, .int .u8 0, .int .u8 0], false⟩,
  some ⟨.fn, 1, 8, [.nilFunc], false⟩,
  some ⟨.fn, 1, 8, [.nilFunc], false⟩,
  some ⟨(.int .i64), 1, 8, [.int .i64 0], false⟩,
  some ⟨(.ptr 380), 1, 8, [.pointer none], false⟩,
  some ⟨.fn, 1, 8, [.nilFunc], false⟩,
  some ⟨.fn, 1, 8, [.nilFunc], false⟩,
  some ⟨(.arr 24 5), 24, 24, [.int .u8 0, .int .u8 0, .int .u8 0, .int .u8 0, .int .u8 0, .int .u8 0, .int .u8 0, .int .u8 0, .int .u8 0, .int .u8 0, .int .u8 0, .int .u8 0, .int .u8 0, .int .u8 0, .int .u8 0, .int .u8 0, .int .u8 0, .int .u8 0, .int .u8 0, .int .u8 0, .int .u8 0, .int .u8 0, .int .u8 0, .int .u8 0], false⟩,
  some ⟨.fn, 1, 8, [.nilFunc], false⟩,
  some ⟨.fn, 1, 8, [.nilFunc], false⟩,
  none,
  some ⟨.fn, 1, 8, [.nilFunc], false⟩,
  some ⟨.fn, 1, 8, [.nilFunc], false⟩,
  some ⟨.fn, 1, 8, [.nilFunc], false⟩,
  some ⟨.fn, 1, 8, [.nilFunc], false⟩,
  some ⟨.fn, 1, 8, [.nilFunc], false⟩,
  some ⟨.fn, 1, 8, [.nilFunc], false⟩,
  none,
  some ⟨.fn, 1, 8, [.nilFunc], false⟩,
  some ⟨(.st [(0, 9), (1, 9), (2, 250)]), 3, 48, [.string ⟨#[]⟩, .string ⟨#[]⟩, .nilIface], false⟩,
  some ⟨(.st [(0, 9), (1, 9), (2, 250)]), 3, 48, [.string ⟨#[]⟩, .string ⟨#[]⟩, .nilIface], false⟩,
  some ⟨.fn, 1, 8, [.nilFunc], false⟩,
  some ⟨.fn, 1, 8, [.nilFunc], false⟩,
  some ⟨(.arr 20 36), 20, 160, [.int .u64 0, .int .u64 0, .int .u64 0, .int .u64 0, .int .u64 0, .int .u64 0, .int .u64 0, .int .u64 0, .int .u64 0, .int .u64 0, .int .u64 0, .int .u64 0, .int .u64 0, .int .u64 0, .int .u64 0, .int .u64 0, .int .u64 0, .int .u64 0, .int .u64 0, .int .u64 0], false⟩,
  some ⟨(.int .u32), 1, 4, [.int .u32 0], false⟩,
  some ⟨(.arr 65 5), 65, 65, [.int .u8 0, .int .u8 0, .int .u8 0, .int .u8 0, .int .u8 0, .int .u8 0, .int .u8 0, .int .u8 0, .int .u8 0, .int .u8 0, .int .u8 0, .int .u8 0, .int .u8 0, .int .u8 0, .int .u8 0, .int .u8 0, .int .u8 0, .int .u8 0, .int .u8 0, .int .u8 0, .int .u8 0, .int .u8 0, .int .u8 0, .int .u8 0, .int .u8 0, .int .u8 0, .int .u8 0, .int .u8 0, .int .u8 0, .int .u8 0, .int .u8 0, .int .u8 0, .int .u8 0, .int .u8 0, .int .u8 0, .int .u8 0, .int .u8 0, .int .u8 0, .int .u8 0, .int .u8 0, .int .u8 0, .int .u8 0, .int .u8 0, .int .u8 0, .int .u8 0, .int .u8 0, .int .u8 0, .int .u8 0, .int .u8 0, .int .u8 0, .int .u8 0, .int .u8 0, .int .u8 0, .int .u8 0, .int .u8 0, .int .u8 0, .int .u8 0, .int .u8 0, .int .u8 0, .int .u8 0, .int .u8 0, .int .u8 0, .int .u8 0, .int .u8 0, .int .u8 0], false⟩,
  some ⟨.fn, 1, 8, [.nilFunc], false⟩,
  none,
  some ⟨.fn, 1, 8, [.nilFunc], false⟩,
  some ⟨(.ptr 391), 1, 8, [.pointer none], false⟩,
  some ⟨(.st [(0, 9)]), 1, 16, [.string ⟨#[]⟩], true⟩,
  some ⟨(.st [(0, 9)]), 1, 16, [.string ⟨#[]⟩], true⟩,
  some ⟨.fn, 1, 8, [.nilFunc], false⟩,
  some ⟨(.arr 256 5), 256, 256, [.int .u8 0, .int .u8 0, .int .u8 0, .int .u8 0, .int .u8 0, .int .u8 0, .int .u8 0, .int .u8 0, .int .u8 0, .int .u8 0, .int .u8 0, .int .u8 0, .int .u8 0, .int .u8 0, .int .u8 0, .int .u8 0, .int .u8 0, .int .u8 0, .int .u8 0, .int .u8 0, .int .u8 0, .int .u8 0, .int .u8 0, .int .u8 0, .int .u8 0, .int .u8 0, .int .u8 0, .int .u8 0, .int .u8 0, .int .u8 0, .int .u8 0, .int .u8 0, .int .u8 0, .int .u8 0, .int .u8 0, .int .u8 0, .int .u8 0, .int .u8 0, .int .u8 0, .int .u8 0, .int .u8 0, .int .u8 0, .int .u8 0, .int .u8 0, .int .u8 0, .int .u8 0, .int .u8 0, .int .u8 0, .int .u8 0, .int .u8 0, .int .u8 0, .int .u8 0, .int .u8 0, .int .u8 0, .int .u8 0, .int .u8 0, .int .u8 0, .int .u8 0, .int .u8 0, .int .u8 0, .int .u8 0, .int .u8 0, .int .u8 0, .int .u8 0, .int .u8 0, .int .u8 0, .int .u8 0, .int .u8 0, .int .u8 0, .int .u8 0, .int .u8 0, .int .u8 0, .int .u8 0, .int .u8 0, .int .u8 0, .int .u8 0, .int .u8 0, .int .u8 0, .int .u8 0, .int .u8 0, .int .u8 0, .int .u8 0, .int .u8 0, .int .u8 0, .int .u8 0, .int .u8 0, .int .u8 0, .int .u8 0, .int .u8 0, .int .u8 0, .int .u8 0, .int .u8 0, .int .u8 0, .int .u8 0, .int .u8 0, .int .u8 0, .int .u8 0, .int .u8 0, .int .u8 0, .int .u8 0, .int .u8 0, .int .u8 0, .int .u8 0, .int .u8 0, .int .u8 0, .int .u8 0, .int .u8 0, .int .u8 0, .int .u8 0, .int .u8 0, .int .u8 0, .int .u8 0, .int .u8 0, .int .u8 0, .int .u8 0, .int .u8 0, .int .u8 0, .int .u8 0, .int .u8 0, .int .u8 0, .int .u8 0, .int .u8 0, .int .u8 0, .int .u8 0, .int .u8 0, .int .u8 0, .int .u8 0, .int .u8 0, .int .u8 0, .int .u8 0, .int .u8 0, .int .u8 0, .int .u8 0, .int .u8 0, .int .u8 0, .int .u8 0, .int .u8 0, .int .u8 0, .int .u8 0, .int .u8 0, .int .u8 0, .int .u8 0, .int .u8 0, .int .u8 0, .int .u8 0, .int .u8 0, .int .u8 0, .int .u8 0, .int .u8 0, .int .u8 0, .int .u8 0, .int .u8 0, .int .u8 0, .int .u8 0, .int .u8 0, .int .u8 0, .int .u8 0, .int .u8 0, .int .u8 0, .int .u8 0, .int .u8 0, .int .u8 0, .int .u8 0, .int .u8 0, .int .u8 0, .int .u8 0, .int .u8 0, .int .u8 0, .int .u8 0, .int .u8 0, .int .u8 0, .int .u8 0, .int .u8 0, .int .u8 0, .int .u8 0, .int .u8 0, .int .u8 0, .int .u8 0, .int .u8 0, .int .u8 0, .int .u8 0, .int .u8 0, .int .u8 0, .int .u8 0, .int .u8 0, .int .u8 0, .int .u8 0, .int .u8 0, .int .u8 0, .int .u8 0, .int .u8 0, .int .u8 0, .int .u8 0, .int .u8 0, .int .u8 0, .int .u8 0, .int .u8 0, .int .u8 0, .int .u8 0, .int .u8 0, .int .u8 0, .int .u8 0, .int .u8 0, .int .u8 0, .int .u8 0, .int .u8 0, .int .u8 0, .int .u8 0, .int .u8 0, .int .u8 0, .int .u8 0, .int .u8 0, .int .u8 0, .int .u8 0, .int .u8 0, .int .u8 0, .int .u8 0, .int .u8 0, .int .u8 0, .int .u8 0, .int .u8 0, .int .u8 0, .int .u8 0, .int .u8 0, .int .u8 0, .int .u8 0, .int .u8 0, .int .u8 0, .int .u8 0, .int .u8 0, .int .u8 0, .int .u8 0, .int .u8 0, .int .u8 0, .int .u8 0, .int .u8 0, .int .u8 0, .int .u8 0, .int .u8 0, .int .u8 0, .int .u8 0, .int .u8 0, .int .u8 0, .int .u8 0, .int .u8 0, .int .u8 0, .int .u8 0, .int .u8 0, .int .u8 0, .int .u8 0, .int .u8 0, .int .u8 0, .int .u8 0, .int .u8 0, .int .u8 0, .int .u8 0], false⟩,
  some ⟨(.st [(0, 5), (1, 5)]), 2, 2, [.int .u8 0, .int .u8 0], true⟩,
  some ⟨(.st [(0, 5), (1, 5)]), 2, 2, [.int .u8 0, .int .u8 0], true⟩,
  some ⟨(.arr 16 395), 32, 32, [.int .u8 0, .int .u8 0, .int .u8 0, .int .u8 0, .int .u8 0, .int .u8 0, .int .u8 0, .int .u8 0, .int .u8 0, .int .u8 0, .int .u8 0, .int .u8 0, .int .u8 0, .int .u8 0, .int .u8 0, .int .u8 0, .int .u8 0, .int .u8 0, .int .u8 0, .int .u8 0, .int .u8 0, .int .u8 0, .int .u8 0, .int .u8 0, .int .u8 0, .int .u8 0, .int .u8 0, .int .u8 0, .int .u8 0, .int .u8 0, .int .u8 0, .int .u8 0], false⟩,
  none,
  some ⟨.fn, 1, 8, [.nilFunc], false⟩,
  some ⟨(.arr 64 5), 64, 64, [.int .u8 0, .int .u8 0, .int .u8 0, .int .u8 0, .int .u8 0, .int .u8 0, .int .u8 0, .int .u8 0, .int .u8 0, .int .u8 0, .int .u8 0, .int .u8 0, .int .u8 0, .int .u8 0, .int .u8 0, .int .u8 0, .int .u8 0, .int .u8 0, .int .u8 0, .int .u8 0, .int .u8 0, .int .u8 0, .int .u8 0, .int .u8 0, .int .u8 0, .int .u8 0, .int .u8 0, .int .u8 0, .int .u8 0, .int .u8 0, .int .u8 0, .int .u8 0, .int .u8 0, .int .u8 0, .int .u8 0, .int .u8 0, .int .u8 0, .int .u8 0, .int .u8 0, .int .u8 0, .int .u8 0, .int .u8 0, .int .u8 0, .int .u8 0, .int .u8 0, .int .u8 0, .int .u8 0, .int .u8 0, .int .u8 0, .int .u8 0, .int .u8 0, .int .u8 0, .int .u8 0, .int .u8 0, .int .u8 0, .int .u8 0, .int .u8 0, .int .u8 0, .int .u8 0, .int .u8 0, .int .u8 0, .int .u8 0, .int .u8 0, .int .u8 0], false⟩,
  some ⟨(.st [(0, 17), (1, 17), (2, 17), (3, 9)]), 4, 40, [.pointer none, .pointer none, .pointer none, .string ⟨#[]⟩], false⟩,
  some ⟨(.st [(0, 17), (1, 17), (2, 17), (3, 9)]), 4, 40, [.pointer none, .pointer none, .pointer none, .string ⟨#[]⟩], false⟩,
  some ⟨(.arr 0 16), 0, 0, [], false⟩,
  some ⟨(.st [(0, 402)]), 0, 0, [], false⟩,
  some ⟨(.st [(0, 402)]), 0, 0, [], false⟩,
  some ⟨(.int .u8), 1, 1, [.int .u8 0], false⟩,
  some ⟨(.int .u8), 1, 1, [.int .u8 0], false⟩,
  some ⟨.fn, 1, 8, [.nilFunc], false⟩,
  some ⟨(.int .i32), 1, 4, [.int .i32 0], false⟩,
  some ⟨(.int .i32), 1, 4, [.int .i32 0], false⟩,
  some ⟨(.st [(0, 12), (1, 12), (2, 384), (3, 405), (4, 5), (5, 5), (6, 406), (7, 407), (8, 293), (9, 408), (10, 409)]), 11, 48, [.int .u64 0, .int .u64 0, .int .u32 0, .int .u8 0, .int .u8 0, .int .u8 0, .int .u8 0, .nilFunc, .pointer none, .int .i32 0, .int .i32 0], false⟩,
  some ⟨(.st [(0, 12), (1, 12), (2, 384), (3, 405), (4, 5), (5, 5), (6, 406), (7, 407), (8, 293), (9, 408), (10, 409)]), 11, 48, [.int .u64 0, .int .u64 0, .int .u32 0, .int .u8 0, .int .u8 0, .int .u8 0, .int .u8 0, .nilFunc, .pointer none, .int .i32 0, .int .i32 0], false⟩,
  some ⟨.fn, 1, 8, [.nilFunc], false⟩,
  some ⟨.fn, 1, 8, [.nilFunc], false⟩]
theorem TTok (n : Nat) (I : World → Prop) : Ctx.ok ⟨Tryz.prog, TT, n, I⟩ := Ctx.ok_of (by kernel_rfl) n I
theorem mixed : Tryz.prog.follows .mixedOrders = true := by kernel_rfl
end Go.Proofs.YtdmgmkifjboojaaGreatDoor
namespace Go.Proofs.YtdmgmkifjboojaaGreatDoor
open Go.SX
def GG : Nat → Option (List Value) := fun _ => none
end Go.Proofs.YtdmgmkifjboojaaGreatDoor
set_option maxRecDepth 100000
set_option linter.unusedVariables false
set_option linter.unusedSimpArgs false
namespace Go.SX
theorem sInts_get (s : ByteArray) (q : Nat) (h : q < s.size) : (sInts s)[q]? = some (bAt s q) := by
  have h' : q < s.data.toList.length := by simpa using h
  simp only [sInts, List.getElem?_map, List.getElem?_eq_getElem h', Option.map_some, bAt, Int.toNat_natCast, List.getD, Option.getD_some]
theorem bAt_range (s : ByteArray) (q : Int) : 0 ≤ bAt s q ∧ bAt s q ≤ 255 := by
  unfold bAt
  have := (s.data.toList.getD q.toNat 0).toNat_lt
  omega
theorem strOf_sInts (d : ByteArray) : strOfNums (sInts d) = d := by
  apply ByteArray.ext
  apply Array.toList_inj.1
  rw [strOfNums_data]
  unfold sInts
  rw [List.map_map]
  conv => rhs; rw [← List.map_id d.data.toList]
  apply List.map_congr_left
  intro b _
  simp
set_option maxHeartbeats 4000000 in
def lbOk (s : ByteArray) (p : Int) : Prop := p < s.size ∧ bAt s p ≠ 0 ∧ bAt s p ≤ 63 ∧ p + 1 + bAt s p ≤ s.size
def lbPos (s : ByteArray) : Nat → Int
  | 0 => 0
  | k + 1 => lbPos s k + 1 + bAt s (lbPos s k)
structure LbN (s : ByteArray) (N : Nat) : Prop where
  ok : ∀ k, k < N → lbOk s (lbPos s k)
  stop : ¬ lbOk s (lbPos s N)
theorem lbPos_nn (s : ByteArray) : ∀ k, 0 ≤ lbPos s k
  | 0 => by simp [lbPos]
  | k + 1 => by
    have := lbPos_nn s k
    have := bAt_range s (lbPos s k)
    simp only [lbPos]
    omega
theorem lbN_from (s : ByteArray) : ∀ (f k : Nat), (∀ j, j < k → lbOk s (lbPos s j)) → (s.size - lbPos s k).toNat < f → ∃ N, LbN s N
  | 0, k, _, h => by omega
  | f + 1, k, hk, h => by
    by_cases hc : lbOk s (lbPos s k)
    · refine lbN_from s f (k + 1) (fun j hj => ?_) ?_
      · by_cases e : j = k
        · subst e; exact hc
        · exact hk j (by omega)
      · have := bAt_range s (lbPos s k)
        have h0 := hc.1
        simp only [lbPos]
        omega
    · exact ⟨k, hk, hc⟩
theorem lbN_ex (s : ByteArray) : ∃ N, LbN s N := lbN_from s ((s.size - lbPos s 0).toNat + 1) 0 (fun j hj => by omega) (by omega)
theorem LbN.le {s : ByteArray} {N : Nat} (h : LbN s N) : ∀ k, k ≤ N → lbPos s k ≤ s.size
  | 0, _ => by simp [lbPos]
  | k + 1, hk => by
    have := (h.ok k (by omega)).2.2.2
    simp only [lbPos]
    exact this
def lbS (s : ByteArray) (k : Nat) : ByteArray := s.extract (lbPos s k + 1).toNat (lbPos s k + 1 + bAt s (lbPos s k)).toNat
def lbXs (s : ByteArray) (k : Nat) : List Value := [.int .i64 (lbPos s k), .string (lbS s k)]
theorem lbN_uniq {s : ByteArray} {N M : Nat} (h : LbN s N) (k : LbN s M) : N = M := by
  rcases Nat.lt_trichotomy N M with h1 | h1 | h1
  · exact (h.stop (k.ok N h1)).elim
  · exact h1
  · exact (k.stop (h.ok M h1)).elim

def rtB (s : ByteArray) (N : Nat) : Bool := decide (0 < s.size ∧ s.size ≤ 255 ∧ lbPos s N = s.size - 1 ∧ bAt s (lbPos s N) = 0)
noncomputable def rgN (s : ByteArray) : Nat := (lbN_ex s).choose
theorem rgN_ok (s : ByteArray) : LbN s (rgN s) := (lbN_ex s).choose_spec
noncomputable def rgt (s : ByteArray) : Bool := rtB s (rgN s)
theorem rgt_of {s : ByteArray} {N : Nat} (h : LbN s N) : rgt s = rtB s N := by
  unfold rgt
  rw [lbN_uniq (rgN_ok s) h]
theorem rgt_size {s : ByteArray} (h : rgt s = true) : 0 < s.size ∧ s.size ≤ 255 := by
  unfold rgt rtB at h
  simp only [decide_eq_true_eq] at h
  exact ⟨h.1, h.2.1⟩
theorem rgt_end {s : ByteArray} (h : rgt s = true) : lbPos s (rgN s) = s.size - 1 ∧ bAt s (lbPos s (rgN s)) = 0 := by
  unfold rgt rtB at h
  simp only [decide_eq_true_eq] at h
  exact h.2.2
def lowb (x : Int) : Int := if 65 ≤ x ∧ x ≤ 90 then x + 32 else x
theorem lowb_range {x : Int} (h : 0 ≤ x ∧ x ≤ 255) : 0 ≤ lowb x ∧ lowb x ≤ 255 := by unfold lowb; split <;> omega
theorem lowb_zero (x : Int) : lowb x = 0 ↔ x = 0 := by unfold lowb; split <;> omega
theorem lowb_63 (x : Int) : lowb x ≤ 63 ↔ x ≤ 63 := by unfold lowb; split <;> omega
theorem lowb_le {x : Int} (h : x ≤ 63) : lowb x = x := by unfold lowb; rw [if_neg (by omega)]
def lwC (s : ByteArray) (q : Nat) : List Int := ((sInts s).take q).map lowb ++ (sInts s).drop q
theorem lwC_len (s : ByteArray) (q : Nat) : (lwC s q).length = s.size := by
  simp [lwC, sInts_length, List.length_take]; omega
theorem lwC_zero (s : ByteArray) : lwC s 0 = sInts s := by simp [lwC]
theorem lwC_at (s : ByteArray) (q : Nat) (h : q < s.size) : (lwC s q).getD q 0 = bAt s q := by
  have h1 := sInts_get s q h
  unfold lwC
  rw [List.getD_eq_getElem?_getD, List.getElem?_append_right (by simp [List.length_take, sInts_length]; omega)]
  simp only [List.length_map, List.length_take, sInts_length, show min q s.size = q by omega, Nat.sub_self, List.getElem?_drop, Nat.add_zero]
  rw [h1]; rfl
theorem setZ_app : ∀ (a : List Int) (x : Int) (r : List Int) (z : Int), setZ (a ++ x :: r) a.length z = a ++ z :: r
  | [], x, r, z => rfl
  | y :: a, x, r, z => by simp [setZ, setZ_app a x r z]
theorem lwC_set (s : ByteArray) (q : Nat) (h : q < s.size) : setZ (lwC s q) q (lowb (bAt s q)) = lwC s (q + 1) := by
  have h1 := sInts_get s q h
  have hlt : q < (sInts s).length := by rw [sInts_length]; exact h
  have hd : (sInts s).drop q = bAt s q :: (sInts s).drop (q + 1) := by
    rw [List.drop_eq_getElem_cons hlt]
    rw [List.getElem?_eq_getElem hlt] at h1
    rw [Option.some.inj h1]
  have ht : (sInts s).take (q + 1) = (sInts s).take q ++ [bAt s q] := by
    rw [List.take_add_one, h1]; rfl
  unfold lwC
  rw [hd, ht, List.map_append]
  have := setZ_app (((sInts s).take q).map lowb) (bAt s q) ((sInts s).drop (q + 1)) (lowb (bAt s q))
  rw [show (((sInts s).take q).map lowb).length = q by simp [List.length_take, sInts_length]; omega] at this
  rw [this]
  simp
theorem lwC_len1 (s : ByteArray) (q : Nat) (h : q < s.size) (h63 : bAt s q ≤ 63) : lwC s (q + 1) = lwC s q := by
  rw [← lwC_set s q h, show lowb (bAt s q) = bAt s q from if_neg (by omega)]
  have h1 := lwC_at s q h
  have hl := lwC_len s q
  have : ∀ (l : List Int) (q : Nat), q < l.length → setZ l q (l.getD q 0) = l := by
    intro l
    induction l with
    | nil => intro q h; simp at h
    | cons a l ih =>
      intro q h
      cases q with
      | zero => simp [setZ]
      | succ q =>
        have := ih q (by simpa using h)
        simpa [setZ] using this
  rw [← h1]
  exact this _ _ (by omega)
theorem lwC_all (s : ByteArray) : lwC s s.size = (sInts s).map lowb := by
  unfold lwC
  rw [List.take_of_length_le (by rw [sInts_length]; exact Nat.le_refl _), List.drop_eq_nil_of_le (by rw [sInts_length]; exact Nat.le_refl _), List.append_nil]

def lowS (s : ByteArray) : ByteArray := strOfNums ((sInts s).map lowb)
noncomputable def lowN (s : ByteArray) : ByteArray := if rgt s = true then lowS s else s
theorem lowS_size (s : ByteArray) : (lowS s).size = s.size := by
  unfold lowS
  rw [← sInts_length (strOfNums _)]
  simp [sInts, strOfNums_data]
theorem sInts_range (s : ByteArray) : ∀ x, x ∈ sInts s → 0 ≤ x ∧ x ≤ 255 := by
  intro x hx
  unfold sInts at hx
  obtain ⟨b, _, rfl⟩ := List.mem_map.1 hx
  have := b.toNat_lt
  omega
theorem sInts_str' (l : List Int) (h : ∀ x, x ∈ l → 0 ≤ x ∧ x ≤ 255) : sInts (strOfNums l) = l := by
  unfold sInts
  rw [strOfNums_data, List.map_map]
  conv => rhs; rw [← List.map_id l]
  apply List.map_congr_left
  intro x hx
  have := h x hx
  simp
  omega
theorem sInts_lowS (s : ByteArray) : sInts (lowS s) = (sInts s).map lowb := by
  unfold lowS
  refine sInts_str' _ fun x hx => ?_
  obtain ⟨y, hy, rfl⟩ := List.mem_map.1 hx
  exact lowb_range (sInts_range s y hy)
theorem bAt_sInts (s : ByteArray) (p : Int) : bAt s p = (sInts s).getD p.toNat 0 := by
  unfold bAt sInts
  simp only [List.getD_eq_getElem?_getD, List.getElem?_map]
  cases s.data.toList[p.toNat]? <;> rfl
theorem bAt_lowS (s : ByteArray) (p : Int) : bAt (lowS s) p = lowb (bAt s p) := by
  rw [bAt_sInts, bAt_sInts, sInts_lowS]
  simp only [List.getD_eq_getElem?_getD, List.getElem?_map]
  cases (sInts s)[p.toNat]? <;> rfl
theorem lbPos_low {s : ByteArray} {N : Nat} (h : LbN s N) : ∀ k, k ≤ N → lbPos (lowS s) k = lbPos s k
  | 0, _ => rfl
  | k + 1, hk => by
    have ih := lbPos_low h k (by omega)
    obtain ⟨o1, o2, o3, o4⟩ := h.ok k (by omega)
    simp only [lbPos, ih, bAt_lowS]
    rw [lowb_le o3]
theorem lbOk_low (s : ByteArray) (p : Int) : lbOk (lowS s) p ↔ lbOk s p := by
  unfold lbOk
  rw [lowS_size, bAt_lowS]
  constructor
  · rintro ⟨h1, h2, h3, h4⟩
    have h3' := (lowb_63 _).1 h3
    rw [lowb_le h3'] at h4
    exact ⟨h1, fun e => h2 ((lowb_zero _).2 e), h3', h4⟩
  · rintro ⟨h1, h2, h3, h4⟩
    rw [lowb_le h3]
    exact ⟨h1, h2, h3, h4⟩
theorem LbN.low {s : ByteArray} {N : Nat} (h : LbN s N) : LbN (lowS s) N := by
  refine ⟨fun k hk => ?_, fun hx => ?_⟩
  · rw [lbPos_low h k (by omega), lbOk_low]
    exact h.ok k hk
  · rw [lbPos_low h N (Nat.le_refl _), lbOk_low] at hx
    exact h.stop hx
theorem rgN_low (s : ByteArray) : rgN (lowS s) = rgN s := lbN_uniq (rgN_ok (lowS s)) (rgN_ok s).low
theorem rgt_lowS (s : ByteArray) : rgt (lowS s) = rgt s := by
  unfold rgt
  rw [rgN_low]
  unfold rtB
  rw [lowS_size, lbPos_low (rgN_ok s) _ (Nat.le_refl _), bAt_lowS]
  congr 1
  simp only [lowb_zero]
theorem rgt_low (s : ByteArray) : rgt (lowN s) = rgt s := by
  unfold lowN
  split
  · rw [rgt_lowS]
  · rfl
theorem lowN_size (s : ByteArray) : (lowN s).size = s.size := by
  unfold lowN
  split
  · exact lowS_size s
  · rfl
def sufN (s : ByteArray) (k : Nat) : ByteArray := s.extract (lbPos s k).toNat s.size
noncomputable def undB (a b : ByteArray) : Bool := rgt a && rgt b && decide (∃ k, k ≤ rgN a ∧ sufN (lowN a) k = lowN b)
noncomputable def eqB (a b : ByteArray) : Bool := rgt a && rgt b && decide (lowN a = lowN b)
theorem undB_iff {a b : ByteArray} : undB a b = true ↔ rgt a = true ∧ rgt b = true ∧ ∃ k, k ≤ rgN a ∧ sufN (lowN a) k = lowN b := by
  unfold undB
  simp only [Bool.and_eq_true, decide_eq_true_eq, and_assoc]
theorem sufN_zero (s : ByteArray) : sufN s 0 = s := by
  unfold sufN lbPos
  exact ByteArray.extract_zero_size
theorem sufN_last {s : ByteArray} (h : rgt s = true) : sufN s (rgN s) = ⟨#[0]⟩ := by
  obtain ⟨e1, e2⟩ := rgt_end h
  have hz := rgt_size h
  have hsz : (sufN s (rgN s)).size = 1 := by
    unfold sufN
    rw [ByteArray.size_extract]
    omega
  have hb : sInts (sufN s (rgN s)) = [0] := by
    unfold sufN
    unfold sInts
    rw [ByteArray.data_extract]
    simp only [Array.toList_extract, List.extract_eq_take_drop, List.map_take, List.map_drop]
    have h1 : (sInts s).drop (lbPos s (rgN s)).toNat = [bAt s (lbPos s (rgN s))] := by
      have hlt : (lbPos s (rgN s)).toNat < (sInts s).length := by rw [sInts_length]; omega
      have h2 := sInts_get s (lbPos s (rgN s)).toNat (by omega)
      rw [List.drop_eq_getElem_cons hlt]
      rw [List.getElem?_eq_getElem hlt] at h2
      rw [Option.some.inj h2, List.drop_eq_nil_of_le (by rw [sInts_length]; omega), show (((lbPos s (rgN s)).toNat : Nat) : Int) = lbPos s (rgN s) by omega]
    have h1' : (s.data.toList.map fun b => (b.toNat : Int)).drop (lbPos s (rgN s)).toNat = [bAt s (lbPos s (rgN s))] := h1
    rw [h1', e2]
    rw [List.take_of_length_le (by simp; omega)]
  have := strOf_sInts (sufN s (rgN s))
  rw [hb] at this
  rw [← this]
  rfl
theorem undB_size {a b : ByteArray} (h : undB a b = true) : b.size ≤ a.size ∧ 0 < b.size := by
  obtain ⟨h1, h2, k, _, h4⟩ := undB_iff.1 h
  refine ⟨?_, (rgt_size h2).1⟩
  rw [← lowN_size b, ← h4, ← lowN_size a]
  unfold sufN
  rw [ByteArray.size_extract]
  omega
theorem least_ex {p : Nat → Prop} (h : ∃ k, p k) : ∃ m, p m ∧ ∀ j, j < m → ¬ p j := by
  obtain ⟨k, hk⟩ := h
  induction k using Nat.strongRecOn with
  | _ k ih =>
    by_cases hx : ∃ j, j < k ∧ p j
    · obtain ⟨j, h1, h2⟩ := hx
      exact ih j h1 h2
    · exact ⟨k, hk, fun j hj hp => hx ⟨j, hj, hp⟩⟩
end Go.SX
set_option maxRecDepth 100000
set_option linter.unusedVariables false
set_option linter.unusedSimpArgs false
namespace Go.SX
def sNat (s : ByteArray) : List Nat := s.data.toList.map (·.toNat)
theorem sNat_length (s : ByteArray) : (sNat s).length = s.size := by simp [sNat]
theorem bAt_sNat (s : ByteArray) (p : Int) : bAt s p = (((sNat s).getD p.toNat 0 : Nat) : Int) := by
  unfold bAt sNat
  simp only [List.getD_eq_getElem?_getD, List.getElem?_map]
  cases s.data.toList[p.toNat]? <;> rfl
theorem sNat_inj {s t : ByteArray} (h : sNat s = sNat t) : s = t := by
  apply ByteArray.ext
  apply Array.toList_inj.1
  unfold sNat at h
  have : ∀ (a b : List UInt8), a.map (·.toNat) = b.map (·.toNat) → a = b := by
    intro a
    induction a with
    | nil => intro b h; cases b with | nil => rfl | cons => simp at h
    | cons x a ih =>
      intro b h
      cases b with
      | nil => simp at h
      | cons y b =>
        simp only [List.map_cons, List.cons.injEq] at h
        rw [ih b h.2, UInt8.toNat_inj.1 h.1]
  exact this _ _ h
theorem sNat_extract (s : ByteArray) (i : Nat) : sNat (s.extract i s.size) = (sNat s).drop i := by
  unfold sNat
  rw [ByteArray.data_extract]
  simp only [Array.toList_extract, List.extract_eq_take_drop, List.map_take, List.map_drop]
  exact List.take_of_length_le (by simp)
def rtL : Nat → List Nat → Bool
  | 0, _ => false
  | _ + 1, [] => false
  | f + 1, x :: l => match Nat.beq x 0 with
    | true => l.isEmpty
    | false => match Nat.ble x 63 with
      | true => rtL f (l.drop x)
      | false => false
def rgtC (s : ByteArray) : Bool := Nat.ble s.size 255 && rtL (s.size + 1) (sNat s)
theorem drop_cons (s : ByteArray) (p : Int) (h0 : 0 ≤ p) (h : p < s.size) : (sNat s).drop p.toNat = (bAt s p).toNat :: (sNat s).drop (p.toNat + 1) := by
  have hlt : p.toNat < (sNat s).length := by rw [sNat_length]; omega
  rw [List.drop_eq_getElem_cons hlt, bAt_sNat]
  simp [List.getD_eq_getElem?_getD, List.getElem?_eq_getElem hlt]
theorem rtL_ok (s : ByteArray) : ∀ (f k : Nat), (∀ j, j < k → lbOk s (lbPos s j)) → (s.size - lbPos s k).toNat < f →
    (rtL f ((sNat s).drop (lbPos s k).toNat) = true ↔ lbPos s (rgN s) = s.size - 1 ∧ bAt s (lbPos s (rgN s)) = 0)
  | 0, k, _, h => by omega
  | f + 1, k, hk, h => by
    have p0 := lbPos_nn s k
    have hr := bAt_range s (lbPos s k)
    by_cases hc : lbOk s (lbPos s k)
    · obtain ⟨o1, o2, o3, o4⟩ := id hc
      rw [drop_cons s _ p0 o1]
      simp only [rtL]
      have e1 : Nat.beq (bAt s (lbPos s k)).toNat 0 = false := by
        cases e : Nat.beq (bAt s (lbPos s k)).toNat 0 with
        | false => rfl
        | true => have := Nat.eq_of_beq_eq_true e; omega
      have e2 : Nat.ble (bAt s (lbPos s k)).toNat 63 = true := Nat.ble_eq_true_of_le (by omega)
      simp only [e1, e2]
      have hn : lbPos s (k + 1) = lbPos s k + 1 + bAt s (lbPos s k) := rfl
      have := rtL_ok s f (k + 1) (fun j hj => by
        by_cases e : j = k
        · subst e; exact hc
        · exact hk j (by omega)) (by omega)
      rw [← this, List.drop_drop, hn]
      have e3 : (lbPos s k + 1 + bAt s (lbPos s k)).toNat = (lbPos s k).toNat + 1 + (bAt s (lbPos s k)).toNat := by omega
      rw [e3]
    · have hN : rgN s = k := lbN_uniq (rgN_ok s) ⟨hk, hc⟩
      rw [hN]
      by_cases h1 : lbPos s k < s.size
      · rw [drop_cons s _ p0 h1]
        simp only [rtL]
        by_cases h2 : bAt s (lbPos s k) = 0
        · rw [h2]
          simp only [Int.toNat_zero, Nat.beq_refl, List.isEmpty_iff, List.drop_eq_nil_iff, sNat_length, and_true]
          omega
        · have e1 : Nat.beq (bAt s (lbPos s k)).toNat 0 = false := by
            cases e : Nat.beq (bAt s (lbPos s k)).toNat 0 with
            | false => rfl
            | true => have := Nat.eq_of_beq_eq_true e; omega
          simp only [e1]
          constructor
          · intro hx
            exfalso
            split at hx
            · rename_i h3
              have h3 := Nat.le_of_ble_eq_true h3
              have h4 : ¬ (lbPos s k + 1 + bAt s (lbPos s k) ≤ s.size) := fun h5 => hc ⟨h1, h2, by omega, h5⟩
              rw [List.drop_drop, List.drop_eq_nil_of_le (by rw [sNat_length]; omega)] at hx
              cases f <;> simp [rtL] at hx
            · cases hx
          · rintro ⟨_, hz⟩
            exact (h2 hz).elim
      · rw [List.drop_eq_nil_of_le (by rw [sNat_length]; omega)]
        simp only [rtL, Bool.false_eq_true, false_iff]
        omega
theorem rgtC_eq (s : ByteArray) : rgtC s = rgt s := by
  have h := rtL_ok s (s.size + 1) 0 (fun j hj => by omega) (by simp [lbPos])
  simp only [lbPos, Int.toNat_zero, List.drop_zero] at h
  unfold rgtC rgt rtB
  rw [Bool.eq_iff_iff]
  simp only [Bool.and_eq_true, decide_eq_true_eq, h]
  have := lbPos_nn s (rgN s)
  constructor
  · rintro ⟨h1, h2, h3⟩
    exact ⟨by omega, Nat.le_of_ble_eq_true h1, h2, h3⟩
  · rintro ⟨h0, h1, h2, h3⟩
    exact ⟨Nat.ble_eq_true_of_le h1, h2, h3⟩
def lowc (x : Nat) : Nat := match Nat.ble 65 x && Nat.ble x 90 with
  | true => x + 32
  | false => x
theorem lowc_eq (x : Nat) : ((lowc x : Nat) : Int) = lowb x := by
  unfold lowc lowb
  by_cases h : 65 ≤ x ∧ x ≤ 90
  · rw [show (Nat.ble 65 x && Nat.ble x 90) = true by simp [Nat.ble_eq_true_of_le h.1, Nat.ble_eq_true_of_le h.2]]
    rw [if_pos (by omega)]
    simp
  · rw [show (Nat.ble 65 x && Nat.ble x 90) = false by
      cases e : (Nat.ble 65 x && Nat.ble x 90) with
      | false => rfl
      | true =>
        simp only [Bool.and_eq_true] at e
        exact (h ⟨Nat.le_of_ble_eq_true e.1, Nat.le_of_ble_eq_true e.2⟩).elim]
    rw [if_neg (by omega)]
def lowL (s : ByteArray) : List Nat := (sNat s).map lowc
theorem sInts_sNat (s : ByteArray) : sInts s = (sNat s).map fun n : Nat => (n : Int) := by
  unfold sInts sNat
  rw [List.map_map]
  rfl
theorem sNat_lowS (s : ByteArray) : sNat (lowS s) = lowL s := by
  have h := sInts_lowS s
  rw [sInts_sNat, sInts_sNat, List.map_map] at h
  have : ∀ (a b : List Nat), a.map (fun n : Nat => (n : Int)) = b.map (lowb ∘ fun n : Nat => (n : Int)) → a = b.map lowc := by
    intro a
    induction a with
    | nil => intro b h; cases b with | nil => rfl | cons => simp at h
    | cons x a ih =>
      intro b h
      cases b with
      | nil => simp at h
      | cons y b =>
        simp only [List.map_cons, List.cons.injEq, Function.comp] at h ⊢
        exact ⟨by have := lowc_eq y; omega, ih b h.2⟩
  exact this _ _ h
def nEqL : List Nat → List Nat → Bool
  | [], [] => true
  | a :: l, b :: r => match Nat.beq a b with
    | true => nEqL l r
    | false => false
  | _, _ => false
theorem nEqL_iff : ∀ (l r : List Nat), nEqL l r = true ↔ l = r
  | [], [] => by simp [nEqL]
  | [], _ :: _ => by simp [nEqL]
  | _ :: _, [] => by simp [nEqL]
  | a :: l, b :: r => by
    simp only [nEqL, List.cons.injEq]
    cases h : Nat.beq a b with
    | true => simp [Nat.eq_of_beq_eq_true h, nEqL_iff l r]
    | false =>
      have : a ≠ b := fun e => by subst e; simp at h
      simp [this]
def undL : Nat → List Nat → List Nat → Bool
  | 0, _, _ => false
  | f + 1, l, m => match nEqL l m with
    | true => true
    | false => match l with
      | [] => false
      | x :: r => match Nat.beq x 0 with
        | true => false
        | false => undL f (r.drop x) m
def undC (a b : ByteArray) : Bool := rgtC a && rgtC b && undL (a.size + 1) (lowL a) (lowL b)
def eqbC (a b : ByteArray) : Bool := rgtC a && rgtC b && nEqL (lowL a) (lowL b)
theorem undL_ok (s : ByteArray) (hs : rgt s = true) (m : List Nat) : ∀ (f k : Nat), k ≤ rgN s → (s.size - lbPos s k).toNat < f →
    (undL f ((sNat s).drop (lbPos s k).toNat) m = true ↔ ∃ j, k ≤ j ∧ j ≤ rgN s ∧ (sNat s).drop (lbPos s j).toNat = m)
  | 0, k, _, h => by omega
  | f + 1, k, hk, h => by
    have p0 := lbPos_nn s k
    have hN := rgN_ok s
    obtain ⟨e1, e2⟩ := rgt_end hs
    have hz := (rgt_size hs).1
    simp only [undL]
    cases hq : nEqL ((sNat s).drop (lbPos s k).toNat) m with
    | true => simp only [true_iff]; exact ⟨k, Nat.le_refl _, hk, (nEqL_iff _ _).1 hq⟩
    | false =>
      have hne : (sNat s).drop (lbPos s k).toNat ≠ m := fun e => by rw [(nEqL_iff _ _).2 e] at hq; cases hq
      simp only
      by_cases hkN : k = rgN s
      · have hp : lbPos s k < s.size := by rw [hkN, e1]; omega
        rw [drop_cons s _ p0 hp, hkN, e2]
        simp only [Int.toNat_zero, Nat.beq_refl, Bool.false_eq_true, false_iff]
        rintro ⟨j, h1, h2, h3⟩
        obtain rfl : j = k := by omega
        exact hne h3
      · obtain ⟨o1, o2, o3, o4⟩ := hN.ok k (by omega)
        have hr := bAt_range s (lbPos s k)
        rw [drop_cons s _ p0 o1]
        have e1 : Nat.beq (bAt s (lbPos s k)).toNat 0 = false := by
          cases e : Nat.beq (bAt s (lbPos s k)).toNat 0 with
          | false => rfl
          | true => have := Nat.eq_of_beq_eq_true e; omega
        simp only [e1]
        have hn : lbPos s (k + 1) = lbPos s k + 1 + bAt s (lbPos s k) := rfl
        have := undL_ok s hs m f (k + 1) (by omega) (by omega)
        have e3 : (lbPos s k + 1 + bAt s (lbPos s k)).toNat = (lbPos s k).toNat + 1 + (bAt s (lbPos s k)).toNat := by omega
        rw [hn, e3] at this
        rw [List.drop_drop, this]
        constructor
        · rintro ⟨j, h1, h2⟩
          exact ⟨j, by omega, h2⟩
        · rintro ⟨j, h1, h2, h3⟩
          refine ⟨j, ?_, h2, h3⟩
          by_cases e : j = k
          · subst e; exact (hne h3).elim
          · omega
theorem undC_eq (a b : ByteArray) : undC a b = undB a b := by
  unfold undC
  rw [rgtC_eq, rgtC_eq]
  unfold undB
  cases ha : rgt a with
  | false => simp
  | true =>
    cases hb : rgt b with
    | false => simp
    | true =>
      simp only [Bool.true_and]
      have hla : lowN a = lowS a := if_pos ha
      have hlb : lowN b = lowS b := if_pos hb
      have hra : rgt (lowS a) = true := by rw [rgt_lowS]; exact ha
      have h := undL_ok (lowS a) hra (lowL b) (a.size + 1) 0 (Nat.zero_le _) (by simp [lbPos, lowS_size])
      simp only [lbPos, Int.toNat_zero, List.drop_zero, sNat_lowS] at h
      rw [Bool.eq_iff_iff, h, decide_eq_true_eq, hla, hlb, rgN_low]
      constructor
      · rintro ⟨j, _, h1, h2⟩
        refine ⟨j, h1, sNat_inj ?_⟩
        unfold sufN
        rw [sNat_extract, sNat_lowS, sNat_lowS]
        exact h2
      · rintro ⟨j, h1, h2⟩
        refine ⟨j, Nat.zero_le _, h1, ?_⟩
        rw [← sNat_lowS b, ← h2]
        unfold sufN
        rw [sNat_extract, sNat_lowS]
end Go.SX
set_option maxRecDepth 100000
set_option linter.unusedVariables false
namespace Go.Proofs.YtdmgmkifjboojaaGreatDoor
open Go.SX
theorem yf_box {J : (Nat → Prop) → World → Prop} {B : Nat} {u : Value} (h : ∀ D w, J D w → w.cell? ⟨B, 0, none⟩ = some u ∧ D B) : ∀ bl D w, YF J bl D w → ∀ i x, [u][i]? = some x → w.cell? ⟨B, 0 + i, none⟩ = some x := by
  rintro bl D w ⟨w2, h1, h2⟩ i x hx
  obtain ⟨g1, g2⟩ := h D w2 h1
  match i, hx with
  | 0, hx =>
    cases hx
    rw [← g1]
    simp only [World.cell?, h2 B g2]
set_option maxHeartbeats 4000000 in
theorem labels_it (s : ByteArray) (hs : s.size < 4294967281) (N : Nat) (hN : LbN s N) : IterOk Tryz.prog 80 (.string s) N (lbXs s) := by
  intro W B l J D hK hB hY h0 hD
  refine (iter_of (P := Tryz.prog) (T := TT) (W := W) (f := 80) (args := [.func (.yield l) #[] #[], .pointer (some ⟨B, 0, none⟩)]) (J0 := J 0) (good := fun J' => J' = J N) (D := D) (TTok 0 _) Tryz.func80 rfl h0 hD (fun J' e => e ▸ hK N (Nat.le_refl _)) rfl ?_).mono ?_
  rotate_left
  · rintro e w' ⟨h1, J', D', rfl, h2, h3⟩
    exact ⟨h1, D', h2, h3⟩
  repeat' ((conv => whnf); first | (with_reducible first | refine TR.seq ?_ | refine TR.region (TTok _ _) ?_ | refine TR.drawn (TTok _ _) mixed ?_ | refine TR.block ?_ | refine TR.ret ?_ | refine TR.exit ?_ | refine TR.skip ?_ | refine TR.condB rfl ?_ | refine Br.cond_t ?_ | refine Br.cond_f ?_ | refine Br.yes (by first | decide | assumption | (apply decide_eq_true; omega)) ?_ | refine Br.non (by first | decide | assumption | (apply decide_eq_false; omega)) ?_ | refine Br.cond_ff ?_ | refine Br.eqT (by omega) ?_ | refine Br.eqF (by omega) ?_ | refine Br.neT (by omega) ?_ | refine Br.neF (by omega) ?_ | refine Ld.mk' _ rfl ?_ | refine Need.mk (by first | decide | omega | kernel_rfl) ?_ | refine Nm.i64 (by omega) ?_ | refine Nm.u64 (by omega) ?_ | refine Nm.u8 (by omega) ?_) | (refine x_exq (TTok _ _) ?_; (conv => whnf); fail_if_success (guard_target =ₛ False)))
  refine TR.loopH (fun k : Nat => [(3, .v (.int .i64 (lbPos s k)))]) (fun k => [(0, ⟨.tab (YF (J k)), 0, 0, k, []⟩)]) (fun k => k ≤ N) (fun k => N - k) 0 (Nat.zero_le _) ?_ ?_
  · repeat' ((conv => whnf); first | exact trivial | exact Fgt.nil | exact Fgt.mk rfl rfl rfl | refine And.intro rfl ?_ | refine And.intro ?_ ?_)
  · intro k hk
    have hbx := yf_box (J := J k) (B := B) (u := .string s) fun D w h => hB k D w hk h
    have p0 := lbPos_nn s k
    have p1 := hN.le k hk
    have hb := bAt_range s (lbPos s k)
    have hsb : (s.size : Int) < 4294967281 := by omega
    have hKk := hK k hk
    by_cases hkN : k < N
    · have hok := hN.ok k hkN
      have hy := hY k hkN
      have hnx : lbPos s (k + 1) = lbPos s k + 1 + bAt s (lbPos s k) := rfl
      obtain ⟨lab, hlab⟩ : ∃ lab, lbS s k = lab := ⟨_, rfl⟩
      unfold lbXs at hy
      rw [hlab] at hy
      unfold lbS at hlab
      obtain ⟨o1, o2, o3, o4⟩ := hok
      have n1 := hnx
      generalize lbPos s (k + 1) = pn at n1 hnx
      have hn2 : (fun k : Nat => lbPos s k) (k + 1) = pn := n1 ▸ rfl
      repeat' ((conv => whnf); first | (with_reducible first | refine TR.seq ?_ | refine TR.region (TTok _ _) ?_ | refine TR.drawn (TTok _ _) mixed ?_ | refine TR.block ?_ | refine TR.ret ?_ | refine TR.exit ?_ | refine TR.skip ?_ | refine TR.condB rfl ?_ | refine Br.cond_t ?_ | refine Br.cond_f ?_ | refine Br.yes (by first | decide | assumption | (apply decide_eq_true; omega)) ?_ | refine Br.non (by first | decide | assumption | (apply decide_eq_false; omega)) ?_ | refine Br.cond_ff ?_ | refine Br.eqT (by omega) ?_ | refine Br.eqF (by omega) ?_ | refine Br.neT (by omega) ?_ | refine Br.neF (by omega) ?_ | refine Ld.mk' _ rfl ?_ | refine Need.mk (by first | decide | omega | kernel_rfl) ?_ | refine Nm.i64 (by omega) ?_ | refine Nm.u64 (by omega) ?_ | refine Nm.u8 (by omega) ?_) | refine x_load_tab (TTok _ _) (c := 0) (ck := ⟨.tab (YF (J k)), 0, 0, k, []⟩) (F := YF (J k)) (us := [.string s]) rfl rfl rfl rfl rfl (fun _ => rfl) rfl hbx ?_ | refine x_yield (W := W) (l := l) (c := 0) (ck := ⟨.tab (YF (J k)), 0, 0, k, []⟩) (J := J k) (J' := J (k + 1)) (r := true) rfl rfl rfl (fun w h => h) hKk rfl rfl hy ?_ | refine Nm.mk' lab hlab ?_ | (refine x_exq (TTok _ _) ?_; (conv => whnf); fail_if_success (guard_target =ₛ False)))
      all_goals (conv => whnf)
      refine ⟨k + 1, by omega, by omega, ?_⟩
      repeat' ((conv => whnf); first | exact trivial | exact Fgt.nil | exact Fgt.mk rfl rfl rfl | refine And.intro rfl ?_ | refine And.intro ?_ ?_)
    · obtain rfl : k = N := by omega
      have hst := hN.stop
      generalize hp : lbPos s k = p at p0 p1 hb hst
      by_cases q1 : p < s.size
      · by_cases q2 : bAt s p = 0
        · skip
          repeat' ((conv => whnf); first | (with_reducible first | refine TR.seq ?_ | refine TR.region (TTok _ _) ?_ | refine TR.drawn (TTok _ _) mixed ?_ | refine TR.block ?_ | refine TR.ret ?_ | refine TR.exit ?_ | refine TR.skip ?_ | refine TR.condB rfl ?_ | refine Br.cond_t ?_ | refine Br.cond_f ?_ | refine Br.yes (by first | decide | assumption | (apply decide_eq_true; omega)) ?_ | refine Br.non (by first | decide | assumption | (apply decide_eq_false; omega)) ?_ | refine Br.cond_ff ?_ | refine Br.eqT (by omega) ?_ | refine Br.eqF (by omega) ?_ | refine Br.neT (by omega) ?_ | refine Br.neF (by omega) ?_ | refine Ld.mk' _ rfl ?_ | refine Need.mk (by first | decide | omega | kernel_rfl) ?_ | refine Nm.i64 (by omega) ?_ | refine Nm.u64 (by omega) ?_ | refine Nm.u8 (by omega) ?_) | refine x_load_tab (TTok _ _) (c := 0) (ck := ⟨.tab (YF (J k)), 0, 0, k, []⟩) (F := YF (J k)) (us := [.string s]) rfl rfl rfl rfl rfl (fun _ => rfl) rfl hbx ?_ | refine Br.non (by simp [q2]) ?_ | (refine x_exq (TTok _ _) ?_; (conv => whnf); fail_if_success (guard_target =ₛ False)))
          all_goals (conv => whnf)
          all_goals exact ⟨_, _, rfl, rfl, rfl⟩
        · by_cases q3 : bAt s p ≤ 63
          · have q4 : (s.size : Int) < p + 1 + bAt s p := by
              by_cases h : p + 1 + bAt s p ≤ s.size
              · exact (hst ⟨q1, q2, q3, h⟩).elim
              · omega
            repeat' ((conv => whnf); first | (with_reducible first | refine TR.seq ?_ | refine TR.region (TTok _ _) ?_ | refine TR.drawn (TTok _ _) mixed ?_ | refine TR.block ?_ | refine TR.ret ?_ | refine TR.exit ?_ | refine TR.skip ?_ | refine TR.condB rfl ?_ | refine Br.cond_t ?_ | refine Br.cond_f ?_ | refine Br.yes (by first | decide | assumption | (apply decide_eq_true; omega)) ?_ | refine Br.non (by first | decide | assumption | (apply decide_eq_false; omega)) ?_ | refine Br.cond_ff ?_ | refine Br.eqT (by omega) ?_ | refine Br.eqF (by omega) ?_ | refine Br.neT (by omega) ?_ | refine Br.neF (by omega) ?_ | refine Ld.mk' _ rfl ?_ | refine Need.mk (by first | decide | omega | kernel_rfl) ?_ | refine Nm.i64 (by omega) ?_ | refine Nm.u64 (by omega) ?_ | refine Nm.u8 (by omega) ?_) | refine x_load_tab (TTok _ _) (c := 0) (ck := ⟨.tab (YF (J k)), 0, 0, k, []⟩) (F := YF (J k)) (us := [.string s]) rfl rfl rfl rfl rfl (fun _ => rfl) rfl hbx ?_ | (refine x_exq (TTok _ _) ?_; (conv => whnf); fail_if_success (guard_target =ₛ False)))
            all_goals (conv => whnf)
            all_goals exact ⟨_, _, rfl, rfl, rfl⟩
          · skip
            repeat' ((conv => whnf); first | (with_reducible first | refine TR.seq ?_ | refine TR.region (TTok _ _) ?_ | refine TR.drawn (TTok _ _) mixed ?_ | refine TR.block ?_ | refine TR.ret ?_ | refine TR.exit ?_ | refine TR.skip ?_ | refine TR.condB rfl ?_ | refine Br.cond_t ?_ | refine Br.cond_f ?_ | refine Br.yes (by first | decide | assumption | (apply decide_eq_true; omega)) ?_ | refine Br.non (by first | decide | assumption | (apply decide_eq_false; omega)) ?_ | refine Br.cond_ff ?_ | refine Br.eqT (by omega) ?_ | refine Br.eqF (by omega) ?_ | refine Br.neT (by omega) ?_ | refine Br.neF (by omega) ?_ | refine Ld.mk' _ rfl ?_ | refine Need.mk (by first | decide | omega | kernel_rfl) ?_ | refine Nm.i64 (by omega) ?_ | refine Nm.u64 (by omega) ?_ | refine Nm.u8 (by omega) ?_) | refine x_load_tab (TTok _ _) (c := 0) (ck := ⟨.tab (YF (J k)), 0, 0, k, []⟩) (F := YF (J k)) (us := [.string s]) rfl rfl rfl rfl rfl (fun _ => rfl) rfl hbx ?_ | (refine x_exq (TTok _ _) ?_; (conv => whnf); fail_if_success (guard_target =ₛ False)))
            all_goals (conv => whnf)
            all_goals exact ⟨_, _, rfl, rfl, rfl⟩
      · skip
        repeat' ((conv => whnf); first | (with_reducible first | refine TR.seq ?_ | refine TR.region (TTok _ _) ?_ | refine TR.drawn (TTok _ _) mixed ?_ | refine TR.block ?_ | refine TR.ret ?_ | refine TR.exit ?_ | refine TR.skip ?_ | refine TR.condB rfl ?_ | refine Br.cond_t ?_ | refine Br.cond_f ?_ | refine Br.yes (by first | decide | assumption | (apply decide_eq_true; omega)) ?_ | refine Br.non (by first | decide | assumption | (apply decide_eq_false; omega)) ?_ | refine Br.cond_ff ?_ | refine Br.eqT (by omega) ?_ | refine Br.eqF (by omega) ?_ | refine Br.neT (by omega) ?_ | refine Br.neF (by omega) ?_ | refine Ld.mk' _ rfl ?_ | refine Need.mk (by first | decide | omega | kernel_rfl) ?_ | refine Nm.i64 (by omega) ?_ | refine Nm.u64 (by omega) ?_ | refine Nm.u8 (by omega) ?_) | refine x_load_tab (TTok _ _) (c := 0) (ck := ⟨.tab (YF (J k)), 0, 0, k, []⟩) (F := YF (J k)) (us := [.string s]) rfl rfl rfl rfl rfl (fun _ => rfl) rfl hbx ?_ | (refine x_exq (TTok _ _) ?_; (conv => whnf); fail_if_success (guard_target =ₛ False)))
        all_goals (conv => whnf)
        all_goals exact ⟨_, _, rfl, rfl, rfl⟩
set_option maxHeartbeats 4000000 in
theorem labels_stop (s : ByteArray) (hs : s.size < 4294967281) (N : Nat) (hN : LbN s N) : IterStop Tryz.prog 80 (.string s) N (lbXs s) := by
  intro m hmN W B l J D hK hB hY hYs h0 hD
  refine (iter_of (P := Tryz.prog) (T := TT) (W := W) (f := 80) (args := [.func (.yield l) #[] #[], .pointer (some ⟨B, 0, none⟩)]) (J0 := J 0) (good := fun J' => J' = J (m + 1)) (D := D) (TTok 0 _) Tryz.func80 rfl h0 hD (fun J' e => e ▸ hK (m + 1) (Nat.le_refl _)) rfl ?_).mono ?_
  rotate_left
  · rintro e w' ⟨h1, J', D', rfl, h2, h3⟩
    exact ⟨h1, D', h2, h3⟩
  repeat' ((conv => whnf); first | (with_reducible first | refine TR.seq ?_ | refine TR.region (TTok _ _) ?_ | refine TR.drawn (TTok _ _) mixed ?_ | refine TR.block ?_ | refine TR.ret ?_ | refine TR.exit ?_ | refine TR.skip ?_ | refine TR.condB rfl ?_ | refine Br.cond_t ?_ | refine Br.cond_f ?_ | refine Br.yes (by first | decide | assumption | (apply decide_eq_true; omega)) ?_ | refine Br.non (by first | decide | assumption | (apply decide_eq_false; omega)) ?_ | refine Br.cond_ff ?_ | refine Br.eqT (by omega) ?_ | refine Br.eqF (by omega) ?_ | refine Br.neT (by omega) ?_ | refine Br.neF (by omega) ?_ | refine Ld.mk' _ rfl ?_ | refine Need.mk (by first | decide | omega | kernel_rfl) ?_ | refine Nm.i64 (by omega) ?_ | refine Nm.u64 (by omega) ?_ | refine Nm.u8 (by omega) ?_) | (refine x_exq (TTok _ _) ?_; (conv => whnf); fail_if_success (guard_target =ₛ False)))
  refine TR.loopH (fun k : Nat => [(3, .v (.int .i64 (lbPos s k)))]) (fun k => [(0, ⟨.tab (YF (J k)), 0, 0, k, []⟩)]) (fun k => k ≤ m) (fun k => m - k) 0 (Nat.zero_le _) ?_ ?_
  · repeat' ((conv => whnf); first | exact trivial | exact Fgt.nil | exact Fgt.mk rfl rfl rfl | refine And.intro rfl ?_ | refine And.intro ?_ ?_)
  · intro k hk
    have hbx := yf_box (J := J k) (B := B) (u := .string s) fun D w h => hB k D w (by omega) h
    have p0 := lbPos_nn s k
    have p1 := hN.le k (by omega)
    have hb := bAt_range s (lbPos s k)
    have hsb : (s.size : Int) < 4294967281 := by omega
    have hKk := hK k (by omega)
    by_cases hkN : k < m
    · have hok := hN.ok k (by omega)
      have hy := hY k hkN
      have hnx : lbPos s (k + 1) = lbPos s k + 1 + bAt s (lbPos s k) := rfl
      obtain ⟨lab, hlab⟩ : ∃ lab, lbS s k = lab := ⟨_, rfl⟩
      unfold lbXs at hy
      rw [hlab] at hy
      unfold lbS at hlab
      obtain ⟨o1, o2, o3, o4⟩ := hok
      have n1 := hnx
      generalize lbPos s (k + 1) = pn at n1 hnx
      have hn2 : (fun k : Nat => lbPos s k) (k + 1) = pn := n1 ▸ rfl
      repeat' ((conv => whnf); first | (with_reducible first | refine TR.seq ?_ | refine TR.region (TTok _ _) ?_ | refine TR.drawn (TTok _ _) mixed ?_ | refine TR.block ?_ | refine TR.ret ?_ | refine TR.exit ?_ | refine TR.skip ?_ | refine TR.condB rfl ?_ | refine Br.cond_t ?_ | refine Br.cond_f ?_ | refine Br.yes (by first | decide | assumption | (apply decide_eq_true; omega)) ?_ | refine Br.non (by first | decide | assumption | (apply decide_eq_false; omega)) ?_ | refine Br.cond_ff ?_ | refine Br.eqT (by omega) ?_ | refine Br.eqF (by omega) ?_ | refine Br.neT (by omega) ?_ | refine Br.neF (by omega) ?_ | refine Ld.mk' _ rfl ?_ | refine Need.mk (by first | decide | omega | kernel_rfl) ?_ | refine Nm.i64 (by omega) ?_ | refine Nm.u64 (by omega) ?_ | refine Nm.u8 (by omega) ?_) | refine x_load_tab (TTok _ _) (c := 0) (ck := ⟨.tab (YF (J k)), 0, 0, k, []⟩) (F := YF (J k)) (us := [.string s]) rfl rfl rfl rfl rfl (fun _ => rfl) rfl hbx ?_ | refine x_yield (W := W) (l := l) (c := 0) (ck := ⟨.tab (YF (J k)), 0, 0, k, []⟩) (J := J k) (J' := J (k + 1)) (r := true) rfl rfl rfl (fun w h => h) hKk rfl rfl hy ?_ | refine Nm.mk' lab hlab ?_ | (refine x_exq (TTok _ _) ?_; (conv => whnf); fail_if_success (guard_target =ₛ False)))
      all_goals (conv => whnf)
      refine ⟨k + 1, by omega, by omega, ?_⟩
      repeat' ((conv => whnf); first | exact trivial | exact Fgt.nil | exact Fgt.mk rfl rfl rfl | refine And.intro rfl ?_ | refine And.intro ?_ ?_)
    · obtain rfl : k = m := by omega
      have hok := hN.ok k (by omega)
      have hy := hYs
      have hnx : lbPos s (k + 1) = lbPos s k + 1 + bAt s (lbPos s k) := rfl
      obtain ⟨lab, hlab⟩ : ∃ lab, lbS s k = lab := ⟨_, rfl⟩
      unfold lbXs at hy
      rw [hlab] at hy
      unfold lbS at hlab
      obtain ⟨o1, o2, o3, o4⟩ := hok
      have n1 := hnx
      generalize lbPos s (k + 1) = pn at n1 hnx
      have hn2 : (fun k : Nat => lbPos s k) (k + 1) = pn := n1 ▸ rfl
      repeat' ((conv => whnf); first | (with_reducible first | refine TR.seq ?_ | refine TR.region (TTok _ _) ?_ | refine TR.drawn (TTok _ _) mixed ?_ | refine TR.block ?_ | refine TR.ret ?_ | refine TR.exit ?_ | refine TR.skip ?_ | refine TR.condB rfl ?_ | refine Br.cond_t ?_ | refine Br.cond_f ?_ | refine Br.yes (by first | decide | assumption | (apply decide_eq_true; omega)) ?_ | refine Br.non (by first | decide | assumption | (apply decide_eq_false; omega)) ?_ | refine Br.cond_ff ?_ | refine Br.eqT (by omega) ?_ | refine Br.eqF (by omega) ?_ | refine Br.neT (by omega) ?_ | refine Br.neF (by omega) ?_ | refine Ld.mk' _ rfl ?_ | refine Need.mk (by first | decide | omega | kernel_rfl) ?_ | refine Nm.i64 (by omega) ?_ | refine Nm.u64 (by omega) ?_ | refine Nm.u8 (by omega) ?_) | refine x_load_tab (TTok _ _) (c := 0) (ck := ⟨.tab (YF (J k)), 0, 0, k, []⟩) (F := YF (J k)) (us := [.string s]) rfl rfl rfl rfl rfl (fun _ => rfl) rfl hbx ?_ | refine x_yield (W := W) (l := l) (c := 0) (ck := ⟨.tab (YF (J k)), 0, 0, k, []⟩) (J := J k) (J' := J (k + 1)) (r := false) rfl rfl rfl (fun w h => h) hKk rfl rfl hy ?_ | refine Nm.mk' lab hlab ?_ | (refine x_exq (TTok _ _) ?_; (conv => whnf); fail_if_success (guard_target =ₛ False)))
      all_goals (conv => whnf)
      all_goals exact ⟨_, _, rfl, rfl, rfl⟩
end Go.Proofs.YtdmgmkifjboojaaGreatDoor
set_option maxRecDepth 100000
set_option linter.unusedVariables false
namespace Go.Proofs.YtdmgmkifjboojaaGreatDoor
open Go.SX
def rtC (s : ByteArray) (z : Int) : List (Option Chunk) := [none, none, none, some ⟨.own, 3, 1, 0, [.v (.int .i64 z)]⟩, some ⟨.own, 9, 1, 0, [.v (.string s)]⟩]
set_option maxHeartbeats 4000000 in
theorem nright_ret (s : ByteArray) (hs : s.size < 4294967281) (N : Nat) (hN : LbN s N) (w : World) : Ret Tryz.prog 48 [.string s] w (.bool (rtB s N)) := by
  refine Ret.ofW (I := fun _ => True) (T := TT) (fun _ _ => trivial) Tryz.func48 (by kernel_rfl) rfl rfl ?_
  by_cases z0 : s.size = 0
  · have hb : rtB s N = false := decide_eq_false (by omega)
    rw [hb]
    repeat' ((conv => whnf); first | (with_reducible first | refine TR.seq ?_ | refine TR.region (TTok _ _) ?_ | refine TR.drawn (TTok _ _) mixed ?_ | refine TR.block ?_ | refine TR.ret ?_ | refine TR.exit ?_ | refine TR.skip ?_ | refine TR.condB rfl ?_ | refine Br.cond_t ?_ | refine Br.cond_f ?_ | refine Br.yes (by first | decide | assumption | (apply decide_eq_true; omega)) ?_ | refine Br.non (by first | decide | assumption | (apply decide_eq_false; omega)) ?_ | refine Br.cond_ff ?_ | refine Br.eqT (by omega) ?_ | refine Br.eqF (by omega) ?_ | refine Br.neT (by omega) ?_ | refine Br.neF (by omega) ?_ | refine Ld.mk' _ rfl ?_ | refine Need.mk (by first | decide | omega | kernel_rfl) ?_ | refine Nm.i64 (by omega) ?_ | refine Nm.u64 (by omega) ?_ | refine Nm.u8 (by omega) ?_ | refine TW.seq (TTok _ _) ?_) | (refine x_exq (TTok _ _) ?_; (conv => whnf); fail_if_success (guard_target =ₛ False)))
    all_goals (conv => whnf)
    all_goals rfl
  · by_cases z1 : 255 < s.size
    · have hb : rtB s N = false := decide_eq_false (by omega)
      rw [hb]
      repeat' ((conv => whnf); first | (with_reducible first | refine TR.seq ?_ | refine TR.region (TTok _ _) ?_ | refine TR.drawn (TTok _ _) mixed ?_ | refine TR.block ?_ | refine TR.ret ?_ | refine TR.exit ?_ | refine TR.skip ?_ | refine TR.condB rfl ?_ | refine Br.cond_t ?_ | refine Br.cond_f ?_ | refine Br.yes (by first | decide | assumption | (apply decide_eq_true; omega)) ?_ | refine Br.non (by first | decide | assumption | (apply decide_eq_false; omega)) ?_ | refine Br.cond_ff ?_ | refine Br.eqT (by omega) ?_ | refine Br.eqF (by omega) ?_ | refine Br.neT (by omega) ?_ | refine Br.neF (by omega) ?_ | refine Ld.mk' _ rfl ?_ | refine Need.mk (by first | decide | omega | kernel_rfl) ?_ | refine Nm.i64 (by omega) ?_ | refine Nm.u64 (by omega) ?_ | refine Nm.u8 (by omega) ?_ | refine TW.seq (TTok _ _) ?_) | (refine x_exq (TTok _ _) ?_; (conv => whnf); fail_if_success (guard_target =ₛ False)))
      all_goals (conv => whnf)
      all_goals rfl
    · conv => whnf
      refine TW.seq (TTok _ _) ?_
      repeat' ((conv => whnf); first | (with_reducible first | refine TR.seq ?_ | refine TR.region (TTok _ _) ?_ | refine TR.drawn (TTok _ _) mixed ?_ | refine TR.block ?_ | refine TR.ret ?_ | refine TR.exit ?_ | refine TR.skip ?_ | refine TR.condB rfl ?_ | refine Br.cond_t ?_ | refine Br.cond_f ?_ | refine Br.yes (by first | decide | assumption | (apply decide_eq_true; omega)) ?_ | refine Br.non (by first | decide | assumption | (apply decide_eq_false; omega)) ?_ | refine Br.cond_ff ?_ | refine Br.eqT (by omega) ?_ | refine Br.eqF (by omega) ?_ | refine Br.neT (by omega) ?_ | refine Br.neF (by omega) ?_ | refine Ld.mk' _ rfl ?_ | refine Need.mk (by first | decide | omega | kernel_rfl) ?_ | refine Nm.i64 (by omega) ?_ | refine Nm.u64 (by omega) ?_ | refine Nm.u8 (by omega) ?_) | (refine x_exq (TTok _ _) ?_; (conv => whnf); fail_if_success (guard_target =ₛ False)))
      refine TW.seq (TTok _ _) ?_
      repeat' ((conv => whnf); first | (with_reducible first | refine TR.seq ?_ | refine TR.region (TTok _ _) ?_ | refine TR.drawn (TTok _ _) mixed ?_ | refine TR.block ?_ | refine TR.ret ?_ | refine TR.exit ?_ | refine TR.skip ?_ | refine TR.condB rfl ?_ | refine Br.cond_t ?_ | refine Br.cond_f ?_ | refine Br.yes (by first | decide | assumption | (apply decide_eq_true; omega)) ?_ | refine Br.non (by first | decide | assumption | (apply decide_eq_false; omega)) ?_ | refine Br.cond_ff ?_ | refine Br.eqT (by omega) ?_ | refine Br.eqF (by omega) ?_ | refine Br.neT (by omega) ?_ | refine Br.neF (by omega) ?_ | refine Ld.mk' _ rfl ?_ | refine Need.mk (by first | decide | omega | kernel_rfl) ?_ | refine Nm.i64 (by omega) ?_ | refine Nm.u64 (by omega) ?_ | refine Nm.u8 (by omega) ?_) | (refine x_exq (TTok _ _) ?_; (conv => whnf); fail_if_success (guard_target =ₛ False)))
      refine TW.seq (TTok _ _) ?_
      repeat' ((conv => whnf); first | (with_reducible first | refine TR.seq ?_ | refine TR.region (TTok _ _) ?_ | refine TR.drawn (TTok _ _) mixed ?_ | refine TR.block ?_ | refine TR.ret ?_ | refine TR.exit ?_ | refine TR.skip ?_ | refine TR.condB rfl ?_ | refine Br.cond_t ?_ | refine Br.cond_f ?_ | refine Br.yes (by first | decide | assumption | (apply decide_eq_true; omega)) ?_ | refine Br.non (by first | decide | assumption | (apply decide_eq_false; omega)) ?_ | refine Br.cond_ff ?_ | refine Br.eqT (by omega) ?_ | refine Br.eqF (by omega) ?_ | refine Br.neT (by omega) ?_ | refine Br.neF (by omega) ?_ | refine Ld.mk' _ rfl ?_ | refine Need.mk (by first | decide | omega | kernel_rfl) ?_ | refine Nm.i64 (by omega) ?_ | refine Nm.u64 (by omega) ?_ | refine Nm.u8 (by omega) ?_) | (refine x_exq (TTok _ _) ?_; (conv => whnf); fail_if_success (guard_target =ₛ False)))
      refine TW.seq2 (TWK.seq (TTok _ _) ?_)
      repeat' ((conv => whnf); first | (with_reducible first | refine TR.seq ?_ | refine TR.region (TTok _ _) ?_ | refine TR.drawn (TTok _ _) mixed ?_ | refine TR.block ?_ | refine TR.ret ?_ | refine TR.exit ?_ | refine TR.skip ?_ | refine TR.condB rfl ?_ | refine TJ.seq ?_ | refine TJ.region (TTok _ _) ?_ | refine TJ.drawn (TTok _ _) mixed ?_ | refine TJ.cond rfl ?_ | refine TJ.block ?_ | refine TJ.loop ?_ | refine LJ.step ?_ | refine TJ.ret ?_ | refine TJ.exit ?_ | refine TJ.skip ?_ | refine TJ.scope ?_ | refine TJ.label ?_ | refine Br.cond_t ?_ | refine Br.cond_f ?_ | refine Br.yes (by first | decide | assumption | (apply decide_eq_true; omega)) ?_ | refine Br.non (by first | decide | assumption | (apply decide_eq_false; omega)) ?_ | refine Br.cond_ff ?_ | refine Br.eqT (by omega) ?_ | refine Br.eqF (by omega) ?_ | refine Br.neT (by omega) ?_ | refine Br.neF (by omega) ?_ | refine Ld.mk' _ rfl ?_ | refine Need.mk (by first | decide | omega | kernel_rfl) ?_ | refine Nm.i64 (by omega) ?_ | refine Nm.u64 (by omega) ?_ | refine Nm.u8 (by omega) ?_) | refine x_call (f := 50) (TTok _ _) rfl rfl Tryz.func50 (by kernel_rfl) rfl ?_ | (refine x_exq (TTok _ _) ?_; (conv => whnf); fail_if_success (guard_target =ₛ False)))
      refine TWK.range (TTok _ _) (gf := 80) (c0 := 4) (v0 := 0) (ty := 9) (u := .string s) (N := N) (n := 8) (xs := lbXs s) (C := (fun k => rtC s (lbPos s k))) rfl (fun k _ => ⟨1, rfl⟩) rfl (fun k _ => own_all rfl (Nat.le_of_ble_eq_true rfl)) ⟨Tryz.f80, Tryz.func80, by kernel_rfl, by kernel_rfl⟩ (labels_it s hs N hN) (fun k _ => rfl) (res_one (t := 2) (by kernel_rfl)) (fun k hk => ?_) ?_
      · have p0 := lbPos_nn s k
        have p1 := hN.le k (by omega)
        obtain ⟨o1, o2, o3, o4⟩ := hN.ok k hk
        have hb := bAt_range s (lbPos s k)
        have hsb : (s.size : Int) < 4294967281 := by omega
        have hlz : ((lbS s k).size : Int) = bAt s (lbPos s k) := by
          unfold lbS
          rw [ByteArray.size_extract]
          omega
        have hpn : lbPos s k + 1 + ((lbS s k).size : Int) = lbPos s (k + 1) := by
          rw [hlz]
          rfl
        unfold lbXs
        generalize lbS s k = lab at hlz hpn
        repeat' ((conv => whnf); first | (with_reducible first | refine TR.seq ?_ | refine TR.region (TTok _ _) ?_ | refine TR.drawn (TTok _ _) mixed ?_ | refine TR.block ?_ | refine TR.ret ?_ | refine TR.exit ?_ | refine TR.skip ?_ | refine TR.condB rfl ?_ | refine Br.cond_t ?_ | refine Br.cond_f ?_ | refine Br.yes (by first | decide | assumption | (apply decide_eq_true; omega)) ?_ | refine Br.non (by first | decide | assumption | (apply decide_eq_false; omega)) ?_ | refine Br.cond_ff ?_ | refine Br.eqT (by omega) ?_ | refine Br.eqF (by omega) ?_ | refine Br.neT (by omega) ?_ | refine Br.neF (by omega) ?_ | refine Ld.mk' _ rfl ?_ | refine Need.mk (by first | decide | omega | kernel_rfl) ?_ | refine Nm.i64 (by omega) ?_ | refine Nm.u64 (by omega) ?_ | refine Nm.u8 (by omega) ?_) | refine And.intro rfl ?_ | (refine x_exq (TTok _ _) ?_; (conv => whnf); fail_if_success (guard_target =ₛ False)))
        all_goals (conv => whnf)
        all_goals exact congrArg (rtC s) hpn
      · have p0 := lbPos_nn s N
        have p1 := hN.le N (by omega)
        have hb := bAt_range s (lbPos s N)
        by_cases q1 : lbPos s N = s.size - 1
        · by_cases q2 : bAt s (lbPos s N) = 0
          · have hr : rtB s N = true := decide_eq_true ⟨by omega, by omega, q1, q2⟩
            rw [hr]
            generalize lbPos s N = p at p0 p1 hb q1 q2
            repeat' ((conv => whnf); first | (with_reducible first | refine TR.seq ?_ | refine TR.region (TTok _ _) ?_ | refine TR.drawn (TTok _ _) mixed ?_ | refine TR.block ?_ | refine TR.ret ?_ | refine TR.exit ?_ | refine TR.skip ?_ | refine TR.condB rfl ?_ | refine Br.cond_t ?_ | refine Br.cond_f ?_ | refine Br.yes (by first | decide | assumption | (apply decide_eq_true; omega)) ?_ | refine Br.non (by first | decide | assumption | (apply decide_eq_false; omega)) ?_ | refine Br.cond_ff ?_ | refine Br.eqT (by omega) ?_ | refine Br.eqF (by omega) ?_ | refine Br.neT (by omega) ?_ | refine Br.neF (by omega) ?_ | refine Ld.mk' _ rfl ?_ | refine Need.mk (by first | decide | omega | kernel_rfl) ?_ | refine Nm.i64 (by omega) ?_ | refine Nm.u64 (by omega) ?_ | refine Nm.u8 (by omega) ?_) | refine Br.yes (by simp [q2]) ?_ | (refine x_exq (TTok _ _) ?_; (conv => whnf); fail_if_success (guard_target =ₛ False)))
            all_goals (conv => whnf)
            all_goals first | rfl | simp [val, q2]
          · have hr : rtB s N = false := decide_eq_false fun h => q2 h.2.2.2
            rw [hr]
            generalize lbPos s N = p at p0 p1 hb q1 q2
            repeat' ((conv => whnf); first | (with_reducible first | refine TR.seq ?_ | refine TR.region (TTok _ _) ?_ | refine TR.drawn (TTok _ _) mixed ?_ | refine TR.block ?_ | refine TR.ret ?_ | refine TR.exit ?_ | refine TR.skip ?_ | refine TR.condB rfl ?_ | refine Br.cond_t ?_ | refine Br.cond_f ?_ | refine Br.yes (by first | decide | assumption | (apply decide_eq_true; omega)) ?_ | refine Br.non (by first | decide | assumption | (apply decide_eq_false; omega)) ?_ | refine Br.cond_ff ?_ | refine Br.eqT (by omega) ?_ | refine Br.eqF (by omega) ?_ | refine Br.neT (by omega) ?_ | refine Br.neF (by omega) ?_ | refine Ld.mk' _ rfl ?_ | refine Need.mk (by first | decide | omega | kernel_rfl) ?_ | refine Nm.i64 (by omega) ?_ | refine Nm.u64 (by omega) ?_ | refine Nm.u8 (by omega) ?_) | (refine x_exq (TTok _ _) ?_; (conv => whnf); fail_if_success (guard_target =ₛ False)))
            all_goals (conv => whnf)
            all_goals first | rfl | simp [val, q2]
        · have hr : rtB s N = false := decide_eq_false fun h => q1 h.2.2.1
          rw [hr]
          generalize lbPos s N = p at p0 p1 hb q1
          repeat' ((conv => whnf); first | (with_reducible first | refine TR.seq ?_ | refine TR.region (TTok _ _) ?_ | refine TR.drawn (TTok _ _) mixed ?_ | refine TR.block ?_ | refine TR.ret ?_ | refine TR.exit ?_ | refine TR.skip ?_ | refine TR.condB rfl ?_ | refine Br.cond_t ?_ | refine Br.cond_f ?_ | refine Br.yes (by first | decide | assumption | (apply decide_eq_true; omega)) ?_ | refine Br.non (by first | decide | assumption | (apply decide_eq_false; omega)) ?_ | refine Br.cond_ff ?_ | refine Br.eqT (by omega) ?_ | refine Br.eqF (by omega) ?_ | refine Br.neT (by omega) ?_ | refine Br.neF (by omega) ?_ | refine Ld.mk' _ rfl ?_ | refine Need.mk (by first | decide | omega | kernel_rfl) ?_ | refine Nm.i64 (by omega) ?_ | refine Nm.u64 (by omega) ?_ | refine Nm.u8 (by omega) ?_) | (refine x_exq (TTok _ _) ?_; (conv => whnf); fail_if_success (guard_target =ₛ False)))
          all_goals (conv => whnf)
          all_goals rfl
theorem nright (s : ByteArray) (hs : s.size < 4294967281) (w : World) : Ret Tryz.prog 48 [.string s] w (.bool (rgt s)) := nright_ret s hs _ (rgN_ok s) w
end Go.Proofs.YtdmgmkifjboojaaGreatDoor
set_option maxRecDepth 100000
set_option linter.unusedVariables false
set_option linter.unusedSimpArgs false
namespace Go.Proofs.YtdmgmkifjboojaaGreatDoor
open Go.SX
theorem or32_fin : ∀ a : Fin 26, IntKind.u8.wrap (BitVec.ofInt IntKind.u8.bits ((a.val : Int) + 65) ||| BitVec.ofInt IntKind.u8.bits 32).toNat = (a.val : Int) + 65 + 32 := by decide +kernel
theorem or32 {x : Int} (h : 65 ≤ x ∧ x ≤ 90) : IntKind.u8.wrap (BitVec.ofInt IntKind.u8.bits x ||| BitVec.ofInt IntKind.u8.bits 32).toNat = x + 32 := by
  have := or32_fin ⟨(x - 65).toNat, by omega⟩
  simp only [show (((x - 65).toNat : Nat) : Int) + 65 = x by omega] at this
  exact this
theorem small_ret (x : Int) (hx : 0 ≤ x ∧ x ≤ 255) (w : World) : Ret Tryz.prog 79 [.int .u8 x] w (.int .u8 (lowb x)) := by
  by_cases h1 : 65 ≤ x
  · by_cases h2 : x ≤ 90
    · rw [show lowb x = x + 32 from if_pos ⟨h1, h2⟩]
      have h3 := or32 ⟨h1, h2⟩
      refine Ret.tj (I := fun _ => True) (fun _ _ => trivial) (TTok 0 _) Tryz.func79 (by kernel_rfl) rfl ?_
      repeat' ((conv => whnf); first | (with_reducible first | refine TJ.seq ?_ | refine TJ.region (TTok _ _) ?_ | refine TJ.drawn (TTok _ _) mixed ?_ | refine TJ.cond rfl ?_ | refine TJ.block ?_ | refine TJ.loop ?_ | refine LJ.step ?_ | refine TJ.ret ?_ | refine TJ.exit ?_ | refine TJ.skip ?_ | refine TJ.scope ?_ | refine TJ.label ?_ | refine Br.cond_t ?_ | refine Br.cond_f ?_ | refine Br.yes (by first | decide | assumption | (apply decide_eq_true; omega)) ?_ | refine Br.non (by first | decide | assumption | (apply decide_eq_false; omega)) ?_ | refine Br.cond_ff ?_ | refine Br.eqT (by omega) ?_ | refine Br.eqF (by omega) ?_ | refine Br.neT (by omega) ?_ | refine Br.neF (by omega) ?_ | refine Nm.mk' _ h3 ?_ | refine Ld.mk' _ rfl ?_ | refine Need.mk (by first | decide | omega | kernel_rfl) ?_ | refine Nm.i64 (by omega) ?_ | refine Nm.u64 (by omega) ?_ | refine Nm.u8 (by omega) ?_) | (refine x_exq (TTok _ _) ?_; (conv => whnf); fail_if_success (guard_target =ₛ False)))
      all_goals (conv => whnf)
      all_goals first | rfl | trace_state
    · rw [show lowb x = x from if_neg (fun h => h2 h.2)]
      refine Ret.tj (I := fun _ => True) (fun _ _ => trivial) (TTok 0 _) Tryz.func79 (by kernel_rfl) rfl ?_
      repeat' ((conv => whnf); first | (with_reducible first | refine TJ.seq ?_ | refine TJ.region (TTok _ _) ?_ | refine TJ.drawn (TTok _ _) mixed ?_ | refine TJ.cond rfl ?_ | refine TJ.block ?_ | refine TJ.loop ?_ | refine LJ.step ?_ | refine TJ.ret ?_ | refine TJ.exit ?_ | refine TJ.skip ?_ | refine TJ.scope ?_ | refine TJ.label ?_ | refine Br.cond_t ?_ | refine Br.cond_f ?_ | refine Br.yes (by first | decide | assumption | (apply decide_eq_true; omega)) ?_ | refine Br.non (by first | decide | assumption | (apply decide_eq_false; omega)) ?_ | refine Br.cond_ff ?_ | refine Br.eqT (by omega) ?_ | refine Br.eqF (by omega) ?_ | refine Br.neT (by omega) ?_ | refine Br.neF (by omega) ?_ | refine Ld.mk' _ rfl ?_ | refine Need.mk (by first | decide | omega | kernel_rfl) ?_ | refine Nm.i64 (by omega) ?_ | refine Nm.u64 (by omega) ?_ | refine Nm.u8 (by omega) ?_) | (refine x_exq (TTok _ _) ?_; (conv => whnf); fail_if_success (guard_target =ₛ False)))
      all_goals (conv => whnf)
      all_goals first | rfl | trace_state
  · rw [show lowb x = x from if_neg (fun h => h1 h.1)]
    refine Ret.tj (I := fun _ => True) (fun _ _ => trivial) (TTok 0 _) Tryz.func79 (by kernel_rfl) rfl ?_
    repeat' ((conv => whnf); first | (with_reducible first | refine TJ.seq ?_ | refine TJ.region (TTok _ _) ?_ | refine TJ.drawn (TTok _ _) mixed ?_ | refine TJ.cond rfl ?_ | refine TJ.block ?_ | refine TJ.loop ?_ | refine LJ.step ?_ | refine TJ.ret ?_ | refine TJ.exit ?_ | refine TJ.skip ?_ | refine TJ.scope ?_ | refine TJ.label ?_ | refine Br.cond_t ?_ | refine Br.cond_f ?_ | refine Br.yes (by first | decide | assumption | (apply decide_eq_true; omega)) ?_ | refine Br.non (by first | decide | assumption | (apply decide_eq_false; omega)) ?_ | refine Br.cond_ff ?_ | refine Br.eqT (by omega) ?_ | refine Br.eqF (by omega) ?_ | refine Br.neT (by omega) ?_ | refine Br.neF (by omega) ?_ | refine Ld.mk' _ rfl ?_ | refine Need.mk (by first | decide | omega | kernel_rfl) ?_ | refine Nm.i64 (by omega) ?_ | refine Nm.u64 (by omega) ?_ | refine Nm.u8 (by omega) ?_) | (refine x_exq (TTok _ _) ?_; (conv => whnf); fail_if_success (guard_target =ₛ False)))
    all_goals (conv => whnf)
    all_goals first | rfl | trace_state
theorem its_rep (n : Nat) : List.replicate n (AV.v (.int .u8 0)) = byt (List.replicate n 0) := by simp [byt]
theorem putL_all (a b : List Int) (h : a.length = b.length) : putL (byt a) 0 (byt b) = some (byt b) := by
  have : ∀ (a b : List AV), a.length = b.length → putL a 0 b = some b := by
    intro a
    induction a with
    | nil => intro b h; cases b with | nil => rfl | cons x b => simp at h
    | cons y a ih =>
      intro b h
      cases b with
      | nil => simp at h
      | cons x b =>
        have := ih b (by simpa using h)
        simp [putL, this]
  exact this _ _ (by simp [byt, h])
def lwH (s : ByteArray) (q : Nat) : List (Option Chunk) := [none, none, none, some ⟨.own, 82, 1, 0, [.sl 13 0 0 s.size]⟩, none, none, none, none, none, none, none, none, none, some ⟨.row, 5, 1, 0, byt (lwC s q)⟩, some ⟨.own, 9, 1, 0, [.v (.string s)]⟩]
set_option maxHeartbeats 8000000 in
theorem nlower_ret (s : ByteArray) (hs : s.size < 4294967281) (w : World) : Ret Tryz.prog 49 [.string s] w (.string (if rgt s = true then strOfNums ((sInts s).map lowb) else s)) := by
  have h115 := fun w => nright s hs w
  refine Ret.ofW (I := fun _ => True) (T := TT) (fun _ _ => trivial) Tryz.func49 (by kernel_rfl) rfl rfl ?_
  cases hr : rgt s with
  | false =>
    rw [hr] at h115
    rw [if_neg (by simp)]
    repeat' ((conv => whnf); first | (with_reducible first | refine TR.seq ?_ | refine TR.region (TTok _ _) ?_ | refine TR.drawn (TTok _ _) mixed ?_ | refine TR.block ?_ | refine TR.ret ?_ | refine TR.exit ?_ | refine TR.skip ?_ | refine TR.condB rfl ?_ | refine Br.cond_t ?_ | refine Br.cond_f ?_ | refine Br.yes (by first | decide | assumption | (apply decide_eq_true; omega)) ?_ | refine Br.non (by first | decide | assumption | (apply decide_eq_false; omega)) ?_ | refine Br.cond_ff ?_ | refine Br.eqT (by omega) ?_ | refine Br.eqF (by omega) ?_ | refine Br.neT (by omega) ?_ | refine Br.neF (by omega) ?_ | refine Ld.mk' _ rfl ?_ | refine Need.mk (by first | decide | omega | kernel_rfl) ?_ | refine Nm.i64 (by omega) ?_ | refine Nm.u64 (by omega) ?_ | refine Nm.u8 (by omega) ?_ | refine x_ret (f := 48) rfl rfl (fun w _ => h115 w) ?_ | refine TW.seq (TTok _ _) ?_) | (refine x_exq (TTok _ _) ?_; (conv => whnf); fail_if_success (guard_target =ₛ False)))
    all_goals (conv => whnf)
    all_goals first | rfl | trace_state
  | true =>
    rw [hr] at h115
    rw [if_pos rfl]
    have hz := rgt_size hr
    have hpl := putL_all (List.replicate s.size 0) (sInts s) (by simp [sInts_length])
    rw [← its_rep] at hpl
    conv => whnf
    refine TW.seq (TTok _ _) ?_
    repeat' ((conv => whnf); first | (with_reducible first | refine TR.seq ?_ | refine TR.region (TTok _ _) ?_ | refine TR.drawn (TTok _ _) mixed ?_ | refine TR.block ?_ | refine TR.ret ?_ | refine TR.exit ?_ | refine TR.skip ?_ | refine TR.condB rfl ?_ | refine Br.cond_t ?_ | refine Br.cond_f ?_ | refine Br.yes (by first | decide | assumption | (apply decide_eq_true; omega)) ?_ | refine Br.non (by first | decide | assumption | (apply decide_eq_false; omega)) ?_ | refine Br.cond_ff ?_ | refine Br.eqT (by omega) ?_ | refine Br.eqF (by omega) ?_ | refine Br.neT (by omega) ?_ | refine Br.neF (by omega) ?_ | refine Ld.mk' _ rfl ?_ | refine Need.mk (by first | decide | omega | kernel_rfl) ?_ | refine Nm.i64 (by omega) ?_ | refine Nm.u64 (by omega) ?_ | refine Nm.u8 (by omega) ?_) | (refine x_exq (TTok _ _) ?_; (conv => whnf); fail_if_success (guard_target =ₛ False)))
    refine TW.seq (TTok _ _) ?_
    repeat' ((conv => whnf); first | (with_reducible first | refine TR.seq ?_ | refine TR.region (TTok _ _) ?_ | refine TR.drawn (TTok _ _) mixed ?_ | refine TR.block ?_ | refine TR.ret ?_ | refine TR.exit ?_ | refine TR.skip ?_ | refine TR.condB rfl ?_ | refine Br.cond_t ?_ | refine Br.cond_f ?_ | refine Br.yes (by first | decide | assumption | (apply decide_eq_true; omega)) ?_ | refine Br.non (by first | decide | assumption | (apply decide_eq_false; omega)) ?_ | refine Br.cond_ff ?_ | refine Br.eqT (by omega) ?_ | refine Br.eqF (by omega) ?_ | refine Br.neT (by omega) ?_ | refine Br.neF (by omega) ?_ | refine Ld.mk' _ rfl ?_ | refine Need.mk (by first | decide | omega | kernel_rfl) ?_ | refine Nm.i64 (by omega) ?_ | refine Nm.u64 (by omega) ?_ | refine Nm.u8 (by omega) ?_ | refine x_ret (f := 48) rfl rfl (fun w _ => h115 w) ?_) | (refine x_exq (TTok _ _) ?_; (conv => whnf); fail_if_success (guard_target =ₛ False)))
    refine TW.seq (TTok _ _) ?_
    repeat' ((conv => whnf); first | (with_reducible first | refine TR.seq ?_ | refine TR.region (TTok _ _) ?_ | refine TR.drawn (TTok _ _) mixed ?_ | refine TR.block ?_ | refine TR.ret ?_ | refine TR.exit ?_ | refine TR.skip ?_ | refine TR.condB rfl ?_ | refine Br.cond_t ?_ | refine Br.cond_f ?_ | refine Br.yes (by first | decide | assumption | (apply decide_eq_true; omega)) ?_ | refine Br.non (by first | decide | assumption | (apply decide_eq_false; omega)) ?_ | refine Br.cond_ff ?_ | refine Br.eqT (by omega) ?_ | refine Br.eqF (by omega) ?_ | refine Br.neT (by omega) ?_ | refine Br.neF (by omega) ?_ | refine Ld.mk' _ rfl ?_ | refine Need.mk (by first | decide | omega | kernel_rfl) ?_ | refine Nm.i64 (by omega) ?_ | refine Nm.u64 (by omega) ?_ | refine Nm.u8 (by omega) ?_) | refine x_make (TTok _ _) (d := 13) (n := s.size) rfl rfl rfl rfl rfl rfl rfl rfl rfl (by dsimp only; omega) (by unfold maxLen; omega) ?_ | (refine x_exq (TTok _ _) ?_; (conv => whnf); fail_if_success (guard_target =ₛ False)))
    refine TW.seq (TTok _ _) ?_
    repeat' ((conv => whnf); first | (with_reducible first | refine TR.seq ?_ | refine TR.region (TTok _ _) ?_ | refine TR.drawn (TTok _ _) mixed ?_ | refine TR.block ?_ | refine TR.ret ?_ | refine TR.exit ?_ | refine TR.skip ?_ | refine TR.condB rfl ?_ | refine Br.cond_t ?_ | refine Br.cond_f ?_ | refine Br.yes (by first | decide | assumption | (apply decide_eq_true; omega)) ?_ | refine Br.non (by first | decide | assumption | (apply decide_eq_false; omega)) ?_ | refine Br.cond_ff ?_ | refine Br.eqT (by omega) ?_ | refine Br.eqF (by omega) ?_ | refine Br.neT (by omega) ?_ | refine Br.neF (by omega) ?_ | refine Ld.mk' _ rfl ?_ | refine Need.mk (by first | decide | omega | kernel_rfl) ?_ | refine Nm.i64 (by omega) ?_ | refine Nm.u64 (by omega) ?_ | refine Nm.u8 (by omega) ?_) | refine x_copy_str (TTok _ _) (c := 13) rfl rfl rfl rfl rfl rfl rfl rfl rfl rfl rfl (by omega) (Nat.le_refl _) hpl ?_ | (refine x_exq (TTok _ _) ?_; (conv => whnf); fail_if_success (guard_target =ₛ False)))
    refine TW.seq2 (TWK.seq (TTok _ _) ?_)
    repeat' ((conv => whnf); first | (with_reducible first | refine TR.seq ?_ | refine TR.region (TTok _ _) ?_ | refine TR.drawn (TTok _ _) mixed ?_ | refine TR.block ?_ | refine TR.ret ?_ | refine TR.exit ?_ | refine TR.skip ?_ | refine TR.condB rfl ?_ | refine TJ.seq ?_ | refine TJ.region (TTok _ _) ?_ | refine TJ.drawn (TTok _ _) mixed ?_ | refine TJ.cond rfl ?_ | refine TJ.block ?_ | refine TJ.loop ?_ | refine LJ.step ?_ | refine TJ.ret ?_ | refine TJ.exit ?_ | refine TJ.skip ?_ | refine TJ.scope ?_ | refine TJ.label ?_ | refine Br.cond_t ?_ | refine Br.cond_f ?_ | refine Br.yes (by first | decide | assumption | (apply decide_eq_true; omega)) ?_ | refine Br.non (by first | decide | assumption | (apply decide_eq_false; omega)) ?_ | refine Br.cond_ff ?_ | refine Br.eqT (by omega) ?_ | refine Br.eqF (by omega) ?_ | refine Br.neT (by omega) ?_ | refine Br.neF (by omega) ?_ | refine Ld.mk' _ rfl ?_ | refine Need.mk (by first | decide | omega | kernel_rfl) ?_ | refine Nm.i64 (by omega) ?_ | refine Nm.u64 (by omega) ?_ | refine Nm.u8 (by omega) ?_) | refine x_call (f := 50) (TTok _ _) rfl rfl Tryz.func50 (by kernel_rfl) rfl ?_ | (refine x_exq (TTok _ _) ?_; (conv => whnf); fail_if_success (guard_target =ₛ False)))
    have hN := rgN_ok s
    have hrt : lbPos s (rgN s) = s.size - 1 ∧ bAt s (lbPos s (rgN s)) = 0 := by
      have h := hr
      unfold rgt rtB at h
      simp only [decide_eq_true_eq] at h
      exact h.2.2
    refine TWK.range (TTok _ _) (gf := 80) (c0 := 14) (v0 := 0) (ty := 9) (u := .string s) (N := rgN s) (n := 15) (xs := lbXs s) (C := fun k => lwH s (lbPos s k).toNat) rfl (fun k _ => ⟨1, rfl⟩) (by show lwH s 0 = _; unfold lwH; rw [lwC_zero]) (fun k _ => own_all rfl (Nat.le_of_ble_eq_true rfl)) ⟨Tryz.f80, Tryz.func80, by kernel_rfl, by kernel_rfl⟩ (labels_it s hs (rgN s) hN) (fun k _ => rfl) (res_one (t := 2) (by kernel_rfl)) (fun k hk => ?_) ?_
    · have p0 := lbPos_nn s k
      have p1 := hN.le k (by omega)
      obtain ⟨o1, o2, o3, o4⟩ := hN.ok k hk
      have hb := bAt_range s (lbPos s k)
      have hlz : ((lbS s k).size : Int) = bAt s (lbPos s k) := by
        unfold lbS
        rw [ByteArray.size_extract]
        omega
      have hpn : lbPos s (k + 1) = lbPos s k + 1 + ((lbS s k).size : Int) := by
        rw [hlz]
        rfl
      have hP : ((lbPos s k).toNat : Int) = lbPos s k := by omega
      have hl1 : lwC s (lbPos s k).toNat = lwC s ((lbPos s k).toNat + 1) := (lwC_len1 s (lbPos s k).toNat (by omega) (by rw [hP]; exact o3)).symm
      have hend : (lbPos s (k + 1)).toNat = (lbPos s k).toNat + 1 + (lbS s k).size := by omega
      dsimp only
      rw [hend]
      unfold lbXs lwH
      rw [hl1]
      generalize lbS s k = lab at hlz hpn hend
      generalize lbPos s k = P at p0 p1 o1 o2 o3 o4 hb hlz hpn hP
      have hsz : P + 1 + (lab.size : Int) ≤ s.size := by omega
      repeat' ((conv => whnf); first | (with_reducible first | refine TR.seq ?_ | refine TR.region (TTok _ _) ?_ | refine TR.drawn (TTok _ _) mixed ?_ | refine TR.block ?_ | refine TR.ret ?_ | refine TR.exit ?_ | refine TR.skip ?_ | refine TR.condB rfl ?_ | refine Br.cond_t ?_ | refine Br.cond_f ?_ | refine Br.yes (by first | decide | assumption | (apply decide_eq_true; omega)) ?_ | refine Br.non (by first | decide | assumption | (apply decide_eq_false; omega)) ?_ | refine Br.cond_ff ?_ | refine Br.eqT (by omega) ?_ | refine Br.eqF (by omega) ?_ | refine Br.neT (by omega) ?_ | refine Br.neF (by omega) ?_ | refine Ld.mk' _ rfl ?_ | refine Need.mk (by first | decide | omega | kernel_rfl) ?_ | refine Nm.i64 (by omega) ?_ | refine Nm.u64 (by omega) ?_ | refine Nm.u8 (by omega) ?_) | refine And.intro rfl ?_ | (refine x_exq (TTok _ _) ?_; (conv => whnf); fail_if_success (guard_target =ₛ False)))
      refine TR.loopH (fun i : Nat => [(23, .v (.int .i64 i))]) (fun i => [(13, ⟨.row, 5, 1, 0, byt (lwC s (P.toNat + 1 + i))⟩)]) (fun i => i ≤ lab.size) (fun i => lab.size - i) 0 (Nat.zero_le _) ?_ ?_
      · repeat' ((conv => whnf); first | exact trivial | exact Fgt.nil | exact Fgt.mk rfl rfl rfl | refine And.intro rfl ?_ | refine And.intro ?_ ?_)
        all_goals trace_state
      · intro i hi
        by_cases hil : i < lab.size
        · have hq : P.toNat + 1 + i < s.size := by omega
          have hld : subL (byt (lwC s (P.toNat + 1 + i))) (0 * 1 + (P + 1 + (i : Int)).toNat * 1) 1 = some [.v (.int .u8 (bAt s (P.toNat + 1 + i : Nat)))] := by
            have h1 := subL_byt_at (lwC s (P.toNat + 1 + i)) (P.toNat + 1 + i) (by rw [lwC_len]; exact hq)
            rw [lwC_at s _ hq] at h1
            rw [show 0 * 1 + (P + 1 + (i : Int)).toNat * 1 = P.toNat + 1 + i by omega]
            exact h1
          have hpb : putL (byt (lwC s (P.toNat + 1 + i))) (0 * 1 + (P + 1 + (i : Int)).toNat * 1) [.v (.int .u8 (lowb (bAt s (P.toNat + 1 + i : Nat))))] = some (byt (lwC s (P.toNat + 1 + (i + 1)))) := by
            rw [show 0 * 1 + (P + 1 + (i : Int)).toNat * 1 = P.toNat + 1 + i by omega, putL_byt _ _ _ (by rw [lwC_len]; exact hq), lwC_set s _ hq]
            rfl
          have hsm := fun w => small_ret (bAt s (P.toNat + 1 + i : Nat)) (bAt_range s _) w
          repeat' ((conv => whnf); first | (with_reducible first | refine TR.seq ?_ | refine TR.region (TTok _ _) ?_ | refine TR.drawn (TTok _ _) mixed ?_ | refine TR.block ?_ | refine TR.ret ?_ | refine TR.exit ?_ | refine TR.skip ?_ | refine TR.condB rfl ?_ | refine Br.cond_t ?_ | refine Br.cond_f ?_ | refine Br.yes (by first | decide | assumption | (apply decide_eq_true; omega)) ?_ | refine Br.non (by first | decide | assumption | (apply decide_eq_false; omega)) ?_ | refine Br.cond_ff ?_ | refine Br.eqT (by omega) ?_ | refine Br.eqF (by omega) ?_ | refine Br.neT (by omega) ?_ | refine Br.neF (by omega) ?_ | refine Ld.mk' _ rfl ?_ | refine Need.mk (by first | decide | omega | kernel_rfl) ?_ | refine Nm.i64 (by omega) ?_ | refine Nm.u64 (by omega) ?_ | refine Nm.u8 (by omega) ?_ | refine x_ret (f := 79) rfl rfl (fun w _ => hsm w) ?_) | refine Ld.mk' _ hld ?_ | refine Ld.mk' _ hpb ?_ | (refine x_exq (TTok _ _) ?_; (conv => whnf); fail_if_success (guard_target =ₛ False)))
          all_goals (conv => whnf)
          refine ⟨i + 1, by omega, by omega, ?_⟩
          repeat' ((conv => whnf); first | exact trivial | exact Fgt.nil | exact Fgt.mk rfl rfl rfl | refine And.intro rfl ?_ | refine And.intro ?_ ?_)
          all_goals trace_state
        · obtain rfl : i = lab.size := by omega
          repeat' ((conv => whnf); first | (with_reducible first | refine TR.seq ?_ | refine TR.region (TTok _ _) ?_ | refine TR.drawn (TTok _ _) mixed ?_ | refine TR.block ?_ | refine TR.ret ?_ | refine TR.exit ?_ | refine TR.skip ?_ | refine TR.condB rfl ?_ | refine Br.cond_t ?_ | refine Br.cond_f ?_ | refine Br.yes (by first | decide | assumption | (apply decide_eq_true; omega)) ?_ | refine Br.non (by first | decide | assumption | (apply decide_eq_false; omega)) ?_ | refine Br.cond_ff ?_ | refine Br.eqT (by omega) ?_ | refine Br.eqF (by omega) ?_ | refine Br.neT (by omega) ?_ | refine Br.neF (by omega) ?_ | refine Ld.mk' _ rfl ?_ | refine Need.mk (by first | decide | omega | kernel_rfl) ?_ | refine Nm.i64 (by omega) ?_ | refine Nm.u64 (by omega) ?_ | refine Nm.u8 (by omega) ?_) | refine And.intro rfl ?_ | (refine x_exq (TTok _ _) ?_; (conv => whnf); fail_if_success (guard_target =ₛ False)))
          all_goals (conv => whnf)
          all_goals first | rfl | trace_state
    · have hfin : lwC s (lbPos s (rgN s)).toNat = (sInts s).map lowb := by
        have h1 := lwC_len1 s (lbPos s (rgN s)).toNat (by omega) (by rw [show (((lbPos s (rgN s)).toNat : Nat) : Int) = lbPos s (rgN s) by omega, hrt.2]; decide)
        rw [← h1, show (lbPos s (rgN s)).toNat + 1 = s.size by omega, lwC_all]
      dsimp only
      unfold lwH
      rw [hfin]
      have hsub : subL (byt ((sInts s).map lowb)) 0 s.size = some (byt ((sInts s).map lowb)) := by
        have := subL_byt_take ((sInts s).map lowb) s.size (by simp [sInts_length])
        rwa [List.take_of_length_le (by simp [sInts_length])] at this
      repeat' ((conv => whnf); first | (with_reducible first | refine TR.seq ?_ | refine TR.region (TTok _ _) ?_ | refine TR.drawn (TTok _ _) mixed ?_ | refine TR.block ?_ | refine TR.ret ?_ | refine TR.exit ?_ | refine TR.skip ?_ | refine TR.condB rfl ?_ | refine Br.cond_t ?_ | refine Br.cond_f ?_ | refine Br.yes (by first | decide | assumption | (apply decide_eq_true; omega)) ?_ | refine Br.non (by first | decide | assumption | (apply decide_eq_false; omega)) ?_ | refine Br.cond_ff ?_ | refine Br.eqT (by omega) ?_ | refine Br.eqF (by omega) ?_ | refine Br.neT (by omega) ?_ | refine Br.neF (by omega) ?_ | refine Ld.mk' _ rfl ?_ | refine Need.mk (by first | decide | omega | kernel_rfl) ?_ | refine Nm.i64 (by omega) ?_ | refine Nm.u64 (by omega) ?_ | refine Nm.u8 (by omega) ?_) | refine Ld.mk' _ hsub ?_ | (rw [bytL_byt]; conv => whnf) | refine Nm.keep ?_ | (refine x_exq (TTok _ _) ?_; (conv => whnf); fail_if_success (guard_target =ₛ False)))
      all_goals (conv => whnf)
      all_goals first | rfl | trace_state
theorem nlower (s : ByteArray) (hs : s.size < 4294967281) (w : World) : Ret Tryz.prog 49 [.string s] w (.string (lowN s)) := nlower_ret s hs w
end Go.Proofs.YtdmgmkifjboojaaGreatDoor
set_option maxRecDepth 100000
set_option linter.unusedVariables false
set_option linter.unusedSimpArgs false
namespace Go.Proofs.YtdmgmkifjboojaaGreatDoor
open Go.SX
theorem nequal (a b : ByteArray) (ha : a.size < 4294967281) (hb : b.size < 4294967281) (w : World) : Ret Tryz.prog 47 [.string a, .string b] w (.bool (eqB a b)) := by
  have h1 := fun w => nright a ha w
  have h2 := fun w => nright b hb w
  have h3 := fun w => nlower a ha w
  have h4 := fun w => nlower b hb w
  obtain ⟨v, hv⟩ : ∃ v, eqB a b = v := ⟨_, rfl⟩
  rw [hv]
  unfold eqB at hv
  refine Ret.tj (I := fun _ => True) (fun _ _ => trivial) (TTok 0 _) Tryz.func47 (by kernel_rfl) rfl ?_
  cases e1 : rgt a with
  | false =>
    rw [e1] at h1 hv
    cases e2 : rgt b <;> rw [e2] at h2 hv <;> subst hv
    all_goals skip
    all_goals repeat' ((conv => whnf); first | (with_reducible first | refine TJ.seq ?_ | refine TJ.region (TTok _ _) ?_ | refine TJ.drawn (TTok _ _) mixed ?_ | refine TJ.cond rfl ?_ | refine TJ.block ?_ | refine TJ.loop ?_ | refine LJ.step ?_ | refine TJ.ret ?_ | refine TJ.exit ?_ | refine TJ.skip ?_ | refine TJ.scope ?_ | refine TJ.label ?_ | refine Br.cond_t ?_ | refine Br.cond_f ?_ | refine Br.yes (by first | decide | assumption | (apply decide_eq_true; omega)) ?_ | refine Br.non (by first | decide | assumption | (apply decide_eq_false; omega)) ?_ | refine Br.cond_ff ?_ | refine Br.eqT (by omega) ?_ | refine Br.eqF (by omega) ?_ | refine Br.neT (by omega) ?_ | refine Br.neF (by omega) ?_ | refine x_ret (f := 48) rfl rfl (fun w _ => h1 w) ?_ | refine x_ret (f := 48) rfl rfl (fun w _ => h2 w) ?_ | refine Ld.mk' _ rfl ?_ | refine Need.mk (by first | decide | omega | kernel_rfl) ?_ | refine Nm.i64 (by omega) ?_ | refine Nm.u64 (by omega) ?_ | refine Nm.u8 (by omega) ?_) | (refine x_exq (TTok _ _) ?_; (conv => whnf); fail_if_success (guard_target =ₛ False)))
    all_goals (conv => whnf)
    all_goals first | rfl | trace_state
  | true =>
    rw [e1] at h1 hv
    cases e2 : rgt b with
    | false =>
      rw [e2] at h2 hv
      subst hv
      repeat' ((conv => whnf); first | (with_reducible first | refine TJ.seq ?_ | refine TJ.region (TTok _ _) ?_ | refine TJ.drawn (TTok _ _) mixed ?_ | refine TJ.cond rfl ?_ | refine TJ.block ?_ | refine TJ.loop ?_ | refine LJ.step ?_ | refine TJ.ret ?_ | refine TJ.exit ?_ | refine TJ.skip ?_ | refine TJ.scope ?_ | refine TJ.label ?_ | refine Br.cond_t ?_ | refine Br.cond_f ?_ | refine Br.yes (by first | decide | assumption | (apply decide_eq_true; omega)) ?_ | refine Br.non (by first | decide | assumption | (apply decide_eq_false; omega)) ?_ | refine Br.cond_ff ?_ | refine Br.eqT (by omega) ?_ | refine Br.eqF (by omega) ?_ | refine Br.neT (by omega) ?_ | refine Br.neF (by omega) ?_ | refine x_ret (f := 48) rfl rfl (fun w _ => h1 w) ?_ | refine x_ret (f := 48) rfl rfl (fun w _ => h2 w) ?_ | refine Ld.mk' _ rfl ?_ | refine Need.mk (by first | decide | omega | kernel_rfl) ?_ | refine Nm.i64 (by omega) ?_ | refine Nm.u64 (by omega) ?_ | refine Nm.u8 (by omega) ?_) | (refine x_exq (TTok _ _) ?_; (conv => whnf); fail_if_success (guard_target =ₛ False)))
      all_goals (conv => whnf)
      all_goals first | rfl | trace_state
    | true =>
      rw [e2] at h2 hv
      simp only [Bool.true_and] at hv
      generalize lowN a = la at h3 hv
      generalize lowN b = lb at h4 hv
      subst hv
      repeat' ((conv => whnf); first | (with_reducible first | refine TJ.seq ?_ | refine TJ.region (TTok _ _) ?_ | refine TJ.drawn (TTok _ _) mixed ?_ | refine TJ.cond rfl ?_ | refine TJ.block ?_ | refine TJ.loop ?_ | refine LJ.step ?_ | refine TJ.ret ?_ | refine TJ.exit ?_ | refine TJ.skip ?_ | refine TJ.scope ?_ | refine TJ.label ?_ | refine Br.cond_t ?_ | refine Br.cond_f ?_ | refine Br.yes (by first | decide | assumption | (apply decide_eq_true; omega)) ?_ | refine Br.non (by first | decide | assumption | (apply decide_eq_false; omega)) ?_ | refine Br.cond_ff ?_ | refine Br.eqT (by omega) ?_ | refine Br.eqF (by omega) ?_ | refine Br.neT (by omega) ?_ | refine Br.neF (by omega) ?_ | refine x_ret (f := 48) rfl rfl (fun w _ => h1 w) ?_ | refine x_ret (f := 48) rfl rfl (fun w _ => h2 w) ?_ | refine x_ret (f := 49) rfl rfl (fun w _ => h3 w) ?_ | refine x_ret (f := 49) rfl rfl (fun w _ => h4 w) ?_ | refine Ld.mk' _ rfl ?_ | refine Need.mk (by first | decide | omega | kernel_rfl) ?_ | refine Nm.i64 (by omega) ?_ | refine Nm.u64 (by omega) ?_ | refine Nm.u8 (by omega) ?_) | (refine x_exq (TTok _ _) ?_; (conv => whnf); fail_if_success (guard_target =ₛ False)))
      all_goals (conv => whnf)
      all_goals first | rfl | trace_state
end Go.Proofs.YtdmgmkifjboojaaGreatDoor
set_option maxRecDepth 100000
set_option linter.unusedVariables false
set_option linter.unusedSimpArgs false
namespace Go.Proofs.YtdmgmkifjboojaaGreatDoor
open Go.SX
def uC (la lb : ByteArray) (b : Bool) : List (Option Chunk) := [none, none, none, none, some ⟨.own, 4, 1, 0, [.v (.bool b)]⟩, some ⟨.own, 9, 1, 0, [.v (.string la)]⟩, some ⟨.own, 9, 1, 0, [.v (.string lb)]⟩]
def uD (la lb : ByteArray) (b : Bool) : List (Option Chunk) := [none, none, none, none, some ⟨.own, 4, 1, 0, [.v (.bool b)]⟩, some ⟨.own, 9, 1, 0, [.v (.string la)]⟩, some ⟨.own, 9, 1, 0, [.v (.string lb)]⟩, some ⟨.own, 9, 1, 0, [.v (.string la)]⟩]
set_option maxHeartbeats 8000000 in
theorem nunder (a b : ByteArray) (ha : a.size < 4294967281) (hb : b.size < 4294967281) (w : World) : Ret Tryz.prog 22 [.string a, .string b] w (.bool (undB a b)) := by
  have h1 := fun w => nright a ha w
  have h2 := fun w => nright b hb w
  have h3 := fun w => nlower a ha w
  have h4 := fun w => nlower b hb w
  refine Ret.ofW (I := fun _ => True) (T := TT) (fun _ _ => trivial) Tryz.func22 (by kernel_rfl) rfl rfl ?_
  conv => whnf
  refine TW.seq (TTok _ _) ?_
  repeat' ((conv => whnf); first | (with_reducible first | refine TR.seq ?_ | refine TR.region (TTok _ _) ?_ | refine TR.drawn (TTok _ _) mixed ?_ | refine TR.block ?_ | refine TR.ret ?_ | refine TR.exit ?_ | refine TR.skip ?_ | refine TR.condB rfl ?_ | refine Br.cond_t ?_ | refine Br.cond_f ?_ | refine Br.yes (by first | decide | assumption | (apply decide_eq_true; omega)) ?_ | refine Br.non (by first | decide | assumption | (apply decide_eq_false; omega)) ?_ | refine Br.cond_ff ?_ | refine Br.eqT (by omega) ?_ | refine Br.eqF (by omega) ?_ | refine Br.neT (by omega) ?_ | refine Br.neF (by omega) ?_ | refine Ld.mk' _ rfl ?_ | refine Need.mk (by first | decide | omega | kernel_rfl) ?_ | refine Nm.i64 (by omega) ?_ | refine Nm.u64 (by omega) ?_ | refine Nm.u8 (by omega) ?_) | (refine x_exq (TTok _ _) ?_; (conv => whnf); fail_if_success (guard_target =ₛ False)))
  refine TW.seq (TTok _ _) ?_
  cases e1 : rgt a with
  | false =>
    have hv : undB a b = false := by unfold undB; rw [e1]; rfl
    rw [hv]
    rw [e1] at h1
    cases e2 : rgt b <;> rw [e2] at h2
    all_goals repeat' ((conv => whnf); first | (with_reducible first | refine TR.seq ?_ | refine TR.region (TTok _ _) ?_ | refine TR.drawn (TTok _ _) mixed ?_ | refine TR.block ?_ | refine TR.ret ?_ | refine TR.exit ?_ | refine TR.skip ?_ | refine TR.condB rfl ?_ | refine Br.cond_t ?_ | refine Br.cond_f ?_ | refine Br.yes (by first | decide | assumption | (apply decide_eq_true; omega)) ?_ | refine Br.non (by first | decide | assumption | (apply decide_eq_false; omega)) ?_ | refine Br.cond_ff ?_ | refine Br.eqT (by omega) ?_ | refine Br.eqF (by omega) ?_ | refine Br.neT (by omega) ?_ | refine Br.neF (by omega) ?_ | refine x_ret (f := 48) rfl rfl (fun w _ => h1 w) ?_ | refine x_ret (f := 48) rfl rfl (fun w _ => h2 w) ?_ | refine Ld.mk' _ rfl ?_ | refine Need.mk (by first | decide | omega | kernel_rfl) ?_ | refine Nm.i64 (by omega) ?_ | refine Nm.u64 (by omega) ?_ | refine Nm.u8 (by omega) ?_) | (refine x_exq (TTok _ _) ?_; (conv => whnf); fail_if_success (guard_target =ₛ False)))
    all_goals (conv => whnf)
    all_goals first | rfl | exact ⟨rfl, rfl⟩ | trace_state
  | true =>
    rw [e1] at h1
    cases e2 : rgt b with
    | false =>
      have hv : undB a b = false := by unfold undB; rw [e1, e2]; rfl
      rw [hv]
      rw [e2] at h2
      repeat' ((conv => whnf); first | (with_reducible first | refine TR.seq ?_ | refine TR.region (TTok _ _) ?_ | refine TR.drawn (TTok _ _) mixed ?_ | refine TR.block ?_ | refine TR.ret ?_ | refine TR.exit ?_ | refine TR.skip ?_ | refine TR.condB rfl ?_ | refine Br.cond_t ?_ | refine Br.cond_f ?_ | refine Br.yes (by first | decide | assumption | (apply decide_eq_true; omega)) ?_ | refine Br.non (by first | decide | assumption | (apply decide_eq_false; omega)) ?_ | refine Br.cond_ff ?_ | refine Br.eqT (by omega) ?_ | refine Br.eqF (by omega) ?_ | refine Br.neT (by omega) ?_ | refine Br.neF (by omega) ?_ | refine x_ret (f := 48) rfl rfl (fun w _ => h1 w) ?_ | refine x_ret (f := 48) rfl rfl (fun w _ => h2 w) ?_ | refine Ld.mk' _ rfl ?_ | refine Need.mk (by first | decide | omega | kernel_rfl) ?_ | refine Nm.i64 (by omega) ?_ | refine Nm.u64 (by omega) ?_ | refine Nm.u8 (by omega) ?_) | (refine x_exq (TTok _ _) ?_; (conv => whnf); fail_if_success (guard_target =ₛ False)))
      all_goals (conv => whnf)
      all_goals first | rfl | exact ⟨rfl, rfl⟩ | trace_state
    | true =>
      rw [e2] at h2
      have hz := rgt_size e1
      have hz2 := rgt_size e2
      have hla : (lowN a).size = a.size := lowN_size a
      have hlb : (lowN b).size = b.size := lowN_size b
      have hra : rgt (lowN a) = true := by rw [rgt_low]; exact e1
      have hN : rgN (lowN a) = rgN a := by
        unfold lowN
        rw [if_pos e1, rgN_low]
      have hu : undB a b = decide (∃ k, k ≤ rgN a ∧ sufN (lowN a) k = lowN b) := by unfold undB; rw [e1, e2]; rfl
      rw [← hN] at hu
      generalize lowN a = la at h3 hla hra hN hu
      generalize lowN b = lb at h4 hlb hu
      repeat' ((conv => whnf); first | (with_reducible first | refine TR.seq ?_ | refine TR.region (TTok _ _) ?_ | refine TR.drawn (TTok _ _) mixed ?_ | refine TR.block ?_ | refine TR.ret ?_ | refine TR.exit ?_ | refine TR.skip ?_ | refine TR.condB rfl ?_ | refine Br.cond_t ?_ | refine Br.cond_f ?_ | refine Br.yes (by first | decide | assumption | (apply decide_eq_true; omega)) ?_ | refine Br.non (by first | decide | assumption | (apply decide_eq_false; omega)) ?_ | refine Br.cond_ff ?_ | refine Br.eqT (by omega) ?_ | refine Br.eqF (by omega) ?_ | refine Br.neT (by omega) ?_ | refine Br.neF (by omega) ?_ | refine x_ret (f := 48) rfl rfl (fun w _ => h1 w) ?_ | refine x_ret (f := 48) rfl rfl (fun w _ => h2 w) ?_ | refine Ld.mk' _ rfl ?_ | refine Need.mk (by first | decide | omega | kernel_rfl) ?_ | refine Nm.i64 (by omega) ?_ | refine Nm.u64 (by omega) ?_ | refine Nm.u8 (by omega) ?_) | (refine x_exq (TTok _ _) ?_; (conv => whnf); fail_if_success (guard_target =ₛ False)))
      refine TW.seq (TTok _ _) ?_
      repeat' ((conv => whnf); first | (with_reducible first | refine TR.seq ?_ | refine TR.region (TTok _ _) ?_ | refine TR.drawn (TTok _ _) mixed ?_ | refine TR.block ?_ | refine TR.ret ?_ | refine TR.exit ?_ | refine TR.skip ?_ | refine TR.condB rfl ?_ | refine Br.cond_t ?_ | refine Br.cond_f ?_ | refine Br.yes (by first | decide | assumption | (apply decide_eq_true; omega)) ?_ | refine Br.non (by first | decide | assumption | (apply decide_eq_false; omega)) ?_ | refine Br.cond_ff ?_ | refine Br.eqT (by omega) ?_ | refine Br.eqF (by omega) ?_ | refine Br.neT (by omega) ?_ | refine Br.neF (by omega) ?_ | refine x_ret (f := 49) rfl rfl (fun w _ => h3 w) ?_ | refine x_ret (f := 49) rfl rfl (fun w _ => h4 w) ?_ | refine Ld.mk' _ rfl ?_ | refine Need.mk (by first | decide | omega | kernel_rfl) ?_ | refine Nm.i64 (by omega) ?_ | refine Nm.u64 (by omega) ?_ | refine Nm.u8 (by omega) ?_) | (refine x_exq (TTok _ _) ?_; (conv => whnf); fail_if_success (guard_target =ₛ False)))
      refine TW.seq (TTok _ _) ?_
      by_cases q0 : la = lb
      · have hv : undB a b = true := by rw [hu]; exact decide_eq_true ⟨0, Nat.zero_le _, by rw [sufN_zero]; exact q0⟩
        rw [hv]
        repeat' ((conv => whnf); first | (with_reducible first | refine TR.seq ?_ | refine TR.region (TTok _ _) ?_ | refine TR.drawn (TTok _ _) mixed ?_ | refine TR.block ?_ | refine TR.ret ?_ | refine TR.exit ?_ | refine TR.skip ?_ | refine TR.condB rfl ?_ | refine Br.cond_t ?_ | refine Br.cond_f ?_ | refine Br.yes (by first | decide | assumption | (apply decide_eq_true; omega)) ?_ | refine Br.non (by first | decide | assumption | (apply decide_eq_false; omega)) ?_ | refine Br.cond_ff ?_ | refine Br.eqT (by omega) ?_ | refine Br.eqF (by omega) ?_ | refine Br.neT (by omega) ?_ | refine Br.neF (by omega) ?_ | refine Ld.mk' _ rfl ?_ | refine Need.mk (by first | decide | omega | kernel_rfl) ?_ | refine Nm.i64 (by omega) ?_ | refine Nm.u64 (by omega) ?_ | refine Nm.u8 (by omega) ?_) | (refine x_exq (TTok _ _) ?_; (conv => whnf); fail_if_success (guard_target =ₛ False)))
        all_goals (conv => whnf)
        all_goals first | rfl | exact ⟨rfl, rfl⟩ | trace_state
      · by_cases q1 : lb = ⟨#[0]⟩
        · have hv : undB a b = true := by rw [hu]; exact decide_eq_true ⟨rgN la, Nat.le_refl _, by rw [sufN_last hra]; exact q1.symm⟩
          rw [hv]
          repeat' ((conv => whnf); first | (with_reducible first | refine TR.seq ?_ | refine TR.region (TTok _ _) ?_ | refine TR.drawn (TTok _ _) mixed ?_ | refine TR.block ?_ | refine TR.ret ?_ | refine TR.exit ?_ | refine TR.skip ?_ | refine TR.condB rfl ?_ | refine Br.non (decide_eq_false q0) ?_ | refine Br.yes (decide_eq_true q1) ?_ | refine Br.cond_t ?_ | refine Br.cond_f ?_ | refine Br.yes (by first | decide | assumption | (apply decide_eq_true; omega)) ?_ | refine Br.non (by first | decide | assumption | (apply decide_eq_false; omega)) ?_ | refine Br.cond_ff ?_ | refine Br.eqT (by omega) ?_ | refine Br.eqF (by omega) ?_ | refine Br.neT (by omega) ?_ | refine Br.neF (by omega) ?_ | refine Ld.mk' _ rfl ?_ | refine Need.mk (by first | decide | omega | kernel_rfl) ?_ | refine Nm.i64 (by omega) ?_ | refine Nm.u64 (by omega) ?_ | refine Nm.u8 (by omega) ?_) | (refine x_exq (TTok _ _) ?_; (conv => whnf); fail_if_success (guard_target =ₛ False)))
          all_goals (conv => whnf)
          all_goals first | rfl | exact ⟨rfl, rfl⟩ | trace_state
        · skip
          repeat' ((conv => whnf); first | (with_reducible first | refine TR.seq ?_ | refine TR.region (TTok _ _) ?_ | refine TR.drawn (TTok _ _) mixed ?_ | refine TR.block ?_ | refine TR.ret ?_ | refine TR.exit ?_ | refine TR.skip ?_ | refine TR.condB rfl ?_ | refine Br.non (decide_eq_false q0) ?_ | refine Br.non (decide_eq_false q1) ?_ | refine Br.cond_t ?_ | refine Br.cond_f ?_ | refine Br.yes (by first | decide | assumption | (apply decide_eq_true; omega)) ?_ | refine Br.non (by first | decide | assumption | (apply decide_eq_false; omega)) ?_ | refine Br.cond_ff ?_ | refine Br.eqT (by omega) ?_ | refine Br.eqF (by omega) ?_ | refine Br.neT (by omega) ?_ | refine Br.neF (by omega) ?_ | refine Ld.mk' _ rfl ?_ | refine Need.mk (by first | decide | omega | kernel_rfl) ?_ | refine Nm.i64 (by omega) ?_ | refine Nm.u64 (by omega) ?_ | refine Nm.u8 (by omega) ?_) | (refine x_exq (TTok _ _) ?_; (conv => whnf); fail_if_success (guard_target =ₛ False)))
          refine TW.seq2 (TWK.seq (TTok _ _) ?_)
          repeat' ((conv => whnf); first | (with_reducible first | refine TR.seq ?_ | refine TR.region (TTok _ _) ?_ | refine TR.drawn (TTok _ _) mixed ?_ | refine TR.block ?_ | refine TR.ret ?_ | refine TR.exit ?_ | refine TR.skip ?_ | refine TR.condB rfl ?_ | refine TJ.seq ?_ | refine TJ.region (TTok _ _) ?_ | refine TJ.drawn (TTok _ _) mixed ?_ | refine TJ.cond rfl ?_ | refine TJ.block ?_ | refine TJ.loop ?_ | refine LJ.step ?_ | refine TJ.ret ?_ | refine TJ.exit ?_ | refine TJ.skip ?_ | refine TJ.scope ?_ | refine TJ.label ?_ | refine Br.cond_t ?_ | refine Br.cond_f ?_ | refine Br.yes (by first | decide | assumption | (apply decide_eq_true; omega)) ?_ | refine Br.non (by first | decide | assumption | (apply decide_eq_false; omega)) ?_ | refine Br.cond_ff ?_ | refine Br.eqT (by omega) ?_ | refine Br.eqF (by omega) ?_ | refine Br.neT (by omega) ?_ | refine Br.neF (by omega) ?_ | refine Ld.mk' _ rfl ?_ | refine Need.mk (by first | decide | omega | kernel_rfl) ?_ | refine Nm.i64 (by omega) ?_ | refine Nm.u64 (by omega) ?_ | refine Nm.u8 (by omega) ?_) | refine x_call (f := 50) (TTok _ _) rfl rfl Tryz.func50 (by kernel_rfl) rfl ?_ | (refine x_exq (TTok _ _) ?_; (conv => whnf); fail_if_success (guard_target =ₛ False)))
          have hLN := rgN_ok la
          have hsz : la.size < 4294967281 := by omega
          by_cases hex : ∃ k, k < rgN la ∧ sufN la k = lb
          · obtain ⟨m, ⟨hm1, hm2⟩, hm3⟩ := least_ex hex
            have hv : undB a b = true := by rw [hu]; exact decide_eq_true ⟨m, by omega, hm2⟩
            rw [hv]
            refine TWK.rangeSM (TTok _ _) (gf := 80) (c0 := 7) (v0 := 0) (ty := 9) (u := .string la) (N := rgN la) (m := m) (n := 8) (e0 := .ret) (cj := .ret) (xs := lbXs la) (C := fun k => uD la lb (decide (m < k))) rfl hm1 rfl (fun k _ => ⟨1, rfl⟩) (by show uD la lb (decide (m < 0)) = _; rw [decide_eq_false (by omega)]; rfl) (fun k _ => own_all rfl (Nat.le_of_ble_eq_true rfl)) ⟨Tryz.f80, Tryz.func80, by kernel_rfl, by kernel_rfl⟩ (labels_stop la hsz (rgN la) hLN) (fun k _ => rfl) (fun k hk => ?_) ?_ ?_
            · have p0 := lbPos_nn la k
              have p1 := hLN.le k (by omega)
              have hne : ¬ sufN la k = lb := fun e => hm3 k hk ⟨by omega, e⟩
              show setPK _ _ fun fr => TR _ _ (roundK _ _ (uD la lb (decide (m < k))) (uD la lb (decide (m < k + 1)))) ⟨fr, uD la lb (decide (m < k))⟩
              rw [decide_eq_false (p := m < k) (by omega), decide_eq_false (p := m < k + 1) (by omega)]
              unfold lbXs
              repeat' ((conv => whnf); first | (with_reducible first | refine TR.seq ?_ | refine TR.region (TTok _ _) ?_ | refine TR.drawn (TTok _ _) mixed ?_ | refine TR.block ?_ | refine TR.ret ?_ | refine TR.exit ?_ | refine TR.skip ?_ | refine TR.condB rfl ?_ | refine Br.non (decide_eq_false hne) ?_ | refine Br.cond_t ?_ | refine Br.cond_f ?_ | refine Br.yes (by first | decide | assumption | (apply decide_eq_true; omega)) ?_ | refine Br.non (by first | decide | assumption | (apply decide_eq_false; omega)) ?_ | refine Br.cond_ff ?_ | refine Br.eqT (by omega) ?_ | refine Br.eqF (by omega) ?_ | refine Br.neT (by omega) ?_ | refine Br.neF (by omega) ?_ | refine Ld.mk' _ rfl ?_ | refine Need.mk (by first | decide | omega | kernel_rfl) ?_ | refine Nm.i64 (by omega) ?_ | refine Nm.u64 (by omega) ?_ | refine Nm.u8 (by omega) ?_) | refine Nm.mk' (sufN la k) rfl ?_ | refine And.intro rfl ?_ | (refine x_exq (TTok _ _) ?_; (conv => whnf); fail_if_success (guard_target =ₛ False)))
              all_goals (conv => whnf)
              all_goals first | rfl | exact ⟨rfl, rfl⟩ | trace_state
            · have p0 := lbPos_nn la m
              have p1 := hLN.le m (by omega)
              show setPK _ _ fun fr => TR _ _ (roundKx _ _ (uD la lb (decide (m < m))) _ (uD la lb (decide (m < m + 1)))) ⟨fr, uD la lb (decide (m < m))⟩
              rw [decide_eq_false (p := m < m) (by omega), decide_eq_true (p := m < m + 1) (by omega)]
              unfold lbXs
              repeat' ((conv => whnf); first | (with_reducible first | refine TR.seq ?_ | refine TR.region (TTok _ _) ?_ | refine TR.drawn (TTok _ _) mixed ?_ | refine TR.block ?_ | refine TR.ret ?_ | refine TR.exit ?_ | refine TR.skip ?_ | refine TR.condB rfl ?_ | refine Br.yes (decide_eq_true hm2) ?_ | refine Br.cond_t ?_ | refine Br.cond_f ?_ | refine Br.yes (by first | decide | assumption | (apply decide_eq_true; omega)) ?_ | refine Br.non (by first | decide | assumption | (apply decide_eq_false; omega)) ?_ | refine Br.cond_ff ?_ | refine Br.eqT (by omega) ?_ | refine Br.eqF (by omega) ?_ | refine Br.neT (by omega) ?_ | refine Br.neF (by omega) ?_ | refine Ld.mk' _ rfl ?_ | refine Need.mk (by first | decide | omega | kernel_rfl) ?_ | refine Nm.i64 (by omega) ?_ | refine Nm.u64 (by omega) ?_ | refine Nm.u8 (by omega) ?_) | refine Nm.mk' (sufN la m) rfl ?_ | refine And.intro rfl ?_ | (refine x_exq (TTok _ _) ?_; (conv => whnf); fail_if_success (guard_target =ₛ False)))
              all_goals (conv => whnf)
              all_goals first | rfl | exact ⟨rfl, rfl⟩ | trace_state
            · show TR _ _ _ ⟨_, uD la lb (decide (m < m + 1))⟩
              rw [decide_eq_true (p := m < m + 1) (by omega)]
              repeat' ((conv => whnf); first | (with_reducible first | refine TR.seq ?_ | refine TR.region (TTok _ _) ?_ | refine TR.drawn (TTok _ _) mixed ?_ | refine TR.block ?_ | refine TR.ret ?_ | refine TR.exit ?_ | refine TR.skip ?_ | refine TR.condB rfl ?_ | refine Br.cond_t ?_ | refine Br.cond_f ?_ | refine Br.yes (by first | decide | assumption | (apply decide_eq_true; omega)) ?_ | refine Br.non (by first | decide | assumption | (apply decide_eq_false; omega)) ?_ | refine Br.cond_ff ?_ | refine Br.eqT (by omega) ?_ | refine Br.eqF (by omega) ?_ | refine Br.neT (by omega) ?_ | refine Br.neF (by omega) ?_ | refine Ld.mk' _ rfl ?_ | refine Need.mk (by first | decide | omega | kernel_rfl) ?_ | refine Nm.i64 (by omega) ?_ | refine Nm.u64 (by omega) ?_ | refine Nm.u8 (by omega) ?_) | (refine x_exq (TTok _ _) ?_; (conv => whnf); fail_if_success (guard_target =ₛ False)))
              all_goals (conv => whnf)
              all_goals first | rfl | exact ⟨rfl, rfl⟩ | trace_state
          · have hv : undB a b = false := by
              rw [hu]
              refine decide_eq_false fun ⟨k, h5, h6⟩ => ?_
              by_cases e : k = rgN la
              · subst e
                rw [sufN_last hra] at h6
                exact q1 h6.symm
              · exact hex ⟨k, by omega, h6⟩
            rw [hv]
            refine TWK.rangeM (TTok _ _) (gf := 80) (c0 := 7) (v0 := 0) (ty := 9) (u := .string la) (N := rgN la) (n := 8) (xs := lbXs la) (C := fun k => uD la lb false) rfl (fun k _ => ⟨1, rfl⟩) rfl (fun k _ => own_all rfl (Nat.le_of_ble_eq_true rfl)) ⟨Tryz.f80, Tryz.func80, by kernel_rfl, by kernel_rfl⟩ (labels_it la hsz (rgN la) hLN) (fun k _ => rfl) (fun k hk => ?_) ?_
            · have p0 := lbPos_nn la k
              have p1 := hLN.le k (by omega)
              have hne : ¬ sufN la k = lb := fun e => hex ⟨k, by omega, e⟩
              unfold lbXs
              repeat' ((conv => whnf); first | (with_reducible first | refine TR.seq ?_ | refine TR.region (TTok _ _) ?_ | refine TR.drawn (TTok _ _) mixed ?_ | refine TR.block ?_ | refine TR.ret ?_ | refine TR.exit ?_ | refine TR.skip ?_ | refine TR.condB rfl ?_ | refine Br.non (decide_eq_false hne) ?_ | refine Br.cond_t ?_ | refine Br.cond_f ?_ | refine Br.yes (by first | decide | assumption | (apply decide_eq_true; omega)) ?_ | refine Br.non (by first | decide | assumption | (apply decide_eq_false; omega)) ?_ | refine Br.cond_ff ?_ | refine Br.eqT (by omega) ?_ | refine Br.eqF (by omega) ?_ | refine Br.neT (by omega) ?_ | refine Br.neF (by omega) ?_ | refine Ld.mk' _ rfl ?_ | refine Need.mk (by first | decide | omega | kernel_rfl) ?_ | refine Nm.i64 (by omega) ?_ | refine Nm.u64 (by omega) ?_ | refine Nm.u8 (by omega) ?_) | refine Nm.mk' (sufN la k) rfl ?_ | refine And.intro rfl ?_ | (refine x_exq (TTok _ _) ?_; (conv => whnf); fail_if_success (guard_target =ₛ False)))
              all_goals (conv => whnf)
              all_goals first | rfl | exact ⟨rfl, rfl⟩ | trace_state
            · skip
              repeat' ((conv => whnf); first | (with_reducible first | refine TR.seq ?_ | refine TR.region (TTok _ _) ?_ | refine TR.drawn (TTok _ _) mixed ?_ | refine TR.block ?_ | refine TR.ret ?_ | refine TR.exit ?_ | refine TR.skip ?_ | refine TR.condB rfl ?_ | refine Br.cond_t ?_ | refine Br.cond_f ?_ | refine Br.yes (by first | decide | assumption | (apply decide_eq_true; omega)) ?_ | refine Br.non (by first | decide | assumption | (apply decide_eq_false; omega)) ?_ | refine Br.cond_ff ?_ | refine Br.eqT (by omega) ?_ | refine Br.eqF (by omega) ?_ | refine Br.neT (by omega) ?_ | refine Br.neF (by omega) ?_ | refine Ld.mk' _ rfl ?_ | refine Need.mk (by first | decide | omega | kernel_rfl) ?_ | refine Nm.i64 (by omega) ?_ | refine Nm.u64 (by omega) ?_ | refine Nm.u8 (by omega) ?_) | (refine x_exq (TTok _ _) ?_; (conv => whnf); fail_if_success (guard_target =ₛ False)))
              all_goals (conv => whnf)
              all_goals first | rfl | exact ⟨rfl, rfl⟩ | trace_state
end Go.Proofs.YtdmgmkifjboojaaGreatDoor
set_option maxRecDepth 100000
set_option linter.unusedVariables false
namespace Go.Proofs.YtdmgmkifjboojaaGreatDoor
open Go.SX
def KK : Nat → Option KSpec := fun _ => none
def Kd : Nat → Bool := fun _ => false
def Ka : Nat → List Value → Option AV
  | 22, [.string a, .string b] => match Nat.ble a.data.toList.length 1000 && Nat.ble b.data.toList.length 1000 with
    | true => some (.v (.bool (undC a b)))
    | false => none
  | _, _ => none
theorem Ka_ok (I : World → Prop) : ∀ f vs R, Ka f vs = some R → ∀ w, I w → RetA Tryz.prog f vs w R := by
  intro f vs R h w hw
  unfold Ka at h
  split at h
  · rename_i a b
    split at h
    · rename_i hl
      cases h
      simp only [Bool.and_eq_true] at hl
      have h1 := Nat.le_of_ble_eq_true hl.1
      have h2 := Nat.le_of_ble_eq_true hl.2
      rw [undC_eq]
      exact (nunder a b (by show a.data.size < _; rw [← Array.length_toList]; omega) (by show b.data.size < _; rw [← Array.length_toList]; omega) w).toA
    · cases h
  · cases h
theorem examples_run : runFD Kd Ka 339 KK GG (fun f => Tryz.prog.funcs[f]?) TT 1000 14 Tryz.f15 [] (wantB true) = true := by kernel_rfl
theorem examples_ret (I : World → Prop) (hI : ∀ w w', I w → Mod w w' (fun _ => False) → I w') {w : World} (h : I w) : Ret Tryz.prog 15 [] w (.bool true) := by
  have hr := examples_run
  unfold runFD at hr
  split at hr
  · rename_i c hb
    exact Ret.runBD (I := fun _ => True) (fun w' hm => trivial) (fun f => Tryz.prog.funcs[f]?) GG (fun w hw g cells hg => by cases hg) Kd (fun f hf => by cases hf) Ka (Ka_ok _) 339 Tryz.underlying339 KK (fun f sp hf => by cases hf) 1000 14 (TTok 0 _) mixed (fun f fn hf => hf) Tryz.func15 (by kernel_rfl) hb hr wantB_eq
  · cases hr
end Go.Proofs.YtdmgmkifjboojaaGreatDoor
set_option maxRecDepth 100000
set_option linter.unusedVariables false
set_option linter.unusedSimpArgs false
namespace Go.Proofs.YtdmgmkifjboojaaGreatDoor
open Go.SX
def SvAt (I : World → Prop) (sv : Value) (m : Nat) (us : List Value) : Prop :=
  us.length = m * 3 ∧ (∀ q, q ∈ us → q.oneCell' = true) ∧ m < 1099511627776 ∧ ((sv = .slice none 0 0 ∧ m = 0) ∨ ∃ ad c, sv = .slice (some ad) m c ∧ ∀ w, I w → ∀ j q, us[j]? = some q → w.cell? (ad.add j) = some q)
def clC (us : List Value) (v : Nat) : List (Option Chunk) := [some ⟨.row, 38, 3, v, us.map .v⟩]
theorem clone_con (I : World → Prop) (sv : Value) (m : Nat) (us : List Value) (h : SvAt I sv m us) : Con Tryz.prog I 46 (fun _ => [.v sv]) (fun _ => []) (fun _ : Nat => True) (fun p s => .sl (s 0) p 0 m) (fun p _ => clC us p) (fun _ => False) := by
  obtain ⟨h1, h2, h3, h4⟩ := h
  refine Con.of (TTok _ _) Tryz.func46 (by kernel_rfl) rfl rfl rfl (fun σ => rfl) (fun σ => rfl) (fun _ _ _ => rfl) (fun _ σ _ => by simp [clC, mapR, renK, renL_vals]) (fun _ _ => CEnd.of rfl rfl (by simp [clC, refsInC, refsInL_vals])) ?_
  rcases h4 with ⟨rfl, rfl⟩ | ⟨ad, c, rfl, h5⟩
  · obtain rfl : us = [] := List.eq_nil_of_length_eq_zero (by omega)
    repeat' ((conv => whnf); first | refine TR.nil_slot (code := .ret) 2 0 38 3 rfl rfl ?_ | (with_reducible first | refine TR.seq ?_ | refine TR.regionL ?_ | refine TR.drawn (TTok _ _) mixed ?_ | refine TR.block ?_ | refine TR.ret ?_ | refine TR.exit ?_ | refine TR.skip ?_ | refine TR.condB rfl ?_ | refine TRL.nil ?_ | refine Br.cond_t ?_ | refine Br.cond_f ?_ | refine Br.yes (by first | decide | assumption | (apply decide_eq_true; omega)) ?_ | refine Br.non (by first | decide | assumption | (apply decide_eq_false; omega)) ?_ | refine Br.cond_ff ?_ | refine Br.eqT (by omega) ?_ | refine Br.eqF (by omega) ?_ | refine Br.neT (by omega) ?_ | refine Br.neF (by omega) ?_ | refine Ld.mk' _ rfl ?_ | refine Need.mk (by first | decide | omega | kernel_rfl) ?_ | refine Nm.i64 (by omega) ?_ | refine Nm.u64 (by omega) ?_ | refine Nm.u8 (by omega) ?_ | refine Nm.keep ?_ | refine Need.mk (by dsimp only; omega) ?_) | refine Br.non rfl ?_ | refine Br.yes rfl ?_ | refine x_eq_sl_nil (TTok _ _) _ (.inl rfl) rfl rfl rfl rfl rfl ?_ | refine TRL.step (TTok _ _) ?_ | (refine x_exq (TTok _ _) ?_; (conv => whnf); fail_if_success (guard_target =ₛ False)))
    all_goals (conv => whnf)
    all_goals first | exact ⟨0, trivial, rfl, rfl, trivial⟩ | trace_state
  · skip
    repeat' ((conv => whnf); first | refine TR.mv 5 0 rfl rfl rfl (Nat.zero_le _) (Nat.zero_le _) ?_ | (with_reducible first | refine TR.seq ?_ | refine TR.regionL ?_ | refine TR.drawn (TTok _ _) mixed ?_ | refine TR.block ?_ | refine TR.ret ?_ | refine TR.exit ?_ | refine TR.skip ?_ | refine TR.condB rfl ?_ | refine TRL.nil ?_ | refine Br.cond_t ?_ | refine Br.cond_f ?_ | refine Br.yes (by first | decide | assumption | (apply decide_eq_true; omega)) ?_ | refine Br.non (by first | decide | assumption | (apply decide_eq_false; omega)) ?_ | refine Br.cond_ff ?_ | refine Br.eqT (by omega) ?_ | refine Br.eqF (by omega) ?_ | refine Br.neT (by omega) ?_ | refine Br.neF (by omega) ?_ | refine Ld.mk' _ rfl ?_ | refine Need.mk (by first | decide | omega | kernel_rfl) ?_ | refine Nm.i64 (by omega) ?_ | refine Nm.u64 (by omega) ?_ | refine Nm.u8 (by omega) ?_ | refine Nm.keep ?_ | refine Need.mk (by dsimp only; omega) ?_) | refine Br.non rfl ?_ | refine Br.yes rfl ?_ | refine x_eq_sl_nil (TTok _ _) _ (.inl rfl) rfl rfl rfl rfl rfl ?_ | refine x_append (cr := []) (m := m) (l := us.map .v) (TTok _ _) rfl rfl rfl rfl rfl rfl rfl rfl rfl rfl (by decide) rfl rfl (Src.ext rfl h1 h2 h5) (fun _ _ h => by cases h) (by unfold maxLen; omega) (by dsimp only; omega) ?_ | refine TRL.step (TTok _ _) ?_ | (refine x_exq (TTok _ _) ?_; (conv => whnf); fail_if_success (guard_target =ₛ False)))
    all_goals (conv => whnf)
    all_goals
      refine ⟨1, trivial, ?_, ?_⟩
      · show AV.sl 0 1 0 (0 + m) = AV.sl 0 1 0 m
        rw [Nat.zero_add]
      · refine ⟨?_, trivial⟩
        show some (Chunk.mk .row 38 3 1 (swL 5 0 (us.map .v))) = _
        rw [swL_vals]
end Go.Proofs.YtdmgmkifjboojaaGreatDoor
set_option maxRecDepth 100000
set_option linter.unusedVariables false
set_option linter.unusedSimpArgs false
namespace Go.Proofs.YtdmgmkifjboojaaGreatDoor
open Go.SX
structure Up where
  name : ByteArray
  ad : Option Addr
  m : Nat
  cp : Nat
  fwd : Bool
def Up.sv (u : Up) : Value := .slice u.ad u.m u.cp
structure An where
  name : ByteArray
  tag : Int
  alg : Int
  kind : Int
  dig : ByteArray
def upC (u : Up) : List Value := [.string u.name, .slice u.ad u.m u.cp, .bool u.fwd]
def upsC (l : List Up) : List Value := l.flatMap upC
def anC (a : An) : List Value := [.string a.name, .int .i64 a.tag, .int .i64 a.alg, .int .i64 a.kind, .string a.dig]
def ansC (l : List An) : List Value := l.flatMap anC
def up0 : Up := ⟨⟨#[]⟩, none, 0, 0, false⟩
noncomputable def stepU (n : ByteArray) (b u : Up) : Up := if undB n u.name = true ∧ b.name.size < u.name.size then u else b
noncomputable def bestU (n : ByteArray) (l : List Up) : Up := l.foldl (stepU n) up0
theorem flatMap_len {α : Type} (f : α → List Value) (k : Nat) (hf : ∀ a, (f a).length = k) : ∀ l : List α, (l.flatMap f).length = l.length * k
  | [] => by simp
  | a :: l => by rw [List.flatMap_cons, List.length_append, flatMap_len f k hf l, hf, List.length_cons, Nat.succ_mul]; omega
theorem subL_flat {α : Type} (f : α → List Value) (k : Nat) (hf : ∀ a, (f a).length = k) : ∀ (l : List α) (i : Nat) (a : α), l[i]? = some a → subL ((l.flatMap f).map .v) (i * k) k = some ((f a).map .v)
  | [], i, a, h => by simp at h
  | b :: l, 0, a, h => by
    simp only [List.getElem?_cons_zero, Option.some.injEq] at h
    subst h
    have : ∀ (xs ys : List AV), subL (xs ++ ys) 0 xs.length = some xs := by
      intro xs
      induction xs with
      | nil => intro ys; cases ys <;> rfl
      | cons x xs ih => intro ys; simp only [List.cons_append, List.length_cons, subL, ih ys]
    have h2 := this ((f b).map .v) ((l.flatMap f).map .v)
    rw [List.length_map, hf] at h2
    rw [List.flatMap_cons, List.map_append, Nat.zero_mul]
    exact h2
  | b :: l, i + 1, a, h => by
    have ih := subL_flat f k hf l i a (by simpa using h)
    have : ∀ (xs ys : List AV) (m q : Nat), subL (xs ++ ys) (xs.length + m) q = subL ys m q := by
      intro xs
      induction xs with
      | nil => intro ys m q; simp
      | cons x xs ih =>
        intro ys m q
        rw [List.cons_append, List.length_cons, show xs.length + 1 + m = (xs.length + m) + 1 by omega]
        simp only [subL]
        exact ih ys m q
    have h2 := this ((f b).map .v) ((l.flatMap f).map .v) (i * k) k
    rw [List.length_map, hf] at h2
    rw [List.flatMap_cons, List.map_append, show (i + 1) * k = k + i * k by rw [Nat.succ_mul]; omega, h2]
    exact ih
theorem bestU_step (n : ByteArray) (l : List Up) (i : Nat) (u : Up) (h : l[i]? = some u) : bestU n (l.take (i + 1)) = stepU n (bestU n (l.take i)) u := by
  unfold bestU
  rw [List.take_add_one, h]
  simp [List.foldl_append]
theorem bestU_mem (n : ByteArray) (l : List Up) : bestU n l = up0 ∨ bestU n l ∈ l := by
  have : ∀ (l : List Up) (b : Up), l.foldl (stepU n) b = b ∨ l.foldl (stepU n) b ∈ l := by
    intro l
    induction l with
    | nil => intro b; exact .inl rfl
    | cons u l ih =>
      intro b
      rw [List.foldl_cons]
      have hs : stepU n b u = u ∨ stepU n b u = b := by
        unfold stepU
        split
        · exact .inl rfl
        · exact .inr rfl
      rcases ih (stepU n b u) with h | h
      · rw [h]
        rcases hs with h2 | h2
        · rw [h2]; exact .inr (by simp)
        · rw [h2]; exact .inl rfl
      · exact .inr (List.mem_cons_of_mem _ h)
  exact this l up0
theorem noRefL_vals (ms : List Nat) : ∀ us : List Value, noRefL ms (us.map .v) = true
  | [] => rfl
  | u :: us => by simp only [List.map_cons, noRefL, noRef, noRefL_vals ms us, Bool.and_self]
def coH (l : List Up) (la : List An) (v v2 : Nat) : List (Option Chunk) := [some ⟨.ro, 47, 3, v, (upsC l).map .v⟩, some ⟨.ro, 51, 5, v2, (ansC la).map .v⟩]
def coC (l : List Up) (la : List An) (v v2 : Nat) (us : List Value) (p : Nat) : List (Option Chunk) := [some ⟨.ro, 47, 3, v, (upsC l).map .v⟩, some ⟨.ro, 51, 5, v2, (ansC la).map .v⟩, some ⟨.row, 38, 3, p, us.map .v⟩]
def SvIn (I : World → Prop) (l : List Up) (f : Up → Nat × List Value) : Prop := ∀ u, u ∈ up0 :: l → SvAt I u.sv (f u).1 (f u).2
set_option maxHeartbeats 8000000 in
theorem upstream_con (I : World → Prop) (n : ByteArray) (hn : n.size < 1073741824) (l : List Up) (la : List An) (v v2 : Nat) (hl : l.length < 1073741824) (hs : ∀ u, u ∈ l → u.name.size < 1073741824) (f : Up → Nat × List Value) (hf : SvIn I l f) (a0 a1 a2 i5 i6 i7 i8 : Value) :
    Con Tryz.prog I 20 (fun s => [.agg [.v a0, .v a1, .v a2, .sl (s 0) v 0 l.length, .sl (s 1) v2 0 la.length, .v i5, .v i6, .v i7, .v i8], .v (.string n)]) (fun _ => coH l la v v2) (fun _ : Nat => True)
      (fun p s => .tup [.agg [.v (.string (bestU n l).name), .sl (s 2) p 0 (f (bestU n l)).1, .v (.bool (bestU n l).fwd)], .v (.bool (!decide ((bestU n l).name = ⟨#[]⟩)))]) (fun p _ => coC l la v v2 (f (bestU n l)).2 p) (fun _ => False) := by
  have hb : SvAt I (bestU n l).sv (f (bestU n l)).1 (f (bestU n l)).2 := by
    refine hf _ ?_
    rcases bestU_mem n l with h | h
    · rw [h]; simp
    · exact List.mem_cons_of_mem _ h
  obtain ⟨B, hB⟩ : ∃ B, bestU n l = B := ⟨_, rfl⟩
  rw [hB] at hb ⊢
  refine Con.of (TTok _ _) Tryz.func20 (by kernel_rfl) rfl (by simp [coH, refsInC, refsInL_vals]) rfl (fun σ => rfl) (fun σ => by simp [coH, mapR, renK, renL_vals]) (fun _ _ _ => rfl) (fun _ σ _ => by simp [coC, mapR, renK, renL_vals]) (fun _ _ => CEnd.of (by simp [coH, coC, keepS, keep1, allOwn, CK.owned]) rfl (by simp [coC, refsInC, refsInL_vals])) ?_
  unfold coH
  repeat' ((conv => whnf); first | (with_reducible first | refine TR.seq ?_ | refine TR.regionL ?_ | refine TR.drawn (TTok _ _) mixed ?_ | refine TR.block ?_ | refine TR.ret ?_ | refine TR.exit ?_ | refine TR.skip ?_ | refine TR.condB rfl ?_ | refine TRL.nil ?_ | refine Br.cond_t ?_ | refine Br.cond_f ?_ | refine Br.yes (by first | decide | assumption | (apply decide_eq_true; omega)) ?_ | refine Br.non (by first | decide | assumption | (apply decide_eq_false; omega)) ?_ | refine Br.cond_ff ?_ | refine Br.eqT (by omega) ?_ | refine Br.eqF (by omega) ?_ | refine Br.neT (by omega) ?_ | refine Br.neF (by omega) ?_ | refine Ld.mk' _ rfl ?_ | refine Need.mk (by first | decide | omega | kernel_rfl) ?_ | refine Nm.i64 (by omega) ?_ | refine Nm.u64 (by omega) ?_ | refine Nm.u8 (by omega) ?_ | refine Nm.keep ?_ | refine Need.mk (by dsimp only; omega) ?_) | refine TRL.step (TTok _ _) ?_ | (refine x_exq (TTok _ _) ?_; (conv => whnf); fail_if_success (guard_target =ₛ False)))
  all_goals (conv => whnf)
  have hsz : ∀ k : Nat, (bestU n (l.take k)).name.size < 1073741824 := by
    intro k
    rcases bestU_mem n (l.take k) with h | h
    · rw [h]; decide
    · exact hs _ (List.mem_of_mem_take h)
  refine TR.loopH (fun x : Int × Up => [(12, .v (.int .i64 x.1))]) (fun x => [(6, ⟨.own, 47, 3, 0, [.v (.string x.2.name), .v (.slice x.2.ad x.2.m x.2.cp), .v (.bool x.2.fwd)]⟩)]) (fun x => 0 ≤ x.1 ∧ x.1 ≤ l.length ∧ bestU n (l.take x.1.toNat) = x.2) (fun x => (l.length - x.1).toNat) (0, up0) ⟨by simp, by simp, rfl⟩ ?_ ?_
  · repeat' ((conv => whnf); first | exact trivial | exact Fgt.nil | exact Fgt.mk rfl rfl rfl | exact Fgt.mk rfl (by simp only [noRefC, noRefL_vals]; rfl) rfl | refine And.intro rfl ?_ | refine And.intro ?_ ?_)
  · rintro ⟨i, ⟨bn, ba, bm, bc, bf⟩⟩ ⟨i0, i1, hbe⟩
    dsimp only at i0 i1 hbe
    have hbz := hsz i.toNat
    rw [hbe] at hbz
    dsimp only at hbz
    by_cases hi : i < l.length
    · obtain ⟨u, hu⟩ : ∃ u, l[i.toNat]? = some u := ⟨l[i.toNat], by rw [List.getElem?_eq_getElem]⟩
      have huz := hs u (List.mem_of_getElem? hu)
      have hsub : ∀ o, o = i.toNat * 3 → subL ((upsC l).map .v) o 3 = some [.v (.string u.name), .v (.slice u.ad u.m u.cp), .v (.bool u.fwd)] := by
        rintro _ rfl
        exact subL_flat upC 3 (fun _ => rfl) l i.toNat u hu
      have hst := bestU_step n l i.toNat u hu
      rw [hbe] at hst
      have hnx : (i + 1).toNat = i.toNat + 1 := by omega
      have hc := fun w => nunder n u.name (by omega) (by omega) w
      obtain ⟨un, ua, um, uc, uf⟩ := u
      dsimp only at huz hsub hc
      by_cases h1 : undB n un = true
      · rw [h1] at hc
        by_cases h2 : bn.size < un.size
        · have hst' : bestU n (l.take (i.toNat + 1)) = ⟨un, ua, um, uc, uf⟩ := by rw [hst]; exact if_pos ⟨h1, h2⟩
          have hgt : decide ((un.size : Int) > (bn.size : Int)) = true := decide_eq_true (by omega)
          repeat' ((conv => whnf); first | (with_reducible first | refine TR.seq ?_ | refine TR.regionL ?_ | refine TR.drawn (TTok _ _) mixed ?_ | refine TR.block ?_ | refine TR.ret ?_ | refine TR.exit ?_ | refine TR.skip ?_ | refine TR.condB rfl ?_ | refine TRL.nil ?_ | refine Br.cond_t ?_ | refine Br.cond_f ?_ | refine Br.yes (by first | decide | assumption | (apply decide_eq_true; omega)) ?_ | refine Br.non (by first | decide | assumption | (apply decide_eq_false; omega)) ?_ | refine Br.cond_ff ?_ | refine Br.eqT (by omega) ?_ | refine Br.eqF (by omega) ?_ | refine Br.neT (by omega) ?_ | refine Br.neF (by omega) ?_ | refine Ld.mk' _ (hsub _ (by dsimp only; omega)) ?_ | refine Ld.mk' _ rfl ?_ | refine Need.mk (by first | decide | omega | kernel_rfl) ?_ | refine Nm.i64 (by omega) ?_ | refine Nm.u64 (by omega) ?_ | refine Nm.u8 (by omega) ?_ | refine Nm.keep ?_ | refine Need.mk (by dsimp only; omega) ?_ | refine x_ret (f := 22) rfl rfl (fun w _ => hc w) ?_) | refine Br.yes hgt ?_ | refine Br.non hgt ?_ | refine Br.non rfl ?_ | refine Br.yes rfl ?_ | refine TRL.step (TTok _ _) ?_ | (refine x_exq (TTok _ _) ?_; (conv => whnf); fail_if_success (guard_target =ₛ False)))
          all_goals (conv => whnf)
          all_goals refine ⟨(i + 1, ⟨un, ua, um, uc, uf⟩), ⟨by dsimp only; omega, by dsimp only; omega, by dsimp only; rw [hnx]; exact hst'⟩, by dsimp only; omega, ?_⟩
          all_goals repeat' ((conv => whnf); first | exact trivial | exact Fgt.nil | exact Fgt.mk rfl rfl rfl | exact Fgt.mk rfl (by simp only [noRefC, noRefL_vals]; rfl) rfl | refine And.intro rfl ?_ | refine And.intro ?_ ?_)

        · have hst' : bestU n (l.take (i.toNat + 1)) = ⟨bn, ba, bm, bc, bf⟩ := by rw [hst]; exact if_neg (fun h => h2 h.2)
          have hgt : decide ((un.size : Int) > (bn.size : Int)) = false := decide_eq_false (by omega)
          repeat' ((conv => whnf); first | (with_reducible first | refine TR.seq ?_ | refine TR.regionL ?_ | refine TR.drawn (TTok _ _) mixed ?_ | refine TR.block ?_ | refine TR.ret ?_ | refine TR.exit ?_ | refine TR.skip ?_ | refine TR.condB rfl ?_ | refine TRL.nil ?_ | refine Br.cond_t ?_ | refine Br.cond_f ?_ | refine Br.yes (by first | decide | assumption | (apply decide_eq_true; omega)) ?_ | refine Br.non (by first | decide | assumption | (apply decide_eq_false; omega)) ?_ | refine Br.cond_ff ?_ | refine Br.eqT (by omega) ?_ | refine Br.eqF (by omega) ?_ | refine Br.neT (by omega) ?_ | refine Br.neF (by omega) ?_ | refine Ld.mk' _ (hsub _ (by dsimp only; omega)) ?_ | refine Ld.mk' _ rfl ?_ | refine Need.mk (by first | decide | omega | kernel_rfl) ?_ | refine Nm.i64 (by omega) ?_ | refine Nm.u64 (by omega) ?_ | refine Nm.u8 (by omega) ?_ | refine Nm.keep ?_ | refine Need.mk (by dsimp only; omega) ?_ | refine x_ret (f := 22) rfl rfl (fun w _ => hc w) ?_) | refine Br.yes hgt ?_ | refine Br.non hgt ?_ | refine Br.non rfl ?_ | refine Br.yes rfl ?_ | refine TRL.step (TTok _ _) ?_ | (refine x_exq (TTok _ _) ?_; (conv => whnf); fail_if_success (guard_target =ₛ False)))
          all_goals (conv => whnf)
          all_goals refine ⟨(i + 1, ⟨bn, ba, bm, bc, bf⟩), ⟨by dsimp only; omega, by dsimp only; omega, by dsimp only; rw [hnx]; exact hst'⟩, by dsimp only; omega, ?_⟩
          all_goals repeat' ((conv => whnf); first | exact trivial | exact Fgt.nil | exact Fgt.mk rfl rfl rfl | exact Fgt.mk rfl (by simp only [noRefC, noRefL_vals]; rfl) rfl | refine And.intro rfl ?_ | refine And.intro ?_ ?_)

      · have hst' : bestU n (l.take (i.toNat + 1)) = ⟨bn, ba, bm, bc, bf⟩ := by rw [hst]; exact if_neg (fun h => h1 h.1)
        have h1' : undB n un = false := by
          cases e : undB n un with
          | false => rfl
          | true => exact (h1 e).elim
        rw [h1'] at hc
        have hgt : True := trivial
        repeat' ((conv => whnf); first | (with_reducible first | refine TR.seq ?_ | refine TR.regionL ?_ | refine TR.drawn (TTok _ _) mixed ?_ | refine TR.block ?_ | refine TR.ret ?_ | refine TR.exit ?_ | refine TR.skip ?_ | refine TR.condB rfl ?_ | refine TRL.nil ?_ | refine Br.cond_t ?_ | refine Br.cond_f ?_ | refine Br.yes (by first | decide | assumption | (apply decide_eq_true; omega)) ?_ | refine Br.non (by first | decide | assumption | (apply decide_eq_false; omega)) ?_ | refine Br.cond_ff ?_ | refine Br.eqT (by omega) ?_ | refine Br.eqF (by omega) ?_ | refine Br.neT (by omega) ?_ | refine Br.neF (by omega) ?_ | refine Ld.mk' _ (hsub _ (by dsimp only; omega)) ?_ | refine Ld.mk' _ rfl ?_ | refine Need.mk (by first | decide | omega | kernel_rfl) ?_ | refine Nm.i64 (by omega) ?_ | refine Nm.u64 (by omega) ?_ | refine Nm.u8 (by omega) ?_ | refine Nm.keep ?_ | refine Need.mk (by dsimp only; omega) ?_ | refine x_ret (f := 22) rfl rfl (fun w _ => hc w) ?_) | refine Br.yes hgt ?_ | refine Br.non hgt ?_ | refine Br.non rfl ?_ | refine Br.yes rfl ?_ | refine TRL.step (TTok _ _) ?_ | (refine x_exq (TTok _ _) ?_; (conv => whnf); fail_if_success (guard_target =ₛ False)))
        all_goals (conv => whnf)
        all_goals refine ⟨(i + 1, ⟨bn, ba, bm, bc, bf⟩), ⟨by dsimp only; omega, by dsimp only; omega, by dsimp only; rw [hnx]; exact hst'⟩, by dsimp only; omega, ?_⟩
        all_goals repeat' ((conv => whnf); first | exact trivial | exact Fgt.nil | exact Fgt.mk rfl rfl rfl | exact Fgt.mk rfl (by simp only [noRefC, noRefL_vals]; rfl) rfl | refine And.intro rfl ?_ | refine And.intro ?_ ?_)

    · have hiL : i.toNat = l.length := by omega
      rw [hiL, List.take_length, hB] at hbe
      subst hbe
      dsimp only at hb ⊢
      have hcl := clone_con I (.slice ba bm bc) _ _ hb
      repeat' ((conv => whnf); first | (refine TR.drop 2 rfl (Nat.le_refl 2) (by simp only [unO, noRefC, noRefL_vals]; rfl) ?_) | (with_reducible first | refine TR.seq ?_ | refine TR.regionL ?_ | refine TR.drawn (TTok _ _) mixed ?_ | refine TR.block ?_ | refine TR.ret ?_ | refine TR.exit ?_ | refine TR.skip ?_ | refine TR.condB rfl ?_ | refine TRL.nil ?_ | refine Br.cond_t ?_ | refine Br.cond_f ?_ | refine Br.yes (by first | decide | assumption | (apply decide_eq_true; omega)) ?_ | refine Br.non (by first | decide | assumption | (apply decide_eq_false; omega)) ?_ | refine Br.cond_ff ?_ | refine Br.eqT (by omega) ?_ | refine Br.eqF (by omega) ?_ | refine Br.neT (by omega) ?_ | refine Br.neF (by omega) ?_ | refine Ld.mk' _ rfl ?_ | refine Need.mk (by first | decide | omega | kernel_rfl) ?_ | refine Nm.i64 (by omega) ?_ | refine Nm.u64 (by omega) ?_ | refine Nm.u8 (by omega) ?_ | refine Nm.keep ?_ | refine Need.mk (by dsimp only; omega) ?_) | (refine TRL.con [] [2] hcl rfl rfl rfl rfl trivial rfl rfl (fun p _ => ⟨⟨rfl, trivial⟩, ?_⟩) (fun _ h => h.elim)) | refine TRL.step (TTok _ _) ?_ | (refine x_exq (TTok _ _) ?_; (conv => whnf); fail_if_success (guard_target =ₛ False)))
      all_goals (conv => whnf)
      all_goals exact ⟨_, trivial, rfl, rfl, rfl, rfl, trivial⟩
end Go.Proofs.YtdmgmkifjboojaaGreatDoor
set_option maxRecDepth 100000
set_option linter.unusedVariables false
set_option linter.unusedSimpArgs false
namespace Go.Proofs.YtdmgmkifjboojaaGreatDoor
open Go.SX
noncomputable def stepA (n : ByteArray) (b : ByteArray) (a : An) : ByteArray := if undB n a.name = true ∧ b.size < a.name.size then a.name else b
noncomputable def bestA (n : ByteArray) (l : List An) : ByteArray := l.foldl (stepA n) ⟨#[]⟩
def dsC (a : An) : List Value := [.int .i64 a.tag, .int .i64 a.alg, .int .i64 a.kind, .string a.dig]
noncomputable def ownA (b : ByteArray) (l : List An) : List An := l.filter fun a => eqB a.name b
theorem bestA_step (n : ByteArray) (l : List An) (i : Nat) (u : An) (h : l[i]? = some u) : bestA n (l.take (i + 1)) = stepA n (bestA n (l.take i)) u := by
  unfold bestA
  rw [List.take_add_one, h]
  simp [List.foldl_append]
theorem bestA_mem (n : ByteArray) (l : List An) : bestA n l = ⟨#[]⟩ ∨ ∃ a, a ∈ l ∧ a.name = bestA n l ∧ undB n a.name = true := by
  have : ∀ (l : List An) (b : ByteArray), l.foldl (stepA n) b = b ∨ ∃ a, a ∈ l ∧ a.name = l.foldl (stepA n) b ∧ undB n a.name = true := by
    intro l
    induction l with
    | nil => intro b; exact .inl rfl
    | cons u l ih =>
      intro b
      rw [List.foldl_cons]
      rcases ih (stepA n b u) with h | ⟨a, h1, h2, h3⟩
      · by_cases hc : undB n u.name = true ∧ b.size < u.name.size
        · exact .inr ⟨u, by simp, by rw [h]; unfold stepA; rw [if_pos hc], hc.1⟩
        · refine .inl ?_
          rw [h]
          unfold stepA
          rw [if_neg hc]
      · exact .inr ⟨a, List.mem_cons_of_mem _ h1, h2, h3⟩
  exact this l ⟨#[]⟩
theorem ownA_step (b : ByteArray) (l : List An) (i : Nat) (u : An) (h : l[i]? = some u) : ownA b (l.take (i + 1)) = if eqB u.name b = true then ownA b (l.take i) ++ [u] else ownA b (l.take i) := by
  unfold ownA
  rw [List.take_add_one, h]
  simp only [Option.toList, List.filter_append, List.filter_cons, List.filter_nil]
  split <;> simp
theorem noRefL_cat (ms : List Nat) : ∀ a b : List AV, noRefL ms (a ++ b) = (noRefL ms a && noRefL ms b)
  | [], b => by simp [noRefL]
  | x :: a, b => by simp only [List.cons_append, noRefL, noRefL_cat ms a b, Bool.and_assoc]
def anCC (l : List Up) (la : List An) (v v2 : Nat) (o : List An) (p : Nat) : List (Option Chunk) := [some ⟨.ro, 47, 3, v, (upsC l).map .v⟩, some ⟨.ro, 51, 5, v2, (ansC la).map .v⟩, some ⟨.row, 49, 4, p, (o.flatMap dsC).map .v⟩]
set_option maxHeartbeats 8000000 in
theorem anchor_nil (I : World → Prop) (n : ByteArray) (hn : n.size < 1073741824) (l : List Up) (la : List An) (v v2 : Nat) (hl : la.length < 1073741824) (hs : ∀ u, u ∈ la → u.name.size < 1073741824) (a0 a1 a2 i5 i6 i7 i8 : Value) (hB : bestA n la = ⟨#[]⟩) :
    Con Tryz.prog I 21 (fun s => [.agg [.v a0, .v a1, .v a2, .sl (s 0) v 0 l.length, .sl (s 1) v2 0 la.length, .v i5, .v i6, .v i7, .v i8], .v (.string n)]) (fun _ => coH l la v v2) (fun _ : Nat => True) (fun p s => .tup [.v (.string ⟨#[]⟩), .sl (s 2) p 0 0, .v (.bool false)]) (fun p _ => anCC l la v v2 [] p) (fun _ => False) := by
  refine Con.of (TTok _ _) Tryz.func21 (by kernel_rfl) rfl (by simp [coH, refsInC, refsInL_vals]) rfl (fun σ => rfl) (fun σ => by simp [coH, mapR, renK, renL_vals]) (fun _ _ _ => rfl) (fun _ σ _ => by simp [anCC, mapR, renK, renL_vals, renL]) (fun _ _ => CEnd.of (by simp [coH, anCC, keepS, keep1, allOwn, CK.owned]) rfl (by simp [anCC, refsInC, refsInL_vals, refsInL])) ?_
  unfold coH
  repeat' ((conv => whnf); first | (with_reducible first | refine TR.seq ?_ | refine TR.regionL ?_ | refine TR.drawn (TTok _ _) mixed ?_ | refine TR.block ?_ | refine TR.ret ?_ | refine TR.exit ?_ | refine TR.skip ?_ | refine TR.condB rfl ?_ | refine TRL.nil ?_ | refine Br.cond_t ?_ | refine Br.cond_f ?_ | refine Br.yes (by first | decide | assumption | (apply decide_eq_true; omega)) ?_ | refine Br.non (by first | decide | assumption | (apply decide_eq_false; omega)) ?_ | refine Br.cond_ff ?_ | refine Br.eqT (by omega) ?_ | refine Br.eqF (by omega) ?_ | refine Br.neT (by omega) ?_ | refine Br.neF (by omega) ?_ | refine Ld.mk' _ rfl ?_ | refine Need.mk (by first | decide | omega | kernel_rfl) ?_ | refine Nm.i64 (by omega) ?_ | refine Nm.u64 (by omega) ?_ | refine Nm.u8 (by omega) ?_ | refine Nm.keep ?_ | refine Need.mk (by dsimp only; omega) ?_) | refine TRL.step (TTok _ _) ?_ | (refine x_exq (TTok _ _) ?_; (conv => whnf); fail_if_success (guard_target =ₛ False)))
  all_goals (conv => whnf)
  have hsz : ∀ k : Nat, (bestA n (la.take k)).size < 1073741824 := by
    intro k
    rcases bestA_mem n (la.take k) with h | ⟨a, h1, h2, _⟩
    · rw [h]; decide
    · rw [← h2]; exact hs _ (List.mem_of_mem_take h1)
  refine TR.loopH (fun x : Int × ByteArray => [(16, .v (.int .i64 x.1)), (7, .v (.string x.2))]) (fun x => []) (fun x => 0 ≤ x.1 ∧ x.1 ≤ la.length ∧ bestA n (la.take x.1.toNat) = x.2) (fun x => (la.length - x.1).toNat) (0, ⟨#[]⟩) ⟨by simp, by simp, rfl⟩ ?_ ?_
  · repeat' ((conv => whnf); first | exact trivial | exact Fgt.nil | exact Fgt.mk rfl rfl rfl | exact Fgt.mk rfl (by simp only [noRefC, noRefL_cat, noRefL_vals]; rfl) rfl | refine And.intro rfl ?_ | refine And.intro ?_ ?_)
  · rintro ⟨i, b⟩ ⟨i0, i1, hbe⟩
    dsimp only at i0 i1 hbe
    have hbz := hsz i.toNat
    rw [hbe] at hbz
    by_cases hi : i < la.length
    · obtain ⟨u, hu⟩ : ∃ u, la[i.toNat]? = some u := ⟨la[i.toNat], by rw [List.getElem?_eq_getElem]⟩
      have huz := hs u (List.mem_of_getElem? hu)
      have hsub : ∀ o, o = i.toNat * 5 → subL ((ansC la).map .v) o 5 = some [.v (.string u.name), .v (.int .i64 u.tag), .v (.int .i64 u.alg), .v (.int .i64 u.kind), .v (.string u.dig)] := by
        rintro _ rfl
        exact subL_flat anC 5 (fun _ => rfl) la i.toNat u hu
      have hst := bestA_step n la i.toNat u hu
      rw [hbe] at hst
      have hnx : (i + 1).toNat = i.toNat + 1 := by omega
      have hc := fun w => nunder n u.name (by omega) (by omega) w
      obtain ⟨un, ut, ua, uk, ud⟩ := u
      dsimp only at huz hsub hc
      by_cases h1 : undB n un = true
      · rw [h1] at hc
        by_cases h2 : b.size < un.size
        · have hst' : bestA n (la.take (i.toNat + 1)) = un := by rw [hst]; exact if_pos ⟨h1, h2⟩
          have hgt : decide ((un.size : Int) > (b.size : Int)) = true := decide_eq_true (by omega)
          repeat' ((conv => whnf); first | (with_reducible first | refine TR.seq ?_ | refine TR.regionL ?_ | refine TR.drawn (TTok _ _) mixed ?_ | refine TR.block ?_ | refine TR.ret ?_ | refine TR.exit ?_ | refine TR.skip ?_ | refine TR.condB rfl ?_ | refine TRL.nil ?_ | refine Br.cond_t ?_ | refine Br.cond_f ?_ | refine Br.yes (by first | decide | assumption | (apply decide_eq_true; omega)) ?_ | refine Br.non (by first | decide | assumption | (apply decide_eq_false; omega)) ?_ | refine Br.cond_ff ?_ | refine Br.eqT (by omega) ?_ | refine Br.eqF (by omega) ?_ | refine Br.neT (by omega) ?_ | refine Br.neF (by omega) ?_ | refine Ld.mk' _ (hsub _ (by dsimp only; omega)) ?_ | refine Ld.mk' _ rfl ?_ | refine Need.mk (by first | decide | omega | kernel_rfl) ?_ | refine Nm.i64 (by omega) ?_ | refine Nm.u64 (by omega) ?_ | refine Nm.u8 (by omega) ?_ | refine Nm.keep ?_ | refine Need.mk (by dsimp only; omega) ?_ | refine x_ret (f := 22) rfl rfl (fun w _ => hc w) ?_) | refine Br.yes hgt ?_ | refine Br.non hgt ?_ | refine Br.non rfl ?_ | refine Br.yes rfl ?_ | refine TRL.step (TTok _ _) ?_ | (refine x_exq (TTok _ _) ?_; (conv => whnf); fail_if_success (guard_target =ₛ False)))
          all_goals (conv => whnf)
          all_goals refine ⟨(i + 1, un), ⟨by dsimp only; omega, by dsimp only; omega, by dsimp only; rw [hnx]; exact hst'⟩, by dsimp only; omega, ?_⟩
          all_goals repeat' ((conv => whnf); first | exact trivial | exact Fgt.nil | exact Fgt.mk rfl rfl rfl | exact Fgt.mk rfl (by simp only [noRefC, noRefL_cat, noRefL_vals]; rfl) rfl | refine And.intro rfl ?_ | refine And.intro ?_ ?_)

        · have hst' : bestA n (la.take (i.toNat + 1)) = b := by rw [hst]; exact if_neg (fun h => h2 h.2)
          have hgt : decide ((un.size : Int) > (b.size : Int)) = false := decide_eq_false (by omega)
          repeat' ((conv => whnf); first | (with_reducible first | refine TR.seq ?_ | refine TR.regionL ?_ | refine TR.drawn (TTok _ _) mixed ?_ | refine TR.block ?_ | refine TR.ret ?_ | refine TR.exit ?_ | refine TR.skip ?_ | refine TR.condB rfl ?_ | refine TRL.nil ?_ | refine Br.cond_t ?_ | refine Br.cond_f ?_ | refine Br.yes (by first | decide | assumption | (apply decide_eq_true; omega)) ?_ | refine Br.non (by first | decide | assumption | (apply decide_eq_false; omega)) ?_ | refine Br.cond_ff ?_ | refine Br.eqT (by omega) ?_ | refine Br.eqF (by omega) ?_ | refine Br.neT (by omega) ?_ | refine Br.neF (by omega) ?_ | refine Ld.mk' _ (hsub _ (by dsimp only; omega)) ?_ | refine Ld.mk' _ rfl ?_ | refine Need.mk (by first | decide | omega | kernel_rfl) ?_ | refine Nm.i64 (by omega) ?_ | refine Nm.u64 (by omega) ?_ | refine Nm.u8 (by omega) ?_ | refine Nm.keep ?_ | refine Need.mk (by dsimp only; omega) ?_ | refine x_ret (f := 22) rfl rfl (fun w _ => hc w) ?_) | refine Br.yes hgt ?_ | refine Br.non hgt ?_ | refine Br.non rfl ?_ | refine Br.yes rfl ?_ | refine TRL.step (TTok _ _) ?_ | (refine x_exq (TTok _ _) ?_; (conv => whnf); fail_if_success (guard_target =ₛ False)))
          all_goals (conv => whnf)
          all_goals refine ⟨(i + 1, b), ⟨by dsimp only; omega, by dsimp only; omega, by dsimp only; rw [hnx]; exact hst'⟩, by dsimp only; omega, ?_⟩
          all_goals repeat' ((conv => whnf); first | exact trivial | exact Fgt.nil | exact Fgt.mk rfl rfl rfl | exact Fgt.mk rfl (by simp only [noRefC, noRefL_cat, noRefL_vals]; rfl) rfl | refine And.intro rfl ?_ | refine And.intro ?_ ?_)

      · have hst' : bestA n (la.take (i.toNat + 1)) = b := by rw [hst]; exact if_neg (fun h => h1 h.1)
        have h1' : undB n un = false := by
          cases e : undB n un with
          | false => rfl
          | true => exact (h1 e).elim
        rw [h1'] at hc
        have hgt : True := trivial
        repeat' ((conv => whnf); first | (with_reducible first | refine TR.seq ?_ | refine TR.regionL ?_ | refine TR.drawn (TTok _ _) mixed ?_ | refine TR.block ?_ | refine TR.ret ?_ | refine TR.exit ?_ | refine TR.skip ?_ | refine TR.condB rfl ?_ | refine TRL.nil ?_ | refine Br.cond_t ?_ | refine Br.cond_f ?_ | refine Br.yes (by first | decide | assumption | (apply decide_eq_true; omega)) ?_ | refine Br.non (by first | decide | assumption | (apply decide_eq_false; omega)) ?_ | refine Br.cond_ff ?_ | refine Br.eqT (by omega) ?_ | refine Br.eqF (by omega) ?_ | refine Br.neT (by omega) ?_ | refine Br.neF (by omega) ?_ | refine Ld.mk' _ (hsub _ (by dsimp only; omega)) ?_ | refine Ld.mk' _ rfl ?_ | refine Need.mk (by first | decide | omega | kernel_rfl) ?_ | refine Nm.i64 (by omega) ?_ | refine Nm.u64 (by omega) ?_ | refine Nm.u8 (by omega) ?_ | refine Nm.keep ?_ | refine Need.mk (by dsimp only; omega) ?_ | refine x_ret (f := 22) rfl rfl (fun w _ => hc w) ?_) | refine Br.yes hgt ?_ | refine Br.non hgt ?_ | refine Br.non rfl ?_ | refine Br.yes rfl ?_ | refine TRL.step (TTok _ _) ?_ | (refine x_exq (TTok _ _) ?_; (conv => whnf); fail_if_success (guard_target =ₛ False)))
        all_goals (conv => whnf)
        all_goals refine ⟨(i + 1, b), ⟨by dsimp only; omega, by dsimp only; omega, by dsimp only; rw [hnx]; exact hst'⟩, by dsimp only; omega, ?_⟩
        all_goals repeat' ((conv => whnf); first | exact trivial | exact Fgt.nil | exact Fgt.mk rfl rfl rfl | exact Fgt.mk rfl (by simp only [noRefC, noRefL_cat, noRefL_vals]; rfl) rfl | refine And.intro rfl ?_ | refine And.intro ?_ ?_)

    · have hiL : i.toNat = la.length := by omega
      rw [hiL, List.take_length, hB] at hbe
      subst hbe
      repeat' ((conv => whnf); first | (refine TR.nil_slot (code := .ret) 5 10 49 4 rfl rfl ?_) | (refine TR.drop (c := .ret) 2 rfl (Nat.le_refl 2) (by simp only [unO, noRefC, noRefL_vals]; rfl) ?_) | refine TR.mv (cd := .ret) 10 2 rfl rfl rfl (Nat.le_of_ble_eq_true rfl) (Nat.le_refl 2) ?_ | (with_reducible first | refine TR.seq ?_ | refine TR.regionL ?_ | refine TR.drawn (TTok _ _) mixed ?_ | refine TR.block ?_ | refine TR.ret ?_ | refine TR.exit ?_ | refine TR.skip ?_ | refine TR.condB rfl ?_ | refine TRL.nil ?_ | refine Br.cond_t ?_ | refine Br.cond_f ?_ | refine Br.yes (by first | decide | assumption | (apply decide_eq_true; omega)) ?_ | refine Br.non (by first | decide | assumption | (apply decide_eq_false; omega)) ?_ | refine Br.cond_ff ?_ | refine Br.eqT (by omega) ?_ | refine Br.eqF (by omega) ?_ | refine Br.neT (by omega) ?_ | refine Br.neF (by omega) ?_ | refine Ld.mk' _ rfl ?_ | refine Need.mk (by first | decide | omega | kernel_rfl) ?_ | refine Nm.i64 (by omega) ?_ | refine Nm.u64 (by omega) ?_ | refine Nm.u8 (by omega) ?_ | refine Nm.keep ?_ | refine Need.mk (by dsimp only; omega) ?_) | refine Br.non rfl ?_ | refine Br.yes rfl ?_ | refine TRL.step (TTok _ _) ?_ | (refine x_exq (TTok _ _) ?_; (conv => whnf); fail_if_success (guard_target =ₛ False)))
      all_goals (conv => whnf)
      all_goals refine ⟨0, trivial, rfl, ?_, ?_, ?_, trivial⟩
      · show some (Chunk.mk .ro 47 3 v (swL 10 2 ((upsC l).map .v))) = _
        rw [swL_vals]
      · show some (Chunk.mk .ro 51 5 v2 (swL 10 2 ((ansC la).map .v))) = _
        rw [swL_vals]
      · rfl
set_option maxHeartbeats 8000000 in
theorem anchor_some (I : World → Prop) (n : ByteArray) (hn : n.size < 1073741824) (l : List Up) (la : List An) (v v2 : Nat) (hl : la.length < 1073741824) (hs : ∀ u, u ∈ la → u.name.size < 1073741824) (a0 a1 a2 i5 i6 i7 i8 : Value) (B : ByteArray) (hB : bestA n la = B) (hne : B ≠ ⟨#[]⟩) :
    Con Tryz.prog I 21 (fun s => [.agg [.v a0, .v a1, .v a2, .sl (s 0) v 0 l.length, .sl (s 1) v2 0 la.length, .v i5, .v i6, .v i7, .v i8], .v (.string n)]) (fun _ => coH l la v v2) (fun _ : Nat => True) (fun p s => .tup [.v (.string B), .sl (s 2) p 0 (ownA B la).length, .v (.bool true)]) (fun p _ => anCC l la v v2 (ownA B la) p) (fun _ => False) := by
  refine Con.of (TTok _ _) Tryz.func21 (by kernel_rfl) rfl (by simp [coH, refsInC, refsInL_vals]) rfl (fun σ => rfl) (fun σ => by simp [coH, mapR, renK, renL_vals]) (fun _ _ _ => rfl) (fun _ σ _ => by simp [anCC, mapR, renK, renL_vals, renL]) (fun _ _ => CEnd.of (by simp [coH, anCC, keepS, keep1, allOwn, CK.owned]) rfl (by simp [anCC, refsInC, refsInL_vals, refsInL])) ?_
  unfold coH
  repeat' ((conv => whnf); first | (with_reducible first | refine TR.seq ?_ | refine TR.regionL ?_ | refine TR.drawn (TTok _ _) mixed ?_ | refine TR.block ?_ | refine TR.ret ?_ | refine TR.exit ?_ | refine TR.skip ?_ | refine TR.condB rfl ?_ | refine TRL.nil ?_ | refine Br.cond_t ?_ | refine Br.cond_f ?_ | refine Br.yes (by first | decide | assumption | (apply decide_eq_true; omega)) ?_ | refine Br.non (by first | decide | assumption | (apply decide_eq_false; omega)) ?_ | refine Br.cond_ff ?_ | refine Br.eqT (by omega) ?_ | refine Br.eqF (by omega) ?_ | refine Br.neT (by omega) ?_ | refine Br.neF (by omega) ?_ | refine Ld.mk' _ rfl ?_ | refine Need.mk (by first | decide | omega | kernel_rfl) ?_ | refine Nm.i64 (by omega) ?_ | refine Nm.u64 (by omega) ?_ | refine Nm.u8 (by omega) ?_ | refine Nm.keep ?_ | refine Need.mk (by dsimp only; omega) ?_) | refine TRL.step (TTok _ _) ?_ | (refine x_exq (TTok _ _) ?_; (conv => whnf); fail_if_success (guard_target =ₛ False)))
  all_goals (conv => whnf)
  have hsz : ∀ k : Nat, (bestA n (la.take k)).size < 1073741824 := by
    intro k
    rcases bestA_mem n (la.take k) with h | ⟨a, h1, h2, _⟩
    · rw [h]; decide
    · rw [← h2]; exact hs _ (List.mem_of_mem_take h1)
  refine TR.loopH (fun x : Int × ByteArray => [(16, .v (.int .i64 x.1)), (7, .v (.string x.2))]) (fun x => []) (fun x => 0 ≤ x.1 ∧ x.1 ≤ la.length ∧ bestA n (la.take x.1.toNat) = x.2) (fun x => (la.length - x.1).toNat) (0, ⟨#[]⟩) ⟨by simp, by simp, rfl⟩ ?_ ?_
  · repeat' ((conv => whnf); first | exact trivial | exact Fgt.nil | exact Fgt.mk rfl rfl rfl | exact Fgt.mk rfl (by simp only [noRefC, noRefL_cat, noRefL_vals]; rfl) rfl | refine And.intro rfl ?_ | refine And.intro ?_ ?_)
  · rintro ⟨i, b⟩ ⟨i0, i1, hbe⟩
    dsimp only at i0 i1 hbe
    have hbz := hsz i.toNat
    rw [hbe] at hbz
    by_cases hi : i < la.length
    · obtain ⟨u, hu⟩ : ∃ u, la[i.toNat]? = some u := ⟨la[i.toNat], by rw [List.getElem?_eq_getElem]⟩
      have huz := hs u (List.mem_of_getElem? hu)
      have hsub : ∀ o, o = i.toNat * 5 → subL ((ansC la).map .v) o 5 = some [.v (.string u.name), .v (.int .i64 u.tag), .v (.int .i64 u.alg), .v (.int .i64 u.kind), .v (.string u.dig)] := by
        rintro _ rfl
        exact subL_flat anC 5 (fun _ => rfl) la i.toNat u hu
      have hst := bestA_step n la i.toNat u hu
      rw [hbe] at hst
      have hnx : (i + 1).toNat = i.toNat + 1 := by omega
      have hc := fun w => nunder n u.name (by omega) (by omega) w
      obtain ⟨un, ut, ua, uk, ud⟩ := u
      dsimp only at huz hsub hc
      by_cases h1 : undB n un = true
      · rw [h1] at hc
        by_cases h2 : b.size < un.size
        · have hst' : bestA n (la.take (i.toNat + 1)) = un := by rw [hst]; exact if_pos ⟨h1, h2⟩
          have hgt : decide ((un.size : Int) > (b.size : Int)) = true := decide_eq_true (by omega)
          repeat' ((conv => whnf); first | (with_reducible first | refine TR.seq ?_ | refine TR.regionL ?_ | refine TR.drawn (TTok _ _) mixed ?_ | refine TR.block ?_ | refine TR.ret ?_ | refine TR.exit ?_ | refine TR.skip ?_ | refine TR.condB rfl ?_ | refine TRL.nil ?_ | refine Br.cond_t ?_ | refine Br.cond_f ?_ | refine Br.yes (by first | decide | assumption | (apply decide_eq_true; omega)) ?_ | refine Br.non (by first | decide | assumption | (apply decide_eq_false; omega)) ?_ | refine Br.cond_ff ?_ | refine Br.eqT (by omega) ?_ | refine Br.eqF (by omega) ?_ | refine Br.neT (by omega) ?_ | refine Br.neF (by omega) ?_ | refine Ld.mk' _ (hsub _ (by dsimp only; omega)) ?_ | refine Ld.mk' _ rfl ?_ | refine Need.mk (by first | decide | omega | kernel_rfl) ?_ | refine Nm.i64 (by omega) ?_ | refine Nm.u64 (by omega) ?_ | refine Nm.u8 (by omega) ?_ | refine Nm.keep ?_ | refine Need.mk (by dsimp only; omega) ?_ | refine x_ret (f := 22) rfl rfl (fun w _ => hc w) ?_) | refine Br.yes hgt ?_ | refine Br.non hgt ?_ | refine Br.non rfl ?_ | refine Br.yes rfl ?_ | refine TRL.step (TTok _ _) ?_ | (refine x_exq (TTok _ _) ?_; (conv => whnf); fail_if_success (guard_target =ₛ False)))
          all_goals (conv => whnf)
          all_goals refine ⟨(i + 1, un), ⟨by dsimp only; omega, by dsimp only; omega, by dsimp only; rw [hnx]; exact hst'⟩, by dsimp only; omega, ?_⟩
          all_goals repeat' ((conv => whnf); first | exact trivial | exact Fgt.nil | exact Fgt.mk rfl rfl rfl | exact Fgt.mk rfl (by simp only [noRefC, noRefL_cat, noRefL_vals]; rfl) rfl | refine And.intro rfl ?_ | refine And.intro ?_ ?_)

        · have hst' : bestA n (la.take (i.toNat + 1)) = b := by rw [hst]; exact if_neg (fun h => h2 h.2)
          have hgt : decide ((un.size : Int) > (b.size : Int)) = false := decide_eq_false (by omega)
          repeat' ((conv => whnf); first | (with_reducible first | refine TR.seq ?_ | refine TR.regionL ?_ | refine TR.drawn (TTok _ _) mixed ?_ | refine TR.block ?_ | refine TR.ret ?_ | refine TR.exit ?_ | refine TR.skip ?_ | refine TR.condB rfl ?_ | refine TRL.nil ?_ | refine Br.cond_t ?_ | refine Br.cond_f ?_ | refine Br.yes (by first | decide | assumption | (apply decide_eq_true; omega)) ?_ | refine Br.non (by first | decide | assumption | (apply decide_eq_false; omega)) ?_ | refine Br.cond_ff ?_ | refine Br.eqT (by omega) ?_ | refine Br.eqF (by omega) ?_ | refine Br.neT (by omega) ?_ | refine Br.neF (by omega) ?_ | refine Ld.mk' _ (hsub _ (by dsimp only; omega)) ?_ | refine Ld.mk' _ rfl ?_ | refine Need.mk (by first | decide | omega | kernel_rfl) ?_ | refine Nm.i64 (by omega) ?_ | refine Nm.u64 (by omega) ?_ | refine Nm.u8 (by omega) ?_ | refine Nm.keep ?_ | refine Need.mk (by dsimp only; omega) ?_ | refine x_ret (f := 22) rfl rfl (fun w _ => hc w) ?_) | refine Br.yes hgt ?_ | refine Br.non hgt ?_ | refine Br.non rfl ?_ | refine Br.yes rfl ?_ | refine TRL.step (TTok _ _) ?_ | (refine x_exq (TTok _ _) ?_; (conv => whnf); fail_if_success (guard_target =ₛ False)))
          all_goals (conv => whnf)
          all_goals refine ⟨(i + 1, b), ⟨by dsimp only; omega, by dsimp only; omega, by dsimp only; rw [hnx]; exact hst'⟩, by dsimp only; omega, ?_⟩
          all_goals repeat' ((conv => whnf); first | exact trivial | exact Fgt.nil | exact Fgt.mk rfl rfl rfl | exact Fgt.mk rfl (by simp only [noRefC, noRefL_cat, noRefL_vals]; rfl) rfl | refine And.intro rfl ?_ | refine And.intro ?_ ?_)

      · have hst' : bestA n (la.take (i.toNat + 1)) = b := by rw [hst]; exact if_neg (fun h => h1 h.1)
        have h1' : undB n un = false := by
          cases e : undB n un with
          | false => rfl
          | true => exact (h1 e).elim
        rw [h1'] at hc
        have hgt : True := trivial
        repeat' ((conv => whnf); first | (with_reducible first | refine TR.seq ?_ | refine TR.regionL ?_ | refine TR.drawn (TTok _ _) mixed ?_ | refine TR.block ?_ | refine TR.ret ?_ | refine TR.exit ?_ | refine TR.skip ?_ | refine TR.condB rfl ?_ | refine TRL.nil ?_ | refine Br.cond_t ?_ | refine Br.cond_f ?_ | refine Br.yes (by first | decide | assumption | (apply decide_eq_true; omega)) ?_ | refine Br.non (by first | decide | assumption | (apply decide_eq_false; omega)) ?_ | refine Br.cond_ff ?_ | refine Br.eqT (by omega) ?_ | refine Br.eqF (by omega) ?_ | refine Br.neT (by omega) ?_ | refine Br.neF (by omega) ?_ | refine Ld.mk' _ (hsub _ (by dsimp only; omega)) ?_ | refine Ld.mk' _ rfl ?_ | refine Need.mk (by first | decide | omega | kernel_rfl) ?_ | refine Nm.i64 (by omega) ?_ | refine Nm.u64 (by omega) ?_ | refine Nm.u8 (by omega) ?_ | refine Nm.keep ?_ | refine Need.mk (by dsimp only; omega) ?_ | refine x_ret (f := 22) rfl rfl (fun w _ => hc w) ?_) | refine Br.yes hgt ?_ | refine Br.non hgt ?_ | refine Br.non rfl ?_ | refine Br.yes rfl ?_ | refine TRL.step (TTok _ _) ?_ | (refine x_exq (TTok _ _) ?_; (conv => whnf); fail_if_success (guard_target =ₛ False)))
        all_goals (conv => whnf)
        all_goals refine ⟨(i + 1, b), ⟨by dsimp only; omega, by dsimp only; omega, by dsimp only; rw [hnx]; exact hst'⟩, by dsimp only; omega, ?_⟩
        all_goals repeat' ((conv => whnf); first | exact trivial | exact Fgt.nil | exact Fgt.mk rfl rfl rfl | exact Fgt.mk rfl (by simp only [noRefC, noRefL_cat, noRefL_vals]; rfl) rfl | refine And.intro rfl ?_ | refine And.intro ?_ ?_)

    · have hiL : i.toNat = la.length := by omega
      rw [hiL, List.take_length, hB] at hbe
      subst hbe
      have hnB : decide (B = ⟨#[]⟩) = false := decide_eq_false hne
      repeat' ((conv => whnf); first | (with_reducible first | refine TR.seq ?_ | refine TR.regionL ?_ | refine TR.drawn (TTok _ _) mixed ?_ | refine TR.block ?_ | refine TR.ret ?_ | refine TR.exit ?_ | refine TR.skip ?_ | refine TR.condB rfl ?_ | refine TRL.nil ?_ | refine Br.cond_t ?_ | refine Br.cond_f ?_ | refine Br.yes (by first | decide | assumption | (apply decide_eq_true; omega)) ?_ | refine Br.non (by first | decide | assumption | (apply decide_eq_false; omega)) ?_ | refine Br.cond_ff ?_ | refine Br.eqT (by omega) ?_ | refine Br.eqF (by omega) ?_ | refine Br.neT (by omega) ?_ | refine Br.neF (by omega) ?_ | refine Ld.mk' _ rfl ?_ | refine Need.mk (by first | decide | omega | kernel_rfl) ?_ | refine Nm.i64 (by omega) ?_ | refine Nm.u64 (by omega) ?_ | refine Nm.u8 (by omega) ?_ | refine Nm.keep ?_ | refine Need.mk (by dsimp only; omega) ?_) | refine Br.non hnB ?_ | refine Br.non rfl ?_ | refine Br.yes rfl ?_ | refine TRL.step (TTok _ _) ?_ | (refine x_exq (TTok _ _) ?_; (conv => whnf); fail_if_success (guard_target =ₛ False)))
      refine TR.nil_slot 10 10 49 4 rfl rfl ?_
      conv => whnf
      refine TR.loopH (fun j : Int => [(40, .v (.int .i64 j)), (10, .sl 10 (ownA B (la.take j.toNat)).length 0 (ownA B (la.take j.toNat)).length)]) (fun j => [(10, ⟨.row, 49, 4, (ownA B (la.take j.toNat)).length, ((ownA B (la.take j.toNat)).flatMap dsC).map .v⟩)]) (fun j => 0 ≤ j ∧ j ≤ la.length) (fun j => (la.length - j).toNat) 0 ⟨by simp, by simp⟩ ?_ ?_
      · repeat' ((conv => whnf); first | exact trivial | exact Fgt.nil | exact Fgt.mk rfl rfl rfl | exact Fgt.mk rfl (by simp only [noRefC, noRefL_cat, noRefL_vals]; rfl) rfl | refine And.intro rfl ?_ | refine And.intro ?_ ?_)
      · rintro j ⟨j0, j1⟩
        by_cases hj : j < la.length
        · obtain ⟨u, hu⟩ : ∃ u, la[j.toNat]? = some u := ⟨la[j.toNat], by rw [List.getElem?_eq_getElem]⟩
          have huz := hs u (List.mem_of_getElem? hu)
          have hsub : ∀ o, o = j.toNat * 5 → subL ((ansC la).map .v) o 5 = some [.v (.string u.name), .v (.int .i64 u.tag), .v (.int .i64 u.alg), .v (.int .i64 u.kind), .v (.string u.dig)] := by
            rintro _ rfl
            exact subL_flat anC 5 (fun _ => rfl) la j.toNat u hu
          have hst := ownA_step B la j.toNat u hu
          have hnx : (j + 1).toNat = j.toNat + 1 := by omega
          have hBz : B.size < 1073741824 := by have := hsz la.length; rw [List.take_length, hB] at this; exact this
          have hc := fun w => nequal u.name B (by omega) (by omega) w
          have hfl : (ownA B (la.take j.toNat)).length ≤ j.toNat := by
            have h1 := List.length_filter_le (fun a : An => eqB a.name B) (la.take j.toNat)
            have h2 := List.length_take_le j.toNat la
            unfold ownA
            omega
          obtain ⟨ow, how⟩ : ∃ ow, ownA B (la.take j.toNat) = ow := ⟨_, rfl⟩
          rw [how] at hst hfl
          have hln : (((ow.flatMap dsC).map AV.v)).length = ow.length * 4 := by rw [List.length_map, flatMap_len dsC 4 (fun _ => rfl)]
          by_cases h1 : eqB u.name B = true
          · rw [if_pos h1] at hst
            rw [h1] at hc
            have hcells : ((ownA B (la.take (j + 1).toNat)).flatMap dsC).map AV.v = (ow.flatMap dsC).map .v ++ (dsC u).map .v := by
              rw [hnx, hst, List.flatMap_append, List.map_append]
              simp
            have hlen : (ownA B (la.take (j + 1).toNat)).length = ow.length + 1 := by rw [hnx, hst]; simp
            obtain ⟨un, ut, ua, uk, ud⟩ := u
            dsimp only at huz hsub hc
            rw [how]
            repeat' ((conv => whnf); first | (with_reducible first | refine TR.seq ?_ | refine TR.regionL ?_ | refine TR.drawn (TTok _ _) mixed ?_ | refine TR.block ?_ | refine TR.ret ?_ | refine TR.exit ?_ | refine TR.skip ?_ | refine TR.condB rfl ?_ | refine TRL.nil ?_ | refine Br.cond_t ?_ | refine Br.cond_f ?_ | refine Br.yes (by first | decide | assumption | (apply decide_eq_true; omega)) ?_ | refine Br.non (by first | decide | assumption | (apply decide_eq_false; omega)) ?_ | refine Br.cond_ff ?_ | refine Br.eqT (by omega) ?_ | refine Br.eqF (by omega) ?_ | refine Br.neT (by omega) ?_ | refine Br.neF (by omega) ?_ | refine Ld.mk' _ (hsub _ (by dsimp only; omega)) ?_ | refine Ld.mk' _ rfl ?_ | refine Need.mk (by first | decide | omega | kernel_rfl) ?_ | refine Nm.i64 (by omega) ?_ | refine Nm.u64 (by omega) ?_ | refine Nm.u8 (by omega) ?_ | refine Nm.keep ?_ | refine Need.mk (by dsimp only; omega) ?_ | refine x_ret (f := 47) rfl rfl (fun w _ => hc w) ?_) | refine x_app (TTok _ _) (c := 10) 40 rfl rfl rfl rfl rfl rfl rfl rfl rfl rfl (by decide) rfl rfl rfl rfl rfl rfl rfl rfl rfl hln (by unfold maxLen; omega) (by omega) ?_ | refine Br.non rfl ?_ | refine Br.yes rfl ?_ | refine TRL.step (TTok _ _) ?_ | (refine x_exq (TTok _ _) ?_; (conv => whnf); fail_if_success (guard_target =ₛ False)))
            all_goals (conv => whnf)
            all_goals refine ⟨j + 1, ⟨by omega, by omega⟩, by omega, ?_⟩
            all_goals rw [hcells, hlen]
            all_goals repeat' ((conv => whnf); first | exact trivial | exact Fgt.nil | exact Fgt.mk rfl rfl rfl | exact Fgt.mk rfl (by simp only [noRefC, noRefL_cat, noRefL_vals]; rfl) rfl | refine And.intro rfl ?_ | refine And.intro ?_ ?_)
            all_goals trace_state
          · rw [if_neg h1] at hst
            have h1' : eqB u.name B = false := by
              cases e : eqB u.name B with
              | false => rfl
              | true => exact (h1 e).elim
            rw [h1'] at hc
            obtain ⟨un, ut, ua, uk, ud⟩ := u
            dsimp only at huz hsub hc
            rw [how]
            repeat' ((conv => whnf); first | (with_reducible first | refine TR.seq ?_ | refine TR.regionL ?_ | refine TR.drawn (TTok _ _) mixed ?_ | refine TR.block ?_ | refine TR.ret ?_ | refine TR.exit ?_ | refine TR.skip ?_ | refine TR.condB rfl ?_ | refine TRL.nil ?_ | refine Br.cond_t ?_ | refine Br.cond_f ?_ | refine Br.yes (by first | decide | assumption | (apply decide_eq_true; omega)) ?_ | refine Br.non (by first | decide | assumption | (apply decide_eq_false; omega)) ?_ | refine Br.cond_ff ?_ | refine Br.eqT (by omega) ?_ | refine Br.eqF (by omega) ?_ | refine Br.neT (by omega) ?_ | refine Br.neF (by omega) ?_ | refine Ld.mk' _ (hsub _ (by dsimp only; omega)) ?_ | refine Ld.mk' _ rfl ?_ | refine Need.mk (by first | decide | omega | kernel_rfl) ?_ | refine Nm.i64 (by omega) ?_ | refine Nm.u64 (by omega) ?_ | refine Nm.u8 (by omega) ?_ | refine Nm.keep ?_ | refine Need.mk (by dsimp only; omega) ?_ | refine x_ret (f := 47) rfl rfl (fun w _ => hc w) ?_) | refine x_app (TTok _ _) (c := 10) 40 rfl rfl rfl rfl rfl rfl rfl rfl rfl rfl (by decide) rfl rfl rfl rfl rfl rfl rfl rfl rfl hln (by unfold maxLen; omega) (by omega) ?_ | refine Br.non rfl ?_ | refine Br.yes rfl ?_ | refine TRL.step (TTok _ _) ?_ | (refine x_exq (TTok _ _) ?_; (conv => whnf); fail_if_success (guard_target =ₛ False)))
            all_goals (conv => whnf)
            all_goals refine ⟨j + 1, ⟨by omega, by omega⟩, by omega, ?_⟩
            all_goals rw [hnx, hst]
            all_goals repeat' ((conv => whnf); first | exact trivial | exact Fgt.nil | exact Fgt.mk rfl rfl rfl | exact Fgt.mk rfl (by simp only [noRefC, noRefL_cat, noRefL_vals]; rfl) rfl | refine And.intro rfl ?_ | refine And.intro ?_ ?_)
            all_goals trace_state
        · have hjL : j.toNat = la.length := by omega
          rw [hjL, List.take_length]
          repeat' ((conv => whnf); first | (refine TR.drop 2 rfl (Nat.le_refl 2) (by simp only [unO, noRefC, noRefL_vals]; rfl) ?_) | refine TR.mv 10 2 rfl rfl rfl (Nat.le_of_ble_eq_true rfl) (Nat.le_refl 2) ?_ | (with_reducible first | refine TR.seq ?_ | refine TR.regionL ?_ | refine TR.drawn (TTok _ _) mixed ?_ | refine TR.block ?_ | refine TR.ret ?_ | refine TR.exit ?_ | refine TR.skip ?_ | refine TR.condB rfl ?_ | refine TRL.nil ?_ | refine Br.cond_t ?_ | refine Br.cond_f ?_ | refine Br.yes (by first | decide | assumption | (apply decide_eq_true; omega)) ?_ | refine Br.non (by first | decide | assumption | (apply decide_eq_false; omega)) ?_ | refine Br.cond_ff ?_ | refine Br.eqT (by omega) ?_ | refine Br.eqF (by omega) ?_ | refine Br.neT (by omega) ?_ | refine Br.neF (by omega) ?_ | refine Ld.mk' _ rfl ?_ | refine Need.mk (by first | decide | omega | kernel_rfl) ?_ | refine Nm.i64 (by omega) ?_ | refine Nm.u64 (by omega) ?_ | refine Nm.u8 (by omega) ?_ | refine Nm.keep ?_ | refine Need.mk (by dsimp only; omega) ?_) | refine Br.non rfl ?_ | refine Br.yes rfl ?_ | refine TRL.step (TTok _ _) ?_ | (refine x_exq (TTok _ _) ?_; (conv => whnf); fail_if_success (guard_target =ₛ False)))
          all_goals (conv => whnf)
          all_goals refine ⟨_, trivial, rfl, ?_, ?_, ?_, trivial⟩
          · show some (Chunk.mk .ro 47 3 v (swL 10 2 ((upsC l).map .v))) = _
            rw [swL_vals]
          · show some (Chunk.mk .ro 51 5 v2 (swL 10 2 ((ansC la).map .v))) = _
            rw [swL_vals]
          · show some (Chunk.mk .row 49 4 _ (swL 10 2 (((ownA B la).flatMap dsC).map .v))) = _
            rw [swL_vals]
end Go.Proofs.YtdmgmkifjboojaaGreatDoor
set_option maxRecDepth 100000
set_option linter.unusedVariables false
set_option linter.unusedSimpArgs false
namespace Go.Proofs.YtdmgmkifjboojaaGreatDoor
open Go.SX
theorem rgt_nil : rgt ⟨#[]⟩ = false := by
  cases h : rgt ⟨#[]⟩ with
  | false => rfl
  | true => have := (rgt_size h).1; simp [ByteArray.size] at this
theorem ownA_nil (l : List An) : ownA ⟨#[]⟩ l = [] := by
  unfold ownA
  refine List.filter_eq_nil_iff.2 fun a _ => ?_
  unfold eqB
  simp [rgt_nil]
theorem anchor_con (I : World → Prop) (n : ByteArray) (hn : n.size < 1073741824) (l : List Up) (la : List An) (v v2 : Nat) (hl : la.length < 1073741824) (hs : ∀ u, u ∈ la → u.name.size < 1073741824) (a0 a1 a2 i5 i6 i7 i8 : Value) (B : ByteArray) (hB : bestA n la = B) :
    Con Tryz.prog I 21 (fun s => [.agg [.v a0, .v a1, .v a2, .sl (s 0) v 0 l.length, .sl (s 1) v2 0 la.length, .v i5, .v i6, .v i7, .v i8], .v (.string n)]) (fun _ => coH l la v v2) (fun _ : Nat => True) (fun p s => .tup [.v (.string B), .sl (s 2) p 0 (ownA B la).length, .v (.bool (!decide (B = ⟨#[]⟩)))]) (fun p _ => anCC l la v v2 (ownA B la) p) (fun _ => False) := by
  by_cases hne : B = ⟨#[]⟩
  · subst hne
    rw [ownA_nil]
    exact anchor_nil I n hn l la v v2 hl hs a0 a1 a2 i5 i6 i7 i8 hB
  · rw [decide_eq_false hne]
    exact anchor_some I n hn l la v v2 hl hs a0 a1 a2 i5 i6 i7 i8 B hB hne
def roH (l : List Up) (la : List An) (v v2 : Nat) : List (Option Chunk) := [some ⟨.row, 47, 3, v, (upsC l).map .v⟩, some ⟨.row, 51, 5, v2, (ansC la).map .v⟩]
end Go.Proofs.YtdmgmkifjboojaaGreatDoor
set_option maxRecDepth 100000
set_option linter.unusedVariables false
set_option linter.unusedSimpArgs false
namespace Go.Proofs.YtdmgmkifjboojaaGreatDoor
open Go.SX
def lbV (s : ByteArray) (k : Nat) : List Value := (List.range k).map fun j => Value.string (lbS s j)
def lbC (s : ByteArray) (k : Nat) : List AV := (lbV s k).map .v
theorem lbC_succ (s : ByteArray) (k : Nat) : lbC s (k + 1) = lbC s k ++ [.v (.string (lbS s k))] := by simp [lbC, lbV, List.range_succ]
theorem lbC_len (s : ByteArray) (k : Nat) : (lbC s k).length = k * 1 := by simp [lbC, lbV]
theorem rgt_lb {s : ByteArray} (h : rgt s = true) : LbN s (rgN s) ∧ 0 < s.size ∧ s.size ≤ 255 ∧ lbPos s (rgN s) = s.size - 1 ∧ bAt s (lbPos s (rgN s)) = 0 := by
  have h1 := rgN_ok s
  rw [rgt_of h1] at h
  exact ⟨h1, of_decide_eq_true h⟩
theorem rgt_nlb {s : ByteArray} (h : rgt s = false) : LbN s (rgN s) ∧ ¬ (0 < s.size ∧ s.size ≤ 255 ∧ lbPos s (rgN s) = s.size - 1 ∧ bAt s (lbPos s (rgN s)) = 0) := by
  have h1 := rgN_ok s
  rw [rgt_of h1] at h
  exact ⟨h1, of_decide_eq_false h⟩
theorem lbN_bound {s : ByteArray} {N : Nat} (h : LbN s N) : ∀ k, k ≤ N → (k : Int) ≤ lbPos s k
  | 0, _ => by simp [lbPos]
  | k + 1, hk => by
    have h1 := lbN_bound h k (by omega)
    have h2 := (h.ok k (by omega)).2.1
    have h3 := bAt_range s (lbPos s k)
    simp only [lbPos]
    omega
set_option maxHeartbeats 8000000 in
theorem rlabels_yes (I : World → Prop) (n : ByteArray) (hr : rgt n = true) : Con Tryz.prog I 77 (fun _ => [.v (.string n)]) (fun _ => []) (fun _ : Nat => True) (fun p s => .tup [.sl (s 0) p 0 (rgN n), .v (.bool true)]) (fun p _ => [some ⟨.row, 9, 1, p, lbC n (rgN n)⟩]) (fun _ => False) := by
  refine Con.of (TTok _ _) Tryz.func77 (by kernel_rfl) rfl rfl rfl (fun σ => rfl) (fun σ => rfl) (fun _ _ _ => rfl) (fun _ σ _ => by simp [lbC, mapR, renK, renL_vals]) (fun _ _ => CEnd.of rfl rfl (by simp [lbC, refsInC, refsInL_vals])) ?_
  obtain ⟨hN, z0, z1, hp, hb0⟩ := rgt_lb hr
  generalize rgN n = N at hN hp hb0
  repeat' ((conv => whnf); first | (refine TR.nil_slot 4 0 9 1 rfl rfl ?_) | (with_reducible first | refine TR.seq ?_ | refine TR.regionL ?_ | refine TR.drawn (TTok _ _) mixed ?_ | refine TR.block ?_ | refine TR.ret ?_ | refine TR.exit ?_ | refine TR.skip ?_ | refine TR.condB rfl ?_ | refine TRL.nil ?_ | refine Br.cond_t ?_ | refine Br.cond_f ?_ | refine Br.yes (by first | decide | assumption | (apply decide_eq_true; omega)) ?_ | refine Br.non (by first | decide | assumption | (apply decide_eq_false; omega)) ?_ | refine Br.cond_ff ?_ | refine Br.eqT (by omega) ?_ | refine Br.eqF (by omega) ?_ | refine Br.neT (by omega) ?_ | refine Br.neF (by omega) ?_ | refine Ld.mk' _ rfl ?_ | refine Need.mk (by first | decide | omega | kernel_rfl) ?_ | refine Nm.i64 (by omega) ?_ | refine Nm.u64 (by omega) ?_ | refine Nm.u8 (by omega) ?_ | refine Nm.keep ?_ | refine Need.mk (by dsimp only; omega) ?_) | refine TRL.step (TTok _ _) ?_ | (refine x_exq (TTok _ _) ?_; (conv => whnf); fail_if_success (guard_target =ₛ False)))
  all_goals (conv => whnf)
  refine TR.loopH (fun k : Nat => [(5, .v (.int .i64 (lbPos n k))), (4, .sl 0 k 0 k)]) (fun k => [(0, ⟨.row, 9, 1, k, lbC n k⟩)]) (fun k => k ≤ N) (fun k => N - k) 0 (Nat.zero_le _) ?_ ?_
  · repeat' ((conv => whnf); first | exact trivial | exact Fgt.nil | exact Fgt.mk rfl rfl rfl | exact Fgt.mk rfl (by simp only [noRefC, lbC, noRefL_cat, noRefL_vals]; rfl) rfl | refine And.intro rfl ?_ | refine And.intro ?_ ?_)
  · intro k hk
    have p0 := lbPos_nn n k
    have p1 := hN.le k hk
    have hb := bAt_range n (lbPos n k)
    have hkb := lbN_bound hN k hk
    by_cases hkN : k < N
    · have hok := hN.ok k hkN
      have hnx : lbPos n (k + 1) = lbPos n k + 1 + bAt n (lbPos n k) := rfl
      have hls := lbC_succ n k
      obtain ⟨lab, hlab⟩ : ∃ lab, lbS n k = lab := ⟨_, rfl⟩
      rw [hlab] at hls
      unfold lbS at hlab
      obtain ⟨o1, o2, o3, o4⟩ := hok
      have hln := lbC_len n k
      repeat' ((conv => whnf); first | (with_reducible first | refine TR.seq ?_ | refine TR.regionL ?_ | refine TR.drawn (TTok _ _) mixed ?_ | refine TR.block ?_ | refine TR.ret ?_ | refine TR.exit ?_ | refine TR.skip ?_ | refine TR.condB rfl ?_ | refine TRL.nil ?_ | refine Br.cond_t ?_ | refine Br.cond_f ?_ | refine Br.yes (by first | decide | assumption | (apply decide_eq_true; omega)) ?_ | refine Br.non (by first | decide | assumption | (apply decide_eq_false; omega)) ?_ | refine Br.cond_ff ?_ | refine Br.eqT (by omega) ?_ | refine Br.eqF (by omega) ?_ | refine Br.neT (by omega) ?_ | refine Br.neF (by omega) ?_ | refine Ld.mk' _ rfl ?_ | refine Need.mk (by first | decide | omega | kernel_rfl) ?_ | refine Nm.i64 (by omega) ?_ | refine Nm.u64 (by omega) ?_ | refine Nm.u8 (by omega) ?_ | refine Nm.mk' lab hlab ?_ | refine Nm.keep ?_ | refine Need.mk (by dsimp only; omega) ?_) | refine x_app (TTok _ _) (c := 0) 16 rfl rfl rfl rfl rfl rfl rfl rfl rfl rfl (Nat.zero_lt_succ 0) rfl rfl rfl rfl rfl rfl rfl rfl rfl hln (by unfold maxLen; omega) (by omega) ?_ | refine Br.non rfl ?_ | refine Br.yes rfl ?_ | refine TRL.step (TTok _ _) ?_ | (refine x_exq (TTok _ _) ?_; (conv => whnf); fail_if_success (guard_target =ₛ False)))
      all_goals (conv => whnf)
      all_goals refine ⟨k + 1, by omega, by omega, ?_⟩
      all_goals rw [hls, hnx]
      all_goals repeat' ((conv => whnf); first | exact trivial | exact Fgt.nil | exact Fgt.mk rfl rfl rfl | exact Fgt.mk rfl (by simp only [noRefC, lbC, noRefL_cat, noRefL_vals]; rfl) rfl | refine And.intro rfl ?_ | refine And.intro ?_ ?_)
      all_goals trace_state
    · obtain rfl : k = N := by omega
      generalize lbPos n k = p at *
      repeat' ((conv => whnf); first | (with_reducible first | refine TR.seq ?_ | refine TR.regionL ?_ | refine TR.drawn (TTok _ _) mixed ?_ | refine TR.block ?_ | refine TR.ret ?_ | refine TR.exit ?_ | refine TR.skip ?_ | refine TR.condB rfl ?_ | refine TRL.nil ?_ | refine Br.cond_t ?_ | refine Br.cond_f ?_ | refine Br.yes (by first | decide | assumption | (apply decide_eq_true; omega)) ?_ | refine Br.non (by first | decide | assumption | (apply decide_eq_false; omega)) ?_ | refine Br.cond_ff ?_ | refine Br.eqT (by omega) ?_ | refine Br.eqF (by omega) ?_ | refine Br.neT (by omega) ?_ | refine Br.neF (by omega) ?_ | refine Ld.mk' _ rfl ?_ | refine Need.mk (by first | decide | omega | kernel_rfl) ?_ | refine Nm.i64 (by omega) ?_ | refine Nm.u64 (by omega) ?_ | refine Nm.u8 (by omega) ?_ | refine Nm.keep ?_ | refine Need.mk (by dsimp only; omega) ?_) | refine Br.non rfl ?_ | refine Br.yes rfl ?_ | refine TRL.step (TTok _ _) ?_ | (refine x_exq (TTok _ _) ?_; (conv => whnf); fail_if_success (guard_target =ₛ False)))
      all_goals (conv => whnf)
      all_goals first | exact ⟨k, trivial, rfl, rfl, trivial⟩ | trace_state
set_option maxHeartbeats 8000000 in
theorem rlabels_no (I : World → Prop) (n : ByteArray) (hz0 : n.size < 1073741824) (hr : rgt n = false) : Con Tryz.prog I 77 (fun _ => [.v (.string n)]) (fun _ => []) (fun _ : Unit => True) (fun _ _ => .tup [.v (.slice none 0 0), .v (.bool false)]) (fun _ _ => []) (fun _ => False) := by
  refine Con.of (TTok _ _) Tryz.func77 (by kernel_rfl) rfl rfl rfl (fun σ => rfl) (fun σ => rfl) (fun _ _ _ => rfl) (fun _ σ _ => rfl) (fun _ _ => CEnd.of rfl rfl rfl) ?_
  obtain ⟨hN, hno⟩ := rgt_nlb hr
  generalize rgN n = N at hN hno
  by_cases hz : n.size ≤ 255
  · skip
    repeat' ((conv => whnf); first | (refine TR.nil_slot 4 0 9 1 rfl rfl ?_) | (with_reducible first | refine TR.seq ?_ | refine TR.regionL ?_ | refine TR.drawn (TTok _ _) mixed ?_ | refine TR.block ?_ | refine TR.ret ?_ | refine TR.exit ?_ | refine TR.skip ?_ | refine TR.condB rfl ?_ | refine TRL.nil ?_ | refine Br.cond_t ?_ | refine Br.cond_f ?_ | refine Br.yes (by first | decide | assumption | (apply decide_eq_true; omega)) ?_ | refine Br.non (by first | decide | assumption | (apply decide_eq_false; omega)) ?_ | refine Br.cond_ff ?_ | refine Br.eqT (by omega) ?_ | refine Br.eqF (by omega) ?_ | refine Br.neT (by omega) ?_ | refine Br.neF (by omega) ?_ | refine Ld.mk' _ rfl ?_ | refine Need.mk (by first | decide | omega | kernel_rfl) ?_ | refine Nm.i64 (by omega) ?_ | refine Nm.u64 (by omega) ?_ | refine Nm.u8 (by omega) ?_ | refine Nm.keep ?_ | refine Need.mk (by dsimp only; omega) ?_) | refine TRL.step (TTok _ _) ?_ | (refine x_exq (TTok _ _) ?_; (conv => whnf); fail_if_success (guard_target =ₛ False)))
    all_goals (conv => whnf)
    refine TR.loopH (fun k : Nat => [(5, .v (.int .i64 (lbPos n k))), (4, .sl 0 k 0 k)]) (fun k => [(0, ⟨.row, 9, 1, k, lbC n k⟩)]) (fun k => k ≤ N) (fun k => N - k) 0 (Nat.zero_le _) ?_ ?_
    · repeat' ((conv => whnf); first | exact trivial | exact Fgt.nil | exact Fgt.mk rfl rfl rfl | exact Fgt.mk rfl (by simp only [noRefC, lbC, noRefL_cat, noRefL_vals]; rfl) rfl | refine And.intro rfl ?_ | refine And.intro ?_ ?_)
    · intro k hk
      have p0 := lbPos_nn n k
      have p1 := hN.le k hk
      have hb := bAt_range n (lbPos n k)
      have hkb := lbN_bound hN k hk
      by_cases hkN : k < N
      · have hok := hN.ok k hkN
        have hnx : lbPos n (k + 1) = lbPos n k + 1 + bAt n (lbPos n k) := rfl
        have hls := lbC_succ n k
        obtain ⟨lab, hlab⟩ : ∃ lab, lbS n k = lab := ⟨_, rfl⟩
        rw [hlab] at hls
        unfold lbS at hlab
        obtain ⟨o1, o2, o3, o4⟩ := hok
        have hln := lbC_len n k
        repeat' ((conv => whnf); first | (with_reducible first | refine TR.seq ?_ | refine TR.regionL ?_ | refine TR.drawn (TTok _ _) mixed ?_ | refine TR.block ?_ | refine TR.ret ?_ | refine TR.exit ?_ | refine TR.skip ?_ | refine TR.condB rfl ?_ | refine TRL.nil ?_ | refine Br.cond_t ?_ | refine Br.cond_f ?_ | refine Br.yes (by first | decide | assumption | (apply decide_eq_true; omega)) ?_ | refine Br.non (by first | decide | assumption | (apply decide_eq_false; omega)) ?_ | refine Br.cond_ff ?_ | refine Br.eqT (by omega) ?_ | refine Br.eqF (by omega) ?_ | refine Br.neT (by omega) ?_ | refine Br.neF (by omega) ?_ | refine Ld.mk' _ rfl ?_ | refine Need.mk (by first | decide | omega | kernel_rfl) ?_ | refine Nm.i64 (by omega) ?_ | refine Nm.u64 (by omega) ?_ | refine Nm.u8 (by omega) ?_ | refine Nm.mk' lab hlab ?_ | refine Nm.keep ?_ | refine Need.mk (by dsimp only; omega) ?_) | refine x_app (TTok _ _) (c := 0) 16 rfl rfl rfl rfl rfl rfl rfl rfl rfl rfl (Nat.zero_lt_succ 0) rfl rfl rfl rfl rfl rfl rfl rfl rfl hln (by unfold maxLen; omega) (by omega) ?_ | refine Br.non rfl ?_ | refine Br.yes rfl ?_ | refine TRL.step (TTok _ _) ?_ | (refine x_exq (TTok _ _) ?_; (conv => whnf); fail_if_success (guard_target =ₛ False)))
        all_goals (conv => whnf)
        all_goals refine ⟨k + 1, by omega, by omega, ?_⟩
        all_goals rw [hls, hnx]
        all_goals repeat' ((conv => whnf); first | exact trivial | exact Fgt.nil | exact Fgt.mk rfl rfl rfl | exact Fgt.mk rfl (by simp only [noRefC, lbC, noRefL_cat, noRefL_vals]; rfl) rfl | refine And.intro rfl ?_ | refine And.intro ?_ ?_)
        all_goals trace_state
      · obtain rfl : k = N := by omega
        have hst := hN.stop
        unfold lbOk at hst
        generalize lbPos n k = p at *
        by_cases q1 : p < n.size
        · by_cases q2 : bAt n p = 0
          · have q3 : p ≠ n.size - 1 := fun e => hno ⟨by omega, hz, e, q2⟩
            repeat' ((conv => whnf); first | (with_reducible first | refine TR.seq ?_ | refine TR.regionL ?_ | refine TR.drawn (TTok _ _) mixed ?_ | refine TR.block ?_ | refine TR.ret ?_ | refine TR.exit ?_ | refine TR.skip ?_ | refine TR.condB rfl ?_ | refine TRL.nil ?_ | refine Br.cond_t ?_ | refine Br.cond_f ?_ | refine Br.yes (by first | decide | assumption | (apply decide_eq_true; omega)) ?_ | refine Br.non (by first | decide | assumption | (apply decide_eq_false; omega)) ?_ | refine Br.cond_ff ?_ | refine Br.eqT (by omega) ?_ | refine Br.eqF (by omega) ?_ | refine Br.neT (by omega) ?_ | refine Br.neF (by omega) ?_ | refine Ld.mk' _ rfl ?_ | refine Need.mk (by first | decide | omega | kernel_rfl) ?_ | refine Nm.i64 (by omega) ?_ | refine Nm.u64 (by omega) ?_ | refine Nm.u8 (by omega) ?_ | refine Nm.keep ?_ | refine Need.mk (by dsimp only; omega) ?_) | refine Br.non rfl ?_ | refine Br.yes rfl ?_ | refine TRL.step (TTok _ _) ?_ | (refine x_exq (TTok _ _) ?_; (conv => whnf); fail_if_success (guard_target =ₛ False)))
            all_goals (conv => whnf)
            all_goals first | exact ⟨(), trivial, rfl, trivial⟩ | trace_state
          · have q3 : bAt n p > 63 ∨ (bAt n p ≤ 63 ∧ (n.size : Int) < p + 1 + bAt n p) := by
              by_cases h : bAt n p ≤ 63
              · by_cases h2 : p + 1 + bAt n p ≤ n.size
                · exact (hst ⟨q1, q2, h, h2⟩).elim
                · exact .inr ⟨h, by omega⟩
              · exact .inl (by omega)
            rcases q3 with q3 | ⟨q3, q4⟩
            · skip
              repeat' ((conv => whnf); first | (with_reducible first | refine TR.seq ?_ | refine TR.regionL ?_ | refine TR.drawn (TTok _ _) mixed ?_ | refine TR.block ?_ | refine TR.ret ?_ | refine TR.exit ?_ | refine TR.skip ?_ | refine TR.condB rfl ?_ | refine TRL.nil ?_ | refine Br.cond_t ?_ | refine Br.cond_f ?_ | refine Br.yes (by first | decide | assumption | (apply decide_eq_true; omega)) ?_ | refine Br.non (by first | decide | assumption | (apply decide_eq_false; omega)) ?_ | refine Br.cond_ff ?_ | refine Br.eqT (by omega) ?_ | refine Br.eqF (by omega) ?_ | refine Br.neT (by omega) ?_ | refine Br.neF (by omega) ?_ | refine Ld.mk' _ rfl ?_ | refine Need.mk (by first | decide | omega | kernel_rfl) ?_ | refine Nm.i64 (by omega) ?_ | refine Nm.u64 (by omega) ?_ | refine Nm.u8 (by omega) ?_ | refine Nm.keep ?_ | refine Need.mk (by dsimp only; omega) ?_) | refine Br.non rfl ?_ | refine Br.yes rfl ?_ | refine TRL.step (TTok _ _) ?_ | (refine x_exq (TTok _ _) ?_; (conv => whnf); fail_if_success (guard_target =ₛ False)))
              all_goals (conv => whnf)
              all_goals first | exact ⟨(), trivial, rfl, trivial⟩ | trace_state
            · skip
              repeat' ((conv => whnf); first | (with_reducible first | refine TR.seq ?_ | refine TR.regionL ?_ | refine TR.drawn (TTok _ _) mixed ?_ | refine TR.block ?_ | refine TR.ret ?_ | refine TR.exit ?_ | refine TR.skip ?_ | refine TR.condB rfl ?_ | refine TRL.nil ?_ | refine Br.cond_t ?_ | refine Br.cond_f ?_ | refine Br.yes (by first | decide | assumption | (apply decide_eq_true; omega)) ?_ | refine Br.non (by first | decide | assumption | (apply decide_eq_false; omega)) ?_ | refine Br.cond_ff ?_ | refine Br.eqT (by omega) ?_ | refine Br.eqF (by omega) ?_ | refine Br.neT (by omega) ?_ | refine Br.neF (by omega) ?_ | refine Ld.mk' _ rfl ?_ | refine Need.mk (by first | decide | omega | kernel_rfl) ?_ | refine Nm.i64 (by omega) ?_ | refine Nm.u64 (by omega) ?_ | refine Nm.u8 (by omega) ?_ | refine Nm.keep ?_ | refine Need.mk (by dsimp only; omega) ?_) | refine Br.non rfl ?_ | refine Br.yes rfl ?_ | refine TRL.step (TTok _ _) ?_ | (refine x_exq (TTok _ _) ?_; (conv => whnf); fail_if_success (guard_target =ₛ False)))
              all_goals (conv => whnf)
              all_goals first | exact ⟨(), trivial, rfl, trivial⟩ | trace_state
        · skip
          repeat' ((conv => whnf); first | (with_reducible first | refine TR.seq ?_ | refine TR.regionL ?_ | refine TR.drawn (TTok _ _) mixed ?_ | refine TR.block ?_ | refine TR.ret ?_ | refine TR.exit ?_ | refine TR.skip ?_ | refine TR.condB rfl ?_ | refine TRL.nil ?_ | refine Br.cond_t ?_ | refine Br.cond_f ?_ | refine Br.yes (by first | decide | assumption | (apply decide_eq_true; omega)) ?_ | refine Br.non (by first | decide | assumption | (apply decide_eq_false; omega)) ?_ | refine Br.cond_ff ?_ | refine Br.eqT (by omega) ?_ | refine Br.eqF (by omega) ?_ | refine Br.neT (by omega) ?_ | refine Br.neF (by omega) ?_ | refine Ld.mk' _ rfl ?_ | refine Need.mk (by first | decide | omega | kernel_rfl) ?_ | refine Nm.i64 (by omega) ?_ | refine Nm.u64 (by omega) ?_ | refine Nm.u8 (by omega) ?_ | refine Nm.keep ?_ | refine Need.mk (by dsimp only; omega) ?_) | refine Br.non rfl ?_ | refine Br.yes rfl ?_ | refine TRL.step (TTok _ _) ?_ | (refine x_exq (TTok _ _) ?_; (conv => whnf); fail_if_success (guard_target =ₛ False)))
          all_goals (conv => whnf)
          all_goals first | exact ⟨(), trivial, rfl, trivial⟩ | trace_state
  · skip
    repeat' ((conv => whnf); first | (with_reducible first | refine TR.seq ?_ | refine TR.regionL ?_ | refine TR.drawn (TTok _ _) mixed ?_ | refine TR.block ?_ | refine TR.ret ?_ | refine TR.exit ?_ | refine TR.skip ?_ | refine TR.condB rfl ?_ | refine TRL.nil ?_ | refine Br.cond_t ?_ | refine Br.cond_f ?_ | refine Br.yes (by first | decide | assumption | (apply decide_eq_true; omega)) ?_ | refine Br.non (by first | decide | assumption | (apply decide_eq_false; omega)) ?_ | refine Br.cond_ff ?_ | refine Br.eqT (by omega) ?_ | refine Br.eqF (by omega) ?_ | refine Br.neT (by omega) ?_ | refine Br.neF (by omega) ?_ | refine Ld.mk' _ rfl ?_ | refine Need.mk (by first | decide | omega | kernel_rfl) ?_ | refine Nm.i64 (by omega) ?_ | refine Nm.u64 (by omega) ?_ | refine Nm.u8 (by omega) ?_ | refine Nm.keep ?_ | refine Need.mk (by dsimp only; omega) ?_) | refine Br.non rfl ?_ | refine Br.yes rfl ?_ | refine TRL.step (TTok _ _) ?_ | (refine x_exq (TTok _ _) ?_; (conv => whnf); fail_if_success (guard_target =ₛ False)))
    all_goals (conv => whnf)
    all_goals first | exact ⟨(), trivial, rfl, trivial⟩ | trace_state
end Go.Proofs.YtdmgmkifjboojaaGreatDoor
set_option maxRecDepth 100000
set_option linter.unusedVariables false
set_option linter.unusedSimpArgs false
namespace Go.SX
theorem sInts_extract (s : ByteArray) (i j : Nat) : sInts (s.extract i j) = ((sInts s).drop i).take (j - i) := by
  unfold sInts
  rw [ByteArray.data_extract]
  simp only [Array.toList_extract, List.extract_eq_take_drop, List.map_take, List.map_drop]
theorem sInts_append (a b : ByteArray) : sInts (a ++ b) = sInts a ++ sInts b := by
  unfold sInts
  rw [ByteArray.data_append]
  simp
theorem sInts_inj {a b : ByteArray} (h : sInts a = sInts b) : a = b := by rw [← strOf_sInts a, h, strOf_sInts]
def encL (ls : List (List Int)) : List Int := ls.flatMap fun l => (l.length : Int) :: l
theorem encL_cons (x : List Int) (l : List (List Int)) : encL (x :: l) = (x.length : Int) :: (x ++ encL l) := by simp [encL]
theorem encL_app (a b : List (List Int)) : encL (a ++ b) = encL a ++ encL b := by simp [encL]
theorem encL_inj : ∀ a b : List (List Int), (∀ l, l ∈ a → l ≠ []) → (∀ l, l ∈ b → l ≠ []) → encL a ++ [0] = encL b ++ [0] → a = b
  | [], [], _, _, _ => rfl
  | [], y :: b, _, hb, h => by
    rw [encL_cons] at h
    simp only [encL, List.flatMap_nil, List.nil_append, List.cons_append, List.cons.injEq] at h
    have := hb y (by simp)
    have h2 : y.length = 0 := by omega
    exact (this (List.eq_nil_of_length_eq_zero h2)).elim
  | x :: a, [], ha, _, h => by
    rw [encL_cons] at h
    simp only [encL, List.flatMap_nil, List.nil_append, List.cons_append, List.cons.injEq] at h
    have := ha x (by simp)
    have h2 : x.length = 0 := by omega
    exact (this (List.eq_nil_of_length_eq_zero h2)).elim
  | x :: a, y :: b, ha, hb, h => by
    rw [encL_cons, encL_cons] at h
    simp only [List.cons_append, List.cons.injEq, List.append_assoc] at h
    obtain ⟨h1, h2⟩ := h
    obtain ⟨e1, e2⟩ := List.append_inj h2 (by omega)
    rw [e1, encL_inj a b (fun l hl => ha l (by simp [hl])) (fun l hl => hb l (by simp [hl])) e2]
def lbL (s : ByteArray) (k : Nat) : List (List Int) := (List.range k).map fun j => sInts (lbS s j)
theorem lbL_succ (s : ByteArray) (k : Nat) : lbL s (k + 1) = lbL s k ++ [sInts (lbS s k)] := by simp [lbL, List.range_succ]
theorem lbL_len (s : ByteArray) (k : Nat) : (lbL s k).length = k := by simp [lbL]
theorem lbS_size {s : ByteArray} {N : Nat} (h : LbN s N) (k : Nat) (hk : k < N) : ((lbS s k).size : Int) = bAt s (lbPos s k) := by
  have p0 := lbPos_nn s k
  obtain ⟨o1, o2, o3, o4⟩ := h.ok k hk
  have hb := bAt_range s (lbPos s k)
  unfold lbS
  rw [ByteArray.size_extract]
  omega
theorem take_enc {s : ByteArray} {N : Nat} (h : LbN s N) : ∀ k, k ≤ N → (sInts s).take (lbPos s k).toNat = encL (lbL s k)
  | 0, _ => by simp [lbPos, lbL, encL]
  | k + 1, hk => by
    have ih := take_enc h k (by omega)
    have p0 := lbPos_nn s k
    obtain ⟨o1, o2, o3, o4⟩ := h.ok k (by omega)
    have hb := bAt_range s (lbPos s k)
    have hz := lbS_size h k (by omega)
    have e : (lbPos s (k + 1)).toNat = (lbPos s k).toNat + (1 + (bAt s (lbPos s k)).toNat) := by
      simp only [lbPos]
      omega
    have hlt : (lbPos s k).toNat < (sInts s).length := by rw [sInts_length]; omega
    have hg := sInts_get s (lbPos s k).toNat (by omega)
    rw [List.getElem?_eq_getElem hlt] at hg
    have hd : (sInts s).drop (lbPos s k).toNat = bAt s (lbPos s k) :: (sInts s).drop ((lbPos s k).toNat + 1) := by
      rw [List.drop_eq_getElem_cons hlt, Option.some.inj hg, show (((lbPos s k).toNat : Nat) : Int) = lbPos s k by omega]
    rw [e, List.take_add, ih, hd, lbL_succ, encL_app, show 1 + (bAt s (lbPos s k)).toNat = (bAt s (lbPos s k)).toNat + 1 by omega, List.take_succ_cons, encL_cons]
    have hx : sInts (lbS s k) = ((sInts s).drop ((lbPos s k).toNat + 1)).take (bAt s (lbPos s k)).toNat := by
      unfold lbS
      rw [sInts_extract, show (lbPos s k + 1).toNat = (lbPos s k).toNat + 1 by omega, show (lbPos s k + 1 + bAt s (lbPos s k)).toNat - ((lbPos s k).toNat + 1) = (bAt s (lbPos s k)).toNat by omega]
    rw [← hx, sInts_length, hz]
    simp [encL]
theorem right_enc {s : ByteArray} (h : rgt s = true) : sInts s = encL (lbL s (rgN s)) ++ [0] := by
  obtain ⟨e1, e2⟩ := rgt_end h
  have hz := rgt_size h
  have h1 := take_enc (rgN_ok s) (rgN s) (Nat.le_refl _)
  have hlt : (lbPos s (rgN s)).toNat < (sInts s).length := by rw [sInts_length]; omega
  have hg := sInts_get s (lbPos s (rgN s)).toNat (by omega)
  rw [List.getElem?_eq_getElem hlt] at hg
  have hd : (sInts s).drop (lbPos s (rgN s)).toNat = [0] := by
    rw [List.drop_eq_getElem_cons hlt, Option.some.inj hg, show (((lbPos s (rgN s)).toNat : Nat) : Int) = lbPos s (rgN s) by omega, e2, List.drop_eq_nil_of_le (by rw [sInts_length]; omega)]
  rw [← h1, ← hd, List.take_append_drop]
theorem suf_enc {s : ByteArray} (h : rgt s = true) (k : Nat) (hk : k ≤ rgN s) : sInts (sufN s k) = encL ((lbL s (rgN s)).drop k) ++ [0] := by
  have p0 := lbPos_nn s k
  have p1 := (rgN_ok s).le k hk
  unfold sufN
  rw [sInts_extract, List.take_of_length_le (by rw [List.length_drop, sInts_length]; exact Nat.le_refl _)]
  have h1 := take_enc (rgN_ok s) k hk
  have h2 := right_enc h
  have h3 : lbL s (rgN s) = lbL s k ++ (lbL s (rgN s)).drop k := by
    have : lbL s k = (lbL s (rgN s)).take k := by
      unfold lbL
      rw [← List.map_take, List.take_range, Nat.min_eq_left hk]
    rw [this, List.take_append_drop]
  have hl : (encL (lbL s k)).length = (lbPos s k).toNat := by rw [← h1, List.length_take, sInts_length]; omega
  rw [h3, encL_app, List.append_assoc] at h2
  rw [h2, ← hl, List.drop_left]
theorem lbL_ne {s : ByteArray} {N : Nat} (h : LbN s N) : ∀ l, l ∈ lbL s N → l ≠ [] := by
  intro l hl
  simp only [lbL, List.mem_map, List.mem_range] at hl
  obtain ⟨j, hj, rfl⟩ := hl
  have hz := lbS_size h j hj
  have o2 := (h.ok j hj).2.1
  intro e
  have := sInts_length (lbS s j)
  rw [e] at this
  simp at this
  omega
theorem lowN_right {a : ByteArray} (h : rgt a = true) : rgt (lowN a) = true ∧ rgN (lowN a) = rgN a := by
  refine ⟨by rw [rgt_low]; exact h, ?_⟩
  unfold lowN
  rw [if_pos h, rgN_low]
theorem und_labels {a b : ByteArray} : undB a b = true ↔ rgt a = true ∧ rgt b = true ∧ rgN b ≤ rgN a ∧ (lbL (lowN a) (rgN a)).drop (rgN a - rgN b) = lbL (lowN b) (rgN b) := by
  constructor
  · intro h
    obtain ⟨h1, h2, k, h3, h4⟩ := undB_iff.1 h
    obtain ⟨a1, a2⟩ := lowN_right h1
    obtain ⟨b1, b2⟩ := lowN_right h2
    have e1 := suf_enc a1 k (by rw [a2]; exact h3)
    rw [h4, right_enc b1, a2, b2] at e1
    have na := lbL_ne (rgN_ok (lowN a))
    have nb := lbL_ne (rgN_ok (lowN b))
    rw [a2] at na
    rw [b2] at nb
    have e2 := encL_inj _ _ nb (fun l hl => na l (List.mem_of_mem_drop hl)) e1
    have e3 := congrArg List.length e2
    rw [List.length_drop, lbL_len, lbL_len] at e3
    exact ⟨h1, h2, by omega, by rw [show rgN a - rgN b = k by omega]; exact e2.symm⟩
  · rintro ⟨h1, h2, h3, h4⟩
    obtain ⟨a1, a2⟩ := lowN_right h1
    obtain ⟨b1, b2⟩ := lowN_right h2
    refine undB_iff.2 ⟨h1, h2, rgN a - rgN b, by omega, sInts_inj ?_⟩
    rw [suf_enc a1 _ (by rw [a2]; omega), a2, h4, right_enc b1, b2]
theorem und_at {a b : ByteArray} : undB a b = true ↔ rgt a = true ∧ rgt b = true ∧ rgN b ≤ rgN a ∧ ∀ i, i < rgN b → lbS (lowN a) (rgN a - rgN b + i) = lbS (lowN b) i := by
  rw [und_labels]
  refine ⟨fun ⟨h1, h2, h3, h4⟩ => ⟨h1, h2, h3, fun i hi => ?_⟩, fun ⟨h1, h2, h3, h4⟩ => ⟨h1, h2, h3, ?_⟩⟩
  · have := congrArg (fun l => l[i]?) h4
    simp only [List.getElem?_drop, lbL, List.getElem?_map, List.getElem?_range hi, List.getElem?_range (show rgN a - rgN b + i < rgN a by omega), Option.map_some, Option.some.injEq] at this
    exact sInts_inj this
  · apply List.ext_getElem?
    intro i
    rcases Nat.lt_or_ge i (rgN b) with hi | hi
    · simp only [List.getElem?_drop, lbL, List.getElem?_map, List.getElem?_range hi, List.getElem?_range (show rgN a - rgN b + i < rgN a by omega), Option.map_some, Option.some.injEq, h4 i hi]
    · rw [List.getElem?_eq_none (by rw [List.length_drop, lbL_len]; omega), List.getElem?_eq_none (by rw [lbL_len]; exact hi)]
theorem lbPos_lt {s : ByteArray} {N : Nat} (h : LbN s N) : ∀ (j k : Nat), j < k → k ≤ N → lbPos s j < lbPos s k
  | j, 0, h1, _ => by omega
  | j, k + 1, h1, h2 => by
    have hb := bAt_range s (lbPos s k)
    have e : lbPos s (k + 1) = lbPos s k + 1 + bAt s (lbPos s k) := rfl
    by_cases hj : j = k
    · subst hj; omega
    · have := lbPos_lt h j k (by omega) (by omega)
      omega
theorem und_sizes {n a b : ByteArray} (ha : undB n a = true) (hb : undB n b = true) : a.size < b.size ↔ rgN a < rgN b := by
  obtain ⟨h1, h2, k, h3, h4⟩ := undB_iff.1 ha
  obtain ⟨_, g2, j, g3, g4⟩ := undB_iff.1 hb
  obtain ⟨n1, n2⟩ := lowN_right h1
  have ea := (und_labels.1 ha).2.2.1
  have eb := (und_labels.1 hb).2.2.1
  have ka : k = rgN n - rgN a := by
    have e1 := suf_enc n1 k (by rw [n2]; exact h3)
    obtain ⟨b1, b2⟩ := lowN_right h2
    rw [h4, right_enc b1, n2, b2] at e1
    have na := lbL_ne (rgN_ok (lowN n))
    have nb := lbL_ne (rgN_ok (lowN a))
    rw [n2] at na
    rw [b2] at nb
    have e2 := congrArg List.length (encL_inj _ _ nb (fun l hl => na l (List.mem_of_mem_drop hl)) e1)
    rw [List.length_drop, lbL_len, lbL_len] at e2
    omega
  have kb : j = rgN n - rgN b := by
    have e1 := suf_enc n1 j (by rw [n2]; exact g3)
    obtain ⟨b1, b2⟩ := lowN_right g2
    rw [g4, right_enc b1, n2, b2] at e1
    have na := lbL_ne (rgN_ok (lowN n))
    have nb := lbL_ne (rgN_ok (lowN b))
    rw [n2] at na
    rw [b2] at nb
    have e2 := congrArg List.length (encL_inj _ _ nb (fun l hl => na l (List.mem_of_mem_drop hl)) e1)
    rw [List.length_drop, lbL_len, lbL_len] at e2
    omega
  have sa : (a.size : Int) = (lowN n).size - lbPos (lowN n) k := by
    have := (rgN_ok (lowN n)).le k (by rw [n2]; exact h3)
    have p0 := lbPos_nn (lowN n) k
    rw [← lowN_size a, ← h4]
    unfold sufN
    rw [ByteArray.size_extract]
    omega
  have sb : (b.size : Int) = (lowN n).size - lbPos (lowN n) j := by
    have := (rgN_ok (lowN n)).le j (by rw [n2]; exact g3)
    have p0 := lbPos_nn (lowN n) j
    rw [← lowN_size b, ← g4]
    unfold sufN
    rw [ByteArray.size_extract]
    omega
  have hN := rgN_ok (lowN n)
  rw [n2] at hN
  constructor
  · intro h
    rcases Nat.lt_or_ge (rgN a) (rgN b) with h5 | h5
    · exact h5
    · exfalso
      rcases Nat.lt_or_ge k j with h6 | h6
      · have := lbPos_lt hN k j h6 g3
        omega
      · have : k = j := by omega
        subst this
        omega
  · intro h
    have := lbPos_lt hN j k (by omega) h3
    omega
end Go.SX
set_option maxRecDepth 100000
set_option linter.unusedVariables false
set_option linter.unusedSimpArgs false
namespace Go.Proofs.YtdmgmkifjboojaaGreatDoor
open Go.SX
theorem lwC_same (s : ByteArray) (q : Nat) (h : q < s.size) (hb : lowb (bAt s q) = bAt s q) : lwC s (q + 1) = lwC s q := by
  have hlt : q < (sInts s).length := by rw [sInts_length]; exact h
  have hg := sInts_get s q h
  rw [List.getElem?_eq_getElem hlt] at hg
  have hg := Option.some.inj hg
  unfold lwC
  rw [List.drop_eq_getElem_cons hlt, List.take_add_one, List.getElem?_eq_getElem hlt, hg]
  simp [hb]
set_option maxHeartbeats 8000000 in
theorem rsmall (s : ByteArray) (hs : s.size < 1073741824) (w : World) : Ret Tryz.prog 116 [.string s] w (.string (lowS s)) := by
  refine Ret.of (I := fun _ => True) (T := TT) (fun _ _ => trivial) (TTok 0 _) Tryz.func116 (by kernel_rfl) rfl rfl ?_
  repeat' ((conv => whnf); first | (with_reducible first | refine TR.seq ?_ | refine TR.region (TTok _ _) ?_ | refine TR.drawn (TTok _ _) mixed ?_ | refine TR.block ?_ | refine TR.ret ?_ | refine TR.exit ?_ | refine TR.skip ?_ | refine TR.condB rfl ?_ | refine Br.cond_t ?_ | refine Br.cond_f ?_ | refine Br.yes (by first | decide | assumption | (apply decide_eq_true; omega)) ?_ | refine Br.non (by first | decide | assumption | (apply decide_eq_false; omega)) ?_ | refine Br.cond_ff ?_ | refine Br.eqT (by omega) ?_ | refine Br.eqF (by omega) ?_ | refine Br.neT (by omega) ?_ | refine Br.neF (by omega) ?_ | refine Ld.mk' _ rfl ?_ | refine Need.mk (by first | decide | omega | kernel_rfl) ?_ | refine Nm.i64 (by omega) ?_ | refine Nm.u64 (by omega) ?_ | refine Nm.u8 (by omega) ?_ | refine Nm.keep ?_) | refine sIntsK.mk ?_ | (refine x_exq (TTok _ _) ?_; (conv => whnf); fail_if_success (guard_target =ₛ False)))
  all_goals (conv => whnf)
  refine TR.loopH (fun i : Nat => [(4, .v (.int .i64 i))]) (fun i => [(0, ⟨.buf, 5, 1, 0, byt (lwC s i)⟩)]) (fun i => i ≤ s.size) (fun i => s.size - i) 0 (Nat.zero_le _) ?_ ?_
  · repeat' ((conv => whnf); first | exact trivial | exact Fgt.nil | exact Fgt.mk rfl rfl rfl | refine And.intro rfl ?_ | refine And.intro ?_ ?_)
    all_goals trace_state
  · intro i hi
    by_cases hil : i < s.size
    · have hld : subL (byt (lwC s i)) (0 * 1 + (i : Int).toNat * 1) 1 = some [.v (.int .u8 (bAt s i))] := by
        have h1 := subL_byt_at (lwC s i) i (by rw [lwC_len]; exact hil)
        rw [lwC_at s _ hil] at h1
        rw [show 0 * 1 + (i : Int).toNat * 1 = i by omega]
        exact h1
      have hb := bAt_range s i
      have hst := lwC_set s i hil
      have hpl := fun z => putL_byt (lwC s i) i z (by rw [lwC_len]; exact hil)
      have hsm := lwC_same s i hil
      by_cases h1 : 65 ≤ bAt s i
      · by_cases h2 : bAt s i ≤ 90
        · have hlb : lowb (bAt s i) = bAt s i + 32 := if_pos ⟨h1, h2⟩
          have hpb : putL (byt (lwC s i)) (0 * 1 + (i : Int).toNat * 1) [.v (.int .u8 (bAt s i + 32))] = some (byt (lwC s (i + 1))) := by
            rw [show 0 * 1 + (i : Int).toNat * 1 = i by omega, hpl, ← hlb, hst]
          generalize bAt s i = x at *
          repeat' ((conv => whnf); first | (with_reducible first | refine TR.seq ?_ | refine TR.region (TTok _ _) ?_ | refine TR.drawn (TTok _ _) mixed ?_ | refine TR.block ?_ | refine TR.ret ?_ | refine TR.exit ?_ | refine TR.skip ?_ | refine TR.condB rfl ?_ | refine Br.cond_t ?_ | refine Br.cond_f ?_ | refine Br.yes (by first | decide | assumption | (apply decide_eq_true; omega)) ?_ | refine Br.non (by first | decide | assumption | (apply decide_eq_false; omega)) ?_ | refine Br.cond_ff ?_ | refine Br.eqT (by omega) ?_ | refine Br.eqF (by omega) ?_ | refine Br.neT (by omega) ?_ | refine Br.neF (by omega) ?_ | refine Ld.mk' _ rfl ?_ | refine Need.mk (by first | decide | omega | kernel_rfl) ?_ | refine Nm.i64 (by omega) ?_ | refine Nm.u64 (by omega) ?_ | refine Nm.u8 (by omega) ?_ | refine Nm.keep ?_) | refine Ld.mk' _ hld ?_ | refine Ld.mk' _ hpb ?_ | (refine x_exq (TTok _ _) ?_; (conv => whnf); fail_if_success (guard_target =ₛ False)))
          all_goals (conv => whnf)
          all_goals refine ⟨i + 1, by omega, by omega, ?_⟩
          all_goals repeat' ((conv => whnf); first | exact trivial | exact Fgt.nil | exact Fgt.mk rfl rfl rfl | refine And.intro rfl ?_ | refine And.intro ?_ ?_)
          all_goals trace_state
        · have hlb : lowb (bAt s i) = bAt s i := if_neg (fun h => h2 h.2)
          have hsm' := hsm hlb
          generalize bAt s i = x at *
          repeat' ((conv => whnf); first | (with_reducible first | refine TR.seq ?_ | refine TR.region (TTok _ _) ?_ | refine TR.drawn (TTok _ _) mixed ?_ | refine TR.block ?_ | refine TR.ret ?_ | refine TR.exit ?_ | refine TR.skip ?_ | refine TR.condB rfl ?_ | refine Br.cond_t ?_ | refine Br.cond_f ?_ | refine Br.yes (by first | decide | assumption | (apply decide_eq_true; omega)) ?_ | refine Br.non (by first | decide | assumption | (apply decide_eq_false; omega)) ?_ | refine Br.cond_ff ?_ | refine Br.eqT (by omega) ?_ | refine Br.eqF (by omega) ?_ | refine Br.neT (by omega) ?_ | refine Br.neF (by omega) ?_ | refine Ld.mk' _ rfl ?_ | refine Need.mk (by first | decide | omega | kernel_rfl) ?_ | refine Nm.i64 (by omega) ?_ | refine Nm.u64 (by omega) ?_ | refine Nm.u8 (by omega) ?_ | refine Nm.keep ?_) | refine Ld.mk' _ hld ?_ | (refine x_exq (TTok _ _) ?_; (conv => whnf); fail_if_success (guard_target =ₛ False)))
          all_goals (conv => whnf)
          all_goals refine ⟨i + 1, by omega, by omega, ?_⟩
          all_goals rw [hsm']
          all_goals repeat' ((conv => whnf); first | exact trivial | exact Fgt.nil | exact Fgt.mk rfl rfl rfl | refine And.intro rfl ?_ | refine And.intro ?_ ?_)
          all_goals trace_state
      · have hlb : lowb (bAt s i) = bAt s i := if_neg (fun h => h1 h.1)
        have hsm' := hsm hlb
        generalize bAt s i = x at *
        repeat' ((conv => whnf); first | (with_reducible first | refine TR.seq ?_ | refine TR.region (TTok _ _) ?_ | refine TR.drawn (TTok _ _) mixed ?_ | refine TR.block ?_ | refine TR.ret ?_ | refine TR.exit ?_ | refine TR.skip ?_ | refine TR.condB rfl ?_ | refine Br.cond_t ?_ | refine Br.cond_f ?_ | refine Br.yes (by first | decide | assumption | (apply decide_eq_true; omega)) ?_ | refine Br.non (by first | decide | assumption | (apply decide_eq_false; omega)) ?_ | refine Br.cond_ff ?_ | refine Br.eqT (by omega) ?_ | refine Br.eqF (by omega) ?_ | refine Br.neT (by omega) ?_ | refine Br.neF (by omega) ?_ | refine Ld.mk' _ rfl ?_ | refine Need.mk (by first | decide | omega | kernel_rfl) ?_ | refine Nm.i64 (by omega) ?_ | refine Nm.u64 (by omega) ?_ | refine Nm.u8 (by omega) ?_ | refine Nm.keep ?_) | refine Ld.mk' _ hld ?_ | (refine x_exq (TTok _ _) ?_; (conv => whnf); fail_if_success (guard_target =ₛ False)))
        all_goals (conv => whnf)
        all_goals refine ⟨i + 1, by omega, by omega, ?_⟩
        all_goals rw [hsm']
        all_goals repeat' ((conv => whnf); first | exact trivial | exact Fgt.nil | exact Fgt.mk rfl rfl rfl | refine And.intro rfl ?_ | refine And.intro ?_ ?_)
        all_goals trace_state
    · obtain rfl : i = s.size := by omega
      have hsub : subL (byt (lwC s s.size)) 0 s.size = some (byt ((sInts s).map lowb)) := by
        rw [lwC_all]
        have := subL_byt_take ((sInts s).map lowb) s.size (by simp [sInts_length])
        rwa [List.take_of_length_le (by simp [sInts_length])] at this
      repeat' ((conv => whnf); first | (with_reducible first | refine TR.seq ?_ | refine TR.region (TTok _ _) ?_ | refine TR.drawn (TTok _ _) mixed ?_ | refine TR.block ?_ | refine TR.ret ?_ | refine TR.exit ?_ | refine TR.skip ?_ | refine TR.condB rfl ?_ | refine Br.cond_t ?_ | refine Br.cond_f ?_ | refine Br.yes (by first | decide | assumption | (apply decide_eq_true; omega)) ?_ | refine Br.non (by first | decide | assumption | (apply decide_eq_false; omega)) ?_ | refine Br.cond_ff ?_ | refine Br.eqT (by omega) ?_ | refine Br.eqF (by omega) ?_ | refine Br.neT (by omega) ?_ | refine Br.neF (by omega) ?_ | refine Ld.mk' _ rfl ?_ | refine Need.mk (by first | decide | omega | kernel_rfl) ?_ | refine Nm.i64 (by omega) ?_ | refine Nm.u64 (by omega) ?_ | refine Nm.u8 (by omega) ?_ | refine Nm.keep ?_) | refine Ld.mk' _ hsub ?_ | (rw [bytL_byt]; conv => whnf) | (refine x_exq (TTok _ _) ?_; (conv => whnf); fail_if_success (guard_target =ₛ False)))
      all_goals (conv => whnf)
      all_goals first | rfl | trace_state
set_option maxHeartbeats 4000000 in
theorem rright (n : ByteArray) (hn : n.size < 1073741824) (w : World) : Ret Tryz.prog 74 [.string n] w (.bool (rgt n)) := by
  have h : Con Tryz.prog (fun _ => True) 74 (fun _ => [.v (.string n)]) (fun _ => []) (fun _ : Unit => True) (fun _ _ => .v (.bool (rgt n))) (fun _ _ => []) (fun _ => False) := by
    refine Con.of (TTok _ _) Tryz.func74 (by kernel_rfl) rfl rfl rfl (fun σ => rfl) (fun σ => rfl) (fun _ _ _ => rfl) (fun _ σ _ => rfl) (fun _ _ => CEnd.of rfl rfl rfl) ?_
    cases hr : rgt n with
    | false =>
      have c1 := rlabels_no (fun _ => True) n hn hr
      repeat' ((conv => whnf); first | (with_reducible first | refine TR.seq ?_ | refine TR.regionL ?_ | refine TR.drawn (TTok _ _) mixed ?_ | refine TR.block ?_ | refine TR.ret ?_ | refine TR.exit ?_ | refine TR.skip ?_ | refine TR.condB rfl ?_ | refine TRL.nil ?_ | refine Br.cond_t ?_ | refine Br.cond_f ?_ | refine Br.yes (by first | decide | assumption | (apply decide_eq_true; omega)) ?_ | refine Br.non (by first | decide | assumption | (apply decide_eq_false; omega)) ?_ | refine Br.cond_ff ?_ | refine Br.eqT (by omega) ?_ | refine Br.eqF (by omega) ?_ | refine Br.neT (by omega) ?_ | refine Br.neF (by omega) ?_ | refine Ld.mk' _ rfl ?_ | refine Need.mk (by first | decide | omega | kernel_rfl) ?_ | refine Nm.i64 (by omega) ?_ | refine Nm.u64 (by omega) ?_ | refine Nm.u8 (by omega) ?_ | refine Nm.keep ?_) | (refine TRL.con [] [] c1 rfl rfl rfl rfl trivial rfl rfl (fun p1 _ => ⟨trivial, ?_⟩) (fun _ h => h.elim)) | refine Br.non rfl ?_ | refine Br.yes rfl ?_ | refine TRL.step (TTok _ _) ?_ | (refine x_exq (TTok _ _) ?_; (conv => whnf); fail_if_success (guard_target =ₛ False)))
      all_goals (conv => whnf)
      all_goals first | exact ⟨(), trivial, rfl, trivial⟩ | trace_state
    | true =>
      have c1 := rlabels_yes (fun _ => True) n hr
      repeat' ((conv => whnf); first | (with_reducible first | refine TR.seq ?_ | refine TR.regionL ?_ | refine TR.drawn (TTok _ _) mixed ?_ | refine TR.block ?_ | refine TR.ret ?_ | refine TR.exit ?_ | refine TR.skip ?_ | refine TR.condB rfl ?_ | refine TRL.nil ?_ | refine Br.cond_t ?_ | refine Br.cond_f ?_ | refine Br.yes (by first | decide | assumption | (apply decide_eq_true; omega)) ?_ | refine Br.non (by first | decide | assumption | (apply decide_eq_false; omega)) ?_ | refine Br.cond_ff ?_ | refine Br.eqT (by omega) ?_ | refine Br.eqF (by omega) ?_ | refine Br.neT (by omega) ?_ | refine Br.neF (by omega) ?_ | refine Ld.mk' _ rfl ?_ | refine Need.mk (by first | decide | omega | kernel_rfl) ?_ | refine Nm.i64 (by omega) ?_ | refine Nm.u64 (by omega) ?_ | refine Nm.u8 (by omega) ?_ | refine Nm.keep ?_) | (refine TRL.con [] [7] c1 rfl rfl rfl rfl trivial rfl rfl (fun p1 _ => ⟨⟨rfl, trivial⟩, ?_⟩) (fun _ h => h.elim)) | refine Br.non rfl ?_ | refine Br.yes rfl ?_ | refine TRL.step (TTok _ _) ?_ | (refine x_exq (TTok _ _) ?_; (conv => whnf); fail_if_success (guard_target =ₛ False)))
      all_goals (conv => whnf)
      all_goals first | exact ⟨(), trivial, rfl, trivial⟩ | trace_state
  exact h.ret (args := [.string n]) (fun _ _ => rfl) (fun _ h => h) (fun _ _ => trivial)
noncomputable def mny (n : ByteArray) : Nat := if rgt n = true then rgN n else 0
set_option maxHeartbeats 4000000 in
theorem rmany (n : ByteArray) (hn : n.size < 1073741824) (w : World) : Ret Tryz.prog 44 [.string n] w (.int .i64 (mny n)) := by
  have h : Con Tryz.prog (fun _ => True) 44 (fun _ => [.v (.string n)]) (fun _ => []) (fun _ : Unit => True) (fun _ _ => .v (.int .i64 (mny n))) (fun _ _ => []) (fun _ => False) := by
    refine Con.of (TTok _ _) Tryz.func44 (by kernel_rfl) rfl rfl rfl (fun σ => rfl) (fun σ => rfl) (fun _ _ _ => rfl) (fun _ σ _ => rfl) (fun _ _ => CEnd.of rfl rfl rfl) ?_
    unfold mny
    cases hr : rgt n with
    | false =>
      have c1 := rlabels_no (fun _ => True) n hn hr
      rw [if_neg (by simp)]
      repeat' ((conv => whnf); first | (with_reducible first | refine TR.seq ?_ | refine TR.regionL ?_ | refine TR.drawn (TTok _ _) mixed ?_ | refine TR.block ?_ | refine TR.ret ?_ | refine TR.exit ?_ | refine TR.skip ?_ | refine TR.condB rfl ?_ | refine TRL.nil ?_ | refine Br.cond_t ?_ | refine Br.cond_f ?_ | refine Br.yes (by first | decide | assumption | (apply decide_eq_true; omega)) ?_ | refine Br.non (by first | decide | assumption | (apply decide_eq_false; omega)) ?_ | refine Br.cond_ff ?_ | refine Br.eqT (by omega) ?_ | refine Br.eqF (by omega) ?_ | refine Br.neT (by omega) ?_ | refine Br.neF (by omega) ?_ | refine Ld.mk' _ rfl ?_ | refine Need.mk (by first | decide | omega | kernel_rfl) ?_ | refine Nm.i64 (by omega) ?_ | refine Nm.u64 (by omega) ?_ | refine Nm.u8 (by omega) ?_ | refine Nm.keep ?_) | (refine TRL.con [] [] c1 rfl rfl rfl rfl trivial rfl rfl (fun p1 _ => ⟨trivial, ?_⟩) (fun _ h => h.elim)) | refine Br.non rfl ?_ | refine Br.yes rfl ?_ | refine TRL.step (TTok _ _) ?_ | (refine x_exq (TTok _ _) ?_; (conv => whnf); fail_if_success (guard_target =ₛ False)))
      all_goals (conv => whnf)
      all_goals first | exact ⟨(), trivial, rfl, trivial⟩ | trace_state
    | true =>
      have c1 := rlabels_yes (fun _ => True) n hr
      rw [if_pos rfl]
      repeat' ((conv => whnf); first | (with_reducible first | refine TR.seq ?_ | refine TR.regionL ?_ | refine TR.drawn (TTok _ _) mixed ?_ | refine TR.block ?_ | refine TR.ret ?_ | refine TR.exit ?_ | refine TR.skip ?_ | refine TR.condB rfl ?_ | refine TRL.nil ?_ | refine Br.cond_t ?_ | refine Br.cond_f ?_ | refine Br.yes (by first | decide | assumption | (apply decide_eq_true; omega)) ?_ | refine Br.non (by first | decide | assumption | (apply decide_eq_false; omega)) ?_ | refine Br.cond_ff ?_ | refine Br.eqT (by omega) ?_ | refine Br.eqF (by omega) ?_ | refine Br.neT (by omega) ?_ | refine Br.neF (by omega) ?_ | refine Ld.mk' _ rfl ?_ | refine Need.mk (by first | decide | omega | kernel_rfl) ?_ | refine Nm.i64 (by omega) ?_ | refine Nm.u64 (by omega) ?_ | refine Nm.u8 (by omega) ?_ | refine Nm.keep ?_) | (refine TRL.con [] [7] c1 rfl rfl rfl rfl trivial rfl rfl (fun p1 _ => ⟨⟨rfl, trivial⟩, ?_⟩) (fun _ h => h.elim)) | refine Br.non rfl ?_ | refine Br.yes rfl ?_ | refine TRL.step (TTok _ _) ?_ | (refine x_exq (TTok _ _) ?_; (conv => whnf); fail_if_success (guard_target =ₛ False)))
      all_goals (conv => whnf)
      all_goals first | exact ⟨(), trivial, rfl, trivial⟩ | trace_state
  exact h.ret (args := [.string n]) (fun _ _ => rfl) (fun _ h => h) (fun _ _ => trivial)
end Go.Proofs.YtdmgmkifjboojaaGreatDoor
set_option maxRecDepth 100000
set_option linter.unusedVariables false
set_option linter.unusedSimpArgs false
namespace Go.Proofs.YtdmgmkifjboojaaGreatDoor
open Go.SX
theorem lbC_at (s : ByteArray) (N k : Nat) (h : k < N) : subL (lbC s N) (0 * 1 + (k : Int).toNat * 1) 1 = some [.v (.string (lbS s k))] := by
  have h1 : (lbV s N)[k]? = some (.string (lbS s k)) := by simp [lbV, List.getElem?_range h]
  have h2 := subL_flat (fun v : Value => [v]) 1 (fun _ => rfl) (lbV s N) k _ h1
  rw [show 0 * 1 + (k : Int).toNat * 1 = k * 1 by omega]
  unfold lbC
  have e : (lbV s N).flatMap (fun v => [v]) = lbV s N := by simp
  rw [e] at h2
  exact h2
def lwP (n : ByteArray) (k : Nat) (o : ByteArray) : Prop := sInts o = (encL (lbL n k)).map lowb
theorem lwP_zero (n : ByteArray) : lwP n 0 ⟨#[]⟩ := by simp [lwP, lbL, encL, sInts]
theorem lwP_succ {n : ByteArray} {N k : Nat} {o : ByteArray} (hN : LbN n N) (hk : k < N) (h : lwP n k o) : lwP n (k + 1) (o ++ strOfNums [((lbS n k).size : Int)] ++ lowS (lbS n k)) := by
  have hz := lbS_size hN k hk
  obtain ⟨o1, o2, o3, o4⟩ := hN.ok k hk
  unfold lwP at h ⊢
  rw [sInts_append, sInts_append, h, sInts_lowS, sInts_str' _ (by simp; omega), lbL_succ, encL_app, List.map_append]
  simp only [encL, List.flatMap_cons, List.flatMap_nil, List.append_nil, List.map_cons, sInts_length]
  rw [lowb_le (by omega)]
  simp
theorem lwP_size {n : ByteArray} {N k : Nat} {o : ByteArray} (hN : LbN n N) (hk : k ≤ N) (h : lwP n k o) : (o.size : Int) = lbPos n k := by
  have h1 := congrArg List.length h
  have p0 := lbPos_nn n k
  have p1 := hN.le k hk
  rw [List.length_map, ← take_enc hN k hk, List.length_take, sInts_length, sInts_length] at h1
  omega
theorem lwP_end {n : ByteArray} {o : ByteArray} (hr : rgt n = true) (h : lwP n (rgN n) o) : o ++ ⟨#[0]⟩ = lowN n := by
  unfold lowN
  rw [if_pos hr]
  refine sInts_inj ?_
  unfold lwP at h
  rw [sInts_append, h, sInts_lowS, right_enc hr]
  simp [sInts, lowb]
set_option maxHeartbeats 8000000 in
theorem rlower (n : ByteArray) (hn : n.size < 1073741824) (w : World) : Ret Tryz.prog 78 [.string n] w (.string (lowN n)) := by
  have h : Con Tryz.prog (fun _ => True) 78 (fun _ => [.v (.string n)]) (fun _ => []) (fun _ : Unit => True) (fun _ _ => .v (.string (lowN n))) (fun _ _ => []) (fun _ => False) := by
    refine Con.of (TTok _ _) Tryz.func78 (by kernel_rfl) rfl rfl rfl (fun σ => rfl) (fun σ => rfl) (fun _ _ _ => rfl) (fun _ σ _ => rfl) (fun _ _ => CEnd.of rfl rfl rfl) ?_
    cases hr : rgt n with
    | false =>
      have c1 := rlabels_no (fun _ => True) n hn hr
      rw [show lowN n = n by unfold lowN; rw [if_neg (by rw [hr]; simp)]]
      repeat' ((conv => whnf); first | (with_reducible first | refine TR.seq ?_ | refine TR.regionL ?_ | refine TR.drawn (TTok _ _) mixed ?_ | refine TR.block ?_ | refine TR.ret ?_ | refine TR.exit ?_ | refine TR.skip ?_ | refine TR.condB rfl ?_ | refine TRL.nil ?_ | refine Br.cond_t ?_ | refine Br.cond_f ?_ | refine Br.yes (by first | decide | assumption | (apply decide_eq_true; omega)) ?_ | refine Br.non (by first | decide | assumption | (apply decide_eq_false; omega)) ?_ | refine Br.cond_ff ?_ | refine Br.eqT (by omega) ?_ | refine Br.eqF (by omega) ?_ | refine Br.neT (by omega) ?_ | refine Br.neF (by omega) ?_ | refine Ld.mk' _ rfl ?_ | refine Need.mk (by first | decide | omega | kernel_rfl) ?_ | refine Nm.i64 (by omega) ?_ | refine Nm.u64 (by omega) ?_ | refine Nm.u8 (by omega) ?_ | refine Nm.keep ?_) | (refine TRL.con [] [] c1 rfl rfl rfl rfl trivial rfl rfl (fun p1 _ => ⟨trivial, ?_⟩) (fun _ h => h.elim)) | refine Br.non rfl ?_ | refine Br.yes rfl ?_ | refine TRL.step (TTok _ _) ?_ | (refine x_exq (TTok _ _) ?_; (conv => whnf); fail_if_success (guard_target =ₛ False)))
      all_goals (conv => whnf)
      all_goals first | exact ⟨(), trivial, rfl, trivial⟩ | trace_state
    | true =>
      have c1 := rlabels_yes (fun _ => True) n hr
      obtain ⟨hN, z0, z1, hp, hb0⟩ := rgt_lb hr
      have hend := fun o => lwP_end (o := o) hr
      have hNb : rgN n ≤ 255 := by have := lbN_bound hN (rgN n) (Nat.le_refl _); omega
      generalize rgN n = N at hN hp hb0 c1 hend hNb
      repeat' ((conv => whnf); first | (with_reducible first | refine TR.seq ?_ | refine TR.regionL ?_ | refine TR.drawn (TTok _ _) mixed ?_ | refine TR.block ?_ | refine TR.ret ?_ | refine TR.exit ?_ | refine TR.skip ?_ | refine TR.condB rfl ?_ | refine TRL.nil ?_ | refine Br.cond_t ?_ | refine Br.cond_f ?_ | refine Br.yes (by first | decide | assumption | (apply decide_eq_true; omega)) ?_ | refine Br.non (by first | decide | assumption | (apply decide_eq_false; omega)) ?_ | refine Br.cond_ff ?_ | refine Br.eqT (by omega) ?_ | refine Br.eqF (by omega) ?_ | refine Br.neT (by omega) ?_ | refine Br.neF (by omega) ?_ | refine Ld.mk' _ rfl ?_ | refine Need.mk (by first | decide | omega | kernel_rfl) ?_ | refine Nm.i64 (by omega) ?_ | refine Nm.u64 (by omega) ?_ | refine Nm.u8 (by omega) ?_ | refine Nm.keep ?_) | (refine TRL.con [] [9] c1 rfl rfl rfl rfl trivial rfl rfl (fun p1 _ => ⟨⟨rfl, trivial⟩, ?_⟩) (fun _ h => h.elim)) | refine Br.non rfl ?_ | refine Br.yes rfl ?_ | refine TRL.step (TTok _ _) ?_ | (refine x_exq (TTok _ _) ?_; (conv => whnf); fail_if_success (guard_target =ₛ False)))
      all_goals (conv => whnf)
      refine TR.loopH (fun x : Nat × ByteArray => [(6, .v (.int .i64 x.1)), (5, .v (.string x.2))]) (fun x => []) (fun x => x.1 ≤ N ∧ lwP n x.1 x.2) (fun x => N - x.1) (0, ⟨#[]⟩) ⟨Nat.zero_le _, lwP_zero n⟩ ?_ ?_
      · repeat' ((conv => whnf); first | exact trivial | exact Fgt.nil | exact Fgt.mk rfl rfl rfl | exact Fgt.mk rfl (by simp only [noRefC, lbC, noRefL_cat, noRefL_vals]; rfl) rfl | refine And.intro rfl ?_ | refine And.intro ?_ ?_)
      · rintro ⟨k, o⟩ ⟨hk, ho⟩
        dsimp only at hk ho
        by_cases hkN : k < N
        · have hld := lbC_at n N k hkN
          have hz := lbS_size hN k hkN
          obtain ⟨o1, o2, o3, o4⟩ := hN.ok k hkN
          have hb := bAt_range n (lbPos n k)
          have hs := lwP_succ hN hkN ho
          have hoz := lwP_size hN (by omega) ho
          have hoz2 := hN.le k hk
          generalize lbS n k = lab at hld hz hs
          have hs1 : (strOfNums [(lab.size : Int)]).size = 1 := rfl
          have hsl := lowS_size lab
          have hn1 : ((o.size + (strOfNums [(lab.size : Int)]).size : Nat) : Int) ≤ 9223372036854775807 := by rw [hs1]; omega
          have hn2 : (((o ++ strOfNums [(lab.size : Int)]).size + (lowS lab).size : Nat) : Int) ≤ 9223372036854775807 := by rw [ByteArray.size_append, hs1, hsl]; omega
          have hsm := fun w => rsmall lab (by omega) w
          have hab : ∀ a b : Nat, ((a : Int) + (b : Int)) = ((a + b : Nat) : Int) := fun a b => (Int.natCast_add a b).symm
          repeat' ((conv => whnf); first | (with_reducible first | refine TR.seq ?_ | refine TR.regionL ?_ | refine TR.drawn (TTok _ _) mixed ?_ | refine TR.block ?_ | refine TR.ret ?_ | refine TR.exit ?_ | refine TR.skip ?_ | refine TR.condB rfl ?_ | refine TRL.nil ?_ | refine Br.cond_t ?_ | refine Br.cond_f ?_ | refine Br.yes (by first | decide | assumption | (apply decide_eq_true; omega)) ?_ | refine Br.non (by first | decide | assumption | (apply decide_eq_false; omega)) ?_ | refine Br.cond_ff ?_ | refine Br.eqT (by omega) ?_ | refine Br.eqF (by omega) ?_ | refine Br.neT (by omega) ?_ | refine Br.neF (by omega) ?_ | refine Ld.mk' _ hld ?_ | refine Ld.mk' _ rfl ?_ | refine Need.mk (by first | decide | omega | kernel_rfl) ?_ | refine Nm.i64 (by omega) ?_ | refine Nm.u64 (by omega) ?_ | refine Nm.u8 (by omega) ?_ | refine Nm.keep ?_ | refine x_ret (f := 116) rfl rfl (fun w _ => hsm w) ?_) | refine Need.mk hn1 ?_ | refine Need.mk hn2 ?_ | refine Br.non rfl ?_ | refine Br.yes rfl ?_ | refine TRL.step (TTok _ _) ?_ | (refine x_exq (TTok _ _) ?_; (conv => whnf); fail_if_success (guard_target =ₛ False)))
          all_goals (conv => whnf)
          all_goals refine ⟨(k + 1, o ++ strOfNums [(lab.size : Int)] ++ lowS lab), ⟨by dsimp only; omega, hs⟩, by dsimp only; omega, ?_⟩
          all_goals repeat' ((conv => whnf); first | exact trivial | exact Fgt.nil | exact Fgt.mk rfl rfl rfl | exact Fgt.mk rfl (by simp only [noRefC, lbC, noRefL_cat, noRefL_vals]; rfl) rfl | refine And.intro rfl ?_ | refine And.intro ?_ ?_)
          all_goals trace_state
        · obtain rfl : k = N := by omega
          have he := hend o ho
          have hoz := lwP_size hN (Nat.le_refl _) ho
          have hn3 : ((o.size + (ByteArray.mk #[0]).size : Nat) : Int) ≤ 9223372036854775807 := by show ((o.size + 1 : Nat) : Int) ≤ _; omega
          repeat' ((conv => whnf); first | (with_reducible first | refine TR.seq ?_ | refine TR.regionL ?_ | refine TR.drawn (TTok _ _) mixed ?_ | refine TR.block ?_ | refine TR.ret ?_ | refine TR.exit ?_ | refine TR.skip ?_ | refine TR.condB rfl ?_ | refine TRL.nil ?_ | refine Br.cond_t ?_ | refine Br.cond_f ?_ | refine Br.yes (by first | decide | assumption | (apply decide_eq_true; omega)) ?_ | refine Br.non (by first | decide | assumption | (apply decide_eq_false; omega)) ?_ | refine Br.cond_ff ?_ | refine Br.eqT (by omega) ?_ | refine Br.eqF (by omega) ?_ | refine Br.neT (by omega) ?_ | refine Br.neF (by omega) ?_ | refine Ld.mk' _ rfl ?_ | refine Need.mk (by first | decide | omega | kernel_rfl) ?_ | refine Nm.i64 (by omega) ?_ | refine Nm.u64 (by omega) ?_ | refine Nm.u8 (by omega) ?_ | refine Nm.keep ?_) | refine Need.mk hn3 ?_ | refine Br.non rfl ?_ | refine Br.yes rfl ?_ | refine TRL.step (TTok _ _) ?_ | (refine x_exq (TTok _ _) ?_; (conv => whnf); fail_if_success (guard_target =ₛ False)))
          all_goals (conv => whnf)
          all_goals first | exact ⟨(), trivial, congrArg (fun b => AV.v (Value.string b)) he, trivial⟩ | trace_state
  exact h.ret (args := [.string n]) (fun _ _ => rfl) (fun _ h => h) (fun _ _ => trivial)
end Go.Proofs.YtdmgmkifjboojaaGreatDoor
set_option maxRecDepth 100000
set_option linter.unusedVariables false
set_option linter.unusedSimpArgs false
namespace Go.Proofs.YtdmgmkifjboojaaGreatDoor
open Go.SX
theorem requal (a b : ByteArray) (ha : a.size < 1073741824) (hb : b.size < 1073741824) (w : World) : Ret Tryz.prog 45 [.string a, .string b] w (.bool (eqB a b)) := by
  have h1 := fun w => rright a ha w
  have h2 := fun w => rright b hb w
  have h3 := fun w => rlower a ha w
  have h4 := fun w => rlower b hb w
  obtain ⟨v, hv⟩ : ∃ v, eqB a b = v := ⟨_, rfl⟩
  rw [hv]
  unfold eqB at hv
  refine Ret.tj (I := fun _ => True) (fun _ _ => trivial) (TTok 0 _) Tryz.func45 (by kernel_rfl) rfl ?_
  cases e1 : rgt a with
  | false =>
    rw [e1] at h1 hv
    cases e2 : rgt b <;> rw [e2] at h2 hv <;> subst hv
    all_goals skip
    all_goals repeat' ((conv => whnf); first | (with_reducible first | refine TJ.seq ?_ | refine TJ.region (TTok _ _) ?_ | refine TJ.drawn (TTok _ _) mixed ?_ | refine TJ.cond rfl ?_ | refine TJ.block ?_ | refine TJ.loop ?_ | refine LJ.step ?_ | refine TJ.ret ?_ | refine TJ.exit ?_ | refine TJ.skip ?_ | refine TJ.scope ?_ | refine TJ.label ?_ | refine Br.cond_t ?_ | refine Br.cond_f ?_ | refine Br.yes (by first | decide | assumption | (apply decide_eq_true; omega)) ?_ | refine Br.non (by first | decide | assumption | (apply decide_eq_false; omega)) ?_ | refine Br.cond_ff ?_ | refine Br.eqT (by omega) ?_ | refine Br.eqF (by omega) ?_ | refine Br.neT (by omega) ?_ | refine Br.neF (by omega) ?_ | refine x_ret (f := 74) rfl rfl (fun w _ => h1 w) ?_ | refine x_ret (f := 74) rfl rfl (fun w _ => h2 w) ?_ | refine Ld.mk' _ rfl ?_ | refine Need.mk (by first | decide | omega | kernel_rfl) ?_ | refine Nm.i64 (by omega) ?_ | refine Nm.u64 (by omega) ?_ | refine Nm.u8 (by omega) ?_) | (refine x_exq (TTok _ _) ?_; (conv => whnf); fail_if_success (guard_target =ₛ False)))
    all_goals (conv => whnf)
    all_goals first | rfl | trace_state
  | true =>
    rw [e1] at h1 hv
    cases e2 : rgt b with
    | false =>
      rw [e2] at h2 hv
      subst hv
      repeat' ((conv => whnf); first | (with_reducible first | refine TJ.seq ?_ | refine TJ.region (TTok _ _) ?_ | refine TJ.drawn (TTok _ _) mixed ?_ | refine TJ.cond rfl ?_ | refine TJ.block ?_ | refine TJ.loop ?_ | refine LJ.step ?_ | refine TJ.ret ?_ | refine TJ.exit ?_ | refine TJ.skip ?_ | refine TJ.scope ?_ | refine TJ.label ?_ | refine Br.cond_t ?_ | refine Br.cond_f ?_ | refine Br.yes (by first | decide | assumption | (apply decide_eq_true; omega)) ?_ | refine Br.non (by first | decide | assumption | (apply decide_eq_false; omega)) ?_ | refine Br.cond_ff ?_ | refine Br.eqT (by omega) ?_ | refine Br.eqF (by omega) ?_ | refine Br.neT (by omega) ?_ | refine Br.neF (by omega) ?_ | refine x_ret (f := 74) rfl rfl (fun w _ => h1 w) ?_ | refine x_ret (f := 74) rfl rfl (fun w _ => h2 w) ?_ | refine Ld.mk' _ rfl ?_ | refine Need.mk (by first | decide | omega | kernel_rfl) ?_ | refine Nm.i64 (by omega) ?_ | refine Nm.u64 (by omega) ?_ | refine Nm.u8 (by omega) ?_) | (refine x_exq (TTok _ _) ?_; (conv => whnf); fail_if_success (guard_target =ₛ False)))
      all_goals (conv => whnf)
      all_goals first | rfl | trace_state
    | true =>
      rw [e2] at h2 hv
      simp only [Bool.true_and] at hv
      generalize lowN a = la at h3 hv
      generalize lowN b = lb at h4 hv
      subst hv
      repeat' ((conv => whnf); first | (with_reducible first | refine TJ.seq ?_ | refine TJ.region (TTok _ _) ?_ | refine TJ.drawn (TTok _ _) mixed ?_ | refine TJ.cond rfl ?_ | refine TJ.block ?_ | refine TJ.loop ?_ | refine LJ.step ?_ | refine TJ.ret ?_ | refine TJ.exit ?_ | refine TJ.skip ?_ | refine TJ.scope ?_ | refine TJ.label ?_ | refine Br.cond_t ?_ | refine Br.cond_f ?_ | refine Br.yes (by first | decide | assumption | (apply decide_eq_true; omega)) ?_ | refine Br.non (by first | decide | assumption | (apply decide_eq_false; omega)) ?_ | refine Br.cond_ff ?_ | refine Br.eqT (by omega) ?_ | refine Br.eqF (by omega) ?_ | refine Br.neT (by omega) ?_ | refine Br.neF (by omega) ?_ | refine x_ret (f := 74) rfl rfl (fun w _ => h1 w) ?_ | refine x_ret (f := 74) rfl rfl (fun w _ => h2 w) ?_ | refine x_ret (f := 78) rfl rfl (fun w _ => h3 w) ?_ | refine x_ret (f := 78) rfl rfl (fun w _ => h4 w) ?_ | refine Ld.mk' _ rfl ?_ | refine Need.mk (by first | decide | omega | kernel_rfl) ?_ | refine Nm.i64 (by omega) ?_ | refine Nm.u64 (by omega) ?_ | refine Nm.u8 (by omega) ?_) | (refine x_exq (TTok _ _) ?_; (conv => whnf); fail_if_success (guard_target =ₛ False)))
      all_goals (conv => whnf)
      all_goals first | rfl | trace_state
set_option maxHeartbeats 8000000 in
theorem runder (a b : ByteArray) (ha : a.size < 1073741824) (hb : b.size < 1073741824) (w : World) : Ret Tryz.prog 43 [.string a, .string b] w (.bool (undB a b)) := by
  have h1 := fun w => rlower a ha w
  have h2 := fun w => rlower b hb w
  have h : Con Tryz.prog (fun _ => True) 43 (fun _ => [.v (.string a), .v (.string b)]) (fun _ => []) (fun _ : Unit => True) (fun _ _ => .v (.bool (undB a b))) (fun _ _ => []) (fun _ => False) := by
    refine Con.of (TTok _ _) Tryz.func43 (by kernel_rfl) rfl rfl rfl (fun σ => rfl) (fun σ => rfl) (fun _ _ _ => rfl) (fun _ σ _ => rfl) (fun _ _ => CEnd.of rfl rfl rfl) ?_
    have za := lowN_size a
    have zb := lowN_size b
    obtain ⟨v, hv⟩ : ∃ v, undB a b = v := ⟨_, rfl⟩
    rw [hv]
    cases ra : rgt a with
    | false =>
      have c1 := rlabels_no (fun _ => True) (lowN a) (by omega) (by rw [rgt_low]; exact ra)
      have hvf : v = false := by
        rw [← hv]
        unfold undB
        rw [ra]
        rfl
      subst hvf
      cases rb : rgt b with
      | false =>
        have c2 := rlabels_no (fun _ => True) (lowN b) (by omega) (by rw [rgt_low]; exact rb)
        generalize lowN a = la at *
        generalize lowN b = lb at *
        repeat' ((conv => whnf); first | (with_reducible first | refine TR.seq ?_ | refine TR.regionL ?_ | refine TR.drawn (TTok _ _) mixed ?_ | refine TR.block ?_ | refine TR.ret ?_ | refine TR.exit ?_ | refine TR.skip ?_ | refine TR.condB rfl ?_ | refine TRL.nil ?_ | refine Br.cond_t ?_ | refine Br.cond_f ?_ | refine Br.yes (by first | decide | assumption | (apply decide_eq_true; omega)) ?_ | refine Br.non (by first | decide | assumption | (apply decide_eq_false; omega)) ?_ | refine Br.cond_ff ?_ | refine Br.eqT (by omega) ?_ | refine Br.eqF (by omega) ?_ | refine Br.neT (by omega) ?_ | refine Br.neF (by omega) ?_ | refine Ld.mk' _ rfl ?_ | refine Need.mk (by first | decide | omega | kernel_rfl) ?_ | refine Nm.i64 (by omega) ?_ | refine Nm.u64 (by omega) ?_ | refine Nm.u8 (by omega) ?_ | refine Nm.keep ?_ | refine x_ret (f := 78) rfl rfl (fun w _ => h1 w) ?_ | refine x_ret (f := 78) rfl rfl (fun w _ => h2 w) ?_) | (refine TRL.con [] [] c1 rfl rfl rfl rfl trivial rfl rfl (fun p1 _ => ⟨trivial, ?_⟩) (fun _ h => h.elim)) | (refine TRL.con [] [] c2 rfl rfl rfl rfl trivial rfl rfl (fun p1 _ => ⟨trivial, ?_⟩) (fun _ h => h.elim)) | refine Br.non rfl ?_ | refine Br.yes rfl ?_ | refine TRL.step (TTok _ _) ?_ | (refine x_exq (TTok _ _) ?_; (conv => whnf); fail_if_success (guard_target =ₛ False)))
        all_goals (conv => whnf)
        all_goals first | exact ⟨(), trivial, rfl, trivial⟩ | trace_state
      | true =>
        have c2 := rlabels_yes (fun _ => True) (lowN b) (by rw [rgt_low]; exact rb)
        generalize lowN a = la at *
        generalize lowN b = lb at *
        repeat' ((conv => whnf); first | (with_reducible first | refine TR.seq ?_ | refine TR.regionL ?_ | refine TR.drawn (TTok _ _) mixed ?_ | refine TR.block ?_ | refine TR.ret ?_ | refine TR.exit ?_ | refine TR.skip ?_ | refine TR.condB rfl ?_ | refine TRL.nil ?_ | refine Br.cond_t ?_ | refine Br.cond_f ?_ | refine Br.yes (by first | decide | assumption | (apply decide_eq_true; omega)) ?_ | refine Br.non (by first | decide | assumption | (apply decide_eq_false; omega)) ?_ | refine Br.cond_ff ?_ | refine Br.eqT (by omega) ?_ | refine Br.eqF (by omega) ?_ | refine Br.neT (by omega) ?_ | refine Br.neF (by omega) ?_ | refine Ld.mk' _ rfl ?_ | refine Need.mk (by first | decide | omega | kernel_rfl) ?_ | refine Nm.i64 (by omega) ?_ | refine Nm.u64 (by omega) ?_ | refine Nm.u8 (by omega) ?_ | refine Nm.keep ?_ | refine x_ret (f := 78) rfl rfl (fun w _ => h1 w) ?_ | refine x_ret (f := 78) rfl rfl (fun w _ => h2 w) ?_) | (refine TRL.con [] [] c1 rfl rfl rfl rfl trivial rfl rfl (fun p1 _ => ⟨trivial, ?_⟩) (fun _ h => h.elim)) | (refine TRL.con [] [19] c2 rfl rfl rfl rfl trivial rfl rfl (fun p1 _ => ⟨⟨rfl, trivial⟩, ?_⟩) (fun _ h => h.elim)) | refine Br.non rfl ?_ | refine Br.yes rfl ?_ | refine TRL.step (TTok _ _) ?_ | (refine x_exq (TTok _ _) ?_; (conv => whnf); fail_if_success (guard_target =ₛ False)))
        all_goals (conv => whnf)
        all_goals first | exact ⟨(), trivial, rfl, trivial⟩ | trace_state
    | true =>
      obtain ⟨a1, a2⟩ := lowN_right ra
      have c1 := rlabels_yes (fun _ => True) (lowN a) a1
      rw [a2] at c1
      cases rb : rgt b with
      | false =>
        have c2 := rlabels_no (fun _ => True) (lowN b) (by omega) (by rw [rgt_low]; exact rb)
        have hvf : v = false := by
          rw [← hv]
          unfold undB
          rw [ra, rb]
          rfl
        subst hvf
        generalize lowN a = la at *
        generalize lowN b = lb at *
        generalize rgN a = na at *
        repeat' ((conv => whnf); first | (with_reducible first | refine TR.seq ?_ | refine TR.regionL ?_ | refine TR.drawn (TTok _ _) mixed ?_ | refine TR.block ?_ | refine TR.ret ?_ | refine TR.exit ?_ | refine TR.skip ?_ | refine TR.condB rfl ?_ | refine TRL.nil ?_ | refine Br.cond_t ?_ | refine Br.cond_f ?_ | refine Br.yes (by first | decide | assumption | (apply decide_eq_true; omega)) ?_ | refine Br.non (by first | decide | assumption | (apply decide_eq_false; omega)) ?_ | refine Br.cond_ff ?_ | refine Br.eqT (by omega) ?_ | refine Br.eqF (by omega) ?_ | refine Br.neT (by omega) ?_ | refine Br.neF (by omega) ?_ | refine Ld.mk' _ rfl ?_ | refine Need.mk (by first | decide | omega | kernel_rfl) ?_ | refine Nm.i64 (by omega) ?_ | refine Nm.u64 (by omega) ?_ | refine Nm.u8 (by omega) ?_ | refine Nm.keep ?_ | refine x_ret (f := 78) rfl rfl (fun w _ => h1 w) ?_ | refine x_ret (f := 78) rfl rfl (fun w _ => h2 w) ?_) | (refine TRL.con [] [13] c1 rfl rfl rfl rfl trivial rfl rfl (fun p1 _ => ⟨⟨rfl, trivial⟩, ?_⟩) (fun _ h => h.elim)) | (refine TRL.con [] [] c2 rfl rfl rfl rfl trivial rfl rfl (fun p1 _ => ⟨trivial, ?_⟩) (fun _ h => h.elim)) | refine Br.non rfl ?_ | refine Br.yes rfl ?_ | refine TRL.step (TTok _ _) ?_ | (refine x_exq (TTok _ _) ?_; (conv => whnf); fail_if_success (guard_target =ₛ False)))
        all_goals (conv => whnf)
        all_goals first | exact ⟨(), trivial, rfl, trivial⟩ | trace_state
      | true =>
        obtain ⟨b1, b2⟩ := lowN_right rb
        have c2 := rlabels_yes (fun _ => True) (lowN b) b1
        rw [b2] at c2
        have hu := und_at (a := a) (b := b)
        rw [hv] at hu
        have na255 : rgN a ≤ 255 := by
          obtain ⟨hN, z0, z1, hp, hb0⟩ := rgt_lb ra
          have := lbN_bound hN (rgN a) (Nat.le_refl _)
          omega
        have nb255 : rgN b ≤ 255 := by
          obtain ⟨hN, z0, z1, hp, hb0⟩ := rgt_lb rb
          have := lbN_bound hN (rgN b) (Nat.le_refl _)
          omega
        simp only [ra, rb, true_and] at hu
        generalize lowN a = la at *
        generalize lowN b = lb at *
        generalize rgN a = na at *
        generalize rgN b = nb at *
        by_cases hlt : na < nb
        · have hvf : v = false := by
            cases v with
            | false => rfl
            | true => have := (hu.1 rfl).1; omega
          subst hvf
          repeat' ((conv => whnf); first | (with_reducible first | refine TR.seq ?_ | refine TR.regionL ?_ | refine TR.drawn (TTok _ _) mixed ?_ | refine TR.block ?_ | refine TR.ret ?_ | refine TR.exit ?_ | refine TR.skip ?_ | refine TR.condB rfl ?_ | refine TRL.nil ?_ | refine Br.cond_t ?_ | refine Br.cond_f ?_ | refine Br.yes (by first | decide | assumption | (apply decide_eq_true; omega)) ?_ | refine Br.non (by first | decide | assumption | (apply decide_eq_false; omega)) ?_ | refine Br.cond_ff ?_ | refine Br.eqT (by omega) ?_ | refine Br.eqF (by omega) ?_ | refine Br.neT (by omega) ?_ | refine Br.neF (by omega) ?_ | refine Ld.mk' _ rfl ?_ | refine Need.mk (by first | decide | omega | kernel_rfl) ?_ | refine Nm.i64 (by omega) ?_ | refine Nm.u64 (by omega) ?_ | refine Nm.u8 (by omega) ?_ | refine Nm.keep ?_ | refine x_ret (f := 78) rfl rfl (fun w _ => h1 w) ?_ | refine x_ret (f := 78) rfl rfl (fun w _ => h2 w) ?_) | (refine TRL.con [] [13] c1 rfl rfl rfl rfl trivial rfl rfl (fun p1 _ => ⟨⟨rfl, trivial⟩, ?_⟩) (fun _ h => h.elim)) | (refine TRL.con [] [19] c2 rfl rfl rfl rfl trivial rfl rfl (fun p2 _ => ⟨⟨rfl, trivial⟩, ?_⟩) (fun _ h => h.elim)) | refine Br.non rfl ?_ | refine Br.yes rfl ?_ | refine TRL.step (TTok _ _) ?_ | (refine x_exq (TTok _ _) ?_; (conv => whnf); fail_if_success (guard_target =ₛ False)))
          all_goals (conv => whnf)
          all_goals first | exact ⟨(), trivial, rfl, trivial⟩ | trace_state
        · skip
          repeat' ((conv => whnf); first | (with_reducible first | refine TR.seq ?_ | refine TR.regionL ?_ | refine TR.drawn (TTok _ _) mixed ?_ | refine TR.block ?_ | refine TR.ret ?_ | refine TR.exit ?_ | refine TR.skip ?_ | refine TR.condB rfl ?_ | refine TRL.nil ?_ | refine Br.cond_t ?_ | refine Br.cond_f ?_ | refine Br.yes (by first | decide | assumption | (apply decide_eq_true; omega)) ?_ | refine Br.non (by first | decide | assumption | (apply decide_eq_false; omega)) ?_ | refine Br.cond_ff ?_ | refine Br.eqT (by omega) ?_ | refine Br.eqF (by omega) ?_ | refine Br.neT (by omega) ?_ | refine Br.neF (by omega) ?_ | refine Ld.mk' _ rfl ?_ | refine Need.mk (by first | decide | omega | kernel_rfl) ?_ | refine Nm.i64 (by omega) ?_ | refine Nm.u64 (by omega) ?_ | refine Nm.u8 (by omega) ?_ | refine Nm.keep ?_ | refine x_ret (f := 78) rfl rfl (fun w _ => h1 w) ?_ | refine x_ret (f := 78) rfl rfl (fun w _ => h2 w) ?_) | (refine TRL.con [] [13] c1 rfl rfl rfl rfl trivial rfl rfl (fun p1 _ => ⟨⟨rfl, trivial⟩, ?_⟩) (fun _ h => h.elim)) | (refine TRL.con [] [19] c2 rfl rfl rfl rfl trivial rfl rfl (fun p2 _ => ⟨⟨rfl, trivial⟩, ?_⟩) (fun _ h => h.elim)) | refine Br.non rfl ?_ | refine Br.yes rfl ?_ | refine TRL.step (TTok _ _) ?_ | (refine x_exq (TTok _ _) ?_; (conv => whnf); fail_if_success (guard_target =ₛ False)))
          all_goals (conv => whnf)
          refine TR.loopH (fun i : Nat => [(9, .v (.int .i64 i))]) (fun i => []) (fun i => i ≤ nb ∧ ∀ j, j < i → lbS la (na - nb + j) = lbS lb j) (fun i => nb - i) 0 ⟨Nat.zero_le _, fun j hj => by omega⟩ ?_ ?_
          · repeat' ((conv => whnf); first | exact trivial | exact Fgt.nil | exact Fgt.mk rfl rfl rfl | exact Fgt.mk rfl (by simp only [noRefC, lbC, noRefL_cat, noRefL_vals]; rfl) rfl | refine And.intro rfl ?_ | refine And.intro ?_ ?_)
          · rintro i ⟨hi, hj⟩
            by_cases hil : i < nb
            · have l1 := lbC_at la na (na - nb + i) (by omega)
              have l2 := lbC_at lb nb i hil
              have e1 : (0 * 1 + ((na : Int) - (nb : Int) + (i : Int)).toNat * 1) = 0 * 1 + (((na - nb + i : Nat) : Int)).toNat * 1 := by omega
              rw [← e1] at l1
              by_cases he : lbS la (na - nb + i) = lbS lb i
              · have hj' : ∀ j, j < i + 1 → lbS la (na - nb + j) = lbS lb j := fun j hj1 => by
                  by_cases e : j = i
                  · subst e; exact he
                  · exact hj j (by omega)
                have hd : (!decide (lbS la (na - nb + i) = lbS lb i)) = false := by rw [decide_eq_true he]; rfl
                generalize lbS la (na - nb + i) = x at l1 hd
                generalize lbS lb i = y at l2 hd
                repeat' ((conv => whnf); first | (with_reducible first | refine TR.seq ?_ | refine TR.regionL ?_ | refine TR.drawn (TTok _ _) mixed ?_ | refine TR.block ?_ | refine TR.ret ?_ | refine TR.exit ?_ | refine TR.skip ?_ | refine TR.condB rfl ?_ | refine TRL.nil ?_ | refine Br.cond_t ?_ | refine Br.cond_f ?_ | refine Br.yes (by first | decide | assumption | (apply decide_eq_true; omega)) ?_ | refine Br.non (by first | decide | assumption | (apply decide_eq_false; omega)) ?_ | refine Br.cond_ff ?_ | refine Br.eqT (by omega) ?_ | refine Br.eqF (by omega) ?_ | refine Br.neT (by omega) ?_ | refine Br.neF (by omega) ?_ | refine Ld.mk' _ l1 ?_ | refine Ld.mk' _ l2 ?_ | refine Ld.mk' _ rfl ?_ | refine Need.mk (by first | decide | omega | kernel_rfl) ?_ | refine Nm.i64 (by omega) ?_ | refine Nm.u64 (by omega) ?_ | refine Nm.u8 (by omega) ?_ | refine Nm.keep ?_) | refine Br.non hd ?_ | refine Br.non rfl ?_ | refine Br.yes rfl ?_ | refine TRL.step (TTok _ _) ?_ | (refine x_exq (TTok _ _) ?_; (conv => whnf); fail_if_success (guard_target =ₛ False)))
                all_goals (conv => whnf)
                all_goals refine ⟨i + 1, ⟨by omega, hj'⟩, by omega, ?_⟩
                all_goals repeat' ((conv => whnf); first | exact trivial | exact Fgt.nil | exact Fgt.mk rfl rfl rfl | exact Fgt.mk rfl (by simp only [noRefC, lbC, noRefL_cat, noRefL_vals]; rfl) rfl | refine And.intro rfl ?_ | refine And.intro ?_ ?_)
                all_goals trace_state
              · have hvf : v = false := by
                  cases v with
                  | false => rfl
                  | true => exact (he ((hu.1 rfl).2 i hil)).elim
                subst hvf
                have hd : (!decide (lbS la (na - nb + i) = lbS lb i)) = true := by rw [decide_eq_false he]; rfl
                generalize lbS la (na - nb + i) = x at l1 hd
                generalize lbS lb i = y at l2 hd
                repeat' ((conv => whnf); first | (with_reducible first | refine TR.seq ?_ | refine TR.regionL ?_ | refine TR.drawn (TTok _ _) mixed ?_ | refine TR.block ?_ | refine TR.ret ?_ | refine TR.exit ?_ | refine TR.skip ?_ | refine TR.condB rfl ?_ | refine TRL.nil ?_ | refine Br.cond_t ?_ | refine Br.cond_f ?_ | refine Br.yes (by first | decide | assumption | (apply decide_eq_true; omega)) ?_ | refine Br.non (by first | decide | assumption | (apply decide_eq_false; omega)) ?_ | refine Br.cond_ff ?_ | refine Br.eqT (by omega) ?_ | refine Br.eqF (by omega) ?_ | refine Br.neT (by omega) ?_ | refine Br.neF (by omega) ?_ | refine Ld.mk' _ l1 ?_ | refine Ld.mk' _ l2 ?_ | refine Ld.mk' _ rfl ?_ | refine Need.mk (by first | decide | omega | kernel_rfl) ?_ | refine Nm.i64 (by omega) ?_ | refine Nm.u64 (by omega) ?_ | refine Nm.u8 (by omega) ?_ | refine Nm.keep ?_) | refine Br.yes hd ?_ | refine Br.non rfl ?_ | refine Br.yes rfl ?_ | refine TRL.step (TTok _ _) ?_ | (refine x_exq (TTok _ _) ?_; (conv => whnf); fail_if_success (guard_target =ₛ False)))
                all_goals (conv => whnf)
                all_goals first | exact ⟨(), trivial, rfl, trivial⟩ | trace_state
            · obtain rfl : i = nb := by omega
              have hvt : v = true := hu.2 ⟨by omega, hj⟩
              subst hvt
              repeat' ((conv => whnf); first | (with_reducible first | refine TR.seq ?_ | refine TR.regionL ?_ | refine TR.drawn (TTok _ _) mixed ?_ | refine TR.block ?_ | refine TR.ret ?_ | refine TR.exit ?_ | refine TR.skip ?_ | refine TR.condB rfl ?_ | refine TRL.nil ?_ | refine Br.cond_t ?_ | refine Br.cond_f ?_ | refine Br.yes (by first | decide | assumption | (apply decide_eq_true; omega)) ?_ | refine Br.non (by first | decide | assumption | (apply decide_eq_false; omega)) ?_ | refine Br.cond_ff ?_ | refine Br.eqT (by omega) ?_ | refine Br.eqF (by omega) ?_ | refine Br.neT (by omega) ?_ | refine Br.neF (by omega) ?_ | refine Ld.mk' _ rfl ?_ | refine Need.mk (by first | decide | omega | kernel_rfl) ?_ | refine Nm.i64 (by omega) ?_ | refine Nm.u64 (by omega) ?_ | refine Nm.u8 (by omega) ?_ | refine Nm.keep ?_) | refine Br.non rfl ?_ | refine Br.yes rfl ?_ | refine TRL.step (TTok _ _) ?_ | (refine x_exq (TTok _ _) ?_; (conv => whnf); fail_if_success (guard_target =ₛ False)))
              all_goals (conv => whnf)
              all_goals first | exact ⟨(), trivial, rfl, trivial⟩ | trace_state
  exact h.ret (args := [.string a, .string b]) (fun _ _ => rfl) (fun _ h => h) (fun _ _ => trivial)
end Go.Proofs.YtdmgmkifjboojaaGreatDoor
