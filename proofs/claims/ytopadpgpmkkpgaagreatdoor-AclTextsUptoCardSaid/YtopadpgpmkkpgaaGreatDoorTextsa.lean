/-
  AclTexts: whatever the address and the text (of at most 1048576 bytes), the statement's function hands back true.
-/
import Derived.Test.YtopadpgpmkkpgaaGreatDoorProg
import Derived.Test.YtopadpgpmkkpgaaGreatDoorSxb
import Derived.Shelf.Strings.Builder1
import Derived.Shelf.Strings.Builder2
import Derived.Shelf.Strings.OnBuilder
import Derived.Shelf.Utf8.RuneCount
import Derived.Shelf.Strconv.Itoa0
import Derived.Shelf.Strconv.Itoa1
import Derived.Shelf.LaysM
import Derived.Shelf.Strconv.Itoa2
import Derived.Shelf.Strconv.Itoa3
import Derived.Shelf.Strconv.Clone
import Derived.Shelf.Strconv.Lower
import Derived.Shelf.Strconv.ParseUint10Empty
import Derived.Shelf.Strconv.ParseUintEmpty
import Derived.Shelf.Strings.Search1
import Derived.Shelf.Strings.Search2
import Derived.Shelf.Strings.Search3
import Derived.Shelf.Strings.Count
import Derived.Shelf.Strings.Shaped
import Derived.Shelf.Strings.Split
import Derived.Shelf.Strings.SplitShaped
import Derived.Shelf.Unicode.Decode
import Derived.Shelf.Strings.RuneCount
import Derived.Shelf.Strings.Explode
import Derived.Shelf.Unicode.DecodeSlow
import Derived.Shelf.Unicode.DecodeAny
set_option linter.unusedVariables false
set_option linter.unusedSimpArgs false
set_option linter.unnecessarySimpa false
namespace Go.Proofs.YtopadpgpmkkpgaaGreatDoor
open Go.SX
def TT : List (Option Ty) := [
  none,
  some ⟨.fn, 1, 8, [.nilFunc], false⟩,
  some ⟨(.int .i64), 1, 8, [.int .i64 0], false⟩,
  some ⟨(.int .i64), 1, 8, [.int .i64 0], false⟩,
  some ⟨.bool, 1, 1, [.bool false], false⟩,
  some ⟨(.int .u8), 1, 1, [.int .u8 0], false⟩,
  some ⟨(.int .u8), 1, 1, [.int .u8 0], false⟩,
  some ⟨(.st [(0, 2), (1, 3), (2, 4), (3, 6)]), 4, 24, [.int .i64 0, .int .i64 0, .bool false, .int .u8 0], true⟩,
  some ⟨(.st [(0, 2), (1, 3), (2, 4), (3, 6)]), 4, 24, [.int .i64 0, .int .i64 0, .bool false, .int .u8 0], true⟩,
  some ⟨.str, 1, 16, [.string ⟨#[]⟩], false⟩,
  some ⟨.str, 1, 16, [.string ⟨#[]⟩], false⟩,
  some ⟨.str, 1, 16, [.string ⟨#[]⟩], false⟩,
  some ⟨(.int .u64), 1, 8, [.int .u64 0], false⟩,
  some ⟨(.st [(0, 9), (1, 12)]), 2, 24, [.string ⟨#[]⟩, .int .u64 0], false⟩,
  some ⟨(.st [(0, 9), (1, 12)]), 2, 24, [.string ⟨#[]⟩, .int .u64 0], false⟩,
  some ⟨(.ptr 199), 1, 8, [.pointer none], false⟩,
  some ⟨(.ptr 202), 1, 8, [.pointer none], false⟩,
  some ⟨(.ptr 210), 1, 8, [.pointer none], false⟩,
  some ⟨(.st [(0, 17)]), 1, 8, [.pointer none], false⟩,
  some ⟨(.st [(0, 17)]), 1, 8, [.pointer none], false⟩,
  some ⟨.ifc, 1, 16, [.nilIface], false⟩,
  some ⟨(.int .i32), 1, 4, [.int .i32 0], false⟩,
  some ⟨(.int .u64), 1, 8, [.int .u64 0], false⟩,
  some ⟨(.st [(0, 4), (1, 22), (2, 22)]), 3, 24, [.bool false, .int .u64 0, .int .u64 0], true⟩,
  some ⟨(.st [(0, 4), (1, 22), (2, 22)]), 3, 24, [.bool false, .int .u64 0, .int .u64 0], true⟩,
  some ⟨.fn, 1, 8, [.nilFunc], false⟩,
  some ⟨(.int .i64), 1, 8, [.int .i64 0], false⟩,
  none,
  some ⟨.fn, 1, 8, [.nilFunc], false⟩,
  none,
  some ⟨.fn, 1, 8, [.nilFunc], false⟩,
  none,
  some ⟨.fn, 1, 8, [.nilFunc], false⟩,
  none,
  some ⟨.fn, 1, 8, [.nilFunc], false⟩,
  some ⟨.fn, 1, 8, [.nilFunc], false⟩,
  some ⟨.fn, 1, 8, [.nilFunc], false⟩,
  some ⟨(.ptr 72), 1, 8, [.pointer none], false⟩,
  none,
  some ⟨.fn, 1, 8, [.nilFunc], false⟩,
  some ⟨(.st [(0, 24), (3, 3)]), 4, 32, [.bool false, .int .u64 0, .int .u64 0, .int .i64 0], true⟩,
  some ⟨(.st [(0, 24), (3, 3)]), 4, 32, [.bool false, .int .u64 0, .int .u64 0, .int .i64 0], true⟩,
  some ⟨(.st [(0, 41), (4, 3)]), 5, 40, [.bool false, .int .u64 0, .int .u64 0, .int .i64 0, .int .i64 0], true⟩,
  some ⟨(.st [(0, 41), (4, 3)]), 5, 40, [.bool false, .int .u64 0, .int .u64 0, .int .i64 0, .int .i64 0], true⟩,
  some ⟨.fn, 1, 8, [.nilFunc], false⟩,
  some ⟨(.sl 43), 1, 24, [.slice none 0 0], false⟩,
  none,
  some ⟨.fn, 1, 8, [.nilFunc], false⟩,
  none,
  some ⟨.fn, 1, 8, [.nilFunc], false⟩,
  some ⟨(.sl 9), 1, 24, [.slice none 0 0], false⟩,
  some ⟨.fn, 1, 8, [.nilFunc], false⟩,
  some ⟨.fn, 1, 8, [.nilFunc], false⟩,
  none,
  some ⟨.fn, 1, 8, [.nilFunc], false⟩,
  some ⟨.fn, 1, 8, [.nilFunc], false⟩,
  some ⟨.fn, 1, 8, [.nilFunc], false⟩,
  some ⟨.fn, 1, 8, [.nilFunc], false⟩,
  some ⟨.ifc, 1, 16, [.nilIface], false⟩,
  some ⟨.ifc, 1, 16, [.nilIface], false⟩,
  none,
  some ⟨.fn, 1, 8, [.nilFunc], false⟩,
  some ⟨(.sl 3), 1, 24, [.slice none 0 0], false⟩,
  some ⟨.fn, 1, 8, [.nilFunc], false⟩,
  some ⟨(.int .u64), 1, 8, [.int .u64 0], false⟩,
  some ⟨(.ptr 69), 1, 8, [.pointer none], false⟩,
  some ⟨(.arr 2 65), 2, 16, [.pointer none, .pointer none], false⟩,
  some ⟨(.ptr 43), 1, 8, [.pointer none], false⟩,
  some ⟨(.st [(0, 66), (2, 67)]), 3, 24, [.pointer none, .pointer none, .pointer none], true⟩,
  some ⟨(.st [(0, 66), (2, 67)]), 3, 24, [.pointer none, .pointer none, .pointer none], true⟩,
  some ⟨(.arr 2 69), 6, 48, [.pointer none, .pointer none, .pointer none, .pointer none, .pointer none, .pointer none], false⟩,
  some ⟨(.st [(0, 70)]), 6, 48, [.pointer none, .pointer none, .pointer none, .pointer none, .pointer none, .pointer none], true⟩,
  some ⟨(.st [(0, 70)]), 6, 48, [.pointer none, .pointer none, .pointer none, .pointer none, .pointer none, .pointer none], true⟩,
  some ⟨.fn, 1, 8, [.nilFunc], false⟩,
  some ⟨.fn, 1, 8, [.nilFunc], false⟩,
  some ⟨(.st [(0, 22), (1, 22), (2, 3)]), 3, 24, [.int .u64 0, .int .u64 0, .int .i64 0], true⟩,
  some ⟨(.st [(0, 22), (1, 22), (2, 3)]), 3, 24, [.int .u64 0, .int .u64 0, .int .i64 0], true⟩,
  some ⟨.fn, 1, 8, [.nilFunc], false⟩,
  some ⟨(.ptr 65), 1, 8, [.pointer none], false⟩,
  some ⟨.fn, 1, 8, [.nilFunc], false⟩,
  some ⟨(.ptr 83), 1, 8, [.pointer none], false⟩,
  some ⟨(.sl 5), 1, 24, [.slice none 0 0], false⟩,
  some ⟨(.st [(0, 80), (1, 81)]), 2, 32, [.pointer none, .slice none 0 0], true⟩,
  some ⟨(.st [(0, 80), (1, 81)]), 2, 32, [.pointer none, .slice none 0 0], true⟩,
  some ⟨.fn, 1, 8, [.nilFunc], false⟩,
  none,
  some ⟨.fn, 1, 8, [.nilFunc], false⟩,
  some ⟨.fn, 1, 8, [.nilFunc], false⟩,
  some ⟨.fn, 1, 8, [.nilFunc], false⟩,
  some ⟨.fn, 1, 8, [.nilFunc], false⟩,
  some ⟨.fn, 1, 8, [.nilFunc], false⟩,
  some ⟨.fn, 1, 8, [.nilFunc], false⟩,
  some ⟨.fn, 1, 8, [.nilFunc], false⟩,
  some ⟨.fn, 1, 8, [.nilFunc], false⟩,
  some ⟨.fn, 1, 8, [.nilFunc], false⟩,
  none,
  some ⟨.fn, 1, 8, [.nilFunc], false⟩,
  some ⟨.fn, 1, 8, [.nilFunc], false⟩,
  some ⟨(.arr 24 5), 24, 24, [.int .u8 0, .int .u8 0, .int .u8 0, .int .u8 0, .int .u8 0, .int .u8 0, .int .u8 0, .int .u8 0, .int .u8 0, .int .u8 0, .int .u8 0, .int .u8 0, .int .u8 0, .int .u8 0, .int .u8 0, .int .u8 0, .int .u8 0, .int .u8 0, .int .u8 0, .int .u8 0, .int .u8 0, .int .u8 0, .int .u8 0, .int .u8 0], false⟩,
  some ⟨.fn, 1, 8, [.nilFunc], false⟩,
  some ⟨.fn, 1, 8, [.nilFunc], false⟩,
  none,
  some ⟨.fn, 1, 8, [.nilFunc], false⟩,
  some ⟨(.ptr 5), 1, 8, [.pointer none], false⟩,
  some ⟨.fn, 1, 8, [.nilFunc], false⟩,
  some ⟨(.st [(0, 9), (1, 9), (2, 3), (3, 3), (4, 3), (5, 3), (6, 3)]), 7, 72, [.string ⟨#[]⟩, .string ⟨#[]⟩, .int .i64 0, .int .i64 0, .int .i64 0, .int .i64 0, .int .i64 0], true⟩,
  some ⟨(.st [(0, 9), (1, 9), (2, 3), (3, 3), (4, 3), (5, 3), (6, 3)]), 7, 72, [.string ⟨#[]⟩, .string ⟨#[]⟩, .int .i64 0, .int .i64 0, .int .i64 0, .int .i64 0, .int .i64 0], true⟩,
  none,
  some ⟨.fn, 1, 8, [.nilFunc], false⟩,
  none,
  some ⟨.fn, 1, 8, [.nilFunc], false⟩,
  none,
  some ⟨.fn, 1, 8, [.nilFunc], false⟩,
  some ⟨(.st [(0, 3), (1, 3), (2, 3), (3, 9)]), 4, 40, [.int .i64 0, .int .i64 0, .int .i64 0, .string ⟨#[]⟩], true⟩,
  some ⟨(.st [(0, 3), (1, 3), (2, 3), (3, 9)]), 4, 40, [.int .i64 0, .int .i64 0, .int .i64 0, .string ⟨#[]⟩], true⟩,
  none,
  some ⟨.fn, 1, 8, [.nilFunc], false⟩,
  some ⟨(.st [(0, 3), (1, 3), (2, 3), (3, 3), (4, 3), (5, 3), (6, 3), (7, 9), (8, 9)]), 9, 88, [.int .i64 0, .int .i64 0, .int .i64 0, .int .i64 0, .int .i64 0, .int .i64 0, .int .i64 0, .string ⟨#[]⟩, .string ⟨#[]⟩], true⟩,
  some ⟨(.st [(0, 3), (1, 3), (2, 3), (3, 3), (4, 3), (5, 3), (6, 3), (7, 9), (8, 9)]), 9, 88, [.int .i64 0, .int .i64 0, .int .i64 0, .int .i64 0, .int .i64 0, .int .i64 0, .int .i64 0, .string ⟨#[]⟩, .string ⟨#[]⟩], true⟩,
  none,
  some ⟨.fn, 1, 8, [.nilFunc], false⟩,
  some ⟨(.st [(0, 9), (1, 62)]), 2, 40, [.string ⟨#[]⟩, .slice none 0 0], true⟩,
  some ⟨(.st [(0, 9), (1, 62)]), 2, 40, [.string ⟨#[]⟩, .slice none 0 0], true⟩,
  none,
  some ⟨.fn, 1, 8, [.nilFunc], false⟩,
  some ⟨(.st [(0, 3), (1, 3), (2, 3), (3, 9)]), 4, 40, [.int .i64 0, .int .i64 0, .int .i64 0, .string ⟨#[]⟩], true⟩,
  some ⟨(.st [(0, 3), (1, 3), (2, 3), (3, 9)]), 4, 40, [.int .i64 0, .int .i64 0, .int .i64 0, .string ⟨#[]⟩], true⟩,
  none,
  some ⟨.fn, 1, 8, [.nilFunc], false⟩,
  some ⟨(.st [(0, 3), (1, 3), (2, 3), (3, 9), (4, 9), (5, 62)]), 6, 80, [.int .i64 0, .int .i64 0, .int .i64 0, .string ⟨#[]⟩, .string ⟨#[]⟩, .slice none 0 0], true⟩,
  some ⟨(.st [(0, 3), (1, 3), (2, 3), (3, 9), (4, 9), (5, 62)]), 6, 80, [.int .i64 0, .int .i64 0, .int .i64 0, .string ⟨#[]⟩, .string ⟨#[]⟩, .slice none 0 0], true⟩,
  none,
  some ⟨.fn, 1, 8, [.nilFunc], false⟩,
  some ⟨.fn, 1, 8, [.nilFunc], false⟩,
  some ⟨.fn, 1, 8, [.nilFunc], false⟩,
  some ⟨.fn, 1, 8, [.nilFunc], false⟩,
  some ⟨(.int .i64), 1, 8, [.int .i64 0], false⟩,
  some ⟨.fn, 1, 8, [.nilFunc], false⟩,
  some ⟨(.ptr 174), 1, 8, [.pointer none], false⟩,
  some ⟨.fn, 1, 8, [.nilFunc], false⟩,
  some ⟨.fn, 1, 8, [.nilFunc], false⟩,
  some ⟨.fn, 1, 8, [.nilFunc], false⟩,
  some ⟨(.st [(0, 50)]), 1, 24, [.slice none 0 0], true⟩,
  some ⟨(.st [(0, 50)]), 1, 24, [.slice none 0 0], true⟩,
  some ⟨.fn, 1, 8, [.nilFunc], false⟩,
  some ⟨.fn, 1, 8, [.nilFunc], false⟩,
  some ⟨.fn, 1, 8, [.nilFunc], false⟩,
  some ⟨.fn, 1, 8, [.nilFunc], false⟩,
  none,
  some ⟨.fn, 1, 8, [.nilFunc], false⟩,
  some ⟨.fn, 1, 8, [.nilFunc], false⟩,
  some ⟨.fn, 1, 8, [.nilFunc], false⟩,
  some ⟨.fn, 1, 8, [.nilFunc], false⟩,
  some ⟨.fn, 1, 8, [.nilFunc], false⟩,
  some ⟨.fn, 1, 8, [.nilFunc], false⟩,
  some ⟨.fn, 1, 8, [.nilFunc], false⟩,
  some ⟨.fn, 1, 8, [.nilFunc], false⟩,
  some ⟨(.arr 20 22), 20, 160, [.int .u64 0, .int .u64 0, .int .u64 0, .int .u64 0, .int .u64 0, .int .u64 0, .int .u64 0, .int .u64 0, .int .u64 0, .int .u64 0, .int .u64 0, .int .u64 0, .int .u64 0, .int .u64 0, .int .u64 0, .int .u64 0, .int .u64 0, .int .u64 0, .int .u64 0, .int .u64 0], false⟩,
  some ⟨(.int .u32), 1, 4, [.int .u32 0], false⟩,
  some ⟨(.arr 65 5), 65, 65, [.int .u8 0, .int .u8 0, .int .u8 0, .int .u8 0, .int .u8 0, .int .u8 0, .int .u8 0, .int .u8 0, .int .u8 0, .int .u8 0, .int .u8 0, .int .u8 0, .int .u8 0, .int .u8 0, .int .u8 0, .int .u8 0, .int .u8 0, .int .u8 0, .int .u8 0, .int .u8 0, .int .u8 0, .int .u8 0, .int .u8 0, .int .u8 0, .int .u8 0, .int .u8 0, .int .u8 0, .int .u8 0, .int .u8 0, .int .u8 0, .int .u8 0, .int .u8 0, .int .u8 0, .int .u8 0, .int .u8 0, .int .u8 0, .int .u8 0, .int .u8 0, .int .u8 0, .int .u8 0, .int .u8 0, .int .u8 0, .int .u8 0, .int .u8 0, .int .u8 0, .int .u8 0, .int .u8 0, .int .u8 0, .int .u8 0, .int .u8 0, .int .u8 0, .int .u8 0, .int .u8 0, .int .u8 0, .int .u8 0, .int .u8 0, .int .u8 0, .int .u8 0, .int .u8 0, .int .u8 0, .int .u8 0, .int .u8 0, .int .u8 0, .int .u8 0, .int .u8 0], false⟩,
  some ⟨.fn, 1, 8, [.nilFunc], false⟩,
  some ⟨.fn, 1, 8, [.nilFunc], false⟩,
  some ⟨.oth, 1, 8, [.pointer none], false⟩,
  some ⟨.fn, 1, 8, [.nilFunc], false⟩,
  some ⟨.fn, 1, 8, [.nilFunc], false⟩,
  some ⟨(.ptr 167), 1, 8, [.pointer none], false⟩,
  some ⟨(.st [(0, 9), (1, 4)]), 2, 24, [.string ⟨#[]⟩, .bool false], true⟩,
  some ⟨(.st [(0, 9), (1, 4)]), 2, 24, [.string ⟨#[]⟩, .bool false], true⟩,
  some ⟨.fn, 1, 8, [.nilFunc], false⟩,
  some ⟨.fn, 1, 8, [.nilFunc], false⟩,
  some ⟨.fn, 1, 8, [.nilFunc], false⟩,
  none,
  some ⟨.fn, 1, 8, [.nilFunc], false⟩,
  some ⟨(.st [(0, 9), (1, 9), (2, 59)]), 3, 48, [.string ⟨#[]⟩, .string ⟨#[]⟩, .nilIface], false⟩,
  some ⟨(.st [(0, 9), (1, 9), (2, 59)]), 3, 48, [.string ⟨#[]⟩, .string ⟨#[]⟩, .nilIface], false⟩,
  some ⟨.fn, 1, 8, [.nilFunc], false⟩,
  some ⟨.fn, 1, 8, [.nilFunc], false⟩,
  some ⟨.fn, 1, 8, [.nilFunc], false⟩,
  some ⟨.fn, 1, 8, [.nilFunc], false⟩,
  some ⟨.fn, 1, 8, [.nilFunc], false⟩,
  some ⟨.fn, 1, 8, [.nilFunc], false⟩,
  some ⟨.fn, 1, 8, [.nilFunc], false⟩,
  none,
  some ⟨.fn, 1, 8, [.nilFunc], false⟩,
  some ⟨(.ptr 186), 1, 8, [.pointer none], false⟩,
  some ⟨(.st [(0, 9)]), 1, 16, [.string ⟨#[]⟩], true⟩,
  some ⟨(.st [(0, 9)]), 1, 16, [.string ⟨#[]⟩], true⟩,
  none,
  some ⟨.fn, 1, 8, [.nilFunc], false⟩,
  some ⟨.fn, 1, 8, [.nilFunc], false⟩,
  some ⟨(.arr 32 5), 32, 32, [.int .u8 0, .int .u8 0, .int .u8 0, .int .u8 0, .int .u8 0, .int .u8 0, .int .u8 0, .int .u8 0, .int .u8 0, .int .u8 0, .int .u8 0, .int .u8 0, .int .u8 0, .int .u8 0, .int .u8 0, .int .u8 0, .int .u8 0, .int .u8 0, .int .u8 0, .int .u8 0, .int .u8 0, .int .u8 0, .int .u8 0, .int .u8 0, .int .u8 0, .int .u8 0, .int .u8 0, .int .u8 0, .int .u8 0, .int .u8 0, .int .u8 0, .int .u8 0], false⟩,
  some ⟨(.arr 64 5), 64, 64, [.int .u8 0, .int .u8 0, .int .u8 0, .int .u8 0, .int .u8 0, .int .u8 0, .int .u8 0, .int .u8 0, .int .u8 0, .int .u8 0, .int .u8 0, .int .u8 0, .int .u8 0, .int .u8 0, .int .u8 0, .int .u8 0, .int .u8 0, .int .u8 0, .int .u8 0, .int .u8 0, .int .u8 0, .int .u8 0, .int .u8 0, .int .u8 0, .int .u8 0, .int .u8 0, .int .u8 0, .int .u8 0, .int .u8 0, .int .u8 0, .int .u8 0, .int .u8 0, .int .u8 0, .int .u8 0, .int .u8 0, .int .u8 0, .int .u8 0, .int .u8 0, .int .u8 0, .int .u8 0, .int .u8 0, .int .u8 0, .int .u8 0, .int .u8 0, .int .u8 0, .int .u8 0, .int .u8 0, .int .u8 0, .int .u8 0, .int .u8 0, .int .u8 0, .int .u8 0, .int .u8 0, .int .u8 0, .int .u8 0, .int .u8 0, .int .u8 0, .int .u8 0, .int .u8 0, .int .u8 0, .int .u8 0, .int .u8 0, .int .u8 0, .int .u8 0], false⟩,
  some ⟨(.arr 256 5), 256, 256, [.int .u8 0, .int .u8 0, .int .u8 0, .int .u8 0, .int .u8 0, .int .u8 0, .int .u8 0, .int .u8 0, .int .u8 0, .int .u8 0, .int .u8 0, .int .u8 0, .int .u8 0, .int .u8 0, .int .u8 0, .int .u8 0, .int .u8 0, .int .u8 0, .int .u8 0, .int .u8 0, .int .u8 0, .int .u8 0, .int .u8 0, .int .u8 0, .int .u8 0, .int .u8 0, .int .u8 0, .int .u8 0, .int .u8 0, .int .u8 0, .int .u8 0, .int .u8 0, .int .u8 0, .int .u8 0, .int .u8 0, .int .u8 0, .int .u8 0, .int .u8 0, .int .u8 0, .int .u8 0, .int .u8 0, .int .u8 0, .int .u8 0, .int .u8 0, .int .u8 0, .int .u8 0, .int .u8 0, .int .u8 0, .int .u8 0, .int .u8 0, .int .u8 0, .int .u8 0, .int .u8 0, .int .u8 0, .int .u8 0, .int .u8 0, .int .u8 0, .int .u8 0, .int .u8 0, .int .u8 0, .int .u8 0, .int .u8 0, .int .u8 0, .int .u8 0, .int .u8 0, .int .u8 0, .int .u8 0, .int .u8 0, .int .u8 0, .int .u8 0, .int .u8 0, .int .u8 0, .int .u8 0, .int .u8 0, .int .u8 0, .int .u8 0, .int .u8 0, .int .u8 0, .int .u8 0, .int .u8 0, .int .u8 0, .int .u8 0, .int .u8 0, .int .u8 0, .int .u8 0, .int .u8 0, .int .u8 0, .int .u8 0, .int .u8 0, .int .u8 0, .int .u8 0, .int .u8 0, .int .u8 0, .int .u8 0, .int .u8 0, .int .u8 0, .int .u8 0, .int .u8 0, .int .u8 0, .int .u8 0, .int .u8 0, .int .u8 0, .int .u8 0, .int .u8 0, .int .u8 0, .int .u8 0, .int .u8 0, .int .u8 0, .int .u8 0, .int .u8 0, .int .u8 0, .int .u8 0, .int .u8 0, .int .u8 0, .int .u8 0, .int .u8 0, .int .u8 0, .int .u8 0, .int .u8 0, .int .u8 0, .int .u8 0, .int .u8 0, .int .u8 0, .int .u8 0, .int .u8 0, .int .u8 0, .int .u8 0, .int .u8 0, .int .u8 0, .int .u8 0, .int .u8 0, .int .u8 0, .int .u8 0, .int .u8 0, .int .u8 0, .int .u8 0, .int .u8 0, .int .u8 0, .int .u8 0, .int .u8 0, .int .u8 0, .int .u8 0, .int .u8 0, .int .u8 0, .int .u8 0, .int .u8 0, .int .u8 0, .int .u8 0, .int .u8 0, .int .u8 0, .int .u8 0, .int .u8 0, .int .u8 0, .int .u8 0, .int .u8 0, .int .u8 0, .int .u8 0, .int .u8 0, .int .u8 0, .int .u8 0, .int .u8 0, .int .u8 0, .int .u8 0, .int .u8 0, .int .u8 0, .int .u8 0, .int .u8 0, .int .u8 0, .int .u8 0, .int .u8 0, .int .u8 0, .int .u8 0, .int .u8 0, .int .u8 0, .int .u8 0, .int .u8 0, .int .u8 0, .int .u8 0, .int .u8 0, .int .u8 0, .int .u8 0, .int .u8 0, .int .u8 0, .int .u8 0, .int .u8 0, .int .u8 0, .int .u8 0, .int .u8 0, .int .u8 0, .int .u8 0, .int .u8 0, .int .u8 0, .int .u8 0, .int .u8 0, .int .u8 0, .int .u8 0, .int .u8 0, .int .u8 0, .int .u8 0, .int .u8 0, .int .u8 0, .int .u8 0, .int .u8 0, .int .u8 0, .int .u8 0, .int .u8 0, .int .u8 0, .int .u8 0, .int .u8 0, .int .u8 0, .int .u8 0, .int .u8 0, .int .u8 0, .int .u8 0, .int .u8 0, .int .u8 0, .int .u8 0, .int .u8 0, .int .u8 0, .int .u8 0, .int .u8 0, .int .u8 0, .int .u8 0, .int .u8 0, .int .u8 0, .int .u8 0, .int .u8 0, .int .u8 0, .int .u8 0, .int .u8 0, .int .u8 0, .int .u8 0, .int .u8 0, .int .u8 0, .int .u8 0, .int .u8 0, .int .u8 0, .int .u8 0, .int .u8 0, .int .u8 0, .int .u8 0, .int .u8 0, .int .u8 0, .int .u8 0, .int .u8 0, .int .u8 0, .int .u8 0, .int .u8 0, .int .u8 0, .int .u8 0, .int .u8 0, .int .u8 0, .int .u8 0, .int .u8 0, .int .u8 0, .int .u8 0], false⟩,
  some ⟨(.st [(0, 5), (1, 5)]), 2, 2, [.int .u8 0, .int .u8 0], true⟩,
  some ⟨(.st [(0, 5), (1, 5)]), 2, 2, [.int .u8 0, .int .u8 0], true⟩,
  some ⟨(.arr 16 194), 32, 32, [.int .u8 0, .int .u8 0, .int .u8 0, .int .u8 0, .int .u8 0, .int .u8 0, .int .u8 0, .int .u8 0, .int .u8 0, .int .u8 0, .int .u8 0, .int .u8 0, .int .u8 0, .int .u8 0, .int .u8 0, .int .u8 0, .int .u8 0, .int .u8 0, .int .u8 0, .int .u8 0, .int .u8 0, .int .u8 0, .int .u8 0, .int .u8 0, .int .u8 0, .int .u8 0, .int .u8 0, .int .u8 0, .int .u8 0, .int .u8 0, .int .u8 0, .int .u8 0], false⟩,
  some ⟨.fn, 1, 8, [.nilFunc], false⟩,
  some ⟨.fn, 1, 8, [.nilFunc], false⟩,
  some ⟨(.st [(0, 17), (1, 17), (2, 17), (3, 9)]), 4, 40, [.pointer none, .pointer none, .pointer none, .string ⟨#[]⟩], false⟩,
  some ⟨(.st [(0, 17), (1, 17), (2, 17), (3, 9)]), 4, 40, [.pointer none, .pointer none, .pointer none, .string ⟨#[]⟩], false⟩,
  some ⟨(.arr 0 16), 0, 0, [], false⟩,
  some ⟨(.st [(0, 200)]), 0, 0, [], false⟩,
  some ⟨(.st [(0, 200)]), 0, 0, [], false⟩,
  some ⟨.fn, 1, 8, [.nilFunc], false⟩,
  some ⟨(.int .u8), 1, 1, [.int .u8 0], false⟩,
  some ⟨(.int .u8), 1, 1, [.int .u8 0], false⟩,
  some ⟨.fn, 1, 8, [.nilFunc], false⟩,
  some ⟨(.int .i32), 1, 4, [.int .i32 0], false⟩,
  some ⟨(.int .i32), 1, 4, [.int .i32 0], false⟩,
  some ⟨(.st [(0, 12), (1, 12), (2, 158), (3, 204), (4, 5), (5, 5), (6, 205), (7, 206), (8, 103), (9, 207), (10, 208)]), 11, 48, [.int .u64 0, .int .u64 0, .int .u32 0, .int .u8 0, .int .u8 0, .int .u8 0, .int .u8 0, .nilFunc, .pointer none, .int .i32 0, .int .i32 0], false⟩,
  some ⟨(.st [(0, 12), (1, 12), (2, 158), (3, 204), (4, 5), (5, 5), (6, 205), (7, 206), (8, 103), (9, 207), (10, 208)]), 11, 48, [.int .u64 0, .int .u64 0, .int .u32 0, .int .u8 0, .int .u8 0, .int .u8 0, .int .u8 0, .nilFunc, .pointer none, .int .i32 0, .int .i32 0], false⟩]

theorem TTok (n : Nat) (I : World → Prop) : Ctx.ok ⟨Tryz.prog, TT, n, I⟩ := Ctx.ok_of (by kernel_rfl) n I
theorem mixed : Tryz.prog.follows .mixedOrders = true := by kernel_rfl
end Go.Proofs.YtopadpgpmkkpgaaGreatDoor
namespace Go.Proofs.YtopadpgpmkkpgaaGreatDoor
open Go.SX
def GG : Nat → Option (List Value)
  | 0 => some [.int .u64 1, .int .u64 10, .int .u64 100, .int .u64 1000, .int .u64 10000, .int .u64 100000, .int .u64 1000000, .int .u64 10000000, .int .u64 100000000, .int .u64 1000000000, .int .u64 10000000000, .int .u64 100000000000, .int .u64 1000000000000, .int .u64 10000000000000, .int .u64 100000000000000, .int .u64 1000000000000000, .int .u64 10000000000000000, .int .u64 100000000000000000, .int .u64 1000000000000000000, .int .u64 10000000000000000000]
  | 5 => some [.int .u8 0, .int .u8 1, .int .u8 56, .int .u8 2, .int .u8 57, .int .u8 49, .int .u8 28, .int .u8 3, .int .u8 61, .int .u8 58, .int .u8 42, .int .u8 50, .int .u8 38, .int .u8 29, .int .u8 17, .int .u8 4, .int .u8 62, .int .u8 47, .int .u8 59, .int .u8 36, .int .u8 45, .int .u8 43, .int .u8 51, .int .u8 22, .int .u8 53, .int .u8 39, .int .u8 33, .int .u8 30, .int .u8 24, .int .u8 18, .int .u8 12, .int .u8 5, .int .u8 63, .int .u8 55, .int .u8 48, .int .u8 27, .int .u8 60, .int .u8 41, .int .u8 37, .int .u8 16, .int .u8 46, .int .u8 35, .int .u8 44, .int .u8 21, .int .u8 52, .int .u8 32, .int .u8 23, .int .u8 11, .int .u8 54, .int .u8 26, .int .u8 40, .int .u8 15, .int .u8 34, .int .u8 20, .int .u8 31, .int .u8 10, .int .u8 25, .int .u8 14, .int .u8 19, .int .u8 9, .int .u8 13, .int .u8 8, .int .u8 7, .int .u8 6]
  | _ => none
end Go.Proofs.YtopadpgpmkkpgaaGreatDoor
/-
  DERIVED: THE SHELF's CONTRACTS AT THIS DUMP, IN PLAIN WORDS (tools/lay-plain.mjs out of 'TryzShelf.lean', which tools/lay-shelf.mjs wrote): THE SAME DECLARATIONS UNDER THE SAME NAMES: 'import', 'namespace', 'open', 'def', 'theorem' AND NOTHING ELSE: no command of the shelf's: FOR A HAND-IN. Each laying: the table of numbers ('.._ren') and one theorem, a field a fact of the dump's own or the kernel's comparison; each contract: ONE APPLICATION.
-/
namespace Go.Proofs
open Go.Shelf
def Tryz.lays169_ren : Go.Shelf.Ren := ⟨fun | 169 => 31 | n => n, fun | 70 => 80 | 9 => 9 | 0 => 0 | 72 => 83 | 37 => 81 | 127 => 103 | 3 => 3 | 5 => 5 | n => n, fun | n => n⟩
theorem Tryz.lays169 : Go.Proofs.Lays.n169 Tryz.prog Tryz.lays169_ren := {
  mixed := by kernel_rfl
  f169 := Tryz.func31.trans (congrArg some (by kernel_rfl))
  t0 := Tryz.underlying0
  a0 := Tryz.isAgg0
  z0 := Tryz.sizeOf0
  v0 := Tryz.zeroValue0
  t3 := Tryz.underlying3
  a3 := Tryz.isAgg3
  z3 := Tryz.sizeOf3
  v3 := Tryz.zeroValue3
  t9 := Tryz.underlying9
  a9 := Tryz.isAgg9
  z9 := Tryz.sizeOf9
  v9 := Tryz.zeroValue9
  t37 := Tryz.underlying81
  a37 := Tryz.isAgg81
  z37 := Tryz.sizeOf81
  v37 := Tryz.zeroValue81
  t70 := Tryz.underlying80
  a70 := Tryz.isAgg80
  z70 := Tryz.sizeOf80
  v70 := Tryz.zeroValue80
  t72 := Tryz.underlying83
  a72 := Tryz.isAgg83
  z72 := Tryz.sizeOf83
  v72 := Tryz.zeroValue83
  t127 := Tryz.underlying103
  a127 := Tryz.isAgg103
  z127 := Tryz.sizeOf103
  v127 := Tryz.zeroValue103 }
theorem Tryz.Builder_Extra_169 : Builder.Extra Tryz.prog Tryz.lays169_ren := {
  sizeBuilder := by kernel_rfl
  liesBuilder := by kernel_rfl
  t5 := Tryz.underlying5
  a5 := Tryz.isAgg5
  z5 := Tryz.sizeOf5
  v5 := Tryz.zeroValue5
  infoByte := by kernel_rfl
  cellsByte := by kernel_rfl
  sizeByte := by kernel_rfl
  neB5 := by decide }
open Go.RowKit in
/-- (*strings.Builder).String: "String returns the accumulated string.": OF A BUILDER THAT HOLDS AT LEAST ONE BYTE. ✋ THE MODEL FREEZES THOSE BYTES IN THE BUFFER (unsafe.String): a later write INTO them ends the model's run without an answer; a later append BEHIND them goes on. The statement's order of evaluation is drawn: one draw. (LAID: no walk: one application.) -/
theorem Tryz.Builder_String (B b : Nat) (l : List UInt8) (w : World) (h : Lib.IsBuilder 83 5 B b (Lib.byteCells l) w) (h0 : l ≠ []) :
    Calls Tryz.prog 31 #[.pointer (some ⟨b, 0, none⟩)] w fun e w' => e = .returned (.string ⟨l.toArray⟩) ∧ Below B w w' := Any.Builder_String Tryz.lays169 Tryz.Builder_Extra_169 B b l w h h0
open Go.RowKit in
/-- (*strings.Builder).String OF A BUILDER THAT HOLDS NO BYTE: the empty string. (Its buffer is nil, or a row of which it has taken nothing yet; where that row has NO capacity the model lays one new block for unsafe.SliceData's 'some address'.) One draw. (LAID: no walk: one application.) -/
theorem Tryz.Builder_String_empty (B b : Nat) (w : World) (h : Lib.IsBuilder 83 5 B b [] w) (hBw : B ≤ w.heap.size) :
    Calls Tryz.prog 31 #[.pointer (some ⟨b, 0, none⟩)] w fun e w' => e = .returned (.string ⟨#[]⟩) ∧ Below B w w' := Any.Builder_String_empty Tryz.lays169 Tryz.Builder_Extra_169 B b w h hBw
open Go.RowKit in
/-- (*strings.Builder).String: "String returns the accumulated string.": WHATEVER THE BUILDER HOLDS. (LAID: no walk: one application.) -/
theorem Tryz.Builder_String_any (B b : Nat) (l : List UInt8) (w : World) (h : Lib.IsBuilder 83 5 B b (Lib.byteCells l) w) (hBw : B ≤ w.heap.size) :
    Calls Tryz.prog 31 #[.pointer (some ⟨b, 0, none⟩)] w fun e w' => e = .returned (.string ⟨l.toArray⟩) ∧ Below B w w' := Any.Builder_String_any Tryz.lays169 Tryz.Builder_Extra_169 B b l w h hBw
def Tryz.lays241_ren : Go.Shelf.Ren := ⟨fun | 241 => 47 | 277 => 97 | n => n, fun | 70 => 80 | 3 => 3 | 0 => 0 | 72 => 83 | 37 => 81 | 5 => 5 | n => n, fun | n => n⟩
theorem Tryz.lays241 : Go.Proofs.Lays.n241 Tryz.prog Tryz.lays241_ren := {
  mixed := by kernel_rfl
  f241 := Tryz.func47.trans (congrArg some (by kernel_rfl))
  f277 := Tryz.func97.trans (congrArg some (by kernel_rfl))
  t0 := Tryz.underlying0
  a0 := Tryz.isAgg0
  z0 := Tryz.sizeOf0
  v0 := Tryz.zeroValue0
  t3 := Tryz.underlying3
  a3 := Tryz.isAgg3
  z3 := Tryz.sizeOf3
  v3 := Tryz.zeroValue3
  t37 := Tryz.underlying81
  a37 := Tryz.isAgg81
  z37 := Tryz.sizeOf81
  v37 := Tryz.zeroValue81
  t70 := Tryz.underlying80
  a70 := Tryz.isAgg80
  z70 := Tryz.sizeOf80
  v70 := Tryz.zeroValue80
  t72 := Tryz.underlying83
  a72 := Tryz.isAgg83
  z72 := Tryz.sizeOf83
  v72 := Tryz.zeroValue83 }
theorem Tryz.Builder_Extra_241 : Builder.Extra Tryz.prog Tryz.lays241_ren := {
  sizeBuilder := by kernel_rfl
  liesBuilder := by kernel_rfl
  t5 := Tryz.underlying5
  a5 := Tryz.isAgg5
  z5 := Tryz.sizeOf5
  v5 := Tryz.zeroValue5
  infoByte := by kernel_rfl
  cellsByte := by kernel_rfl
  sizeByte := by kernel_rfl
  neB5 := by decide }
open Go.RowKit in
/-- (*strings.Builder).grow (no doc but "grow copies the buffer to a new, larger buffer so that there are at least n bytes of capacity beyond len(b.buf)."): AT A BUILDER WITHOUT A BUFFER: a new row of whatever bytes for its buffer, none of them its own yet. Three draws. (LAID: no walk: one application.) -/
theorem Tryz.Builder_grow_fresh (B b n : Nat) (w : World) (hB : B ≤ b) (hbk : w.heap[b]? = some (.cells #[.pointer (some ⟨b, 0, none⟩), .slice none 0 0] 83 (0, 0))) (hBw : B ≤ w.heap.size) (hn : n ≤ 281474976710656) :
    Calls Tryz.prog 47 #[.pointer (some ⟨b, 0, none⟩), .int .i64 n] w fun e w' => e = .returned (.tuple #[]) ∧ (Lib.BuilderAt 83 5 B b (.pointer (some ⟨b, 0, none⟩)) [] w' ∧ Below B w w') := Any.Builder_grow_fresh Tryz.lays241 Tryz.Builder_Extra_241 B b n w hB hbk hBw hn
def Tryz.lays165_ren : Go.Shelf.Ren := ⟨fun | 165 => 29 | 240 => 46 | 241 => 47 | 276 => 96 | 277 => 97 | n => n, fun | 70 => 80 | 3 => 3 | 0 => 0 | 4 => 4 | 9 => 9 | 20 => 20 | 72 => 83 | 37 => 81 | 164 => 162 | 5 => 5 | n => n, fun | n => n⟩
theorem Tryz.lays165 : Go.Proofs.Lays.n165 Tryz.prog Tryz.lays165_ren := {
  mixed := by kernel_rfl
  f165 := Tryz.func29.trans (congrArg some (by kernel_rfl))
  f240 := Tryz.func46.trans (congrArg some (by kernel_rfl))
  f241 := Tryz.func47.trans (congrArg some (by kernel_rfl))
  f276 := Tryz.func96.trans (congrArg some (by kernel_rfl))
  f277 := Tryz.func97.trans (congrArg some (by kernel_rfl))
  t0 := Tryz.underlying0
  a0 := Tryz.isAgg0
  z0 := Tryz.sizeOf0
  v0 := Tryz.zeroValue0
  t3 := Tryz.underlying3
  a3 := Tryz.isAgg3
  z3 := Tryz.sizeOf3
  v3 := Tryz.zeroValue3
  t4 := Tryz.underlying4
  a4 := Tryz.isAgg4
  z4 := Tryz.sizeOf4
  v4 := Tryz.zeroValue4
  t9 := Tryz.underlying9
  a9 := Tryz.isAgg9
  z9 := Tryz.sizeOf9
  v9 := Tryz.zeroValue9
  t20 := Tryz.underlying20
  a20 := Tryz.isAgg20
  z20 := Tryz.sizeOf20
  v20 := Tryz.zeroValue20
  t37 := Tryz.underlying81
  a37 := Tryz.isAgg81
  z37 := Tryz.sizeOf81
  v37 := Tryz.zeroValue81
  t70 := Tryz.underlying80
  a70 := Tryz.isAgg80
  z70 := Tryz.sizeOf80
  v70 := Tryz.zeroValue80
  t72 := Tryz.underlying83
  a72 := Tryz.isAgg83
  z72 := Tryz.sizeOf83
  v72 := Tryz.zeroValue83
  t164 := Tryz.underlying162
  a164 := Tryz.isAgg162
  z164 := Tryz.sizeOf162
  v164 := Tryz.zeroValue162 }
theorem Tryz.Builder_Extra_165 : Builder.Extra Tryz.prog Tryz.lays165_ren := {
  sizeBuilder := by kernel_rfl
  liesBuilder := by kernel_rfl
  t5 := Tryz.underlying5
  a5 := Tryz.isAgg5
  z5 := Tryz.sizeOf5
  v5 := Tryz.zeroValue5
  infoByte := by kernel_rfl
  cellsByte := by kernel_rfl
  sizeByte := by kernel_rfl
  neB5 := by decide }
open Go.RowKit in
/-- (*strings.Builder).Grow AT A BUILDER THAT HAS NOT BEEN WRITTEN ('var b strings.Builder; b.Grow(n)'): "Grow grows b's capacity, if necessary, to guarantee space for another n bytes.": it holds no byte behind it as before it. (LAID: no walk: one application.) -/
theorem Tryz.Builder_Grow_fresh (B b n : Nat) (w : World) (hB : B ≤ b) (hbk : w.heap[b]? = some (.cells #[.pointer none, .slice none 0 0] 83 (0, 0))) (hBw : B ≤ w.heap.size) (hn : n ≤ 281474976710656) :
    Calls Tryz.prog 29 #[.pointer (some ⟨b, 0, none⟩), .int .i64 n] w fun e w' => e = .returned (.tuple #[]) ∧ (Lib.BuilderAt 83 5 B b (.pointer (some ⟨b, 0, none⟩)) [] w' ∧ Below B w w') := Any.Builder_Grow_fresh Tryz.lays165 Tryz.Builder_Extra_165 B b n w hB hbk hBw hn
def Tryz.lays156_ren : Go.Shelf.Ren := ⟨fun | 156 => 16 | 165 => 29 | 166 => 30 | 169 => 31 | 240 => 46 | 241 => 47 | 276 => 96 | 277 => 97 | n => n, fun | 31 => 50 | 9 => 9 | 3 => 3 | 4 => 4 | 0 => 0 | 20 => 20 | 72 => 83 | 76 => 85 | 70 => 80 | 37 => 81 | 75 => 59 | 127 => 103 | 164 => 162 | 5 => 5 | 80 => 87 | n => n, fun | n => n⟩
theorem Tryz.lays156 : Go.Proofs.Lays.n156 Tryz.prog Tryz.lays156_ren := {
  mixed := by kernel_rfl
  f156 := Tryz.func16.trans (congrArg some (by kernel_rfl))
  f165 := Tryz.func29.trans (congrArg some (by kernel_rfl))
  f166 := Tryz.func30.trans (congrArg some (by kernel_rfl))
  f169 := Tryz.func31.trans (congrArg some (by kernel_rfl))
  f240 := Tryz.func46.trans (congrArg some (by kernel_rfl))
  f241 := Tryz.func47.trans (congrArg some (by kernel_rfl))
  f276 := Tryz.func96.trans (congrArg some (by kernel_rfl))
  f277 := Tryz.func97.trans (congrArg some (by kernel_rfl))
  t0 := Tryz.underlying0
  a0 := Tryz.isAgg0
  z0 := Tryz.sizeOf0
  v0 := Tryz.zeroValue0
  t3 := Tryz.underlying3
  a3 := Tryz.isAgg3
  z3 := Tryz.sizeOf3
  v3 := Tryz.zeroValue3
  t4 := Tryz.underlying4
  a4 := Tryz.isAgg4
  z4 := Tryz.sizeOf4
  v4 := Tryz.zeroValue4
  t9 := Tryz.underlying9
  a9 := Tryz.isAgg9
  z9 := Tryz.sizeOf9
  v9 := Tryz.zeroValue9
  t20 := Tryz.underlying20
  a20 := Tryz.isAgg20
  z20 := Tryz.sizeOf20
  v20 := Tryz.zeroValue20
  t31 := Tryz.underlying50
  a31 := Tryz.isAgg50
  z31 := Tryz.sizeOf50
  v31 := Tryz.zeroValue50
  t37 := Tryz.underlying81
  a37 := Tryz.isAgg81
  z37 := Tryz.sizeOf81
  v37 := Tryz.zeroValue81
  t70 := Tryz.underlying80
  a70 := Tryz.isAgg80
  z70 := Tryz.sizeOf80
  v70 := Tryz.zeroValue80
  t72 := Tryz.underlying83
  a72 := Tryz.isAgg83
  z72 := Tryz.sizeOf83
  v72 := Tryz.zeroValue83
  t75 := Tryz.underlying59
  a75 := Tryz.isAgg59
  z75 := Tryz.sizeOf59
  v75 := Tryz.zeroValue59
  t76 := Tryz.underlying85
  a76 := Tryz.isAgg85
  z76 := Tryz.sizeOf85
  v76 := Tryz.zeroValue85
  t127 := Tryz.underlying103
  a127 := Tryz.isAgg103
  z127 := Tryz.sizeOf103
  v127 := Tryz.zeroValue103
  t164 := Tryz.underlying162
  a164 := Tryz.isAgg162
  z164 := Tryz.sizeOf162
  v164 := Tryz.zeroValue162 }
theorem Tryz.Builder_Extra_156 : Builder.Extra Tryz.prog Tryz.lays156_ren := {
  sizeBuilder := by kernel_rfl
  liesBuilder := by kernel_rfl
  t5 := Tryz.underlying5
  a5 := Tryz.isAgg5
  z5 := Tryz.sizeOf5
  v5 := Tryz.zeroValue5
  infoByte := by kernel_rfl
  cellsByte := by kernel_rfl
  sizeByte := by kernel_rfl
  neB5 := by decide }
open Go.RowKit in
/-- No element: the empty string; the world is as it was. (Whatever the slice's address and capacity: a nil slice too.) (LAID: no walk: one application.) -/
theorem Tryz.strings_Join_none (a : Option Addr) (c : Nat) (sep : ByteArray) (w : World) :
    Calls Tryz.prog 16 #[.slice a 0 c, .string sep] w fun e w' => e = .returned (.string ⟨#[]⟩) ∧ w' = w := Any.strings_Join_none Tryz.lays156 Tryz.Builder_Extra_156 a c sep w
open Go.RowKit in
/-- strings.Join: "Join concatenates the elements of its first argument to create a single string. The separator string sep is placed between elements in the resulting string.": HOWEVER MANY ELEMENTS. Below the heap's end the world is as it was. (LAID: no walk: one application.) -/
theorem Tryz.strings_Join (bk o c : Nat) (xs : List ByteArray) (sep : ByteArray) (w : World) (hcells : ∀ (j : Nat) x, xs[j]? = some x → w.cell? ⟨bk, o + j, none⟩ = some (.string x)) (hbk : bk < w.heap.size) (hN : xs.length ≤ 140737488355328) (hcap : xs.length ≤ c) (hlen : (Lib.join (xs.map (·.data.toList)) sep.data.toList).length ≤ 140737488355328) :
    Calls Tryz.prog 16 #[.slice (some ⟨bk, o, none⟩) xs.length c, .string sep] w fun e w' => e = .returned (.string ⟨(Lib.join (xs.map (·.data.toList)) sep.data.toList).toArray⟩) ∧ Below w.heap.size w w' := Any.strings_Join Tryz.lays156 Tryz.Builder_Extra_156 bk o c xs sep w hcells hbk hN hcap hlen
def Tryz.lays195_ren : Go.Shelf.Ren := ⟨fun | 195 => 110 | n => n, fun | 9 => 9 | 3 => 3 | 0 => 0 | 4 => 4 | n => n, fun | n => n⟩
theorem Tryz.lays195 : Go.Proofs.Lays.n195 Tryz.prog Tryz.lays195_ren := {
  mixed := by kernel_rfl
  f195 := Tryz.func110.trans (congrArg some (by kernel_rfl))
  t0 := Tryz.underlying0
  a0 := Tryz.isAgg0
  z0 := Tryz.sizeOf0
  v0 := Tryz.zeroValue0
  t3 := Tryz.underlying3
  a3 := Tryz.isAgg3
  z3 := Tryz.sizeOf3
  v3 := Tryz.zeroValue3
  t4 := Tryz.underlying4
  a4 := Tryz.isAgg4
  z4 := Tryz.sizeOf4
  v4 := Tryz.zeroValue4
  t9 := Tryz.underlying9
  a9 := Tryz.isAgg9
  z9 := Tryz.sizeOf9
  v9 := Tryz.zeroValue9 }
open Go.RowKit in
/-- unicode/utf8.RuneCountInString: "RuneCountInString is like RuneCount but its input is a string." ("RuneCount returns the number of runes in p. Erroneous and short encodings are treated as single runes of width 1 byte."): EVERY STRING, valid UTF-8 or not: 'Lib.runeCount s' (plain Lean over the model's own 'Utf8.decode'; 'Lib.runeCount_le': at most len(s); 'Lib.runeCount_ascii': on ASCII: len(s)). THE ONE CONDITION: len(s) below 2^63 - 1 (the counter does not wrap): the form's reach pays it. THE WORLD BEHIND THE CALL: ONE BLOCK MORE: the model's iterator over s, at its end: all else as it was. (LAID: no walk: one application.) -/
theorem Tryz.utf8_RuneCountInString (s : ByteArray) (w : World) (hs : s.size < 9223372036854775807) :
    Calls Tryz.prog 110 #[.string s] w fun e w' => e = .returned (.int .i64 (Lib.runeCount s)) ∧ ∃ pos, w' = w.iter s pos := Any.utf8_RuneCountInString Tryz.lays195 s w hs
def Tryz.lays129_ren : Go.Shelf.Ren := ⟨fun | 129 => 92 | n => n, fun | 53 => 22 | 3 => 3 | 4 => 4 | 46 => 64 | 5 => 5 | 9 => 9 | n => n, fun | n => n⟩
theorem Tryz.lays129 : Go.Proofs.Lays.n129 Tryz.prog Tryz.lays129_ren := {
  mixed := by kernel_rfl
  f129 := Tryz.func92.trans (congrArg some (by kernel_rfl))
  t3 := Tryz.underlying3
  a3 := Tryz.isAgg3
  z3 := Tryz.sizeOf3
  v3 := Tryz.zeroValue3
  t4 := Tryz.underlying4
  a4 := Tryz.isAgg4
  z4 := Tryz.sizeOf4
  v4 := Tryz.zeroValue4
  t5 := Tryz.underlying5
  a5 := Tryz.isAgg5
  z5 := Tryz.sizeOf5
  v5 := Tryz.zeroValue5
  t9 := Tryz.underlying9
  a9 := Tryz.isAgg9
  z9 := Tryz.sizeOf9
  v9 := Tryz.zeroValue9
  t46 := Tryz.underlying64
  a46 := Tryz.isAgg64
  z46 := Tryz.sizeOf64
  v46 := Tryz.zeroValue64
  t53 := Tryz.underlying22
  a53 := Tryz.isAgg22
  z53 := Tryz.sizeOf22
  v53 := Tryz.zeroValue22 }
/-- bits.Len64: "Len64 returns the minimum number of bits required to represent x; the result is 0 for x == 0.": IT RETURNS 'Lib.bitLen x'; the world is as it was. ('h0', 'h1': x is a uint64.) (LAID: no walk: one application.) -/
theorem Tryz.bits_Len64 (x : Int) (w : World) (h0 : 0 ≤ x) (h1 : x ≤ 18446744073709551615) :
    Calls Tryz.prog 92 #[.int .u64 x] w fun e w' => e = .returned (.int .i64 (Lib.bitLen x.toNat)) ∧ w' = w := Any.bits_Len64 Tryz.lays129 x w h0 h1
def Tryz.lays317_ren : Go.Shelf.Ren := ⟨fun | 317 => 91 | n => n, fun | 3 => 3 | 46 => 64 | n => n, fun | n => n⟩
theorem Tryz.lays317 : Go.Proofs.Lays.n317 Tryz.prog Tryz.lays317_ren := {
  mixed := by kernel_rfl
  f317 := Tryz.func91.trans (congrArg some (by kernel_rfl))
  t3 := Tryz.underlying3
  a3 := Tryz.isAgg3
  z3 := Tryz.sizeOf3
  v3 := Tryz.zeroValue3
  t46 := Tryz.underlying64
  a46 := Tryz.isAgg64
  z46 := Tryz.sizeOf64
  v46 := Tryz.zeroValue64 }
open Go.Lib in
/-- internal/strconv.log10Pow2: "log10Pow2(x) returns ⌊log₁₀ 2**x⌋ = ⌊x * log₁₀ 2⌋.": '(x * 78913) >> 18', at an x up to 64 (a length in bits). The world is as it was. (LAID: no walk: one application.) -/
theorem Tryz.internal_strconv_log10Pow2 (x : Nat) (h : x ≤ 64) (w : World) :
    Calls Tryz.prog 91 #[.int .i64 x] w fun e w' => e = .returned (.int .i64 (Lib.l10 x)) ∧ w' = w := Any.internal_strconv_log10Pow2 Tryz.lays317 x h w
def Tryz.lays318_ren : Go.Shelf.Ren := ⟨fun | 318 => 93 | n => n, fun | 3 => 3 | 4 => 4 | n => n, fun | n => n⟩
theorem Tryz.lays318 : Go.Proofs.Lays.n318 Tryz.prog Tryz.lays318_ren := {
  mixed := by kernel_rfl
  f318 := Tryz.func93.trans (congrArg some (by kernel_rfl))
  t3 := Tryz.underlying3
  a3 := Tryz.isAgg3
  z3 := Tryz.sizeOf3
  v3 := Tryz.zeroValue3
  t4 := Tryz.underlying4
  a4 := Tryz.isAgg4
  z4 := Tryz.sizeOf4
  v4 := Tryz.zeroValue4 }
open Go.Lib in
/-- internal/strconv.bool2: "bool2 converts b to an integer: 1 for true, 0 for false." The world is as it was. (LAID: no walk: one application.) -/
theorem Tryz.internal_strconv_bool2_int (b : Bool) (w : World) :
    Calls Tryz.prog 93 #[.bool b] w fun e w' => e = .returned (.int .i64 (if b then 1 else 0)) ∧ w' = w := Any.internal_strconv_bool2_int Tryz.lays318 b w
def Tryz.lays283_ren : Go.Shelf.Ren := ⟨fun | 283 => 42 | n => n, fun | 3 => 3 | 9 => 9 | 4 => 4 | n => n, fun | n => n⟩
theorem Tryz.lays283 : Go.Proofs.Lays.n283 Tryz.prog Tryz.lays283_ren := {
  mixed := by kernel_rfl
  f283 := Tryz.func42.trans (congrArg some (by kernel_rfl))
  t3 := Tryz.underlying3
  a3 := Tryz.isAgg3
  z3 := Tryz.sizeOf3
  v3 := Tryz.zeroValue3
  t4 := Tryz.underlying4
  a4 := Tryz.isAgg4
  z4 := Tryz.sizeOf4
  v4 := Tryz.zeroValue4
  t9 := Tryz.underlying9
  a9 := Tryz.isAgg9
  z9 := Tryz.sizeOf9
  v9 := Tryz.zeroValue9 }
open Go.Lib in
/-- internal/strconv.small: "small returns the string for an i with 0 <= i < nSmalls.": i's decimal numeral. The world is as it was. (LAID: no walk: one application.) -/
theorem Tryz.internal_strconv_small (i : Nat) (h : i < 100) (w : World) :
    Calls Tryz.prog 42 #[.int .i64 i] w fun e w' => e = .returned (.string ⟨(Lib.decDigits i).toArray⟩) ∧ w' = w := Any.internal_strconv_small Tryz.lays283 i h w
def Tryz.laysM284_ren : Go.Shelf.Ren := ⟨fun | 284 => 43 | 129 => 92 | 317 => 91 | 318 => 93 | n => n, fun | 53 => 22 | 3 => 3 | 212 => 157 | 0 => 0 | 4 => 4 | 46 => 64 | 5 => 5 | 9 => 9 | n => n, fun | 17 => 0 | n => n⟩
theorem Tryz.laysM284 : Go.Proofs.LaysM.n284 Tryz.prog Tryz.laysM284_ren := {
  mixed := by kernel_rfl
  f129 := Tryz.func92.trans (congrArg some (by kernel_rfl))
  f284 := Tryz.func43.trans (congrArg some (by kernel_rfl))
  f317 := Tryz.func91.trans (congrArg some (by kernel_rfl))
  f318 := Tryz.func93.trans (congrArg some (by kernel_rfl))
  t0 := Tryz.underlying0
  a0 := Tryz.isAgg0
  z0 := Tryz.sizeOf0
  v0 := Tryz.zeroValue0
  t3 := Tryz.underlying3
  a3 := Tryz.isAgg3
  z3 := Tryz.sizeOf3
  v3 := Tryz.zeroValue3
  t4 := Tryz.underlying4
  a4 := Tryz.isAgg4
  z4 := Tryz.sizeOf4
  v4 := Tryz.zeroValue4
  t5 := Tryz.underlying5
  a5 := Tryz.isAgg5
  z5 := Tryz.sizeOf5
  v5 := Tryz.zeroValue5
  t9 := Tryz.underlying9
  a9 := Tryz.isAgg9
  z9 := Tryz.sizeOf9
  v9 := Tryz.zeroValue9
  t46 := Tryz.underlying64
  a46 := Tryz.isAgg64
  z46 := Tryz.sizeOf64
  v46 := Tryz.zeroValue64
  t53 := Tryz.underlying22
  a53 := Tryz.isAgg22
  z53 := Tryz.sizeOf22
  v53 := Tryz.zeroValue22
  t212 := Tryz.underlying157
  a212 := Tryz.isAgg157
  z212 := Tryz.sizeOf157
  v212 := Tryz.zeroValue157
  g17 := by kernel_rfl
  i0 := by kernel_rfl
  i3 := by kernel_rfl
  i4 := by kernel_rfl
  i5 := by kernel_rfl
  i9 := by kernel_rfl
  i46 := by kernel_rfl
  i53 := by kernel_rfl
  i212 := by kernel_rfl
  m17 := by kernel_rfl }
open Go.Lib in
/-- internal/strconv.numDigits, at a d that is not 0: THE NUMBER OF d's DECIMAL DIGITS. The world is as it was. (LAID: no walk: one application.) -/
theorem Tryz.internal_strconv_numDigits (u : Nat) (h1 : 1 ≤ u) (h2 : u < 18446744073709551616) (w : World) (htab : Lib.TabIs Tryz.prog w "internal/strconv.uint64pow10" .u64 Lib.pow10Tab) :
    Calls Tryz.prog 43 #[.int .u64 u] w fun e w' => e = .returned (.int .i64 (Lib.nDigits u)) ∧ w' = w := Any.internal_strconv_numDigits Tryz.laysM284 u h1 h2 w htab
def Tryz.lays285_ren : Go.Shelf.Ren := ⟨fun | 285 => 44 | n => n, fun | 37 => 81 | 53 => 22 | 3 => 3 | 4 => 4 | 51 => 158 | 9 => 9 | 5 => 5 | 0 => 0 | n => n, fun | n => n⟩
theorem Tryz.lays285 : Go.Proofs.Lays.n285 Tryz.prog Tryz.lays285_ren := {
  mixed := by kernel_rfl
  f285 := Tryz.func44.trans (congrArg some (by kernel_rfl))
  t0 := Tryz.underlying0
  a0 := Tryz.isAgg0
  z0 := Tryz.sizeOf0
  v0 := Tryz.zeroValue0
  t3 := Tryz.underlying3
  a3 := Tryz.isAgg3
  z3 := Tryz.sizeOf3
  v3 := Tryz.zeroValue3
  t4 := Tryz.underlying4
  a4 := Tryz.isAgg4
  z4 := Tryz.sizeOf4
  v4 := Tryz.zeroValue4
  t5 := Tryz.underlying5
  a5 := Tryz.isAgg5
  z5 := Tryz.sizeOf5
  v5 := Tryz.zeroValue5
  t9 := Tryz.underlying9
  a9 := Tryz.isAgg9
  z9 := Tryz.sizeOf9
  v9 := Tryz.zeroValue9
  t37 := Tryz.underlying81
  a37 := Tryz.isAgg81
  z37 := Tryz.sizeOf81
  v37 := Tryz.zeroValue81
  t51 := Tryz.underlying158
  a51 := Tryz.isAgg158
  z51 := Tryz.sizeOf158
  v51 := Tryz.zeroValue158
  t53 := Tryz.underlying22
  a53 := Tryz.isAgg22
  z53 := Tryz.sizeOf22
  v53 := Tryz.zeroValue22 }
open Go.RowKit Go.Sort Go.Lib in
/-- internal/strconv.formatBase10: "formatBase10 formats the decimal representation of u into a. The caller is responsible for ensuring that a is big enough to hold u. If a is too big, leading zeros will be filled in as needed.": THE ROW HOLDS u's DIGITS ('FmtInv .. 0 ..': every place t holds 'dg u (len - 1 - t)'); all else is as it was but for the count of draws. (LAID: no walk: one application.) -/
theorem Tryz.internal_strconv_formatBase10 (blk off cap : Nat) (u : Nat) (d : Array UInt8) (w : World) (hH : Holds (fun (b : UInt8) => Value.int .u8 (b.toNat : Int)) w blk off d) (hu : u < 10 ^ d.size) (hu64 : u < 18446744073709551616) (hsz : d.size < 4611686018427387904) :
    Calls Tryz.prog 44 #[.slice (some ⟨blk, off, none⟩) d.size cap, .int .u64 u] w fun e w' =>
      e = .returned (.tuple #[]) ∧ ∃ (n v' : Nat) (dk : Array UInt8), w' = (putRow (fun (b : UInt8) => Value.int .u8 (b.toNat : Int)) w blk off dk).drewN n ∧ FmtInv d.size u 0 v' dk := Any.internal_strconv_formatBase10 Tryz.lays285 blk off cap u d w hH hu hu64 hsz
def Tryz.laysM246_ren : Go.Shelf.Ren := ⟨fun | 246 => 131 | 283 => 42 | 284 => 43 | 285 => 44 | 286 => 45 | 129 => 92 | 317 => 91 | 318 => 93 | 319 => 94 | 320 => 95 | 337 => 122 | 338 => 123 | n => n, fun | 2 => 2 | 3 => 3 | 9 => 9 | 4 => 4 | 171 => 98 | 0 => 0 | 53 => 22 | 37 => 81 | 5 => 5 | 173 => 101 | 212 => 157 | 51 => 158 | 20 => 20 | 213 => 159 | 46 => 64 | 232 => 190 | 233 => 191 | n => n, fun | 17 => 0 | 18 => 4 | 19 => 5 | n => n⟩
theorem Tryz.laysM246 : Go.Proofs.LaysM.n246 Tryz.prog Tryz.laysM246_ren := {
  mixed := by kernel_rfl
  f129 := Tryz.func92.trans (congrArg some (by kernel_rfl))
  f246 := Tryz.func131.trans (congrArg some (by kernel_rfl))
  f283 := Tryz.func42.trans (congrArg some (by kernel_rfl))
  f284 := Tryz.func43.trans (congrArg some (by kernel_rfl))
  f285 := Tryz.func44.trans (congrArg some (by kernel_rfl))
  f286 := Tryz.func45.trans (congrArg some (by kernel_rfl))
  f317 := Tryz.func91.trans (congrArg some (by kernel_rfl))
  f318 := Tryz.func93.trans (congrArg some (by kernel_rfl))
  f319 := Tryz.func94.trans (congrArg some (by kernel_rfl))
  f320 := Tryz.func95.trans (congrArg some (by kernel_rfl))
  f337 := Tryz.func122.trans (congrArg some (by kernel_rfl))
  f338 := Tryz.func123.trans (congrArg some (by kernel_rfl))
  t0 := Tryz.underlying0
  a0 := Tryz.isAgg0
  z0 := Tryz.sizeOf0
  v0 := Tryz.zeroValue0
  t2 := Tryz.underlying2
  a2 := Tryz.isAgg2
  z2 := Tryz.sizeOf2
  v2 := Tryz.zeroValue2
  t3 := Tryz.underlying3
  a3 := Tryz.isAgg3
  z3 := Tryz.sizeOf3
  v3 := Tryz.zeroValue3
  t4 := Tryz.underlying4
  a4 := Tryz.isAgg4
  z4 := Tryz.sizeOf4
  v4 := Tryz.zeroValue4
  t5 := Tryz.underlying5
  a5 := Tryz.isAgg5
  z5 := Tryz.sizeOf5
  v5 := Tryz.zeroValue5
  t9 := Tryz.underlying9
  a9 := Tryz.isAgg9
  z9 := Tryz.sizeOf9
  v9 := Tryz.zeroValue9
  t20 := Tryz.underlying20
  a20 := Tryz.isAgg20
  z20 := Tryz.sizeOf20
  v20 := Tryz.zeroValue20
  t37 := Tryz.underlying81
  a37 := Tryz.isAgg81
  z37 := Tryz.sizeOf81
  v37 := Tryz.zeroValue81
  t46 := Tryz.underlying64
  a46 := Tryz.isAgg64
  z46 := Tryz.sizeOf64
  v46 := Tryz.zeroValue64
  t51 := Tryz.underlying158
  a51 := Tryz.isAgg158
  z51 := Tryz.sizeOf158
  v51 := Tryz.zeroValue158
  t53 := Tryz.underlying22
  a53 := Tryz.isAgg22
  z53 := Tryz.sizeOf22
  v53 := Tryz.zeroValue22
  t171 := Tryz.underlying98
  a171 := Tryz.isAgg98
  z171 := Tryz.sizeOf98
  v171 := Tryz.zeroValue98
  t173 := Tryz.underlying101
  a173 := Tryz.isAgg101
  z173 := Tryz.sizeOf101
  v173 := Tryz.zeroValue101
  t212 := Tryz.underlying157
  a212 := Tryz.isAgg157
  z212 := Tryz.sizeOf157
  v212 := Tryz.zeroValue157
  t213 := Tryz.underlying159
  a213 := Tryz.isAgg159
  z213 := Tryz.sizeOf159
  t232 := Tryz.underlying190
  a232 := Tryz.isAgg190
  z232 := Tryz.sizeOf190
  v232 := Tryz.zeroValue190
  t233 := Tryz.underlying191
  a233 := Tryz.isAgg191
  z233 := Tryz.sizeOf191
  v233 := Tryz.zeroValue191
  g17 := by kernel_rfl
  g18 := by kernel_rfl
  g19 := by kernel_rfl
  i0 := by kernel_rfl
  i2 := by kernel_rfl
  i3 := by kernel_rfl
  i4 := by kernel_rfl
  i5 := by kernel_rfl
  i9 := by kernel_rfl
  i20 := by kernel_rfl
  i37 := by kernel_rfl
  i46 := by kernel_rfl
  i51 := by kernel_rfl
  i53 := by kernel_rfl
  i171 := by kernel_rfl
  i173 := by kernel_rfl
  i212 := by kernel_rfl
  i232 := by kernel_rfl
  i233 := by kernel_rfl
  m17 := by kernel_rfl
  m18 := by kernel_rfl
  m19 := by kernel_rfl }
open Go.RowKit Go.Sort Go.Lib in
/-- internal/strconv.FormatInt: "FormatInt returns the string representation of i in the given base": AT BASE 10: i's decimal numeral, for every int64. The world behind the call: the world before it, new blocks behind the heap, draws. (LAID: no walk: one application.) -/
theorem Tryz.internal_strconv_FormatInt_10 (n : Int) (h0 : -9223372036854775808 ≤ n) (h1 : n ≤ 9223372036854775807) (w : World) (htab : Lib.TabIs Tryz.prog w "internal/strconv.uint64pow10" .u64 Lib.pow10Tab) :
    Calls Tryz.prog 131 #[.int .i64 n, .int .i64 10] w fun e w' => e = .returned (.string ⟨(Lib.itoa n).toArray⟩) ∧ ∃ k os, w' = grow (w.drewN k) os := Any.internal_strconv_FormatInt_10 Tryz.laysM246 n h0 h1 w htab
def Tryz.lays246_ren : Go.Shelf.Ren := ⟨fun | 246 => 131 | 283 => 42 | 284 => 43 | 285 => 44 | 286 => 45 | 129 => 92 | 317 => 91 | 318 => 93 | 319 => 94 | 320 => 95 | 337 => 122 | 338 => 123 | n => n, fun | 2 => 2 | 3 => 3 | 9 => 9 | 4 => 4 | 171 => 98 | 0 => 0 | 53 => 22 | 37 => 81 | 5 => 5 | 173 => 101 | 212 => 157 | 51 => 158 | 20 => 20 | 213 => 159 | 46 => 64 | 232 => 190 | 233 => 191 | n => n, fun | 17 => 0 | 18 => 4 | 19 => 5 | n => n⟩
theorem Tryz.lays246 : Go.Proofs.Lays.n246 Tryz.prog Tryz.lays246_ren := {
  mixed := by kernel_rfl
  f129 := Tryz.func92.trans (congrArg some (by kernel_rfl))
  f246 := Tryz.func131.trans (congrArg some (by kernel_rfl))
  f283 := Tryz.func42.trans (congrArg some (by kernel_rfl))
  f284 := Tryz.func43.trans (congrArg some (by kernel_rfl))
  f285 := Tryz.func44.trans (congrArg some (by kernel_rfl))
  f286 := Tryz.func45.trans (congrArg some (by kernel_rfl))
  f317 := Tryz.func91.trans (congrArg some (by kernel_rfl))
  f318 := Tryz.func93.trans (congrArg some (by kernel_rfl))
  f319 := Tryz.func94.trans (congrArg some (by kernel_rfl))
  f320 := Tryz.func95.trans (congrArg some (by kernel_rfl))
  f337 := Tryz.func122.trans (congrArg some (by kernel_rfl))
  f338 := Tryz.func123.trans (congrArg some (by kernel_rfl))
  t0 := Tryz.underlying0
  a0 := Tryz.isAgg0
  z0 := Tryz.sizeOf0
  v0 := Tryz.zeroValue0
  t2 := Tryz.underlying2
  a2 := Tryz.isAgg2
  z2 := Tryz.sizeOf2
  v2 := Tryz.zeroValue2
  t3 := Tryz.underlying3
  a3 := Tryz.isAgg3
  z3 := Tryz.sizeOf3
  v3 := Tryz.zeroValue3
  t4 := Tryz.underlying4
  a4 := Tryz.isAgg4
  z4 := Tryz.sizeOf4
  v4 := Tryz.zeroValue4
  t5 := Tryz.underlying5
  a5 := Tryz.isAgg5
  z5 := Tryz.sizeOf5
  v5 := Tryz.zeroValue5
  t9 := Tryz.underlying9
  a9 := Tryz.isAgg9
  z9 := Tryz.sizeOf9
  v9 := Tryz.zeroValue9
  t20 := Tryz.underlying20
  a20 := Tryz.isAgg20
  z20 := Tryz.sizeOf20
  v20 := Tryz.zeroValue20
  t37 := Tryz.underlying81
  a37 := Tryz.isAgg81
  z37 := Tryz.sizeOf81
  v37 := Tryz.zeroValue81
  t46 := Tryz.underlying64
  a46 := Tryz.isAgg64
  z46 := Tryz.sizeOf64
  v46 := Tryz.zeroValue64
  t51 := Tryz.underlying158
  a51 := Tryz.isAgg158
  z51 := Tryz.sizeOf158
  v51 := Tryz.zeroValue158
  t53 := Tryz.underlying22
  a53 := Tryz.isAgg22
  z53 := Tryz.sizeOf22
  v53 := Tryz.zeroValue22
  t171 := Tryz.underlying98
  a171 := Tryz.isAgg98
  z171 := Tryz.sizeOf98
  v171 := Tryz.zeroValue98
  t173 := Tryz.underlying101
  a173 := Tryz.isAgg101
  z173 := Tryz.sizeOf101
  v173 := Tryz.zeroValue101
  t212 := Tryz.underlying157
  a212 := Tryz.isAgg157
  z212 := Tryz.sizeOf157
  v212 := Tryz.zeroValue157
  t213 := Tryz.underlying159
  a213 := Tryz.isAgg159
  z213 := Tryz.sizeOf159
  t232 := Tryz.underlying190
  a232 := Tryz.isAgg190
  z232 := Tryz.sizeOf190
  v232 := Tryz.zeroValue190
  t233 := Tryz.underlying191
  a233 := Tryz.isAgg191
  z233 := Tryz.sizeOf191
  v233 := Tryz.zeroValue191
  g17 := by kernel_rfl
  g18 := by kernel_rfl
  g19 := by kernel_rfl }
open Go.RowKit Go.Sort Go.Lib in
/-- THE ROAD WITHOUT THE TABLE: 0 <= i < 100: two constants are read, nothing is laid: no premise on the world, and the world is as it was. (LAID: no walk: one application.) -/
theorem Tryz.internal_strconv_FormatInt_10_small (i : Nat) (hi : i < 100) (w : World) :
    Calls Tryz.prog 131 #[.int .i64 i, .int .i64 10] w fun e w' => e = .returned (.string ⟨(Lib.decDigits i).toArray⟩) ∧ w' = w := Any.internal_strconv_FormatInt_10_small Tryz.lays246 i hi w
def Tryz.laysM243_ren : Go.Shelf.Ren := ⟨fun | 243 => 128 | 246 => 131 | 283 => 42 | 284 => 43 | 285 => 44 | 286 => 45 | 129 => 92 | 317 => 91 | 318 => 93 | 319 => 94 | 320 => 95 | 337 => 122 | 338 => 123 | n => n, fun | 3 => 3 | 9 => 9 | 2 => 2 | 4 => 4 | 171 => 98 | 0 => 0 | 53 => 22 | 37 => 81 | 5 => 5 | 173 => 101 | 212 => 157 | 51 => 158 | 20 => 20 | 213 => 159 | 46 => 64 | 232 => 190 | 233 => 191 | n => n, fun | 17 => 0 | 18 => 4 | 19 => 5 | n => n⟩
theorem Tryz.laysM243 : Go.Proofs.LaysM.n243 Tryz.prog Tryz.laysM243_ren := {
  mixed := by kernel_rfl
  f129 := Tryz.func92.trans (congrArg some (by kernel_rfl))
  f243 := Tryz.func128.trans (congrArg some (by kernel_rfl))
  f246 := Tryz.func131.trans (congrArg some (by kernel_rfl))
  f283 := Tryz.func42.trans (congrArg some (by kernel_rfl))
  f284 := Tryz.func43.trans (congrArg some (by kernel_rfl))
  f285 := Tryz.func44.trans (congrArg some (by kernel_rfl))
  f286 := Tryz.func45.trans (congrArg some (by kernel_rfl))
  f317 := Tryz.func91.trans (congrArg some (by kernel_rfl))
  f318 := Tryz.func93.trans (congrArg some (by kernel_rfl))
  f319 := Tryz.func94.trans (congrArg some (by kernel_rfl))
  f320 := Tryz.func95.trans (congrArg some (by kernel_rfl))
  f337 := Tryz.func122.trans (congrArg some (by kernel_rfl))
  f338 := Tryz.func123.trans (congrArg some (by kernel_rfl))
  t0 := Tryz.underlying0
  a0 := Tryz.isAgg0
  z0 := Tryz.sizeOf0
  v0 := Tryz.zeroValue0
  t2 := Tryz.underlying2
  a2 := Tryz.isAgg2
  z2 := Tryz.sizeOf2
  v2 := Tryz.zeroValue2
  t3 := Tryz.underlying3
  a3 := Tryz.isAgg3
  z3 := Tryz.sizeOf3
  v3 := Tryz.zeroValue3
  t4 := Tryz.underlying4
  a4 := Tryz.isAgg4
  z4 := Tryz.sizeOf4
  v4 := Tryz.zeroValue4
  t5 := Tryz.underlying5
  a5 := Tryz.isAgg5
  z5 := Tryz.sizeOf5
  v5 := Tryz.zeroValue5
  t9 := Tryz.underlying9
  a9 := Tryz.isAgg9
  z9 := Tryz.sizeOf9
  v9 := Tryz.zeroValue9
  t20 := Tryz.underlying20
  a20 := Tryz.isAgg20
  z20 := Tryz.sizeOf20
  v20 := Tryz.zeroValue20
  t37 := Tryz.underlying81
  a37 := Tryz.isAgg81
  z37 := Tryz.sizeOf81
  v37 := Tryz.zeroValue81
  t46 := Tryz.underlying64
  a46 := Tryz.isAgg64
  z46 := Tryz.sizeOf64
  v46 := Tryz.zeroValue64
  t51 := Tryz.underlying158
  a51 := Tryz.isAgg158
  z51 := Tryz.sizeOf158
  v51 := Tryz.zeroValue158
  t53 := Tryz.underlying22
  a53 := Tryz.isAgg22
  z53 := Tryz.sizeOf22
  v53 := Tryz.zeroValue22
  t171 := Tryz.underlying98
  a171 := Tryz.isAgg98
  z171 := Tryz.sizeOf98
  v171 := Tryz.zeroValue98
  t173 := Tryz.underlying101
  a173 := Tryz.isAgg101
  z173 := Tryz.sizeOf101
  v173 := Tryz.zeroValue101
  t212 := Tryz.underlying157
  a212 := Tryz.isAgg157
  z212 := Tryz.sizeOf157
  v212 := Tryz.zeroValue157
  t213 := Tryz.underlying159
  a213 := Tryz.isAgg159
  z213 := Tryz.sizeOf159
  t232 := Tryz.underlying190
  a232 := Tryz.isAgg190
  z232 := Tryz.sizeOf190
  v232 := Tryz.zeroValue190
  t233 := Tryz.underlying191
  a233 := Tryz.isAgg191
  z233 := Tryz.sizeOf191
  v233 := Tryz.zeroValue191
  g17 := by kernel_rfl
  g18 := by kernel_rfl
  g19 := by kernel_rfl
  i0 := by kernel_rfl
  i2 := by kernel_rfl
  i3 := by kernel_rfl
  i4 := by kernel_rfl
  i5 := by kernel_rfl
  i9 := by kernel_rfl
  i20 := by kernel_rfl
  i37 := by kernel_rfl
  i46 := by kernel_rfl
  i51 := by kernel_rfl
  i53 := by kernel_rfl
  i171 := by kernel_rfl
  i173 := by kernel_rfl
  i212 := by kernel_rfl
  i232 := by kernel_rfl
  i233 := by kernel_rfl
  m17 := by kernel_rfl
  m18 := by kernel_rfl
  m19 := by kernel_rfl }
open Go.RowKit Go.Sort Go.Lib in
/-- internal/strconv.Itoa: "Itoa is equivalent to FormatInt(int64(i), 10).": i's decimal numeral, for every int. (LAID: no walk: one application.) -/
theorem Tryz.internal_strconv_Itoa (n : Int) (h0 : -9223372036854775808 ≤ n) (h1 : n ≤ 9223372036854775807) (w : World) (htab : Lib.TabIs Tryz.prog w "internal/strconv.uint64pow10" .u64 Lib.pow10Tab) :
    Calls Tryz.prog 128 #[.int .i64 n] w fun e w' => e = .returned (.string ⟨(Lib.itoa n).toArray⟩) ∧ ∃ k os, w' = grow (w.drewN k) os := Any.internal_strconv_Itoa Tryz.laysM243 n h0 h1 w htab
def Tryz.lays243_ren : Go.Shelf.Ren := ⟨fun | 243 => 128 | 246 => 131 | 283 => 42 | 284 => 43 | 285 => 44 | 286 => 45 | 129 => 92 | 317 => 91 | 318 => 93 | 319 => 94 | 320 => 95 | 337 => 122 | 338 => 123 | n => n, fun | 3 => 3 | 9 => 9 | 2 => 2 | 4 => 4 | 171 => 98 | 0 => 0 | 53 => 22 | 37 => 81 | 5 => 5 | 173 => 101 | 212 => 157 | 51 => 158 | 20 => 20 | 213 => 159 | 46 => 64 | 232 => 190 | 233 => 191 | n => n, fun | 17 => 0 | 18 => 4 | 19 => 5 | n => n⟩
theorem Tryz.lays243 : Go.Proofs.Lays.n243 Tryz.prog Tryz.lays243_ren := {
  mixed := by kernel_rfl
  f129 := Tryz.func92.trans (congrArg some (by kernel_rfl))
  f243 := Tryz.func128.trans (congrArg some (by kernel_rfl))
  f246 := Tryz.func131.trans (congrArg some (by kernel_rfl))
  f283 := Tryz.func42.trans (congrArg some (by kernel_rfl))
  f284 := Tryz.func43.trans (congrArg some (by kernel_rfl))
  f285 := Tryz.func44.trans (congrArg some (by kernel_rfl))
  f286 := Tryz.func45.trans (congrArg some (by kernel_rfl))
  f317 := Tryz.func91.trans (congrArg some (by kernel_rfl))
  f318 := Tryz.func93.trans (congrArg some (by kernel_rfl))
  f319 := Tryz.func94.trans (congrArg some (by kernel_rfl))
  f320 := Tryz.func95.trans (congrArg some (by kernel_rfl))
  f337 := Tryz.func122.trans (congrArg some (by kernel_rfl))
  f338 := Tryz.func123.trans (congrArg some (by kernel_rfl))
  t0 := Tryz.underlying0
  a0 := Tryz.isAgg0
  z0 := Tryz.sizeOf0
  v0 := Tryz.zeroValue0
  t2 := Tryz.underlying2
  a2 := Tryz.isAgg2
  z2 := Tryz.sizeOf2
  v2 := Tryz.zeroValue2
  t3 := Tryz.underlying3
  a3 := Tryz.isAgg3
  z3 := Tryz.sizeOf3
  v3 := Tryz.zeroValue3
  t4 := Tryz.underlying4
  a4 := Tryz.isAgg4
  z4 := Tryz.sizeOf4
  v4 := Tryz.zeroValue4
  t5 := Tryz.underlying5
  a5 := Tryz.isAgg5
  z5 := Tryz.sizeOf5
  v5 := Tryz.zeroValue5
  t9 := Tryz.underlying9
  a9 := Tryz.isAgg9
  z9 := Tryz.sizeOf9
  v9 := Tryz.zeroValue9
  t20 := Tryz.underlying20
  a20 := Tryz.isAgg20
  z20 := Tryz.sizeOf20
  v20 := Tryz.zeroValue20
  t37 := Tryz.underlying81
  a37 := Tryz.isAgg81
  z37 := Tryz.sizeOf81
  v37 := Tryz.zeroValue81
  t46 := Tryz.underlying64
  a46 := Tryz.isAgg64
  z46 := Tryz.sizeOf64
  v46 := Tryz.zeroValue64
  t51 := Tryz.underlying158
  a51 := Tryz.isAgg158
  z51 := Tryz.sizeOf158
  v51 := Tryz.zeroValue158
  t53 := Tryz.underlying22
  a53 := Tryz.isAgg22
  z53 := Tryz.sizeOf22
  v53 := Tryz.zeroValue22
  t171 := Tryz.underlying98
  a171 := Tryz.isAgg98
  z171 := Tryz.sizeOf98
  v171 := Tryz.zeroValue98
  t173 := Tryz.underlying101
  a173 := Tryz.isAgg101
  z173 := Tryz.sizeOf101
  v173 := Tryz.zeroValue101
  t212 := Tryz.underlying157
  a212 := Tryz.isAgg157
  z212 := Tryz.sizeOf157
  v212 := Tryz.zeroValue157
  t213 := Tryz.underlying159
  a213 := Tryz.isAgg159
  z213 := Tryz.sizeOf159
  t232 := Tryz.underlying190
  a232 := Tryz.isAgg190
  z232 := Tryz.sizeOf190
  v232 := Tryz.zeroValue190
  t233 := Tryz.underlying191
  a233 := Tryz.isAgg191
  z233 := Tryz.sizeOf191
  v233 := Tryz.zeroValue191
  g17 := by kernel_rfl
  g18 := by kernel_rfl
  g19 := by kernel_rfl }
open Go.RowKit Go.Sort Go.Lib in
/-- THE ROAD WITHOUT THE TABLE: 0 <= i < 100. (LAID: no walk: one application.) -/
theorem Tryz.internal_strconv_Itoa_small (i : Nat) (hi : i < 100) (w : World) :
    Calls Tryz.prog 128 #[.int .i64 i] w fun e w' => e = .returned (.string ⟨(Lib.decDigits i).toArray⟩) ∧ w' = w := Any.internal_strconv_Itoa_small Tryz.lays243 i hi w
def Tryz.laysM171_ren : Go.Shelf.Ren := ⟨fun | 171 => 115 | 243 => 128 | 246 => 131 | 283 => 42 | 284 => 43 | 285 => 44 | 286 => 45 | 129 => 92 | 317 => 91 | 318 => 93 | 319 => 94 | 320 => 95 | 337 => 122 | 338 => 123 | n => n, fun | 3 => 3 | 9 => 9 | 2 => 2 | 4 => 4 | 171 => 98 | 0 => 0 | 53 => 22 | 37 => 81 | 5 => 5 | 173 => 101 | 212 => 157 | 51 => 158 | 20 => 20 | 213 => 159 | 46 => 64 | 232 => 190 | 233 => 191 | n => n, fun | 17 => 0 | 18 => 4 | 19 => 5 | n => n⟩
theorem Tryz.laysM171 : Go.Proofs.LaysM.n171 Tryz.prog Tryz.laysM171_ren := {
  mixed := by kernel_rfl
  f129 := Tryz.func92.trans (congrArg some (by kernel_rfl))
  f171 := Tryz.func115.trans (congrArg some (by kernel_rfl))
  f243 := Tryz.func128.trans (congrArg some (by kernel_rfl))
  f246 := Tryz.func131.trans (congrArg some (by kernel_rfl))
  f283 := Tryz.func42.trans (congrArg some (by kernel_rfl))
  f284 := Tryz.func43.trans (congrArg some (by kernel_rfl))
  f285 := Tryz.func44.trans (congrArg some (by kernel_rfl))
  f286 := Tryz.func45.trans (congrArg some (by kernel_rfl))
  f317 := Tryz.func91.trans (congrArg some (by kernel_rfl))
  f318 := Tryz.func93.trans (congrArg some (by kernel_rfl))
  f319 := Tryz.func94.trans (congrArg some (by kernel_rfl))
  f320 := Tryz.func95.trans (congrArg some (by kernel_rfl))
  f337 := Tryz.func122.trans (congrArg some (by kernel_rfl))
  f338 := Tryz.func123.trans (congrArg some (by kernel_rfl))
  t0 := Tryz.underlying0
  a0 := Tryz.isAgg0
  z0 := Tryz.sizeOf0
  v0 := Tryz.zeroValue0
  t2 := Tryz.underlying2
  a2 := Tryz.isAgg2
  z2 := Tryz.sizeOf2
  v2 := Tryz.zeroValue2
  t3 := Tryz.underlying3
  a3 := Tryz.isAgg3
  z3 := Tryz.sizeOf3
  v3 := Tryz.zeroValue3
  t4 := Tryz.underlying4
  a4 := Tryz.isAgg4
  z4 := Tryz.sizeOf4
  v4 := Tryz.zeroValue4
  t5 := Tryz.underlying5
  a5 := Tryz.isAgg5
  z5 := Tryz.sizeOf5
  v5 := Tryz.zeroValue5
  t9 := Tryz.underlying9
  a9 := Tryz.isAgg9
  z9 := Tryz.sizeOf9
  v9 := Tryz.zeroValue9
  t20 := Tryz.underlying20
  a20 := Tryz.isAgg20
  z20 := Tryz.sizeOf20
  v20 := Tryz.zeroValue20
  t37 := Tryz.underlying81
  a37 := Tryz.isAgg81
  z37 := Tryz.sizeOf81
  v37 := Tryz.zeroValue81
  t46 := Tryz.underlying64
  a46 := Tryz.isAgg64
  z46 := Tryz.sizeOf64
  v46 := Tryz.zeroValue64
  t51 := Tryz.underlying158
  a51 := Tryz.isAgg158
  z51 := Tryz.sizeOf158
  v51 := Tryz.zeroValue158
  t53 := Tryz.underlying22
  a53 := Tryz.isAgg22
  z53 := Tryz.sizeOf22
  v53 := Tryz.zeroValue22
  t171 := Tryz.underlying98
  a171 := Tryz.isAgg98
  z171 := Tryz.sizeOf98
  v171 := Tryz.zeroValue98
  t173 := Tryz.underlying101
  a173 := Tryz.isAgg101
  z173 := Tryz.sizeOf101
  v173 := Tryz.zeroValue101
  t212 := Tryz.underlying157
  a212 := Tryz.isAgg157
  z212 := Tryz.sizeOf157
  v212 := Tryz.zeroValue157
  t213 := Tryz.underlying159
  a213 := Tryz.isAgg159
  z213 := Tryz.sizeOf159
  t232 := Tryz.underlying190
  a232 := Tryz.isAgg190
  z232 := Tryz.sizeOf190
  v232 := Tryz.zeroValue190
  t233 := Tryz.underlying191
  a233 := Tryz.isAgg191
  z233 := Tryz.sizeOf191
  v233 := Tryz.zeroValue191
  g17 := by kernel_rfl
  g18 := by kernel_rfl
  g19 := by kernel_rfl
  i0 := by kernel_rfl
  i2 := by kernel_rfl
  i3 := by kernel_rfl
  i4 := by kernel_rfl
  i5 := by kernel_rfl
  i9 := by kernel_rfl
  i20 := by kernel_rfl
  i37 := by kernel_rfl
  i46 := by kernel_rfl
  i51 := by kernel_rfl
  i53 := by kernel_rfl
  i171 := by kernel_rfl
  i173 := by kernel_rfl
  i212 := by kernel_rfl
  i232 := by kernel_rfl
  i233 := by kernel_rfl
  m17 := by kernel_rfl
  m18 := by kernel_rfl
  m19 := by kernel_rfl }
open Go.RowKit Go.Sort Go.Lib in
/-- strconv.Itoa: "Itoa is equivalent to FormatInt(int64(i), 10).": i's DECIMAL NUMERAL ('Lib.itoa': a '-' where i is negative, then the digits), FOR EVERY int. The world behind the call: the world before it, new blocks behind the heap (the library's 'var a [24]byte'), draws. (LAID: no walk: one application.) -/
theorem Tryz.strconv_Itoa (n : Int) (h0 : -9223372036854775808 ≤ n) (h1 : n ≤ 9223372036854775807) (w : World) (htab : Lib.TabIs Tryz.prog w "internal/strconv.uint64pow10" .u64 Lib.pow10Tab) :
    Calls Tryz.prog 115 #[.int .i64 n] w fun e w' => e = .returned (.string ⟨(Lib.itoa n).toArray⟩) ∧ ∃ k os, w' = grow (w.drewN k) os := Any.strconv_Itoa Tryz.laysM171 n h0 h1 w htab
def Tryz.lays171_ren : Go.Shelf.Ren := ⟨fun | 171 => 115 | 243 => 128 | 246 => 131 | 283 => 42 | 284 => 43 | 285 => 44 | 286 => 45 | 129 => 92 | 317 => 91 | 318 => 93 | 319 => 94 | 320 => 95 | 337 => 122 | 338 => 123 | n => n, fun | 3 => 3 | 9 => 9 | 2 => 2 | 4 => 4 | 171 => 98 | 0 => 0 | 53 => 22 | 37 => 81 | 5 => 5 | 173 => 101 | 212 => 157 | 51 => 158 | 20 => 20 | 213 => 159 | 46 => 64 | 232 => 190 | 233 => 191 | n => n, fun | 17 => 0 | 18 => 4 | 19 => 5 | n => n⟩
theorem Tryz.lays171 : Go.Proofs.Lays.n171 Tryz.prog Tryz.lays171_ren := {
  mixed := by kernel_rfl
  f129 := Tryz.func92.trans (congrArg some (by kernel_rfl))
  f171 := Tryz.func115.trans (congrArg some (by kernel_rfl))
  f243 := Tryz.func128.trans (congrArg some (by kernel_rfl))
  f246 := Tryz.func131.trans (congrArg some (by kernel_rfl))
  f283 := Tryz.func42.trans (congrArg some (by kernel_rfl))
  f284 := Tryz.func43.trans (congrArg some (by kernel_rfl))
  f285 := Tryz.func44.trans (congrArg some (by kernel_rfl))
  f286 := Tryz.func45.trans (congrArg some (by kernel_rfl))
  f317 := Tryz.func91.trans (congrArg some (by kernel_rfl))
  f318 := Tryz.func93.trans (congrArg some (by kernel_rfl))
  f319 := Tryz.func94.trans (congrArg some (by kernel_rfl))
  f320 := Tryz.func95.trans (congrArg some (by kernel_rfl))
  f337 := Tryz.func122.trans (congrArg some (by kernel_rfl))
  f338 := Tryz.func123.trans (congrArg some (by kernel_rfl))
  t0 := Tryz.underlying0
  a0 := Tryz.isAgg0
  z0 := Tryz.sizeOf0
  v0 := Tryz.zeroValue0
  t2 := Tryz.underlying2
  a2 := Tryz.isAgg2
  z2 := Tryz.sizeOf2
  v2 := Tryz.zeroValue2
  t3 := Tryz.underlying3
  a3 := Tryz.isAgg3
  z3 := Tryz.sizeOf3
  v3 := Tryz.zeroValue3
  t4 := Tryz.underlying4
  a4 := Tryz.isAgg4
  z4 := Tryz.sizeOf4
  v4 := Tryz.zeroValue4
  t5 := Tryz.underlying5
  a5 := Tryz.isAgg5
  z5 := Tryz.sizeOf5
  v5 := Tryz.zeroValue5
  t9 := Tryz.underlying9
  a9 := Tryz.isAgg9
  z9 := Tryz.sizeOf9
  v9 := Tryz.zeroValue9
  t20 := Tryz.underlying20
  a20 := Tryz.isAgg20
  z20 := Tryz.sizeOf20
  v20 := Tryz.zeroValue20
  t37 := Tryz.underlying81
  a37 := Tryz.isAgg81
  z37 := Tryz.sizeOf81
  v37 := Tryz.zeroValue81
  t46 := Tryz.underlying64
  a46 := Tryz.isAgg64
  z46 := Tryz.sizeOf64
  v46 := Tryz.zeroValue64
  t51 := Tryz.underlying158
  a51 := Tryz.isAgg158
  z51 := Tryz.sizeOf158
  v51 := Tryz.zeroValue158
  t53 := Tryz.underlying22
  a53 := Tryz.isAgg22
  z53 := Tryz.sizeOf22
  v53 := Tryz.zeroValue22
  t171 := Tryz.underlying98
  a171 := Tryz.isAgg98
  z171 := Tryz.sizeOf98
  v171 := Tryz.zeroValue98
  t173 := Tryz.underlying101
  a173 := Tryz.isAgg101
  z173 := Tryz.sizeOf101
  v173 := Tryz.zeroValue101
  t212 := Tryz.underlying157
  a212 := Tryz.isAgg157
  z212 := Tryz.sizeOf157
  v212 := Tryz.zeroValue157
  t213 := Tryz.underlying159
  a213 := Tryz.isAgg159
  z213 := Tryz.sizeOf159
  t232 := Tryz.underlying190
  a232 := Tryz.isAgg190
  z232 := Tryz.sizeOf190
  v232 := Tryz.zeroValue190
  t233 := Tryz.underlying191
  a233 := Tryz.isAgg191
  z233 := Tryz.sizeOf191
  v233 := Tryz.zeroValue191
  g17 := by kernel_rfl
  g18 := by kernel_rfl
  g19 := by kernel_rfl }
open Go.RowKit Go.Sort Go.Lib in
/-- THE ROAD WITHOUT THE TABLE: 0 <= i < 100: NO PREMISE ON THE WORLD, AND THE WORLD IS AS IT WAS: a row that keeps its argument in that range need list no table ('laid = []'). (LAID: no walk: one application.) -/
theorem Tryz.strconv_Itoa_small (i : Nat) (hi : i < 100) (w : World) :
    Calls Tryz.prog 115 #[.int .i64 i] w fun e w' => e = .returned (.string ⟨(Lib.decDigits i).toArray⟩) ∧ w' = w := Any.strconv_Itoa_small Tryz.lays171 i hi w
def Tryz.laysM316_ren : Go.Shelf.Ren := ⟨fun | 316 => 113 | n => n, fun | 9 => 9 | 3 => 3 | 4 => 4 | 37 => 81 | 0 => 0 | 127 => 103 | 5 => 5 | n => n, fun | n => n⟩
theorem Tryz.laysM316 : Go.Proofs.LaysM.n316 Tryz.prog Tryz.laysM316_ren := {
  mixed := by kernel_rfl
  f316 := Tryz.func113.trans (congrArg some (by kernel_rfl))
  t0 := Tryz.underlying0
  a0 := Tryz.isAgg0
  z0 := Tryz.sizeOf0
  v0 := Tryz.zeroValue0
  t3 := Tryz.underlying3
  a3 := Tryz.isAgg3
  z3 := Tryz.sizeOf3
  v3 := Tryz.zeroValue3
  t4 := Tryz.underlying4
  a4 := Tryz.isAgg4
  z4 := Tryz.sizeOf4
  v4 := Tryz.zeroValue4
  t9 := Tryz.underlying9
  a9 := Tryz.isAgg9
  z9 := Tryz.sizeOf9
  v9 := Tryz.zeroValue9
  t37 := Tryz.underlying81
  a37 := Tryz.isAgg81
  z37 := Tryz.sizeOf81
  v37 := Tryz.zeroValue81
  t127 := Tryz.underlying103
  a127 := Tryz.isAgg103
  z127 := Tryz.sizeOf103
  v127 := Tryz.zeroValue103
  t5 := Tryz.underlying5
  a5 := Tryz.isAgg5
  z5 := Tryz.sizeOf5
  v5 := Tryz.zeroValue5
  i0 := by kernel_rfl
  i3 := by kernel_rfl
  i4 := by kernel_rfl
  i5 := by kernel_rfl
  i9 := by kernel_rfl
  i37 := by kernel_rfl
  i127 := by kernel_rfl }
open Go.RowKit in
/-- internal/stringslite.Clone (what strings.Clone calls): "Clone returns a fresh copy of s.": THE SAME BYTES. Of what was there nothing has turned (a new row is laid, and frozen, where s is not empty). (LAID: no walk: one application.) -/
theorem Tryz.stringslite_Clone (s : ByteArray) (w : World) (hlim : s.size ≤ 281474976710656) :
    Calls Tryz.prog 113 #[.string s] w fun e w' => e = .returned (.string s) ∧ Below w.heap.size w w' := Any.stringslite_Clone Tryz.laysM316 s w hlim
def Tryz.lays321_ren : Go.Shelf.Ren := ⟨fun | 321 => 68 | n => n, fun | 5 => 5 | n => n, fun | n => n⟩
theorem Tryz.lays321 : Go.Proofs.Lays.n321 Tryz.prog Tryz.lays321_ren := {
  mixed := by kernel_rfl
  f321 := Tryz.func68.trans (congrArg some (by kernel_rfl))
  t5 := Tryz.underlying5
  a5 := Tryz.isAgg5
  z5 := Tryz.sizeOf5
  v5 := Tryz.zeroValue5 }
open Go.RowKit in
/-- internal/strconv.lower: 'c | ('x' - 'X')': the bit 32 set. The world is as it was. (LAID: no walk: one application.) -/
theorem Tryz.internal_strconv_lower (c : Int) (w : World) :
    Calls Tryz.prog 68 #[.int .u8 c] w fun e w' => e = .returned (.int .u8 (bits .or .u8 c 32)) ∧ w' = w := Any.internal_strconv_lower Tryz.lays321 c w
def Tryz.lays287_ren : Go.Shelf.Ren := ⟨fun | 287 => 38 | 321 => 68 | 322 => 69 | n => n, fun | 9 => 9 | 3 => 3 | 53 => 22 | 75 => 59 | 4 => 4 | 167 => 136 | 5 => 5 | 46 => 64 | 37 => 81 | 0 => 0 | 21 => 21 | 80 => 87 | n => n, fun | n => n⟩
theorem Tryz.lays287 : Go.Proofs.Lays.n287 Tryz.prog Tryz.lays287_ren := {
  mixed := by kernel_rfl
  f287 := Tryz.func38.trans (congrArg some (by kernel_rfl))
  f321 := Tryz.func68.trans (congrArg some (by kernel_rfl))
  f322 := Tryz.func69.trans (congrArg some (by kernel_rfl))
  t0 := Tryz.underlying0
  a0 := Tryz.isAgg0
  z0 := Tryz.sizeOf0
  v0 := Tryz.zeroValue0
  t3 := Tryz.underlying3
  a3 := Tryz.isAgg3
  z3 := Tryz.sizeOf3
  v3 := Tryz.zeroValue3
  t4 := Tryz.underlying4
  a4 := Tryz.isAgg4
  z4 := Tryz.sizeOf4
  v4 := Tryz.zeroValue4
  t5 := Tryz.underlying5
  a5 := Tryz.isAgg5
  z5 := Tryz.sizeOf5
  v5 := Tryz.zeroValue5
  t9 := Tryz.underlying9
  a9 := Tryz.isAgg9
  z9 := Tryz.sizeOf9
  v9 := Tryz.zeroValue9
  t21 := Tryz.underlying21
  a21 := Tryz.isAgg21
  z21 := Tryz.sizeOf21
  v21 := Tryz.zeroValue21
  t37 := Tryz.underlying81
  a37 := Tryz.isAgg81
  z37 := Tryz.sizeOf81
  v37 := Tryz.zeroValue81
  t46 := Tryz.underlying64
  a46 := Tryz.isAgg64
  z46 := Tryz.sizeOf64
  v46 := Tryz.zeroValue64
  t53 := Tryz.underlying22
  a53 := Tryz.isAgg22
  z53 := Tryz.sizeOf22
  v53 := Tryz.zeroValue22
  t75 := Tryz.underlying59
  a75 := Tryz.isAgg59
  z75 := Tryz.sizeOf59
  v75 := Tryz.zeroValue59
  t167 := Tryz.underlying136
  a167 := Tryz.isAgg136
  z167 := Tryz.sizeOf136
  v167 := Tryz.zeroValue136 }
open Go.RowKit in
/-- internal/strconv.ParseUint("", 10, 0): (0, ErrSyntax). The world is as it was. (LAID: no walk: one application.) -/
theorem Tryz.internal_strconv_ParseUint_10_empty (w : World) :
    Calls Tryz.prog 38 #[.string ⟨#[]⟩, .int .i64 10, .int .i64 0] w fun e w' => e = .returned (Lib.uintTuple 136 .syntax) ∧ w' = w := Any.internal_strconv_ParseUint_10_empty Tryz.lays287 w
open Go.RowKit in
/-- internal/strconv.ParseUint("", base, bitSize): (0, ErrSyntax): the first test of the text. The world is as it was. (LAID: no walk: one application.) -/
theorem Tryz.internal_strconv_ParseUint_empty (base bits : Int) (w : World) :
    Calls Tryz.prog 38 #[.string ⟨#[]⟩, .int .i64 base, .int .i64 bits] w fun e w' => e = .returned (.tuple #[.int .u64 0, .iface 136 (.int .i64 2)]) ∧ w' = w := Any.internal_strconv_ParseUint_empty Tryz.lays287 base bits w
def Tryz.lays217_ren : Go.Shelf.Ren := ⟨fun | 217 => 106 | 266 => 125 | n => n, fun | 9 => 9 | 5 => 5 | 3 => 3 | n => n, fun | n => n⟩
theorem Tryz.lays217 : Go.Proofs.Lays.n217 Tryz.prog Tryz.lays217_ren := {
  mixed := by kernel_rfl
  f217 := Tryz.func106.trans (congrArg some (by kernel_rfl))
  f266 := Tryz.func125.trans (congrArg some (by kernel_rfl))
  t3 := Tryz.underlying3
  a3 := Tryz.isAgg3
  z3 := Tryz.sizeOf3
  v3 := Tryz.zeroValue3
  t5 := Tryz.underlying5
  a5 := Tryz.isAgg5
  z5 := Tryz.sizeOf5
  v5 := Tryz.zeroValue5
  t9 := Tryz.underlying9
  a9 := Tryz.isAgg9
  z9 := Tryz.sizeOf9
  v9 := Tryz.zeroValue9 }
open Go.RowKit Go.Lib in
/-- internal/stringslite.IndexByte (what strings.IndexByte calls): IT RETURNS 'Lib.indexByte s c'; the world is as it was. (LAID: no walk: one application.) -/
theorem Tryz.stringslite_IndexByte (s : ByteArray) (c : Int) (w : World) :
    Calls Tryz.prog 106 #[.string s, .int .u8 c] w fun e w' => e = .returned (.int .i64 (Lib.indexByte s.data.toList c.toNat.toUInt8)) ∧ w' = w := Any.stringslite_IndexByte Tryz.lays217 s c w
def Tryz.lays224_ren : Go.Shelf.Ren := ⟨fun | 224 => 108 | n => n, fun | 3 => 3 | n => n, fun | n => n⟩
theorem Tryz.lays224 : Go.Proofs.Lays.n224 Tryz.prog Tryz.lays224_ren := {
  mixed := by kernel_rfl
  f224 := Tryz.func108.trans (congrArg some (by kernel_rfl))
  t3 := Tryz.underlying3
  a3 := Tryz.isAgg3
  z3 := Tryz.sizeOf3
  v3 := Tryz.zeroValue3 }
open Go.RowKit Go.Lib in
/-- internal/bytealg.Cutover: "Cutover reports the number of failures of IndexByte we should tolerate before switching over to Index. n is the number of bytes processed so far.": on amd64: (n + 16) / 8. (LAID: no walk: one application.) -/
theorem Tryz.bytealg_Cutover (n : Int) (h0 : 0 ≤ n) (h1 : n < 4611686018427387904) (w : World) :
    Calls Tryz.prog 108 #[.int .i64 n] w fun e w' => e = .returned (.int .i64 ((n + 16) / 8)) ∧ w' = w := Any.bytealg_Cutover Tryz.lays224 n h0 h1 w
def Tryz.lays314_ren : Go.Shelf.Ren := ⟨fun | 314 => 126 | n => n, fun | 9 => 9 | 51 => 158 | 3 => 3 | 4 => 4 | 5 => 5 | 46 => 64 | n => n, fun | n => n⟩
theorem Tryz.lays314 : Go.Proofs.Lays.n314 Tryz.prog Tryz.lays314_ren := {
  mixed := by kernel_rfl
  f314 := Tryz.func126.trans (congrArg some (by kernel_rfl))
  t3 := Tryz.underlying3
  a3 := Tryz.isAgg3
  z3 := Tryz.sizeOf3
  v3 := Tryz.zeroValue3
  t4 := Tryz.underlying4
  a4 := Tryz.isAgg4
  z4 := Tryz.sizeOf4
  v4 := Tryz.zeroValue4
  t5 := Tryz.underlying5
  a5 := Tryz.isAgg5
  z5 := Tryz.sizeOf5
  v5 := Tryz.zeroValue5
  t9 := Tryz.underlying9
  a9 := Tryz.isAgg9
  z9 := Tryz.sizeOf9
  v9 := Tryz.zeroValue9
  t46 := Tryz.underlying64
  a46 := Tryz.isAgg64
  z46 := Tryz.sizeOf64
  v46 := Tryz.zeroValue64
  t51 := Tryz.underlying158
  a51 := Tryz.isAgg158
  z51 := Tryz.sizeOf158
  v51 := Tryz.zeroValue158 }
open Go.RowKit Go.Lib in
/-- hashStr: "returns the hash and the appropriate multiplicative factor for use in Rabin-Karp algorithm": THE HASH OF ALL OF sep, AND 16777619 ^ len(sep), both in uint32. (LAID: no walk: one application.) -/
theorem Tryz.bytealg_hashStr (sep : ByteArray) (hs : sep.size < 4294967281) (w : World) :
    Calls Tryz.prog 126 #[.string sep] w fun e w' => e = .returned (.tuple #[.int .u32 (RK.H sep.data.toList % 4294967296), .int .u32 (16777619 ^ sep.size % 4294967296)]) ∧ w' = w := Any.bytealg_hashStr Tryz.lays314 sep hs w
def Tryz.lays267_ren : Go.Shelf.Ren := ⟨fun | 267 => 109 | 314 => 126 | n => n, fun | 9 => 9 | 3 => 3 | 146 => 182 | 51 => 158 | 4 => 4 | 5 => 5 | 46 => 64 | n => n, fun | n => n⟩
theorem Tryz.lays267 : Go.Proofs.Lays.n267 Tryz.prog Tryz.lays267_ren := {
  mixed := by kernel_rfl
  f267 := Tryz.func109.trans (congrArg some (by kernel_rfl))
  f314 := Tryz.func126.trans (congrArg some (by kernel_rfl))
  t3 := Tryz.underlying3
  a3 := Tryz.isAgg3
  z3 := Tryz.sizeOf3
  v3 := Tryz.zeroValue3
  t4 := Tryz.underlying4
  a4 := Tryz.isAgg4
  z4 := Tryz.sizeOf4
  v4 := Tryz.zeroValue4
  t5 := Tryz.underlying5
  a5 := Tryz.isAgg5
  z5 := Tryz.sizeOf5
  v5 := Tryz.zeroValue5
  t9 := Tryz.underlying9
  a9 := Tryz.isAgg9
  z9 := Tryz.sizeOf9
  v9 := Tryz.zeroValue9
  t46 := Tryz.underlying64
  a46 := Tryz.isAgg64
  z46 := Tryz.sizeOf64
  v46 := Tryz.zeroValue64
  t51 := Tryz.underlying158
  a51 := Tryz.isAgg158
  z51 := Tryz.sizeOf158
  v51 := Tryz.zeroValue158
  t146 := Tryz.underlying182
  a146 := Tryz.isAgg182
  z146 := Tryz.sizeOf182
  v146 := Tryz.zeroValue182 }
open Go.RowKit Go.Lib in
theorem Tryz.bytealg_IndexRabinKarp (s sep : ByteArray) (h1 : 1 ≤ sep.size) (h2 : sep.size ≤ s.size) (hs : s.size < 4294967281) (w : World) :
    Calls Tryz.prog 109 #[.string s, .string sep] w fun e w' => e = .returned (.int .i64 (Lib.index s.data.toList sep.data.toList)) ∧ w' = w := Any.bytealg_IndexRabinKarp Tryz.lays267 s sep h1 h2 hs w
def Tryz.lays219_ren : Go.Shelf.Ren := ⟨fun | 219 => 65 | 217 => 106 | 225 => 107 | 224 => 108 | 267 => 109 | 266 => 125 | 314 => 126 | n => n, fun | 9 => 9 | 3 => 3 | 4 => 4 | 5 => 5 | 46 => 64 | 146 => 182 | 51 => 158 | n => n, fun | 1 => 1 | n => n⟩
theorem Tryz.lays219 : Go.Proofs.Lays.n219 Tryz.prog Tryz.lays219_ren := {
  mixed := by kernel_rfl
  f217 := Tryz.func106.trans (congrArg some (by kernel_rfl))
  f219 := Tryz.func65.trans (congrArg some (by kernel_rfl))
  f224 := Tryz.func108.trans (congrArg some (by kernel_rfl))
  f225 := Tryz.func107.trans (congrArg some (by kernel_rfl))
  f266 := Tryz.func125.trans (congrArg some (by kernel_rfl))
  f267 := Tryz.func109.trans (congrArg some (by kernel_rfl))
  f314 := Tryz.func126.trans (congrArg some (by kernel_rfl))
  t3 := Tryz.underlying3
  a3 := Tryz.isAgg3
  z3 := Tryz.sizeOf3
  v3 := Tryz.zeroValue3
  t4 := Tryz.underlying4
  a4 := Tryz.isAgg4
  z4 := Tryz.sizeOf4
  v4 := Tryz.zeroValue4
  t5 := Tryz.underlying5
  a5 := Tryz.isAgg5
  z5 := Tryz.sizeOf5
  v5 := Tryz.zeroValue5
  t9 := Tryz.underlying9
  a9 := Tryz.isAgg9
  z9 := Tryz.sizeOf9
  v9 := Tryz.zeroValue9
  t46 := Tryz.underlying64
  a46 := Tryz.isAgg64
  z46 := Tryz.sizeOf64
  v46 := Tryz.zeroValue64
  t51 := Tryz.underlying158
  a51 := Tryz.isAgg158
  z51 := Tryz.sizeOf158
  v51 := Tryz.zeroValue158
  t146 := Tryz.underlying182
  a146 := Tryz.isAgg182
  z146 := Tryz.sizeOf182
  v146 := Tryz.zeroValue182
  g1 := by kernel_rfl }
open Go.RowKit Go.Lib in
/-- internal/stringslite.Index (what strings.Index calls) AT A substr OF ONE BYTE c: IT RETURNS 'Lib.indexByte s c'; the world is as it was. (LAID: no walk: one application.) -/
theorem Tryz.stringslite_Index_one (s : ByteArray) (c : UInt8) (w : World) :
    Calls Tryz.prog 65 #[.string s, .string ⟨#[c]⟩] w fun e w' => e = .returned (.int .i64 (Lib.indexByte s.data.toList c)) ∧ w' = w := Any.stringslite_Index_one Tryz.lays219 s c w
open Go.RowKit Go.Lib in
/-- internal/stringslite.Index (what strings.Index calls) AT A substr OF WHATEVER LENGTH: IT RETURNS 'Lib.index s substr'; the world is as it was. 'm': what internal/bytealg.MaxLen holds: whatever. (LAID: no walk: one application.) -/
theorem Tryz.stringslite_Index (s sub : ByteArray) (m : Int) (w : World) (hs : s.size < 4294967281) (hm : w.cell? ⟨1, 0, none⟩ = some (.int .i64 m)) :
    Calls Tryz.prog 65 #[.string s, .string sub] w fun e w' => e = .returned (.int .i64 (Lib.index s.data.toList sub.data.toList)) ∧ w' = w := Any.stringslite_Index Tryz.lays219 s sub m w hs hm
def Tryz.lays143_ren : Go.Shelf.Ren := ⟨fun | 143 => 36 | 219 => 65 | 217 => 106 | 225 => 107 | 224 => 108 | 267 => 109 | 266 => 125 | 314 => 126 | n => n, fun | 9 => 9 | 3 => 3 | 4 => 4 | 5 => 5 | 46 => 64 | 146 => 182 | 51 => 158 | n => n, fun | 1 => 1 | n => n⟩
theorem Tryz.lays143 : Go.Proofs.Lays.n143 Tryz.prog Tryz.lays143_ren := {
  mixed := by kernel_rfl
  f143 := Tryz.func36.trans (congrArg some (by kernel_rfl))
  f217 := Tryz.func106.trans (congrArg some (by kernel_rfl))
  f219 := Tryz.func65.trans (congrArg some (by kernel_rfl))
  f224 := Tryz.func108.trans (congrArg some (by kernel_rfl))
  f225 := Tryz.func107.trans (congrArg some (by kernel_rfl))
  f266 := Tryz.func125.trans (congrArg some (by kernel_rfl))
  f267 := Tryz.func109.trans (congrArg some (by kernel_rfl))
  f314 := Tryz.func126.trans (congrArg some (by kernel_rfl))
  t3 := Tryz.underlying3
  a3 := Tryz.isAgg3
  z3 := Tryz.sizeOf3
  v3 := Tryz.zeroValue3
  t4 := Tryz.underlying4
  a4 := Tryz.isAgg4
  z4 := Tryz.sizeOf4
  v4 := Tryz.zeroValue4
  t5 := Tryz.underlying5
  a5 := Tryz.isAgg5
  z5 := Tryz.sizeOf5
  v5 := Tryz.zeroValue5
  t9 := Tryz.underlying9
  a9 := Tryz.isAgg9
  z9 := Tryz.sizeOf9
  v9 := Tryz.zeroValue9
  t46 := Tryz.underlying64
  a46 := Tryz.isAgg64
  z46 := Tryz.sizeOf64
  v46 := Tryz.zeroValue64
  t51 := Tryz.underlying158
  a51 := Tryz.isAgg158
  z51 := Tryz.sizeOf158
  v51 := Tryz.zeroValue158
  t146 := Tryz.underlying182
  a146 := Tryz.isAgg182
  z146 := Tryz.sizeOf182
  v146 := Tryz.zeroValue182
  g1 := by kernel_rfl }
open Go.RowKit Go.Lib in
/-- strings.Index: "Index returns the index of the first instance of substr in s, or -1 if substr is not present in s.": AT A substr OF ONE BYTE c: IT RETURNS 'Lib.indexByte s c'; the world is as it was. (LAID: no walk: one application.) -/
theorem Tryz.strings_Index_one (s : ByteArray) (c : UInt8) (w : World) :
    Calls Tryz.prog 36 #[.string s, .string ⟨#[c]⟩] w fun e w' => e = .returned (.int .i64 (Lib.indexByte s.data.toList c)) ∧ w' = w := Any.strings_Index_one Tryz.lays143 s c w
open Go.RowKit Go.Lib in
/-- strings.Index: "Index returns the index of the first instance of substr in s, or -1 if substr is not present in s.": IT RETURNS 'Lib.index s substr'; the world is as it was. (LAID: no walk: one application.) -/
theorem Tryz.strings_Index (s sub : ByteArray) (m : Int) (w : World) (hs : s.size < 4294967281) (hm : w.cell? ⟨1, 0, none⟩ = some (.int .i64 m)) :
    Calls Tryz.prog 36 #[.string s, .string sub] w fun e w' => e = .returned (.int .i64 (Lib.index s.data.toList sub.data.toList)) ∧ w' = w := Any.strings_Index Tryz.lays143 s sub m w hs hm
def Tryz.lays144_ren : Go.Shelf.Ren := ⟨fun | 144 => 19 | 143 => 36 | 219 => 65 | 217 => 106 | 225 => 107 | 224 => 108 | 267 => 109 | 266 => 125 | 314 => 126 | n => n, fun | 9 => 9 | 4 => 4 | 3 => 3 | 5 => 5 | 46 => 64 | 146 => 182 | 51 => 158 | n => n, fun | 1 => 1 | n => n⟩
theorem Tryz.lays144 : Go.Proofs.Lays.n144 Tryz.prog Tryz.lays144_ren := {
  mixed := by kernel_rfl
  f143 := Tryz.func36.trans (congrArg some (by kernel_rfl))
  f144 := Tryz.func19.trans (congrArg some (by kernel_rfl))
  f217 := Tryz.func106.trans (congrArg some (by kernel_rfl))
  f219 := Tryz.func65.trans (congrArg some (by kernel_rfl))
  f224 := Tryz.func108.trans (congrArg some (by kernel_rfl))
  f225 := Tryz.func107.trans (congrArg some (by kernel_rfl))
  f266 := Tryz.func125.trans (congrArg some (by kernel_rfl))
  f267 := Tryz.func109.trans (congrArg some (by kernel_rfl))
  f314 := Tryz.func126.trans (congrArg some (by kernel_rfl))
  t3 := Tryz.underlying3
  a3 := Tryz.isAgg3
  z3 := Tryz.sizeOf3
  v3 := Tryz.zeroValue3
  t4 := Tryz.underlying4
  a4 := Tryz.isAgg4
  z4 := Tryz.sizeOf4
  v4 := Tryz.zeroValue4
  t5 := Tryz.underlying5
  a5 := Tryz.isAgg5
  z5 := Tryz.sizeOf5
  v5 := Tryz.zeroValue5
  t9 := Tryz.underlying9
  a9 := Tryz.isAgg9
  z9 := Tryz.sizeOf9
  v9 := Tryz.zeroValue9
  t46 := Tryz.underlying64
  a46 := Tryz.isAgg64
  z46 := Tryz.sizeOf64
  v46 := Tryz.zeroValue64
  t51 := Tryz.underlying158
  a51 := Tryz.isAgg158
  z51 := Tryz.sizeOf158
  v51 := Tryz.zeroValue158
  t146 := Tryz.underlying182
  a146 := Tryz.isAgg182
  z146 := Tryz.sizeOf182
  v146 := Tryz.zeroValue182
  g1 := by kernel_rfl }
open Go.RowKit Go.Lib in
/-- strings.Contains: "Contains reports whether substr is within s.": AT A substr OF ONE BYTE c: IT RETURNS 'decide (0 ≤ Lib.indexByte s c)'; the world is as it was. (LAID: no walk: one application.) -/
theorem Tryz.strings_Contains_one (s : ByteArray) (c : UInt8) (w : World) :
    Calls Tryz.prog 19 #[.string s, .string ⟨#[c]⟩] w fun e w' => e = .returned (.bool (decide (0 ≤ Lib.indexByte s.data.toList c))) ∧ w' = w := Any.strings_Contains_one Tryz.lays144 s c w
open Go.RowKit Go.Lib in
/-- strings.Contains: "Contains reports whether substr is within s.": IT RETURNS 'Lib.contains s substr'; the world is as it was. (LAID: no walk: one application.) -/
theorem Tryz.strings_Contains (s sub : ByteArray) (m : Int) (w : World) (hs : s.size < 4294967281) (hm : w.cell? ⟨1, 0, none⟩ = some (.int .i64 m)) :
    Calls Tryz.prog 19 #[.string s, .string sub] w fun e w' => e = .returned (.bool (Lib.contains s.data.toList sub.data.toList)) ∧ w' = w := Any.strings_Contains Tryz.lays144 s sub m w hs hm
def Tryz.lays138_ren : Go.Shelf.Ren := ⟨fun | 138 => 67 | 195 => 110 | 218 => 112 | 143 => 36 | 219 => 65 | 217 => 106 | 225 => 107 | 224 => 108 | 267 => 109 | 266 => 125 | 314 => 126 | n => n, fun | 9 => 9 | 3 => 3 | 4 => 4 | 5 => 5 | 0 => 0 | 46 => 64 | 146 => 182 | 51 => 158 | n => n, fun | 1 => 1 | n => n⟩
theorem Tryz.lays138 : Go.Proofs.Lays.n138 Tryz.prog Tryz.lays138_ren := {
  mixed := by kernel_rfl
  f138 := Tryz.func67.trans (congrArg some (by kernel_rfl))
  f143 := Tryz.func36.trans (congrArg some (by kernel_rfl))
  f195 := Tryz.func110.trans (congrArg some (by kernel_rfl))
  f217 := Tryz.func106.trans (congrArg some (by kernel_rfl))
  f218 := Tryz.func112.trans (congrArg some (by kernel_rfl))
  f219 := Tryz.func65.trans (congrArg some (by kernel_rfl))
  f224 := Tryz.func108.trans (congrArg some (by kernel_rfl))
  f225 := Tryz.func107.trans (congrArg some (by kernel_rfl))
  f266 := Tryz.func125.trans (congrArg some (by kernel_rfl))
  f267 := Tryz.func109.trans (congrArg some (by kernel_rfl))
  f314 := Tryz.func126.trans (congrArg some (by kernel_rfl))
  t0 := Tryz.underlying0
  a0 := Tryz.isAgg0
  z0 := Tryz.sizeOf0
  v0 := Tryz.zeroValue0
  t3 := Tryz.underlying3
  a3 := Tryz.isAgg3
  z3 := Tryz.sizeOf3
  v3 := Tryz.zeroValue3
  t4 := Tryz.underlying4
  a4 := Tryz.isAgg4
  z4 := Tryz.sizeOf4
  v4 := Tryz.zeroValue4
  t5 := Tryz.underlying5
  a5 := Tryz.isAgg5
  z5 := Tryz.sizeOf5
  v5 := Tryz.zeroValue5
  t9 := Tryz.underlying9
  a9 := Tryz.isAgg9
  z9 := Tryz.sizeOf9
  v9 := Tryz.zeroValue9
  t46 := Tryz.underlying64
  a46 := Tryz.isAgg64
  z46 := Tryz.sizeOf64
  v46 := Tryz.zeroValue64
  t51 := Tryz.underlying158
  a51 := Tryz.isAgg158
  z51 := Tryz.sizeOf158
  v51 := Tryz.zeroValue158
  t146 := Tryz.underlying182
  a146 := Tryz.isAgg182
  z146 := Tryz.sizeOf182
  v146 := Tryz.zeroValue182
  g1 := by kernel_rfl }
open Go.RowKit Go.Lib in
/-- strings.Count AT A substr OF ONE BYTE ('hp'): "Count counts the number of non-overlapping instances of substr in s.": IT RETURNS 'Lib.countByte s (that byte)'; the world is as it was. ✋ NO CONTRACT HERE YET at an empty substr (utf8.RuneCountInString) or at a longer one (a loop over strings.Index). (LAID: no walk: one application.) -/
theorem Tryz.strings_Count_one (s : ByteArray) (c : UInt8) (w : World) :
    Calls Tryz.prog 67 #[.string s, .string ⟨#[c]⟩] w fun e w' => e = .returned (.int .i64 (Lib.countByte s.data.toList c)) ∧ w' = w := Any.strings_Count_one Tryz.lays138 s c w
open Go.RowKit Go.Lib in
/-- strings.Count AT A substr OF TWO BYTES OR MORE: "Count counts the number of non-overlapping instances of substr in s.": IT RETURNS 'Lib.count s substr'; the world is as it was. (LAID: no walk: one application.) -/
theorem Tryz.strings_Count (s sub : ByteArray) (m : Int) (w : World) (hs : s.size < 4294967281) (hm : w.cell? ⟨1, 0, none⟩ = some (.int .i64 m)) (h2 : 2 ≤ sub.size) :
    Calls Tryz.prog 67 #[.string s, .string sub] w fun e w' => e = .returned (.int .i64 (Lib.countB s sub)) ∧ w' = w := Any.strings_Count Tryz.lays138 s sub m w hs hm h2
def Tryz.laysM219_ren : Go.Shelf.Ren := ⟨fun | 219 => 65 | 217 => 106 | 225 => 107 | 224 => 108 | 267 => 109 | 266 => 125 | 314 => 126 | n => n, fun | 9 => 9 | 3 => 3 | 4 => 4 | 5 => 5 | 46 => 64 | 146 => 182 | 51 => 158 | n => n, fun | 1 => 1 | n => n⟩
theorem Tryz.laysM219 : Go.Proofs.LaysM.n219 Tryz.prog Tryz.laysM219_ren := {
  mixed := by kernel_rfl
  f217 := Tryz.func106.trans (congrArg some (by kernel_rfl))
  f219 := Tryz.func65.trans (congrArg some (by kernel_rfl))
  f224 := Tryz.func108.trans (congrArg some (by kernel_rfl))
  f225 := Tryz.func107.trans (congrArg some (by kernel_rfl))
  f266 := Tryz.func125.trans (congrArg some (by kernel_rfl))
  f267 := Tryz.func109.trans (congrArg some (by kernel_rfl))
  f314 := Tryz.func126.trans (congrArg some (by kernel_rfl))
  t3 := Tryz.underlying3
  a3 := Tryz.isAgg3
  z3 := Tryz.sizeOf3
  v3 := Tryz.zeroValue3
  t4 := Tryz.underlying4
  a4 := Tryz.isAgg4
  z4 := Tryz.sizeOf4
  v4 := Tryz.zeroValue4
  t5 := Tryz.underlying5
  a5 := Tryz.isAgg5
  z5 := Tryz.sizeOf5
  v5 := Tryz.zeroValue5
  t9 := Tryz.underlying9
  a9 := Tryz.isAgg9
  z9 := Tryz.sizeOf9
  v9 := Tryz.zeroValue9
  t46 := Tryz.underlying64
  a46 := Tryz.isAgg64
  z46 := Tryz.sizeOf64
  v46 := Tryz.zeroValue64
  t51 := Tryz.underlying158
  a51 := Tryz.isAgg158
  z51 := Tryz.sizeOf158
  v51 := Tryz.zeroValue158
  t146 := Tryz.underlying182
  a146 := Tryz.isAgg182
  z146 := Tryz.sizeOf182
  v146 := Tryz.zeroValue182
  g1 := by kernel_rfl
  i3 := by kernel_rfl
  i4 := by kernel_rfl
  i5 := by kernel_rfl
  i9 := by kernel_rfl
  i46 := by kernel_rfl
  i51 := by kernel_rfl
  i146 := by kernel_rfl
  m1 := by kernel_rfl
  s1_3 := fun w h => Go.Proofs.cell_of_shapedOpen_int (zero := #[.int .i64 0]) (t := 3) h (of_decide_eq_true (by kernel_rfl)) (by kernel_rfl) rfl (by kernel_rfl) (by kernel_rfl) Tryz.underlying3 }
open Go.RowKit Go.Lib in
theorem Tryz.stringslite_Index_shaped (s sub : ByteArray) (w : World) (h : w.ShapedOpen Tryz.prog) (hs : s.size < 4294967281) :
    Calls Tryz.prog 65 #[.string s, .string sub] w fun e w' => e = .returned (.int .i64 (Lib.index s.data.toList sub.data.toList)) ∧ w' = w := Any.stringslite_Index_shaped Tryz.laysM219 s sub w h hs
def Tryz.laysM143_ren : Go.Shelf.Ren := ⟨fun | 143 => 36 | 219 => 65 | 217 => 106 | 225 => 107 | 224 => 108 | 267 => 109 | 266 => 125 | 314 => 126 | n => n, fun | 9 => 9 | 3 => 3 | 4 => 4 | 5 => 5 | 46 => 64 | 146 => 182 | 51 => 158 | n => n, fun | 1 => 1 | n => n⟩
theorem Tryz.laysM143 : Go.Proofs.LaysM.n143 Tryz.prog Tryz.laysM143_ren := {
  mixed := by kernel_rfl
  f143 := Tryz.func36.trans (congrArg some (by kernel_rfl))
  f217 := Tryz.func106.trans (congrArg some (by kernel_rfl))
  f219 := Tryz.func65.trans (congrArg some (by kernel_rfl))
  f224 := Tryz.func108.trans (congrArg some (by kernel_rfl))
  f225 := Tryz.func107.trans (congrArg some (by kernel_rfl))
  f266 := Tryz.func125.trans (congrArg some (by kernel_rfl))
  f267 := Tryz.func109.trans (congrArg some (by kernel_rfl))
  f314 := Tryz.func126.trans (congrArg some (by kernel_rfl))
  t3 := Tryz.underlying3
  a3 := Tryz.isAgg3
  z3 := Tryz.sizeOf3
  v3 := Tryz.zeroValue3
  t4 := Tryz.underlying4
  a4 := Tryz.isAgg4
  z4 := Tryz.sizeOf4
  v4 := Tryz.zeroValue4
  t5 := Tryz.underlying5
  a5 := Tryz.isAgg5
  z5 := Tryz.sizeOf5
  v5 := Tryz.zeroValue5
  t9 := Tryz.underlying9
  a9 := Tryz.isAgg9
  z9 := Tryz.sizeOf9
  v9 := Tryz.zeroValue9
  t46 := Tryz.underlying64
  a46 := Tryz.isAgg64
  z46 := Tryz.sizeOf64
  v46 := Tryz.zeroValue64
  t51 := Tryz.underlying158
  a51 := Tryz.isAgg158
  z51 := Tryz.sizeOf158
  v51 := Tryz.zeroValue158
  t146 := Tryz.underlying182
  a146 := Tryz.isAgg182
  z146 := Tryz.sizeOf182
  v146 := Tryz.zeroValue182
  g1 := by kernel_rfl
  i3 := by kernel_rfl
  i4 := by kernel_rfl
  i5 := by kernel_rfl
  i9 := by kernel_rfl
  i46 := by kernel_rfl
  i51 := by kernel_rfl
  i146 := by kernel_rfl
  m1 := by kernel_rfl
  s1_3 := fun w h => Go.Proofs.cell_of_shapedOpen_int (zero := #[.int .i64 0]) (t := 3) h (of_decide_eq_true (by kernel_rfl)) (by kernel_rfl) rfl (by kernel_rfl) (by kernel_rfl) Tryz.underlying3 }
open Go.RowKit Go.Lib in
theorem Tryz.strings_Index_shaped (s sub : ByteArray) (w : World) (h : w.ShapedOpen Tryz.prog) (hs : s.size < 4294967281) :
    Calls Tryz.prog 36 #[.string s, .string sub] w fun e w' => e = .returned (.int .i64 (Lib.index s.data.toList sub.data.toList)) ∧ w' = w := Any.strings_Index_shaped Tryz.laysM143 s sub w h hs
def Tryz.laysM144_ren : Go.Shelf.Ren := ⟨fun | 144 => 19 | 143 => 36 | 219 => 65 | 217 => 106 | 225 => 107 | 224 => 108 | 267 => 109 | 266 => 125 | 314 => 126 | n => n, fun | 9 => 9 | 4 => 4 | 3 => 3 | 5 => 5 | 46 => 64 | 146 => 182 | 51 => 158 | n => n, fun | 1 => 1 | n => n⟩
theorem Tryz.laysM144 : Go.Proofs.LaysM.n144 Tryz.prog Tryz.laysM144_ren := {
  mixed := by kernel_rfl
  f143 := Tryz.func36.trans (congrArg some (by kernel_rfl))
  f144 := Tryz.func19.trans (congrArg some (by kernel_rfl))
  f217 := Tryz.func106.trans (congrArg some (by kernel_rfl))
  f219 := Tryz.func65.trans (congrArg some (by kernel_rfl))
  f224 := Tryz.func108.trans (congrArg some (by kernel_rfl))
  f225 := Tryz.func107.trans (congrArg some (by kernel_rfl))
  f266 := Tryz.func125.trans (congrArg some (by kernel_rfl))
  f267 := Tryz.func109.trans (congrArg some (by kernel_rfl))
  f314 := Tryz.func126.trans (congrArg some (by kernel_rfl))
  t3 := Tryz.underlying3
  a3 := Tryz.isAgg3
  z3 := Tryz.sizeOf3
  v3 := Tryz.zeroValue3
  t4 := Tryz.underlying4
  a4 := Tryz.isAgg4
  z4 := Tryz.sizeOf4
  v4 := Tryz.zeroValue4
  t5 := Tryz.underlying5
  a5 := Tryz.isAgg5
  z5 := Tryz.sizeOf5
  v5 := Tryz.zeroValue5
  t9 := Tryz.underlying9
  a9 := Tryz.isAgg9
  z9 := Tryz.sizeOf9
  v9 := Tryz.zeroValue9
  t46 := Tryz.underlying64
  a46 := Tryz.isAgg64
  z46 := Tryz.sizeOf64
  v46 := Tryz.zeroValue64
  t51 := Tryz.underlying158
  a51 := Tryz.isAgg158
  z51 := Tryz.sizeOf158
  v51 := Tryz.zeroValue158
  t146 := Tryz.underlying182
  a146 := Tryz.isAgg182
  z146 := Tryz.sizeOf182
  v146 := Tryz.zeroValue182
  g1 := by kernel_rfl
  i3 := by kernel_rfl
  i4 := by kernel_rfl
  i5 := by kernel_rfl
  i9 := by kernel_rfl
  i46 := by kernel_rfl
  i51 := by kernel_rfl
  i146 := by kernel_rfl
  m1 := by kernel_rfl
  s1_3 := fun w h => Go.Proofs.cell_of_shapedOpen_int (zero := #[.int .i64 0]) (t := 3) h (of_decide_eq_true (by kernel_rfl)) (by kernel_rfl) rfl (by kernel_rfl) (by kernel_rfl) Tryz.underlying3 }
open Go.RowKit Go.Lib in
theorem Tryz.strings_Contains_shaped (s sub : ByteArray) (w : World) (h : w.ShapedOpen Tryz.prog) (hs : s.size < 4294967281) :
    Calls Tryz.prog 19 #[.string s, .string sub] w fun e w' => e = .returned (.bool (Lib.contains s.data.toList sub.data.toList)) ∧ w' = w := Any.strings_Contains_shaped Tryz.laysM144 s sub w h hs
def Tryz.laysM138_ren : Go.Shelf.Ren := ⟨fun | 138 => 67 | 195 => 110 | 218 => 112 | 143 => 36 | 219 => 65 | 217 => 106 | 225 => 107 | 224 => 108 | 267 => 109 | 266 => 125 | 314 => 126 | n => n, fun | 9 => 9 | 3 => 3 | 4 => 4 | 5 => 5 | 0 => 0 | 46 => 64 | 146 => 182 | 51 => 158 | n => n, fun | 1 => 1 | n => n⟩
theorem Tryz.laysM138 : Go.Proofs.LaysM.n138 Tryz.prog Tryz.laysM138_ren := {
  mixed := by kernel_rfl
  f138 := Tryz.func67.trans (congrArg some (by kernel_rfl))
  f143 := Tryz.func36.trans (congrArg some (by kernel_rfl))
  f195 := Tryz.func110.trans (congrArg some (by kernel_rfl))
  f217 := Tryz.func106.trans (congrArg some (by kernel_rfl))
  f218 := Tryz.func112.trans (congrArg some (by kernel_rfl))
  f219 := Tryz.func65.trans (congrArg some (by kernel_rfl))
  f224 := Tryz.func108.trans (congrArg some (by kernel_rfl))
  f225 := Tryz.func107.trans (congrArg some (by kernel_rfl))
  f266 := Tryz.func125.trans (congrArg some (by kernel_rfl))
  f267 := Tryz.func109.trans (congrArg some (by kernel_rfl))
  f314 := Tryz.func126.trans (congrArg some (by kernel_rfl))
  t0 := Tryz.underlying0
  a0 := Tryz.isAgg0
  z0 := Tryz.sizeOf0
  v0 := Tryz.zeroValue0
  t3 := Tryz.underlying3
  a3 := Tryz.isAgg3
  z3 := Tryz.sizeOf3
  v3 := Tryz.zeroValue3
  t4 := Tryz.underlying4
  a4 := Tryz.isAgg4
  z4 := Tryz.sizeOf4
  v4 := Tryz.zeroValue4
  t5 := Tryz.underlying5
  a5 := Tryz.isAgg5
  z5 := Tryz.sizeOf5
  v5 := Tryz.zeroValue5
  t9 := Tryz.underlying9
  a9 := Tryz.isAgg9
  z9 := Tryz.sizeOf9
  v9 := Tryz.zeroValue9
  t46 := Tryz.underlying64
  a46 := Tryz.isAgg64
  z46 := Tryz.sizeOf64
  v46 := Tryz.zeroValue64
  t51 := Tryz.underlying158
  a51 := Tryz.isAgg158
  z51 := Tryz.sizeOf158
  v51 := Tryz.zeroValue158
  t146 := Tryz.underlying182
  a146 := Tryz.isAgg182
  z146 := Tryz.sizeOf182
  v146 := Tryz.zeroValue182
  g1 := by kernel_rfl
  i0 := by kernel_rfl
  i3 := by kernel_rfl
  i4 := by kernel_rfl
  i5 := by kernel_rfl
  i9 := by kernel_rfl
  i46 := by kernel_rfl
  i51 := by kernel_rfl
  i146 := by kernel_rfl
  m1 := by kernel_rfl
  s1_3 := fun w h => Go.Proofs.cell_of_shapedOpen_int (zero := #[.int .i64 0]) (t := 3) h (of_decide_eq_true (by kernel_rfl)) (by kernel_rfl) rfl (by kernel_rfl) (by kernel_rfl) Tryz.underlying3 }
open Go.RowKit Go.Lib in
theorem Tryz.strings_Count_shaped (s sub : ByteArray) (w : World) (h : w.ShapedOpen Tryz.prog) (hs : s.size < 4294967281) (h2 : 2 ≤ sub.size) :
    Calls Tryz.prog 67 #[.string s, .string sub] w fun e w' => e = .returned (.int .i64 (Lib.countB s sub)) ∧ w' = w := Any.strings_Count_shaped Tryz.laysM138 s sub w h hs h2
open Go.RowKit Go.Lib in
/-- strings.Count at whatever sep that is not empty: the two roads under one statement. (LAID: no walk: one application.) -/
theorem Tryz.strings_Count_any (s sep : ByteArray) (m : Int) (w : World) (hs : s.size < 4294967281) (hm : w.cell? ⟨1, 0, none⟩ = some (.int .i64 m)) (h1 : 1 ≤ sep.size) :
    Calls Tryz.prog 67 #[.string s, .string sep] w fun e w' => e = .returned (.int .i64 (Lib.countB s sep)) ∧ w' = w := Any.strings_Count_any Tryz.lays138 s sep m w hs hm h1
def Tryz.lays221_ren : Go.Shelf.Ren := ⟨fun | 221 => 37 | 268 => 66 | 138 => 67 | 143 => 36 | 195 => 110 | 197 => 111 | 218 => 112 | 219 => 65 | 260 => 127 | 217 => 106 | 225 => 107 | 224 => 108 | 267 => 109 | 266 => 125 | 314 => 126 | n => n, fun | 9 => 9 | 3 => 3 | 31 => 50 | 4 => 4 | 0 => 0 | 105 => 171 | 21 => 21 | 5 => 5 | 46 => 64 | 119 => 192 | 139 => 195 | 138 => 194 | 146 => 182 | 51 => 158 | n => n, fun | 1 => 1 | 3 => 6 | 4 => 7 | n => n⟩
theorem Tryz.lays221 : Go.Proofs.Lays.n221 Tryz.prog Tryz.lays221_ren := {
  mixed := by kernel_rfl
  f138 := Tryz.func67.trans (congrArg some (by kernel_rfl))
  f143 := Tryz.func36.trans (congrArg some (by kernel_rfl))
  f195 := Tryz.func110.trans (congrArg some (by kernel_rfl))
  f197 := Tryz.func111.trans (congrArg some (by kernel_rfl))
  f217 := Tryz.func106.trans (congrArg some (by kernel_rfl))
  f218 := Tryz.func112.trans (congrArg some (by kernel_rfl))
  f219 := Tryz.func65.trans (congrArg some (by kernel_rfl))
  f221 := Tryz.func37.trans (congrArg some (by kernel_rfl))
  f224 := Tryz.func108.trans (congrArg some (by kernel_rfl))
  f225 := Tryz.func107.trans (congrArg some (by kernel_rfl))
  f260 := Tryz.func127.trans (congrArg some (by kernel_rfl))
  f266 := Tryz.func125.trans (congrArg some (by kernel_rfl))
  f267 := Tryz.func109.trans (congrArg some (by kernel_rfl))
  f268 := Tryz.func66.trans (congrArg some (by kernel_rfl))
  f314 := Tryz.func126.trans (congrArg some (by kernel_rfl))
  t0 := Tryz.underlying0
  a0 := Tryz.isAgg0
  z0 := Tryz.sizeOf0
  v0 := Tryz.zeroValue0
  t3 := Tryz.underlying3
  a3 := Tryz.isAgg3
  z3 := Tryz.sizeOf3
  v3 := Tryz.zeroValue3
  t4 := Tryz.underlying4
  a4 := Tryz.isAgg4
  z4 := Tryz.sizeOf4
  v4 := Tryz.zeroValue4
  t5 := Tryz.underlying5
  a5 := Tryz.isAgg5
  z5 := Tryz.sizeOf5
  v5 := Tryz.zeroValue5
  t9 := Tryz.underlying9
  a9 := Tryz.isAgg9
  z9 := Tryz.sizeOf9
  v9 := Tryz.zeroValue9
  t21 := Tryz.underlying21
  a21 := Tryz.isAgg21
  z21 := Tryz.sizeOf21
  v21 := Tryz.zeroValue21
  t31 := Tryz.underlying50
  a31 := Tryz.isAgg50
  z31 := Tryz.sizeOf50
  v31 := Tryz.zeroValue50
  t46 := Tryz.underlying64
  a46 := Tryz.isAgg64
  z46 := Tryz.sizeOf64
  v46 := Tryz.zeroValue64
  t51 := Tryz.underlying158
  a51 := Tryz.isAgg158
  z51 := Tryz.sizeOf158
  v51 := Tryz.zeroValue158
  t105 := Tryz.underlying171
  a105 := Tryz.isAgg171
  z105 := Tryz.sizeOf171
  v105 := Tryz.zeroValue171
  t119 := Tryz.underlying192
  a119 := Tryz.isAgg192
  z119 := Tryz.sizeOf192
  t138 := Tryz.underlying194
  a138 := Tryz.isAgg194
  z138 := Tryz.sizeOf194
  v138 := Tryz.zeroValue194
  t139 := Tryz.underlying195
  a139 := Tryz.isAgg195
  z139 := Tryz.sizeOf195
  v139 := Tryz.zeroValue195
  t146 := Tryz.underlying182
  a146 := Tryz.isAgg182
  z146 := Tryz.sizeOf182
  v146 := Tryz.zeroValue182
  g1 := by kernel_rfl
  g3 := by kernel_rfl
  g4 := by kernel_rfl }
open Go.RowKit Go.Lib in
theorem Tryz.strings_genSplit (s sep : ByteArray) (sv : Nat) (n : Int) (N : Nat) (m : Int) (w : World) (hs : s.size < 4294967281) (hm : w.cell? ⟨1, 0, none⟩ = some (.int .i64 m)) (h1 : 1 ≤ sep.size) (hsv : sv ≤ sep.size) (hn0 : n ≠ 0) (hn63 : n ≤ 9223372036854775807) (hN : (N : Int) = min (if n < 0 then (Lib.countB s sep : Int) + 1 else n) ((s.size : Int) + 1)) :
    Calls Tryz.prog 37 #[.string s, .string sep, .int .i64 sv, .int .i64 n] w fun e w' =>
      e = .returned (.slice (some ⟨w.heap.size, 0, none⟩) (Lib.splitB sep sv (N - 1) s).length N) ∧ w' = w.alloc (.cells (Lib.cellsOf (Lib.splitB sep sv (N - 1) s) N) 9) := Any.strings_genSplit Tryz.lays221 (by kernel_rfl) s sep sv n N m w hs hm h1 hsv hn0 hn63 hN
def Tryz.lays146_ren : Go.Shelf.Ren := ⟨fun | 146 => 20 | 221 => 37 | 268 => 66 | 138 => 67 | 143 => 36 | 195 => 110 | 197 => 111 | 218 => 112 | 219 => 65 | 260 => 127 | 217 => 106 | 225 => 107 | 224 => 108 | 267 => 109 | 266 => 125 | 314 => 126 | n => n, fun | 9 => 9 | 31 => 50 | 3 => 3 | 4 => 4 | 0 => 0 | 105 => 171 | 21 => 21 | 5 => 5 | 46 => 64 | 119 => 192 | 139 => 195 | 138 => 194 | 146 => 182 | 51 => 158 | n => n, fun | 1 => 1 | 3 => 6 | 4 => 7 | n => n⟩
theorem Tryz.lays146 : Go.Proofs.Lays.n146 Tryz.prog Tryz.lays146_ren := {
  mixed := by kernel_rfl
  f138 := Tryz.func67.trans (congrArg some (by kernel_rfl))
  f143 := Tryz.func36.trans (congrArg some (by kernel_rfl))
  f146 := Tryz.func20.trans (congrArg some (by kernel_rfl))
  f195 := Tryz.func110.trans (congrArg some (by kernel_rfl))
  f197 := Tryz.func111.trans (congrArg some (by kernel_rfl))
  f217 := Tryz.func106.trans (congrArg some (by kernel_rfl))
  f218 := Tryz.func112.trans (congrArg some (by kernel_rfl))
  f219 := Tryz.func65.trans (congrArg some (by kernel_rfl))
  f221 := Tryz.func37.trans (congrArg some (by kernel_rfl))
  f224 := Tryz.func108.trans (congrArg some (by kernel_rfl))
  f225 := Tryz.func107.trans (congrArg some (by kernel_rfl))
  f260 := Tryz.func127.trans (congrArg some (by kernel_rfl))
  f266 := Tryz.func125.trans (congrArg some (by kernel_rfl))
  f267 := Tryz.func109.trans (congrArg some (by kernel_rfl))
  f268 := Tryz.func66.trans (congrArg some (by kernel_rfl))
  f314 := Tryz.func126.trans (congrArg some (by kernel_rfl))
  t0 := Tryz.underlying0
  a0 := Tryz.isAgg0
  z0 := Tryz.sizeOf0
  v0 := Tryz.zeroValue0
  t3 := Tryz.underlying3
  a3 := Tryz.isAgg3
  z3 := Tryz.sizeOf3
  v3 := Tryz.zeroValue3
  t4 := Tryz.underlying4
  a4 := Tryz.isAgg4
  z4 := Tryz.sizeOf4
  v4 := Tryz.zeroValue4
  t5 := Tryz.underlying5
  a5 := Tryz.isAgg5
  z5 := Tryz.sizeOf5
  v5 := Tryz.zeroValue5
  t9 := Tryz.underlying9
  a9 := Tryz.isAgg9
  z9 := Tryz.sizeOf9
  v9 := Tryz.zeroValue9
  t21 := Tryz.underlying21
  a21 := Tryz.isAgg21
  z21 := Tryz.sizeOf21
  v21 := Tryz.zeroValue21
  t31 := Tryz.underlying50
  a31 := Tryz.isAgg50
  z31 := Tryz.sizeOf50
  v31 := Tryz.zeroValue50
  t46 := Tryz.underlying64
  a46 := Tryz.isAgg64
  z46 := Tryz.sizeOf64
  v46 := Tryz.zeroValue64
  t51 := Tryz.underlying158
  a51 := Tryz.isAgg158
  z51 := Tryz.sizeOf158
  v51 := Tryz.zeroValue158
  t105 := Tryz.underlying171
  a105 := Tryz.isAgg171
  z105 := Tryz.sizeOf171
  v105 := Tryz.zeroValue171
  t119 := Tryz.underlying192
  a119 := Tryz.isAgg192
  z119 := Tryz.sizeOf192
  t138 := Tryz.underlying194
  a138 := Tryz.isAgg194
  z138 := Tryz.sizeOf194
  v138 := Tryz.zeroValue194
  t139 := Tryz.underlying195
  a139 := Tryz.isAgg195
  z139 := Tryz.sizeOf195
  v139 := Tryz.zeroValue195
  t146 := Tryz.underlying182
  a146 := Tryz.isAgg182
  z146 := Tryz.sizeOf182
  v146 := Tryz.zeroValue182
  g1 := by kernel_rfl
  g3 := by kernel_rfl
  g4 := by kernel_rfl }
open Go.RowKit Go.Lib in
/-- strings.Split. (LAID: no walk: one application.) -/
theorem Tryz.strings_Split (s sep : ByteArray) (m : Int) (w : World) (hs : s.size < 4294967281) (hm : w.cell? ⟨1, 0, none⟩ = some (.int .i64 m)) (h1 : 1 ≤ sep.size) :
    Calls Tryz.prog 20 #[.string s, .string sep] w fun e w' =>
      e = .returned (.slice (some ⟨w.heap.size, 0, none⟩) (Lib.countB s sep + 1) (Lib.countB s sep + 1)) ∧ w' = w.alloc (.cells ((Lib.splitB sep 0 (Lib.countB s sep) s).map Value.string).toArray 9) := Any.strings_Split Tryz.lays146 (by kernel_rfl) s sep m w hs hm h1
def Tryz.laysM146_ren : Go.Shelf.Ren := ⟨fun | 146 => 20 | 221 => 37 | 268 => 66 | 138 => 67 | 143 => 36 | 195 => 110 | 197 => 111 | 218 => 112 | 219 => 65 | 260 => 127 | 217 => 106 | 225 => 107 | 224 => 108 | 267 => 109 | 266 => 125 | 314 => 126 | n => n, fun | 9 => 9 | 31 => 50 | 3 => 3 | 4 => 4 | 0 => 0 | 105 => 171 | 21 => 21 | 5 => 5 | 46 => 64 | 119 => 192 | 139 => 195 | 138 => 194 | 146 => 182 | 51 => 158 | n => n, fun | 1 => 1 | 3 => 6 | 4 => 7 | n => n⟩
theorem Tryz.laysM146 : Go.Proofs.LaysM.n146 Tryz.prog Tryz.laysM146_ren := {
  mixed := by kernel_rfl
  f138 := Tryz.func67.trans (congrArg some (by kernel_rfl))
  f143 := Tryz.func36.trans (congrArg some (by kernel_rfl))
  f146 := Tryz.func20.trans (congrArg some (by kernel_rfl))
  f195 := Tryz.func110.trans (congrArg some (by kernel_rfl))
  f197 := Tryz.func111.trans (congrArg some (by kernel_rfl))
  f217 := Tryz.func106.trans (congrArg some (by kernel_rfl))
  f218 := Tryz.func112.trans (congrArg some (by kernel_rfl))
  f219 := Tryz.func65.trans (congrArg some (by kernel_rfl))
  f221 := Tryz.func37.trans (congrArg some (by kernel_rfl))
  f224 := Tryz.func108.trans (congrArg some (by kernel_rfl))
  f225 := Tryz.func107.trans (congrArg some (by kernel_rfl))
  f260 := Tryz.func127.trans (congrArg some (by kernel_rfl))
  f266 := Tryz.func125.trans (congrArg some (by kernel_rfl))
  f267 := Tryz.func109.trans (congrArg some (by kernel_rfl))
  f268 := Tryz.func66.trans (congrArg some (by kernel_rfl))
  f314 := Tryz.func126.trans (congrArg some (by kernel_rfl))
  t0 := Tryz.underlying0
  a0 := Tryz.isAgg0
  z0 := Tryz.sizeOf0
  v0 := Tryz.zeroValue0
  t3 := Tryz.underlying3
  a3 := Tryz.isAgg3
  z3 := Tryz.sizeOf3
  v3 := Tryz.zeroValue3
  t4 := Tryz.underlying4
  a4 := Tryz.isAgg4
  z4 := Tryz.sizeOf4
  v4 := Tryz.zeroValue4
  t5 := Tryz.underlying5
  a5 := Tryz.isAgg5
  z5 := Tryz.sizeOf5
  v5 := Tryz.zeroValue5
  t9 := Tryz.underlying9
  a9 := Tryz.isAgg9
  z9 := Tryz.sizeOf9
  v9 := Tryz.zeroValue9
  t21 := Tryz.underlying21
  a21 := Tryz.isAgg21
  z21 := Tryz.sizeOf21
  v21 := Tryz.zeroValue21
  t31 := Tryz.underlying50
  a31 := Tryz.isAgg50
  z31 := Tryz.sizeOf50
  v31 := Tryz.zeroValue50
  t46 := Tryz.underlying64
  a46 := Tryz.isAgg64
  z46 := Tryz.sizeOf64
  v46 := Tryz.zeroValue64
  t51 := Tryz.underlying158
  a51 := Tryz.isAgg158
  z51 := Tryz.sizeOf158
  v51 := Tryz.zeroValue158
  t105 := Tryz.underlying171
  a105 := Tryz.isAgg171
  z105 := Tryz.sizeOf171
  v105 := Tryz.zeroValue171
  t119 := Tryz.underlying192
  a119 := Tryz.isAgg192
  z119 := Tryz.sizeOf192
  t138 := Tryz.underlying194
  a138 := Tryz.isAgg194
  z138 := Tryz.sizeOf194
  v138 := Tryz.zeroValue194
  t139 := Tryz.underlying195
  a139 := Tryz.isAgg195
  z139 := Tryz.sizeOf195
  v139 := Tryz.zeroValue195
  t146 := Tryz.underlying182
  a146 := Tryz.isAgg182
  z146 := Tryz.sizeOf182
  v146 := Tryz.zeroValue182
  g1 := by kernel_rfl
  g3 := by kernel_rfl
  g4 := by kernel_rfl
  i0 := by kernel_rfl
  i3 := by kernel_rfl
  i4 := by kernel_rfl
  i5 := by kernel_rfl
  i9 := by kernel_rfl
  i21 := by kernel_rfl
  i31 := by kernel_rfl
  i46 := by kernel_rfl
  i51 := by kernel_rfl
  i105 := by kernel_rfl
  i138 := by kernel_rfl
  i139 := by kernel_rfl
  i146 := by kernel_rfl
  m1 := by kernel_rfl
  s1_3 := fun w h => Go.Proofs.cell_of_shapedOpen_int (zero := #[.int .i64 0]) (t := 3) h (of_decide_eq_true (by kernel_rfl)) (by kernel_rfl) rfl (by kernel_rfl) (by kernel_rfl) Tryz.underlying3
  m3 := by kernel_rfl
  m4 := by kernel_rfl }
open Go.RowKit Go.Lib in
/-- strings.Split, sep not empty. (LAID: no walk: one application.) -/
theorem Tryz.strings_Split_shaped (s sep : ByteArray) (w : World) (h : w.ShapedOpen Tryz.prog) (hs : s.size < 4294967281) (h1 : 1 ≤ sep.size) :
    Calls Tryz.prog 20 #[.string s, .string sep] w fun e w' =>
      e = .returned (.slice (some ⟨w.heap.size, 0, none⟩) (Lib.countB s sep + 1) (Lib.countB s sep + 1)) ∧ w' = w.alloc (.cells ((Lib.splitB sep 0 (Lib.countB s sep) s).map Value.string).toArray 9) := Any.strings_Split_shaped Tryz.laysM146 s sep w h hs h1
def Tryz.lays197_ren : Go.Shelf.Ren := ⟨fun | 197 => 111 | 260 => 127 | n => n, fun | 9 => 9 | 21 => 21 | 3 => 3 | 4 => 4 | 5 => 5 | 105 => 171 | 119 => 192 | 0 => 0 | 46 => 64 | 139 => 195 | 138 => 194 | n => n, fun | 3 => 6 | 4 => 7 | n => n⟩
theorem Tryz.lays197 : Go.Proofs.Lays.n197 Tryz.prog Tryz.lays197_ren := {
  mixed := by kernel_rfl
  f197 := Tryz.func111.trans (congrArg some (by kernel_rfl))
  f260 := Tryz.func127.trans (congrArg some (by kernel_rfl))
  t0 := Tryz.underlying0
  a0 := Tryz.isAgg0
  z0 := Tryz.sizeOf0
  v0 := Tryz.zeroValue0
  t3 := Tryz.underlying3
  a3 := Tryz.isAgg3
  z3 := Tryz.sizeOf3
  v3 := Tryz.zeroValue3
  t4 := Tryz.underlying4
  a4 := Tryz.isAgg4
  z4 := Tryz.sizeOf4
  v4 := Tryz.zeroValue4
  t5 := Tryz.underlying5
  a5 := Tryz.isAgg5
  z5 := Tryz.sizeOf5
  v5 := Tryz.zeroValue5
  t9 := Tryz.underlying9
  a9 := Tryz.isAgg9
  z9 := Tryz.sizeOf9
  v9 := Tryz.zeroValue9
  t21 := Tryz.underlying21
  a21 := Tryz.isAgg21
  z21 := Tryz.sizeOf21
  v21 := Tryz.zeroValue21
  t46 := Tryz.underlying64
  a46 := Tryz.isAgg64
  z46 := Tryz.sizeOf64
  v46 := Tryz.zeroValue64
  t105 := Tryz.underlying171
  a105 := Tryz.isAgg171
  z105 := Tryz.sizeOf171
  v105 := Tryz.zeroValue171
  t119 := Tryz.underlying192
  a119 := Tryz.isAgg192
  z119 := Tryz.sizeOf192
  t138 := Tryz.underlying194
  a138 := Tryz.isAgg194
  z138 := Tryz.sizeOf194
  v138 := Tryz.zeroValue194
  t139 := Tryz.underlying195
  a139 := Tryz.isAgg195
  z139 := Tryz.sizeOf195
  v139 := Tryz.zeroValue195
  g3 := by kernel_rfl
  g4 := by kernel_rfl }
open Go.RowKit Go.Lib in
/-- unicode/utf8.DecodeRuneInString: "DecodeRuneInString is like DecodeRune but its input is a string.": ("DecodeRune unpacks the first UTF-8 encoding in p and returns the rune and its width in bytes."): WHERE s BEGINS WITH AN ASCII BYTE x: (x, 1). (LAID: no walk: one application.) -/
theorem Tryz.utf8_DecodeRuneInString_ascii (s : ByteArray) (x : UInt8) (w : World) (h0 : s.data.toList[0]? = some x) (hx : x.toNat < 128) :
    Calls Tryz.prog 111 #[.string s] w fun e w' => e = .returned (.tuple #[.int .i32 x.toNat, .int .i64 1]) ∧ w' = w := Any.utf8_DecodeRuneInString_ascii Tryz.lays197 s x w h0 hx
open Go.RowKit Go.Lib in
theorem Tryz.utf8_RuneCountInString_ascii (s : ByteArray) (w : World) (hs : s.size < 4294967281) (hascii : ∀ (j : Nat) b, s.data.toList[j]? = some b → b.toNat < 128) :
    Calls Tryz.prog 110 #[.string s] w fun e w' => e = .returned (.int .i64 s.size) ∧ w' = w.iter s s.size := Any.utf8_RuneCountInString_ascii Tryz.lays195 s w hs hascii
def Tryz.lays268_ren : Go.Shelf.Ren := ⟨fun | 268 => 66 | 195 => 110 | 197 => 111 | 260 => 127 | n => n, fun | 9 => 9 | 3 => 3 | 31 => 50 | 4 => 4 | 105 => 171 | 21 => 21 | 0 => 0 | 5 => 5 | 119 => 192 | 46 => 64 | 139 => 195 | 138 => 194 | n => n, fun | 3 => 6 | 4 => 7 | n => n⟩
theorem Tryz.lays268 : Go.Proofs.Lays.n268 Tryz.prog Tryz.lays268_ren := {
  mixed := by kernel_rfl
  f195 := Tryz.func110.trans (congrArg some (by kernel_rfl))
  f197 := Tryz.func111.trans (congrArg some (by kernel_rfl))
  f260 := Tryz.func127.trans (congrArg some (by kernel_rfl))
  f268 := Tryz.func66.trans (congrArg some (by kernel_rfl))
  t0 := Tryz.underlying0
  a0 := Tryz.isAgg0
  z0 := Tryz.sizeOf0
  v0 := Tryz.zeroValue0
  t3 := Tryz.underlying3
  a3 := Tryz.isAgg3
  z3 := Tryz.sizeOf3
  v3 := Tryz.zeroValue3
  t4 := Tryz.underlying4
  a4 := Tryz.isAgg4
  z4 := Tryz.sizeOf4
  v4 := Tryz.zeroValue4
  t5 := Tryz.underlying5
  a5 := Tryz.isAgg5
  z5 := Tryz.sizeOf5
  v5 := Tryz.zeroValue5
  t9 := Tryz.underlying9
  a9 := Tryz.isAgg9
  z9 := Tryz.sizeOf9
  v9 := Tryz.zeroValue9
  t21 := Tryz.underlying21
  a21 := Tryz.isAgg21
  z21 := Tryz.sizeOf21
  v21 := Tryz.zeroValue21
  t31 := Tryz.underlying50
  a31 := Tryz.isAgg50
  z31 := Tryz.sizeOf50
  v31 := Tryz.zeroValue50
  t46 := Tryz.underlying64
  a46 := Tryz.isAgg64
  z46 := Tryz.sizeOf64
  v46 := Tryz.zeroValue64
  t105 := Tryz.underlying171
  a105 := Tryz.isAgg171
  z105 := Tryz.sizeOf171
  v105 := Tryz.zeroValue171
  t119 := Tryz.underlying192
  a119 := Tryz.isAgg192
  z119 := Tryz.sizeOf192
  t138 := Tryz.underlying194
  a138 := Tryz.isAgg194
  z138 := Tryz.sizeOf194
  v138 := Tryz.zeroValue194
  t139 := Tryz.underlying195
  a139 := Tryz.isAgg195
  z139 := Tryz.sizeOf195
  v139 := Tryz.zeroValue195
  g3 := by kernel_rfl
  g4 := by kernel_rfl }
open Go.RowKit Go.Lib in
theorem Tryz.strings_explode_all (s : ByteArray) (n : Int) (w : World) (hn : n < 0) (hs : s.size < 4294967281) (hascii : ∀ (j : Nat) b, s.data.toList[j]? = some b → b.toNat < 128) :
    Calls Tryz.prog 66 #[.string s, .int .i64 n] w fun e w' =>
      e = .returned (.slice (some ⟨(w.iter s s.size).heap.size, 0, none⟩) s.size s.size) ∧ w' = (w.iter s s.size).alloc (.cells ((Lib.charsB s).map Value.string).toArray 9) := Any.strings_explode_all Tryz.lays268 (by kernel_rfl) s n w hn hs hascii
open Go.RowKit Go.Lib in
/-- strings.genSplit at sep == "", n < 0: 'return explode(s, n)'. (LAID: no walk: one application.) -/
theorem Tryz.strings_genSplit_chars (s sep : ByteArray) (sv n : Int) (w : World) (h0 : sep.size = 0) (hn : n < 0) (hs : s.size < 4294967281) (hascii : ∀ (j : Nat) b, s.data.toList[j]? = some b → b.toNat < 128) :
    Calls Tryz.prog 37 #[.string s, .string sep, .int .i64 sv, .int .i64 n] w fun e w' =>
      e = .returned (.slice (some ⟨(w.iter s s.size).heap.size, 0, none⟩) s.size s.size) ∧ w' = (w.iter s s.size).alloc (.cells ((Lib.charsB s).map Value.string).toArray 9) := Any.strings_genSplit_chars Tryz.lays221 (by kernel_rfl) s sep sv n w h0 hn hs hascii
open Go.RowKit Go.Lib in
/-- strings.Split(s, ""), s ASCII: a piece a byte. (LAID: no walk: one application.) -/
theorem Tryz.strings_Split_chars (s sep : ByteArray) (w : World) (h0 : sep.size = 0) (hs : s.size < 4294967281) (hascii : ∀ (j : Nat) b, s.data.toList[j]? = some b → b.toNat < 128) :
    Calls Tryz.prog 20 #[.string s, .string sep] w fun e w' =>
      e = .returned (.slice (some ⟨(w.iter s s.size).heap.size, 0, none⟩) s.size s.size) ∧ w' = (w.iter s s.size).alloc (.cells ((Lib.charsB s).map Value.string).toArray 9) := Any.strings_Split_chars Tryz.lays146 (by kernel_rfl) s sep w h0 hs hascii
def Tryz.lays260_ren : Go.Shelf.Ren := ⟨fun | 260 => 127 | n => n, fun | 9 => 9 | 21 => 21 | 3 => 3 | 4 => 4 | 5 => 5 | 119 => 192 | 0 => 0 | 46 => 64 | 139 => 195 | 138 => 194 | n => n, fun | 3 => 6 | 4 => 7 | n => n⟩
theorem Tryz.lays260 : Go.Proofs.Lays.n260 Tryz.prog Tryz.lays260_ren := {
  mixed := by kernel_rfl
  f260 := Tryz.func127.trans (congrArg some (by kernel_rfl))
  t0 := Tryz.underlying0
  a0 := Tryz.isAgg0
  z0 := Tryz.sizeOf0
  v0 := Tryz.zeroValue0
  t3 := Tryz.underlying3
  a3 := Tryz.isAgg3
  z3 := Tryz.sizeOf3
  v3 := Tryz.zeroValue3
  t4 := Tryz.underlying4
  a4 := Tryz.isAgg4
  z4 := Tryz.sizeOf4
  v4 := Tryz.zeroValue4
  t5 := Tryz.underlying5
  a5 := Tryz.isAgg5
  z5 := Tryz.sizeOf5
  v5 := Tryz.zeroValue5
  t9 := Tryz.underlying9
  a9 := Tryz.isAgg9
  z9 := Tryz.sizeOf9
  v9 := Tryz.zeroValue9
  t21 := Tryz.underlying21
  a21 := Tryz.isAgg21
  z21 := Tryz.sizeOf21
  v21 := Tryz.zeroValue21
  t46 := Tryz.underlying64
  a46 := Tryz.isAgg64
  z46 := Tryz.sizeOf64
  v46 := Tryz.zeroValue64
  t119 := Tryz.underlying192
  a119 := Tryz.isAgg192
  z119 := Tryz.sizeOf192
  t138 := Tryz.underlying194
  a138 := Tryz.isAgg194
  z138 := Tryz.sizeOf194
  v138 := Tryz.zeroValue194
  t139 := Tryz.underlying195
  a139 := Tryz.isAgg195
  z139 := Tryz.sizeOf195
  v139 := Tryz.zeroValue195
  g3 := by kernel_rfl
  g4 := by kernel_rfl }
open Go.RowKit Go.Lib in
theorem Tryz.utf8_decodeRuneInStringSlow (s : ByteArray) (w : World) (hT : Lib.Utf8Tabs 6 7 w) :
    Calls Tryz.prog 127 #[.string s] w fun e w' => e = .returned (.tuple #[.int .i32 (Lib.decodeGo s).1, .int .i64 (Lib.decodeGo s).2]) ∧ Below w.heap.size w w' := Any.utf8_decodeRuneInStringSlow Tryz.lays260 s w hT
open Go.RowKit Go.Lib in
/-- **unicode/utf8.DecodeRuneInString AT EVERY STRING.** (LAID: no walk: one application.) -/
theorem Tryz.utf8_DecodeRuneInString (s : ByteArray) (w : World) (hT : Lib.Utf8Tabs 6 7 w) :
    Calls Tryz.prog 111 #[.string s] w fun e w' => e = .returned (.tuple #[.int .i32 (Lib.decodeGo s).1, .int .i64 (Lib.decodeGo s).2]) ∧ Below w.heap.size w w' := Any.utf8_DecodeRuneInString Tryz.lays197 s w hT
end Go.Proofs
set_option maxRecDepth 100000
namespace Go.Proofs.YtopadpgpmkkpgaaGreatDoor
open Go.SX
def KK : Nat → Option KSpec
  | 16 => some kJoin
  | 125 => some kIndexByteString
  | 112 => some kCountString
  | _ => none
theorem has16 : Has Tryz.prog 16 := ⟨Tryz.f16, Tryz.func16, by kernel_rfl, by kernel_rfl⟩
theorem KKok (I : World → Prop) : ∀ f sp, KK f = some sp → KOk Tryz.prog I f sp := by
  intro f sp h
  unfold KK at h
  split at h
  · cases h
    exact kJoin_ok has16 (fun a c sep w => Tryz.strings_Join_none a c sep w) fun bk o c xs sep w h1 h2 h3 h4 h5 => Tryz.strings_Join bk o c xs sep w h1 h2 h3 h4 h5
  · cases h
    exact kIndexByteString_ok Tryz.func125 (by kernel_rfl) (by kernel_rfl) (by kernel_rfl) (by kernel_rfl)
  · cases h
    exact kCountString_ok Tryz.func112 (by kernel_rfl) (by kernel_rfl) (by kernel_rfl) (by kernel_rfl)
  · cases h
/-- The tables that the library lays, as they stand in a world. -/
def I13 (w : World) : Prop := ∀ g cells, GG g = some cells → ∀ i u, cells[i]? = some u → w.cell? ⟨g, i, none⟩ = some u
theorem I13.mod {w w' : World} (h : I13 w) (hm : Mod w w' fun _ => False) : I13 w' := by
  intro g cells hg i u hu
  have h1 := h g cells hg i u hu
  have h2 := hm.block g (cell_lt h1) id
  simp only [World.cell?] at h1 ⊢
  rw [h2]
  exact h1
theorem examples_run : runF KK GG (fun f => Tryz.prog.funcs[f]?) TT 1000 12 Tryz.f4 [] (wantB true) = true := by kernel_rfl
theorem examples_ret {w : World} (h : I13 w) : Ret Tryz.prog 4 [] w (.bool true) :=
  Ret.runB' (I := I13) (fun w' hm => h.mod hm) (fun f => Tryz.prog.funcs[f]?) GG (fun w hw => hw) KK (KKok I13) 1000 12 (TTok 0 I13) mixed (fun f fn hf => hf) Tryz.func4 (by kernel_rfl) examples_run
end Go.Proofs.YtopadpgpmkkpgaaGreatDoor
set_option maxRecDepth 100000
namespace Go.Proofs.YtopadpgpmkkpgaaGreatDoor
open Go.SX
/-! ### Numbers told as texts -/
def eqStr : List UInt8 → AV → Bool
  | l, .v (.string s) => bEqL s.data.toList l
  | _, _ => false
theorem eqStr_eq {l : List UInt8} : ∀ a, eqStr l a = true → a = .v (.string ⟨⟨l⟩⟩) := by
  intro a h
  unfold eqStr at h
  split at h
  · rename_i s
    rw [bEqL_eq] at h
    have := of_decide_eq_true h
    subst this
    rfl
  · cases h
def eqInt (k : IntKind) (n : Int) : AV → Bool
  | .v (.int k' m) => Nat.beq (ikn k') (ikn k) && decide (m = n)
  | _ => false
theorem eqInt_eq {k : IntKind} {n : Int} : ∀ a, eqInt k n a = true → a = .v (.int k n) := by
  intro a h
  unfold eqInt at h
  split at h
  · simp only [Bool.and_eq_true, decide_eq_true_eq] at h
    rw [ikn_inj h.1, h.2]
  · cases h
/-- Numbers below 1000, in decimal digits. -/
def dec3 (n : Nat) : List UInt8 := match n with
  | n => if n < 10 then [UInt8.ofNat (48 + n)] else if n < 100 then [UInt8.ofNat (48 + n / 10), UInt8.ofNat (48 + n % 10)] else [UInt8.ofNat (48 + n / 100), UInt8.ofNat (48 + n / 10 % 10), UInt8.ofNat (48 + n % 10)]
def allBelow : Nat → (Nat → Bool) → Bool
  | 0, _ => true
  | n + 1, p => match p n with | true => allBelow n p | false => false
theorem allBelow_eq : ∀ {n : Nat} {p : Nat → Bool}, allBelow n p = true → ∀ i, i < n → p i = true
  | 0, _, _, i, h => by omega
  | n + 1, p, h, i, hi => by
    simp only [allBelow] at h
    split at h
    · rename_i hp
      by_cases e : i = n
      · rw [e]; exact hp
      · exact allBelow_eq h i (by omega)
    · cases h
noncomputable def decB (n : Nat) : Bool := runF KK GG (fun f => Tryz.prog.funcs[f]?) TT 1000 12 Tryz.f28 [.v (.int .u64 (Int.ofNat n)), .v (.int .i64 10)] (eqStr (dec3 n))
theorem dec_run0 : allBelow 16 (fun n => decB (n + 0)) = true := by kernel_rfl
theorem dec_run1 : allBelow 16 (fun n => decB (n + 16)) = true := by kernel_rfl
theorem dec_run2 : allBelow 16 (fun n => decB (n + 32)) = true := by kernel_rfl
theorem dec_run3 : allBelow 16 (fun n => decB (n + 48)) = true := by kernel_rfl
theorem dec_run4 : allBelow 16 (fun n => decB (n + 64)) = true := by kernel_rfl
theorem dec_run5 : allBelow 16 (fun n => decB (n + 80)) = true := by kernel_rfl
theorem dec_run6 : allBelow 16 (fun n => decB (n + 96)) = true := by kernel_rfl
theorem dec_run7 : allBelow 16 (fun n => decB (n + 112)) = true := by kernel_rfl
theorem dec_run8 : allBelow 16 (fun n => decB (n + 128)) = true := by kernel_rfl
theorem dec_run9 : allBelow 16 (fun n => decB (n + 144)) = true := by kernel_rfl
theorem dec_run10 : allBelow 16 (fun n => decB (n + 160)) = true := by kernel_rfl
theorem dec_run11 : allBelow 16 (fun n => decB (n + 176)) = true := by kernel_rfl
theorem dec_run12 : allBelow 16 (fun n => decB (n + 192)) = true := by kernel_rfl
theorem dec_run13 : allBelow 16 (fun n => decB (n + 208)) = true := by kernel_rfl
theorem dec_run14 : allBelow 16 (fun n => decB (n + 224)) = true := by kernel_rfl
theorem dec_run15 : allBelow 16 (fun n => decB (n + 240)) = true := by kernel_rfl
theorem dec_run (n : Nat) (hn : n < 256) : decB n = true := by
  have key : ∀ k, allBelow 16 (fun n => decB (n + k)) = true → k ≤ n → n < k + 16 → decB n = true := fun k h h1 h2 => by
    have := allBelow_eq h (n - k) (by omega)
    rwa [Nat.sub_add_cancel h1] at this
  by_cases h0 : n < 16
  · exact key 0 dec_run0 (by omega) (by omega)
  by_cases h1 : n < 32
  · exact key 16 dec_run1 (by omega) (by omega)
  by_cases h2 : n < 48
  · exact key 32 dec_run2 (by omega) (by omega)
  by_cases h3 : n < 64
  · exact key 48 dec_run3 (by omega) (by omega)
  by_cases h4 : n < 80
  · exact key 64 dec_run4 (by omega) (by omega)
  by_cases h5 : n < 96
  · exact key 80 dec_run5 (by omega) (by omega)
  by_cases h6 : n < 112
  · exact key 96 dec_run6 (by omega) (by omega)
  by_cases h7 : n < 128
  · exact key 112 dec_run7 (by omega) (by omega)
  by_cases h8 : n < 144
  · exact key 128 dec_run8 (by omega) (by omega)
  by_cases h9 : n < 160
  · exact key 144 dec_run9 (by omega) (by omega)
  by_cases h10 : n < 176
  · exact key 160 dec_run10 (by omega) (by omega)
  by_cases h11 : n < 192
  · exact key 176 dec_run11 (by omega) (by omega)
  by_cases h12 : n < 208
  · exact key 192 dec_run12 (by omega) (by omega)
  by_cases h13 : n < 224
  · exact key 208 dec_run13 (by omega) (by omega)
  by_cases h14 : n < 240
  · exact key 224 dec_run14 (by omega) (by omega)
  by_cases h15 : n < 256
  · exact key 240 dec_run15 (by omega) (by omega)
  omega
theorem dec_ret (n : Nat) (hn : n < 256) (w : World) (hI : I13 w) : Ret Tryz.prog 28 [.int .u64 n, .int .i64 10] w (.string ⟨⟨dec3 n⟩⟩) := by
  have h := dec_run n hn
  unfold decB runF at h
  split at h
  · rename_i c hb
    exact Ret.runB (I := I13) (fun w' hm => hI.mod hm) (fun f => Tryz.prog.funcs[f]?) GG (fun w hw => hw) KK (KKok I13) 1000 12 (TTok 0 I13) mixed (fun f fn hf => hf) Tryz.func28 (by kernel_rfl) hb h eqStr_eq
  · cases h
theorem pow2_run : runF KK GG (fun f => Tryz.prog.funcs[f]?) TT 1000 12 Tryz.f94 [.v (.int .i64 16)] (wantB true) = true := by kernel_rfl
theorem pow2_ret (w : World) (hI : I13 w) : Ret Tryz.prog 94 [.int .i64 16] w (.bool true) :=
  Ret.runB' (I := I13) (fun w' hm => hI.mod hm) (fun f => Tryz.prog.funcs[f]?) GG (fun w hw => hw) KK (KKok I13) 1000 12 (TTok 0 I13) mixed (fun f fn hf => hf) Tryz.func94 (by kernel_rfl) pow2_run
end Go.Proofs.YtopadpgpmkkpgaaGreatDoor
set_option maxRecDepth 100000
namespace Go.Proofs.YtopadpgpmkkpgaaGreatDoor
open Go.SX
def rightM (v6 : Bool) (hi lo : Int) : Bool := v6 || (hi == 0 && lo / 4294967296 == 0)
theorem right_ret (v6 : Bool) (hi lo : Int) (w : World) : Ret Tryz.prog 9 [.agg #[.bool v6, .int .u64 hi, .int .u64 lo]] w (.bool (rightM v6 hi lo)) := by
  refine Ret.of (I := fun _ => True) (fun _ _ => trivial) (TTok 0 _) Tryz.func9 (by kernel_rfl) rfl rfl ?_
  repeat' ((conv => whnf); with_reducible first
    | refine TR.seq ?_ | refine TR.region (TTok 0 _) ?_ | refine Ld.mk' _ rfl ?_ | refine TR.ret ?_ | refine TR.drawn (TTok 0 _) mixed ?_
    | refine Br.mk (fun _ => ?_) (fun _ => ?_) | refine Sh.shrL ?_ | refine Sh.shlL ?_ | refine Nm.fd (by decide) ?_ | refine Nm.i64 (by omega) ?_)
  all_goals (conv => whnf)
  all_goals simp_all [val, rightM]
theorem refright_ret (v6 : Bool) (hi lo : Int) (w : World) (h0 : 0 ≤ lo) : Ret Tryz.prog 10 [.agg #[.bool v6, .int .u64 hi, .int .u64 lo]] w (.bool (rightM v6 hi lo)) := by
  refine Ret.of (I := fun _ => True) (fun _ _ => trivial) (TTok 0 _) Tryz.func10 (by kernel_rfl) rfl rfl ?_
  repeat' ((conv => whnf); with_reducible first
    | refine TR.seq ?_ | refine TR.region (TTok 0 _) ?_ | refine Ld.mk' _ rfl ?_ | refine TR.ret ?_ | refine TR.drawn (TTok 0 _) mixed ?_
    | refine Br.mk (fun _ => ?_) (fun _ => ?_))
  all_goals (conv => whnf)
  all_goals simp_all [val, rightM]
  all_goals (rw [Bool.eq_iff_iff]; simp; omega)
def pathM (v6 : Bool) (hi lo : Int) : Value := if v6 then .agg #[.int .u64 hi, .int .u64 lo, .int .i64 128] else .agg #[.int .u64 (IntKind.u64.wrap (lo * 4294967296)), .int .u64 0, .int .i64 32]
theorem pathOf_ret (v6 : Bool) (hi lo : Int) (w : World) : Ret Tryz.prog 26 [.agg #[.bool v6, .int .u64 hi, .int .u64 lo]] w (pathM v6 hi lo) := by
  refine Ret.of (I := fun _ => True) (fun _ _ => trivial) (TTok 0 _) Tryz.func26 (by kernel_rfl) rfl rfl ?_
  repeat' ((conv => whnf); with_reducible first
    | refine TR.seq ?_ | refine TR.region (TTok 0 _) ?_ | refine Ld.mk' _ rfl ?_ | refine TR.ret ?_ | refine TR.drawn (TTok 0 _) mixed ?_
    | refine TR.cond (t := v6) rfl (fun _ => ?_) (fun _ => ?_) | refine TR.skip ?_ | refine Br.mk (fun _ => ?_) (fun _ => ?_) | refine Sh.shlL ?_ | refine Nm.keep ?_)
  all_goals (conv => whnf)
  all_goals simp_all [val, valL, pathM]
def bitM (hi lo k : Int) : Int := if k < 64 then hi / 2 ^ (63 - k).toNat % 2 else lo / 2 ^ (127 - k).toNat % 2
theorem bit_ret (hi lo wide k : Int) (w : World) (h0 : 0 ≤ k) (h1 : k < 128) (hh : 0 ≤ hi ∧ hi ≤ 18446744073709551615) (hl : 0 ≤ lo ∧ lo ≤ 18446744073709551615) : Ret Tryz.prog 27 [.agg #[.int .u64 hi, .int .u64 lo, .int .i64 wide], .int .i64 k] w (.int .i64 (bitM hi lo k)) := by
  have d1 := div_pow_range hh (63 - k).toNat
  have d2 := div_pow_range hl (127 - k).toNat
  refine Ret.of (I := fun _ => True) (fun _ _ => trivial) (TTok 0 _) Tryz.func27 (by kernel_rfl) rfl rfl ?_
  repeat' ((conv => whnf); with_reducible first
    | refine TR.seq ?_ | refine TR.region (TTok 0 _) ?_ | refine Ld.mk' _ rfl ?_ | refine TR.ret ?_ | refine TR.drawn (TTok 0 _) mixed ?_
    | refine TR.cond_dec (p := k < 64) rfl (fun _ => ?_) (fun _ => ?_) | refine TR.skip ?_
    | refine Br.mk (fun _ => ?_) (fun _ => ?_) | refine Sh.shr64 (by omega) ?_ | refine Nm.and1 (by assumption) ?_ | refine Nm.i64 (by omega) ?_)
  all_goals (conv => whnf)
  all_goals simp_all [val, bitM]
  all_goals (try (intro _; omega))
def restHi (hi k : Int) : Int := if 64 ≤ k then 0 else IntKind.u64.wrap (hi * 2 ^ k.toNat)
def restLo (lo k : Int) : Int := if 64 ≤ k then IntKind.u64.wrap (lo * 2 ^ (k - 64).toNat) else lo
theorem rest_ret (hi lo wide k : Int) (w : World) (h0 : 0 ≤ k) (h1 : k ≤ 128) : Ret Tryz.prog 41 [.agg #[.int .u64 hi, .int .u64 lo, .int .i64 wide], .int .i64 k] w (.tuple #[.int .u64 (restHi hi k), .int .u64 (restLo lo k)]) := by
  refine Ret.of (I := fun _ => True) (fun _ _ => trivial) (TTok 0 _) Tryz.func41 (by kernel_rfl) rfl rfl ?_
  repeat' ((conv => whnf); with_reducible first
    | refine TR.seq ?_ | refine TR.region (TTok 0 _) ?_ | refine Ld.mk' _ rfl ?_ | refine TR.ret ?_ | refine TR.drawn (TTok 0 _) mixed ?_
    | refine TR.cond_dec (p := k ≥ 64) rfl (fun _ => ?_) (fun _ => ?_) | refine TR.skip ?_ | refine Need.mk' (by kernel_rfl) (fun _ => ?_)
    | refine Br.mk (fun _ => ?_) (fun _ => ?_) | refine Sh.shl64 (by omega) ?_ | refine Nm.i64 (by omega) ?_)
  all_goals (conv => whnf)
  all_goals simp_all [val, valL, restHi, restLo]
  all_goals (try omega)
def prefM (v6 : Bool) (hi lo bits : Int) : Bool :=
  rightM v6 hi lo && !(decide (bits < 0)) && !(decide (bits > if v6 then 128 else 32)) && (if v6 then restHi hi bits == 0 && restLo lo bits == 0 else restHi (IntKind.u64.wrap (lo * 4294967296)) bits == 0 && restLo 0 bits == 0)
theorem pref_ret (v6 : Bool) (hi lo bits : Int) (w : World) : Ret Tryz.prog 24 [.agg #[.bool v6, .int .u64 hi, .int .u64 lo, .int .i64 bits]] w (.bool (prefM v6 hi lo bits)) := by
  have p1 : ∀ w, Ret Tryz.prog 26 [.agg #[.bool v6, .int .u64 hi, .int .u64 lo]] w (pathM v6 hi lo) := fun w => pathOf_ret v6 hi lo w
  have hv : v6 = true ∨ v6 = false := by cases v6 <;> simp
  rcases hv with hv | hv
  all_goals subst hv
  all_goals simp only [pathM, if_true, Bool.false_eq_true, if_false] at p1
  all_goals refine Ret.of (I := fun _ => True) (fun _ _ => trivial) (TTok 0 _) Tryz.func24 (by kernel_rfl) rfl rfl ?_
  all_goals repeat' ((conv => whnf); with_reducible first
    | refine TR.seq ?_ | refine TR.region (TTok 0 _) ?_ | refine Ld.mk' _ rfl ?_ | refine TR.ret ?_ | refine TR.drawn (TTok 0 _) mixed ?_
    | refine TR.cond_true rfl ?_ | refine TR.cond_false rfl ?_ | refine TR.cond rfl (fun _ => ?_) (fun _ => ?_) | refine TR.skip ?_ | refine Need.mk' (by kernel_rfl) (fun _ => ?_)
    | refine Br.mk (fun _ => ?_) (fun _ => ?_) | refine x_ret (f := 9) rfl rfl (fun w _ => right_ret _ _ _ w) ?_ | refine x_ret (f := 26) rfl rfl (fun w _ => p1 w) ?_
    | refine x_ret (f := 41) rfl rfl (fun w _ => rest_ret _ _ _ _ w (by simp_all <;> omega) (by simp_all <;> omega)) ?_)
  all_goals (conv => whnf)
  all_goals (clear p1; simp_all [val, prefM])
  all_goals (try (intros; omega))
  all_goals simp [rightM]
end Go.Proofs.YtopadpgpmkkpgaaGreatDoor
set_option maxRecDepth 100000
namespace Go.Proofs.YtopadpgpmkkpgaaGreatDoor
open Go.SX
def B8 (x : Int) : List Int := [IntKind.u8.wrap (x / 72057594037927936), IntKind.u8.wrap (x / 281474976710656), IntKind.u8.wrap (x / 1099511627776), IntKind.u8.wrap (x / 4294967296), IntKind.u8.wrap (x / 16777216), IntKind.u8.wrap (x / 65536), IntKind.u8.wrap (x / 256), IntKind.u8.wrap (x / 1)]
theorem bytes4_ret (hi lo : Int) (w : World) : Ret Tryz.prog 18 [.agg #[.bool false, .int .u64 hi, .int .u64 lo]] w (.string (strOfNums ((B8 lo).drop 4))) := by
  refine Ret.of (I := fun _ => True) (fun _ _ => trivial) (TTok 0 _) Tryz.func18 (by kernel_rfl) rfl rfl ?_
  repeat' ((conv => whnf); with_reducible first
    | refine TR.seq ?_ | refine TR.region (TTok 0 _) ?_ | refine Ld.mk' _ rfl ?_ | refine TR.ret ?_ | refine TR.drawn (TTok 0 _) mixed ?_
    | refine TR.cond_true rfl ?_ | refine TR.cond_false rfl ?_ | refine TR.skip ?_ | refine TR.exit ?_ | refine Need.mk' (by kernel_rfl) (fun _ => ?_) | refine TR.block ?_)
  refine TR.le ?_ (Le.promote (i := 3) (c := 3) (e := 5) (esz := 1) rfl rfl)
  refine TR.loopH (fun r : Nat => [(3, .sl 3 r 0 r), (6, .v (.int .i64 (3 - r)))]) (fun r => [(3, ⟨.row, 5, 1, r, byt (((B8 lo).drop 4).take r)⟩)]) (fun r => r ≤ 4) (fun r => 4 - r) 0 (by decide) ?_ ?_
  · repeat' ((conv => whnf); first | exact trivial | exact Fgt.mk rfl rfl rfl | refine And.intro rfl ?_ | refine And.intro ?_ ?_)
  · intro r hr
    have hr' : r = 0 ∨ r = 1 ∨ r = 2 ∨ r = 3 ∨ r = 4 := by omega
    rcases hr' with rfl | rfl | rfl | rfl | rfl
    all_goals repeat' ((conv => whnf); with_reducible first
      | refine TR.seq ?_ | refine TR.region (TTok 0 _) ?_ | refine Ld.mk' _ rfl ?_ | refine TR.ret ?_ | refine TR.drawn (TTok 0 _) mixed ?_
      | refine TR.cond_dec rfl (fun hlt => ?_) (fun hlt => ?_) | refine TR.skip ?_ | refine TR.exit ?_ | refine Need.mk' (by kernel_rfl) (fun _ => ?_) | refine Need.mk' (by decide) (fun _ => ?_)
      | refine Br.mk (fun _ => ?_) (fun _ => ?_) | refine TR.block ?_ | refine Nm.i64 (by omega) ?_ | refine Sh.shrL ?_ | refine Nm.fd (by decide) ?_ | refine x_more (TTok 0 _) ?_ | refine Nm.keep ?_)
    all_goals (conv => whnf)
    all_goals try first
      | (exfalso; omega)
      | rfl
    · refine ⟨1, by decide, by decide, ?_⟩
      repeat' ((conv => whnf); first | exact trivial | exact Fgt.mk rfl rfl rfl | refine And.intro rfl ?_ | refine And.intro ?_ ?_)
    · refine ⟨2, by decide, by decide, ?_⟩
      repeat' ((conv => whnf); first | exact trivial | exact Fgt.mk rfl rfl rfl | refine And.intro rfl ?_ | refine And.intro ?_ ?_)
    · refine ⟨3, by decide, by decide, ?_⟩
      repeat' ((conv => whnf); first | exact trivial | exact Fgt.mk rfl rfl rfl | refine And.intro rfl ?_ | refine And.intro ?_ ?_)
    · refine ⟨4, by decide, by decide, ?_⟩
      repeat' ((conv => whnf); first | exact trivial | exact Fgt.mk rfl rfl rfl | refine And.intro rfl ?_ | refine And.intro ?_ ?_)
theorem bytes16_ret (hi lo : Int) (w : World) : Ret Tryz.prog 18 [.agg #[.bool true, .int .u64 hi, .int .u64 lo]] w (.string (strOfNums (B8 hi ++ B8 lo))) := by
  refine Ret.of (I := fun _ => True) (fun _ _ => trivial) (TTok 0 _) Tryz.func18 (by kernel_rfl) rfl rfl ?_
  repeat' ((conv => whnf); with_reducible first
    | refine TR.seq ?_ | refine TR.region (TTok 0 _) ?_ | refine Ld.mk' _ rfl ?_ | refine TR.ret ?_ | refine TR.drawn (TTok 0 _) mixed ?_
    | refine TR.cond_true rfl ?_ | refine TR.cond_false rfl ?_ | refine TR.skip ?_ | refine TR.exit ?_ | refine Need.mk' (by kernel_rfl) (fun _ => ?_) | refine TR.block ?_)
  refine TR.le ?_ (Le.promote (i := 3) (c := 3) (e := 5) (esz := 1) rfl rfl)
  refine TR.loopH (fun r : Nat => [(3, .sl 3 r 0 r), (4, .v (.int .i64 (7 - r)))]) (fun r => [(3, ⟨.row, 5, 1, r, byt ((B8 hi).take r)⟩)]) (fun r => r ≤ 8) (fun r => 8 - r) 0 (by decide) ?_ ?_
  · repeat' ((conv => whnf); first | exact trivial | exact Fgt.mk rfl rfl rfl | refine And.intro rfl ?_ | refine And.intro ?_ ?_)
  · intro r hr
    have hr' : r = 0 ∨ r = 1 ∨ r = 2 ∨ r = 3 ∨ r = 4 ∨ r = 5 ∨ r = 6 ∨ r = 7 ∨ r = 8 := by omega
    rcases hr' with rfl | rfl | rfl | rfl | rfl | rfl | rfl | rfl | rfl
    all_goals repeat' ((conv => whnf); with_reducible first
      | refine TR.seq ?_ | refine TR.region (TTok 0 _) ?_ | refine Ld.mk' _ rfl ?_ | refine TR.ret ?_ | refine TR.drawn (TTok 0 _) mixed ?_
      | refine TR.cond_dec rfl (fun hlt => ?_) (fun hlt => ?_) | refine TR.skip ?_ | refine TR.exit ?_ | refine Need.mk' (by kernel_rfl) (fun _ => ?_) | refine Need.mk' (by decide) (fun _ => ?_)
      | refine Br.mk (fun _ => ?_) (fun _ => ?_) | refine TR.block ?_ | refine Nm.i64 (by omega) ?_ | refine Sh.shrL ?_ | refine Nm.fd (by decide) ?_ | refine x_more (TTok 0 _) ?_ | refine Nm.keep ?_)
    all_goals (conv => whnf)
    all_goals try first
      | (exfalso; omega)
      | rfl
    · refine ⟨1, by decide, by decide, ?_⟩
      repeat' ((conv => whnf); first | exact trivial | exact Fgt.mk rfl rfl rfl | refine And.intro rfl ?_ | refine And.intro ?_ ?_)
    · refine ⟨2, by decide, by decide, ?_⟩
      repeat' ((conv => whnf); first | exact trivial | exact Fgt.mk rfl rfl rfl | refine And.intro rfl ?_ | refine And.intro ?_ ?_)
    · refine ⟨3, by decide, by decide, ?_⟩
      repeat' ((conv => whnf); first | exact trivial | exact Fgt.mk rfl rfl rfl | refine And.intro rfl ?_ | refine And.intro ?_ ?_)
    · refine ⟨4, by decide, by decide, ?_⟩
      repeat' ((conv => whnf); first | exact trivial | exact Fgt.mk rfl rfl rfl | refine And.intro rfl ?_ | refine And.intro ?_ ?_)
    · refine ⟨5, by decide, by decide, ?_⟩
      repeat' ((conv => whnf); first | exact trivial | exact Fgt.mk rfl rfl rfl | refine And.intro rfl ?_ | refine And.intro ?_ ?_)
    · refine ⟨6, by decide, by decide, ?_⟩
      repeat' ((conv => whnf); first | exact trivial | exact Fgt.mk rfl rfl rfl | refine And.intro rfl ?_ | refine And.intro ?_ ?_)
    · refine ⟨7, by decide, by decide, ?_⟩
      repeat' ((conv => whnf); first | exact trivial | exact Fgt.mk rfl rfl rfl | refine And.intro rfl ?_ | refine And.intro ?_ ?_)
    · refine ⟨8, by decide, by decide, ?_⟩
      repeat' ((conv => whnf); first | exact trivial | exact Fgt.mk rfl rfl rfl | refine And.intro rfl ?_ | refine And.intro ?_ ?_)
    refine TR.loopH (fun r : Nat => [(3, .sl 3 (8 + r) 0 (8 + r)), (5, .v (.int .i64 (7 - r)))]) (fun r => [(3, ⟨.row, 5, 1, 8 + r, byt (B8 hi ++ (B8 lo).take r)⟩)]) (fun r => r ≤ 8) (fun r => 8 - r) 0 (by decide) ?_ ?_
    · repeat' ((conv => whnf); first | exact trivial | exact Fgt.mk rfl rfl rfl | refine And.intro rfl ?_ | refine And.intro ?_ ?_)
    · intro r hr
      have hr' : r = 0 ∨ r = 1 ∨ r = 2 ∨ r = 3 ∨ r = 4 ∨ r = 5 ∨ r = 6 ∨ r = 7 ∨ r = 8 := by omega
      rcases hr' with rfl | rfl | rfl | rfl | rfl | rfl | rfl | rfl | rfl
      all_goals repeat' ((conv => whnf); with_reducible first
        | refine TR.seq ?_ | refine TR.region (TTok 0 _) ?_ | refine Ld.mk' _ rfl ?_ | refine TR.ret ?_ | refine TR.drawn (TTok 0 _) mixed ?_
        | refine TR.cond_dec rfl (fun hlt => ?_) (fun hlt => ?_) | refine TR.skip ?_ | refine TR.exit ?_ | refine Need.mk' (by kernel_rfl) (fun _ => ?_) | refine Need.mk' (by decide) (fun _ => ?_)
        | refine Br.mk (fun _ => ?_) (fun _ => ?_) | refine TR.block ?_ | refine Nm.i64 (by omega) ?_ | refine Sh.shrL ?_ | refine Nm.fd (by decide) ?_ | refine x_more (TTok 0 _) ?_ | refine Nm.keep ?_)
      all_goals (conv => whnf)
      all_goals try first
        | (exfalso; omega)
        | rfl
      · refine ⟨1, by decide, by decide, ?_⟩
        repeat' ((conv => whnf); first | exact trivial | exact Fgt.mk rfl rfl rfl | refine And.intro rfl ?_ | refine And.intro ?_ ?_)
      · refine ⟨2, by decide, by decide, ?_⟩
        repeat' ((conv => whnf); first | exact trivial | exact Fgt.mk rfl rfl rfl | refine And.intro rfl ?_ | refine And.intro ?_ ?_)
      · refine ⟨3, by decide, by decide, ?_⟩
        repeat' ((conv => whnf); first | exact trivial | exact Fgt.mk rfl rfl rfl | refine And.intro rfl ?_ | refine And.intro ?_ ?_)
      · refine ⟨4, by decide, by decide, ?_⟩
        repeat' ((conv => whnf); first | exact trivial | exact Fgt.mk rfl rfl rfl | refine And.intro rfl ?_ | refine And.intro ?_ ?_)
      · refine ⟨5, by decide, by decide, ?_⟩
        repeat' ((conv => whnf); first | exact trivial | exact Fgt.mk rfl rfl rfl | refine And.intro rfl ?_ | refine And.intro ?_ ?_)
      · refine ⟨6, by decide, by decide, ?_⟩
        repeat' ((conv => whnf); first | exact trivial | exact Fgt.mk rfl rfl rfl | refine And.intro rfl ?_ | refine And.intro ?_ ?_)
      · refine ⟨7, by decide, by decide, ?_⟩
        repeat' ((conv => whnf); first | exact trivial | exact Fgt.mk rfl rfl rfl | refine And.intro rfl ?_ | refine And.intro ?_ ?_)
      · refine ⟨8, by decide, by decide, ?_⟩
        repeat' ((conv => whnf); first | exact trivial | exact Fgt.mk rfl rfl rfl | refine And.intro rfl ?_ | refine And.intro ?_ ?_)
end Go.Proofs.YtopadpgpmkkpgaaGreatDoor
set_option maxRecDepth 100000
namespace Go.Proofs.YtopadpgpmkkpgaaGreatDoor
open Go.SX
theorem byte_bit (x : Int) (a b : Nat) (hb : b ≤ 7) : IntKind.u8.wrap (x / 2 ^ a) / 2 ^ b % 2 = x / 2 ^ (a + b) % 2 := by
  have h1 : x / 2 ^ (a + b) = x / 2 ^ a / 2 ^ b := by
    rw [Int.pow_add, Int.ediv_ediv_of_nonneg (Int.le_of_lt (pow_pos' a))]
  rw [h1]
  generalize x / 2 ^ a = y
  have h2 : IntKind.u8.wrap y = y % 256 := by
    simp [IntKind.wrap, IntKind.signed, IntKind.bits]
  rw [h2]
  have : b = 0 ∨ b = 1 ∨ b = 2 ∨ b = 3 ∨ b = 4 ∨ b = 5 ∨ b = 6 ∨ b = 7 := by omega
  rcases this with rfl | rfl | rfl | rfl | rfl | rfl | rfl | rfl <;> simp <;> omega
theorem bAt_nums (l : List Int) (q : Nat) (n : Int) (hq : l[q]? = some n) (hn : 0 ≤ n ∧ n ≤ 255) : bAt (strOfNums l) q = n := by
  unfold bAt
  rw [strOfNums_data]
  simp only [Int.toNat_natCast, List.getD_eq_getElem?_getD, List.getElem?_map, hq, Option.map_some, Option.getD_some]
  simp
  omega
def bitsOf (v6 : Bool) (hi lo : Int) : List Int := if v6 then B8 hi ++ B8 lo else (B8 lo).drop 4
theorem bytes_ret (v6 : Bool) (hi lo : Int) (w : World) : Ret Tryz.prog 18 [.agg #[.bool v6, .int .u64 hi, .int .u64 lo]] w (.string (strOfNums (bitsOf v6 hi lo))) := by
  cases v6
  · exact bytes4_ret hi lo w
  · exact bytes16_ret hi lo w
theorem wrap8 (x : Int) : 0 ≤ IntKind.u8.wrap x ∧ IntKind.u8.wrap x ≤ 255 := by
  have h2 : IntKind.u8.wrap x = x % 256 := by simp [IntKind.wrap, IntKind.signed, IntKind.bits]
  rw [h2]; omega
theorem bitsOf_range (v6 : Bool) (hi lo : Int) (q : Nat) (n : Int) (h : (bitsOf v6 hi lo)[q]? = some n) : 0 ≤ n ∧ n ≤ 255 := by
  have hm := List.mem_of_getElem? h
  unfold bitsOf at hm
  cases v6
  · simp [B8] at hm
    rcases hm with rfl | rfl | rfl | rfl <;> exact wrap8 _
  · simp [B8] at hm
    rcases hm with rfl | rfl | rfl | rfl | rfl | rfl | rfl | rfl | rfl | rfl | rfl | rfl | rfl | rfl | rfl | rfl <;> exact wrap8 _
def wid (v6 : Bool) : Int := if v6 then 128 else 32
/-- The bits of the bytes are the number's. -/
theorem b8_get (x : Int) (j : Nat) (hj : j < 8) : (B8 x)[j]? = some (IntKind.u8.wrap (x / 2 ^ (8 * (7 - j)))) := by
  have : j = 0 ∨ j = 1 ∨ j = 2 ∨ j = 3 ∨ j = 4 ∨ j = 5 ∨ j = 6 ∨ j = 7 := by omega
  rcases this with rfl | rfl | rfl | rfl | rfl | rfl | rfl | rfl <;> rfl
theorem bits_law6 (hi lo k : Int) (h0 : 0 ≤ k) (h1 : k < 128) : bAt (strOfNums (bitsOf true hi lo)) (k / 8) / 2 ^ (7 - k % 8).toNat % 2 = bitM hi lo k := by
  obtain ⟨n, rfl⟩ : ∃ n : Nat, k = n := ⟨k.toNat, by omega⟩
  have e1 : ((n : Int) / 8) = ((n / 8 : Nat) : Int) := by omega
  have e2 : (7 - (n : Int) % 8).toNat = 7 - n % 8 := by omega
  rw [e1, e2]
  unfold bitM
  by_cases hn : n < 64
  · have hg : (bitsOf true hi lo)[n / 8]? = some (IntKind.u8.wrap (hi / 2 ^ (8 * (7 - n / 8)))) := by
      have := b8_get hi (n / 8) (by omega)
      simp only [bitsOf, if_true]
      rw [List.getElem?_append_left (by simp [B8]; omega)]
      exact this
    rw [bAt_nums _ _ _ hg (wrap8 _), byte_bit _ _ _ (by omega), if_pos (by omega)]
    congr 3
    omega
  · have hg : (bitsOf true hi lo)[n / 8]? = some (IntKind.u8.wrap (lo / 2 ^ (8 * (7 - (n / 8 - 8))))) := by
      have := b8_get lo (n / 8 - 8) (by omega)
      simp only [bitsOf, if_true]
      rw [List.getElem?_append_right (by simp [B8]; omega)]
      simpa [B8] using this
    rw [bAt_nums _ _ _ hg (wrap8 _), byte_bit _ _ _ (by omega), if_neg (by omega)]
    congr 3
    omega
end Go.Proofs.YtopadpgpmkkpgaaGreatDoor
set_option maxRecDepth 100000
namespace Go.Proofs.YtopadpgpmkkpgaaGreatDoor
open Go.SX
/-- A number's low bits are 0 just where it is a multiple. -/
theorem low_bits (x : Int) (hx : 0 ≤ x) : ∀ m : Nat, x % 2 ^ m = 0 ↔ ∀ i : Nat, i < m → x / 2 ^ i % 2 = 0
  | 0 => by simp [Int.emod_one]
  | m + 1 => by
    have hp := pow_pos' m
    have ih := low_bits x hx m
    have e : x % 2 ^ (m + 1) = x % 2 ^ m + 2 ^ m * (x / 2 ^ m % 2) := by
      rw [Int.pow_succ]
      have h1 := Int.mul_ediv_add_emod x (2 ^ m)
      have h2 := Int.mul_ediv_add_emod (x / 2 ^ m) 2
      have h3 : x / (2 ^ m * 2) = x / 2 ^ m / 2 := (Int.ediv_ediv_of_nonneg (by omega)).symm
      have h4 := Int.mul_ediv_add_emod x (2 ^ m * 2)
      rw [h3] at h4
      have h5 : 2 ^ m * (x / 2 ^ m) = 2 ^ m * 2 * (x / 2 ^ m / 2) + 2 ^ m * (x / 2 ^ m % 2) := by
        rw [Int.mul_assoc, ← Int.mul_add, h2]
      omega
    have hr : 0 ≤ x % 2 ^ m := Int.emod_nonneg _ (by omega)
    have hb : x / 2 ^ m % 2 = 0 ∨ x / 2 ^ m % 2 = 1 := by omega
    constructor
    · intro h i hi
      rw [e] at h
      rcases hb with h0 | h1
      · rw [h0] at h
        rcases Nat.lt_or_ge i m with h2 | h2
        · exact ih.1 (by simpa using h) i h2
        · have : i = m := by omega
          rw [this]; exact h0
      · rw [h1] at h; omega
    · intro h
      rw [e, h m (by omega), ih.2 (fun i hi => h i (by omega))]
      simp
theorem bits_law4 (hi lo k : Int) (hl : 0 ≤ lo ∧ lo < 4294967296) (h0 : 0 ≤ k) (h1 : k < 32) : bAt (strOfNums (bitsOf false hi lo)) (k / 8) / 2 ^ (7 - k % 8).toNat % 2 = bitM (IntKind.u64.wrap (lo * 4294967296)) 0 k := by
  obtain ⟨n, rfl⟩ : ∃ n : Nat, k = n := ⟨k.toNat, by omega⟩
  have e1 : ((n : Int) / 8) = ((n / 8 : Nat) : Int) := by omega
  have e2 : (7 - (n : Int) % 8).toNat = 7 - n % 8 := by omega
  rw [e1, e2, wrap_u64 (by omega)]
  unfold bitM
  have hg : (bitsOf false hi lo)[n / 8]? = some (IntKind.u8.wrap (lo / 2 ^ (8 * (7 - (n / 8 + 4))))) := by
    have := b8_get lo (n / 8 + 4) (by omega)
    simp only [bitsOf, Bool.false_eq_true, if_false]
    rw [List.getElem?_drop, Nat.add_comm]
    exact this
  rw [bAt_nums _ _ _ hg (wrap8 _), byte_bit _ _ _ (by omega), if_pos (by omega)]
  have e3 : (63 - (n : Int)).toNat = 32 + (31 - n) := by omega
  have e4 : lo * 4294967296 / 2 ^ 32 = lo := by
    have : (2 : Int) ^ 32 = 4294967296 := by decide
    rw [this]; omega
  have e5 : lo * 4294967296 / 2 ^ (32 + (31 - n)) = lo / 2 ^ (31 - n) := by
    rw [Int.pow_add, ← Int.ediv_ediv_of_nonneg (Int.le_of_lt (pow_pos' 32)), e4]
  rw [e3, e5]
  congr 3
  omega
end Go.Proofs.YtopadpgpmkkpgaaGreatDoor
set_option maxRecDepth 100000
namespace Go.Proofs.YtopadpgpmkkpgaaGreatDoor
open Go.SX
def ph (v6 : Bool) (hi lo : Int) : Int := if v6 then hi else IntKind.u64.wrap (lo * 4294967296)
def pl (v6 : Bool) (lo : Int) : Int := if v6 then lo else 0
def eqB (h1 l1 h2 l2 : Int) (n : Int) : Prop := ∀ j, 0 ≤ j → j < n → bitM h1 l1 j = bitM h2 l2 j
theorem path_ret (v6 : Bool) (hi lo : Int) (w : World) : Ret Tryz.prog 26 [.agg #[.bool v6, .int .u64 hi, .int .u64 lo]] w (.agg #[.int .u64 (ph v6 hi lo), .int .u64 (pl v6 lo), .int .i64 (wid v6)]) := by
  have := pathOf_ret v6 hi lo w
  cases v6 <;> simpa [pathM, ph, pl, wid] using this
theorem wrapu (x : Int) : 0 ≤ IntKind.u64.wrap x ∧ IntKind.u64.wrap x ≤ 18446744073709551615 := by
  have h2 : IntKind.u64.wrap x = x % 18446744073709551616 := by simp [IntKind.wrap, IntKind.signed, IntKind.bits]
  rw [h2]; omega
theorem ph_range (v6 : Bool) (hi lo : Int) (hh : 0 ≤ hi ∧ hi ≤ 18446744073709551615) : 0 ≤ ph v6 hi lo ∧ ph v6 hi lo ≤ 18446744073709551615 := by
  cases v6
  · exact wrapu _
  · exact hh
theorem pl_range (v6 : Bool) (lo : Int) (hl : 0 ≤ lo ∧ lo ≤ 18446744073709551615) : 0 ≤ pl v6 lo ∧ pl v6 lo ≤ 18446744073709551615 := by
  cases v6
  · simp [pl]
  · exact hl
end Go.Proofs.YtopadpgpmkkpgaaGreatDoor
set_option maxRecDepth 100000
namespace Go.Proofs.YtopadpgpmkkpgaaGreatDoor
open Go.SX
/-- The bit of an address, as the document has it. -/
def rbit (v6 : Bool) (hi lo k : Int) : Int := bAt (strOfNums (bitsOf v6 hi lo)) (k / 8) / 2 ^ (7 - k % 8).toNat % 2
theorem rbit_range (v6 : Bool) (hi lo k : Int) : 0 ≤ rbit v6 hi lo k ∧ rbit v6 hi lo k ≤ 1 := by unfold rbit; omega
def rpref (v6 : Bool) (hi lo bits : Int) : Prop := rightM v6 hi lo = true ∧ 0 ≤ bits ∧ bits ≤ wid v6 ∧ ∀ k, bits ≤ k → k < wid v6 → rbit v6 hi lo k = 0
end Go.Proofs.YtopadpgpmkkpgaaGreatDoor
set_option maxRecDepth 100000
namespace Go.Proofs.YtopadpgpmkkpgaaGreatDoor
open Go.SX
end Go.Proofs.YtopadpgpmkkpgaaGreatDoor
set_option maxRecDepth 100000
namespace Go.Proofs.YtopadpgpmkkpgaaGreatDoor
open Go.SX
theorem shl_zero (x : Int) (k : Nat) (hk : k ≤ 64) : IntKind.u64.wrap (x * 2 ^ k) = 0 ↔ x % 2 ^ (64 - k) = 0 := by
  have h2 : IntKind.u64.wrap (x * 2 ^ k) = (x * 2 ^ k) % 2 ^ 64 := by simp [IntKind.wrap, IntKind.signed, IntKind.bits]
  have e : (2 : Int) ^ 64 = 2 ^ (64 - k) * 2 ^ k := by rw [← Int.pow_add]; congr 1; omega
  have hp := pow_pos' k
  rw [h2, e, ← Int.dvd_iff_emod_eq_zero, ← Int.dvd_iff_emod_eq_zero]
  exact Int.mul_dvd_mul_iff_right (by omega)
end Go.Proofs.YtopadpgpmkkpgaaGreatDoor
namespace Go.Proofs.YtopadpgpmkkpgaaGreatDoor
open Go.SX
theorem low_all (x : Int) (hx : 0 ≤ x) (k : Nat) (hk : k ≤ 64) : IntKind.u64.wrap (x * 2 ^ k) = 0 ↔ ∀ j : Nat, k ≤ j → j < 64 → x / 2 ^ (63 - j) % 2 = 0 := by
  rw [shl_zero x k hk, low_bits x hx]
  constructor
  · intro h j h1 h2
    exact h (63 - j) (by omega)
  · intro h i hi
    have := h (63 - i) (by omega) (by omega)
    rwa [show 63 - (63 - i) = i by omega] at this
theorem pref_law6 (hi lo bits : Int) (hh : 0 ≤ hi ∧ hi ≤ 18446744073709551615) (hl : 0 ≤ lo ∧ lo ≤ 18446744073709551615) : prefM true hi lo bits = true ↔ rpref true hi lo bits := by
  have key : 0 ≤ bits → bits ≤ 128 → ((restHi hi bits = 0 ∧ restLo lo bits = 0) ↔ ∀ k, bits ≤ k → k < 128 → rbit true hi lo k = 0) := by
    intro b0 b1
    have hb : ∀ k, 0 ≤ k → k < 128 → rbit true hi lo k = bitM hi lo k := fun k h0 h1 => bits_law6 hi lo k h0 h1
    by_cases h64 : 64 ≤ bits
    · rw [restHi, restLo, if_pos h64, if_pos h64, low_all lo hl.1 _ (by omega)]
      constructor
      · rintro ⟨_, h⟩ k k0 k1
        rw [hb k (by omega) k1, bitM, if_neg (by omega)]
        have := h (k - 64).toNat (by omega) (by omega)
        rwa [show 63 - (k - 64).toNat = (127 - k).toNat by omega] at this
      · intro h
        refine ⟨rfl, fun j j0 j1 => ?_⟩
        have := h (j + 64) (by omega) (by omega)
        rw [hb _ (by omega) (by omega), bitM, if_neg (by omega)] at this
        rwa [show (127 - ((j : Int) + 64)).toNat = 63 - j by omega] at this
    · rw [restHi, restLo, if_neg h64, if_neg h64, low_all hi hh.1 _ (by omega)]
      have hlo : lo = 0 ↔ ∀ j : Nat, j < 64 → lo / 2 ^ j % 2 = 0 := by
        rw [← low_bits lo hl.1 64]
        omega
      rw [hlo]
      constructor
      · rintro ⟨h, h'⟩ k k0 k1
        rw [hb k (by omega) k1, bitM]
        split
        · have := h k.toNat (by omega) (by omega)
          rwa [show 63 - k.toNat = (63 - k).toNat by omega] at this
        · exact h' _ (by omega)
      · intro h
        refine ⟨fun j j0 j1 => ?_, fun j j1 => ?_⟩
        · have := h j (by omega) (by omega)
          rw [hb _ (by omega) (by omega), bitM, if_pos (by omega)] at this
          rwa [show (63 - (j : Int)).toNat = 63 - j by omega] at this
        · have := h (127 - j) (by omega) (by omega)
          rw [hb _ (by omega) (by omega), bitM, if_neg (by omega)] at this
          rwa [show (127 - (127 - (j : Int))).toNat = j by omega] at this
  unfold rpref
  simp only [prefM, wid, if_true]
  constructor
  · intro h
    simp at h
    obtain ⟨⟨⟨h1, h2⟩, h3⟩, h4⟩ := h
    exact ⟨h1, by omega, by omega, (key (by omega) (by omega)).1 h4⟩
  · rintro ⟨h1, h2, h3, h4⟩
    have := (key h2 h3).2 h4
    simp [h1, this]
    omega
end Go.Proofs.YtopadpgpmkkpgaaGreatDoor
set_option maxRecDepth 100000
namespace Go.Proofs.YtopadpgpmkkpgaaGreatDoor
open Go.SX
theorem pref_law4 (hi lo bits : Int) (hl : 0 ≤ lo ∧ lo ≤ 18446744073709551615) : prefM false hi lo bits = true ↔ rpref false hi lo bits := by
  have key : 0 ≤ lo ∧ lo < 4294967296 → 0 ≤ bits → bits ≤ 32 → (restHi (IntKind.u64.wrap (lo * 4294967296)) bits = 0 ↔ ∀ k, bits ≤ k → k < 32 → rbit false hi lo k = 0) := by
    intro hlo b0 b1
    have hb : ∀ k, 0 ≤ k → k < 32 → rbit false hi lo k = bitM (IntKind.u64.wrap (lo * 4294967296)) 0 k := fun k h0 h1 => bits_law4 hi lo k hlo h0 h1
    have hw : IntKind.u64.wrap (lo * 4294967296) = lo * 4294967296 := wrap_u64 (by omega)
    rw [restHi, if_neg (by omega), low_all _ (wrapu _).1 _ (by omega)]
    constructor
    · intro h k k0 k1
      rw [hb k (by omega) k1, bitM, if_pos (by omega)]
      have := h k.toNat (by omega) (by omega)
      rwa [show 63 - k.toNat = (63 - k).toNat by omega] at this
    · intro h j j0 j1
      by_cases hj : j < 32
      · have := h j (by omega) (by omega)
        rw [hb _ (by omega) (by omega), bitM, if_pos (by omega)] at this
        rwa [show (63 - (j : Int)).toNat = 63 - j by omega] at this
      · rw [hw]
        have e : lo * 4294967296 / 2 ^ (63 - j) = lo * 2 ^ (32 - (63 - j)) := by
          have : (4294967296 : Int) = 2 ^ (32 - (63 - j)) * 2 ^ (63 - j) := by
            rw [← Int.pow_add, show 32 - (63 - j) + (63 - j) = 32 by omega]; decide
          rw [this, ← Int.mul_assoc, Int.mul_ediv_cancel _ (by have := pow_pos' (63 - j); omega)]
        rw [e, show 32 - (63 - j) = (32 - (63 - j) - 1) + 1 by omega, Int.pow_succ, ← Int.mul_assoc]
        omega
  unfold rpref
  simp only [prefM, wid, Bool.false_eq_true, if_false]
  have hr : rightM false hi lo = true → lo < 4294967296 := by
    intro h; simp [rightM] at h; omega
  have hz : restLo 0 bits = 0 := by
    unfold restLo; split
    · simp [IntKind.wrap, IntKind.signed, IntKind.bits]
    · rfl
  constructor
  · intro h
    simp [hz] at h
    obtain ⟨⟨⟨h1, h2⟩, h3⟩, h4⟩ := h
    exact ⟨h1, by omega, by omega, (key ⟨hl.1, hr h1⟩ (by omega) (by omega)).1 h4⟩
  · rintro ⟨h1, h2, h3, h4⟩
    have := (key ⟨hl.1, hr h1⟩ h2 h3).2 h4
    simp [h1, this, hz]
    omega
end Go.Proofs.YtopadpgpmkkpgaaGreatDoor
set_option maxRecDepth 100000
namespace Go.Proofs.YtopadpgpmkkpgaaGreatDoor
open Go.SX
theorem right_lo {hi lo : Int} (h0 : 0 ≤ lo) (h : rightM false hi lo = true) : 0 ≤ lo ∧ lo < 4294967296 := by
  simp [rightM] at h; omega
theorem rbit_eq (v6 : Bool) (hi lo k : Int) (hl : 0 ≤ lo) (hr : rightM v6 hi lo = true) (h0 : 0 ≤ k) (h1 : k < wid v6) : rbit v6 hi lo k = bitM (ph v6 hi lo) (pl v6 lo) k := by
  cases v6
  · exact bits_law4 hi lo k (right_lo hl hr) h0 (by simpa [wid] using h1)
  · exact bits_law6 hi lo k h0 (by simpa [wid] using h1)
end Go.Proofs.YtopadpgpmkkpgaaGreatDoor
set_option maxRecDepth 100000
namespace Go.Proofs.YtopadpgpmkkpgaaGreatDoor
open Go.SX
def D36 : ByteArray := ⟨#[48, 49, 50, 51, 52, 53, 54, 55, 56, 57, 97, 98, 99, 100, 101, 102, 103, 104, 105, 106, 107, 108, 109, 110, 111, 112, 113, 114, 115, 116, 117, 118, 119, 120, 121, 122]⟩
/-- Numbers below 65536, in hexadecimal digits. -/
def hexL (v : Int) : List Int :=
  if v < 16 then [bAt D36 v]
  else if v < 256 then [bAt D36 (v / 16), bAt D36 (v % 16)]
  else if v < 4096 then [bAt D36 (v / 16 / 16), bAt D36 (v / 16 % 16), bAt D36 (v % 16)]
  else [bAt D36 (v / 16 / 16 / 16), bAt D36 (v / 16 / 16 % 16), bAt D36 (v / 16 % 16), bAt D36 (v % 16)]
theorem tz_run : runF KK GG (fun f => Tryz.prog.funcs[f]?) TT 1000 12 Tryz.f95 [.v (.int .u64 16)] (eqInt .i64 4) = true := by kernel_rfl
theorem tz_ret (w : World) (hI : I13 w) : Ret Tryz.prog 95 [.int .u64 16] w (.int .i64 4) := by
  have h := tz_run
  unfold runF at h
  split at h
  · rename_i c hb
    exact Ret.runB (I := I13) (fun w' hm => hI.mod hm) (fun f => Tryz.prog.funcs[f]?) GG (fun w hw => hw) KK (KKok I13) 1000 12 (TTok 0 I13) mixed (fun f fn hf => hf) Tryz.func95 (by kernel_rfl) hb h eqInt_eq
  · cases h
theorem Nm.and15 {a : Int} {f : Int → Prop} (h : 0 ≤ a ∧ a ≤ 18446744073709551615) (k : f (a % 16)) : Nm (IntKind.u64.wrap (BitVec.ofInt IntKind.u64.bits a &&& BitVec.ofInt IntKind.u64.bits 15).toNat) f :=
  ⟨_, and_mask (n := 4) h (by omega), k⟩
theorem hex_ret (v : Int) (hv : 0 ≤ v ∧ v < 65536) (w : World) (hI : I13 w) : Ret Tryz.prog 45 [.slice none 0 0, .int .u64 v, .int .i64 16, .bool false, .bool false] w (.tuple #[.slice none 0 0, .string (strOfNums (hexL v))]) := by
  have hc : v < 16 ∨ (16 ≤ v ∧ v < 256) ∨ (256 ≤ v ∧ v < 4096) ∨ 4096 ≤ v := by omega
  rcases hc with hc | hc | hc | hc
  all_goals refine Ret.tj (I := I13) (fun w' hm => hI.mod hm) (TTok 0 _) Tryz.func45 (by kernel_rfl) rfl ?_
  all_goals repeat' ((conv => whnf); with_reducible first
    | refine TJ.seq ?_ | refine TJ.region (TTok _ _) ?_ | refine TJ.drawn (TTok _ _) mixed ?_ | refine TJ.cond rfl ?_ | refine TJ.block ?_ | refine TJ.loop ?_ | refine LJ.step ?_ | refine TJ.ret ?_ | refine TJ.exit ?_ | refine TJ.skip ?_
    | refine Br.cond_t ?_ | refine Br.cond_f ?_ | refine Br.yes (by first | decide | (apply decide_eq_true; omega)) ?_ | refine Br.non (by first | decide | (apply decide_eq_false; omega)) ?_ | refine Ld.mk' _ rfl ?_ | refine Need.mk (by first | decide | omega | exact ⟨by omega, Int.lt_of_lt_of_le (b := 36) (by omega) (by decide)⟩ | kernel_rfl) ?_
    | refine Nm.and15 (by omega) ?_ | refine Nm.mk' 15 (by decide) ?_ | refine Nm.i64 (by omega) ?_ | refine Nm.u64 (by omega) ?_ | refine Nm.mk' 4 (by decide) ?_ | refine Sh.shrL ?_ | refine Nm.fd (by decide) ?_ | refine Nm.keep ?_
    | refine x_ret (f := 94) rfl rfl (fun w hw => pow2_ret w hw) ?_ | refine x_ret (f := 95) rfl rfl (fun w hw => tz_ret w hw) ?_
    | refine x_exq (TTok _ _) ?_)
  all_goals (conv => whnf)
  all_goals (simp only [val, valL, hexL])
  · rw [if_pos hc]; rfl
  · rw [if_neg (by omega), if_pos hc.2]; rfl
  · rw [if_neg (by omega), if_neg (by omega), if_pos hc.2]
    rfl
  · rw [if_neg (by omega), if_neg (by omega), if_neg (by omega)]; rfl
def hexS (v : Int) : ByteArray := strOfNums (hexL v)
def decS (v : Int) : ByteArray := ⟨⟨dec3 v.toNat⟩⟩
theorem fmt16_ret (v : Int) (hv : 0 ≤ v ∧ v < 65536) (w : World) (hI : I13 w) : Ret Tryz.prog 28 [.int .u64 v, .int .i64 16] w (.string (hexS v)) := by
  refine Ret.tj (I := I13) (fun w' hm => hI.mod hm) (TTok 0 _) Tryz.func28 (by kernel_rfl) rfl ?_
  repeat' ((conv => whnf); with_reducible first
    | refine TJ.seq ?_ | refine TJ.region (TTok _ _) ?_ | refine TJ.drawn (TTok _ _) mixed ?_ | refine TJ.cond rfl ?_ | refine TJ.block ?_ | refine TJ.ret ?_ | refine TJ.skip ?_
    | refine Br.yes (by first | decide | (apply decide_eq_true; omega)) ?_ | refine Br.non (by first | decide | (apply decide_eq_false; omega)) ?_
    | refine x_ret (f := 45) rfl rfl (fun w hw => hex_ret v hv w hw) ?_)
  all_goals (conv => whnf)
  all_goals rfl
theorem fmt_ret (v6 : Bool) (v : Int) (hv : 0 ≤ v ∧ v < (if v6 then 65536 else 256)) (w : World) (hI : I13 w) : Ret Tryz.prog 15 [.int .u64 v, .int .i64 (if v6 then 16 else 10)] w (.string (if v6 then hexS v else decS v)) := by
  have key' : ∀ w, I13 w → Ret Tryz.prog 28 [.int .u64 v, .int .i64 (if v6 then 16 else 10)] w (.string (if v6 then hexS v else decS v)) := fun w hw => by
    cases v6 with
    | true => exact fmt16_ret v (by simpa using hv) w hw
    | false =>
      have h2 : 0 ≤ v ∧ v < 256 := by simpa using hv
      have := dec_ret v.toNat (by omega) w hw
      rwa [show ((v.toNat : Nat) : Int) = v by omega] at this
  refine Ret.tj (I := I13) (fun w' hm => hI.mod hm) (TTok 0 _) Tryz.func15 (by kernel_rfl) rfl ?_
  repeat' ((conv => whnf); with_reducible first
    | refine TJ.seq ?_ | refine TJ.region (TTok _ _) ?_ | refine TJ.ret ?_ | refine x_ret (f := 28) rfl rfl (fun w hw => key' w hw) ?_)
  all_goals (conv => whnf)
  all_goals rfl
theorem groups_ret (v6 : Bool) (w : World) : Ret Tryz.prog 14 [.bool v6] w (.tuple #[.int .i64 (if v6 then 8 else 4), .int .i64 (if v6 then 16 else 8), .int .i64 (if v6 then 16 else 10), .string (if v6 then ⟨#[58]⟩ else ⟨#[46]⟩)]) := by
  cases v6
  all_goals refine Ret.tj (I := fun _ => True) (fun _ _ => trivial) (TTok 0 _) Tryz.func14 (by kernel_rfl) rfl ?_
  all_goals repeat' ((conv => whnf); with_reducible first
    | refine TJ.seq ?_ | refine TJ.region (TTok _ _) ?_ | refine TJ.cond rfl ?_ | refine TJ.ret ?_ | refine TJ.skip ?_ | refine Br.tt ?_ | refine Br.ff ?_)
  all_goals (conv => whnf)
  all_goals rfl
end Go.Proofs.YtopadpgpmkkpgaaGreatDoor
set_option maxRecDepth 100000
namespace Go.Proofs.YtopadpgpmkkpgaaGreatDoor
open Go.SX
/-! ### acl.Text -/
def grp6 (hi lo : Int) : List Int := [hi / 281474976710656 % 65536, hi / 4294967296 % 65536, hi / 65536 % 65536, hi / 1 % 65536, lo / 281474976710656 % 65536, lo / 4294967296 % 65536, lo / 65536 % 65536, lo / 1 % 65536]
def grp4 (lo : Int) : List Int := [lo / 16777216 % 256, lo / 65536 % 256, lo / 256 % 256, lo / 1 % 256]
def partsS (v6 : Bool) (hi lo : Int) : List ByteArray := if v6 then (grp6 hi lo).map hexS else (grp4 lo).map decS
def sepS (v6 : Bool) : ByteArray := if v6 then ⟨#[58]⟩ else ⟨#[46]⟩
def addrText (v6 : Bool) (hi lo : Int) : ByteArray := ⟨⟨Lib.join ((partsS v6 hi lo).map (·.data.toList)) (sepS v6).data.toList⟩⟩
def textV (v6 : Bool) (hi lo : Int) : Value := if rightM v6 hi lo then .tuple #[.string (addrText v6 hi lo), .int .i64 0] else .tuple #[.string ⟨#[]⟩, .int .i64 1]
theorem hexS_len (v : Int) : (hexS v).data.toList.length ≤ 4 := by
  have : (hexS v).data.toList.length = (hexL v).length := by
    have := strOfNums_size (hexL v)
    simpa [hexS] using this
  rw [this]
  unfold hexL
  split
  · simp
  split
  · simp
  split <;> simp
theorem decS_len (v : Int) : (decS v).data.toList.length ≤ 4 := by
  simp only [decS, dec3]
  split
  · simp
  split <;> simp
theorem parts_len (v6 : Bool) (hi lo : Int) : (Lib.join ((partsS v6 hi lo).map (·.data.toList)) (sepS v6).data.toList).length ≤ 140737488355328 := by
  have h := join_le (sepS v6).data.toList (by cases v6 <;> simp [sepS]) 4 ((partsS v6 hi lo).map (·.data.toList)) (by
    intro x hx
    obtain ⟨y, hy, rfl⟩ := List.mem_map.1 hx
    unfold partsS at hy
    cases v6
    · obtain ⟨z, _, rfl⟩ := List.mem_map.1 hy
      exact decS_len z
    · obtain ⟨z, _, rfl⟩ := List.mem_map.1 hy
      exact hexS_len z)
  have h2 : ((partsS v6 hi lo).map (·.data.toList)).length ≤ 8 := by cases v6 <;> simp [partsS, grp4, grp6]
  have := Nat.mul_le_mul_left 5 h2
  omega
theorem Nm.and16 {a : Int} {f : Int → Prop} (h : 0 ≤ a ∧ a ≤ 18446744073709551615) (k : f (a % 65536)) : Nm (IntKind.u64.wrap (BitVec.ofInt IntKind.u64.bits a &&& BitVec.ofInt IntKind.u64.bits 65535).toNat) f :=
  ⟨_, and_mask (n := 16) h (by omega), k⟩
theorem Nm.and8 {a : Int} {f : Int → Prop} (h : 0 ≤ a ∧ a ≤ 18446744073709551615) (k : f (a % 256)) : Nm (IntKind.u64.wrap (BitVec.ofInt IntKind.u64.bits a &&& BitVec.ofInt IntKind.u64.bits 255).toNat) f :=
  ⟨_, and_mask (n := 8) h (by omega), k⟩
set_option maxHeartbeats 4000000 in
theorem text_ret (v6 : Bool) (hi lo : Int) (w : World) (hI : I13 w) (hh : 0 ≤ hi ∧ hi ≤ 18446744073709551615) (hl : 0 ≤ lo ∧ lo ≤ 18446744073709551615) : Ret Tryz.prog 5 [.agg #[.bool v6, .int .u64 hi, .int .u64 lo]] w (textV v6 hi lo) := by
  have hJ := parts_len v6 hi lo
  obtain ⟨r, hr⟩ : ∃ r, rightM v6 hi lo = r := ⟨_, rfl⟩
  have hrr : ∀ w, Ret Tryz.prog 9 [.agg #[.bool v6, .int .u64 hi, .int .u64 lo]] w (.bool r) := fun w => by rw [← hr]; exact right_ret _ _ _ w
  have f6 : ∀ v, 0 ≤ v ∧ v < 65536 → ∀ w, I13 w → Ret Tryz.prog 15 [.int .u64 v, .int .i64 16] w (.string (hexS v)) := fun v hv w hw => by simpa using fmt_ret true v (by simpa using hv) w hw
  have f4 : ∀ v, 0 ≤ v ∧ v < 256 → ∀ w, I13 w → Ret Tryz.prog 15 [.int .u64 v, .int .i64 10] w (.string (decS v)) := fun v hv w hw => by simpa using fmt_ret false v (by simpa using hv) w hw
  have g6 : ∀ w, Ret Tryz.prog 14 [.bool true] w (.tuple #[.int .i64 8, .int .i64 16, .int .i64 16, .string ⟨#[58]⟩]) := fun w => groups_ret true w
  have g4 : ∀ w, Ret Tryz.prog 14 [.bool false] w (.tuple #[.int .i64 4, .int .i64 8, .int .i64 10, .string ⟨#[46]⟩]) := fun w => groups_ret false w
  unfold textV
  rw [hr]
  have hc : (r = true ∨ r = false) ∧ (v6 = true ∨ v6 = false) := by cases r <;> cases v6 <;> simp
  obtain ⟨hc1, hc2⟩ := hc
  rcases hc1 with rfl | rfl <;> rcases hc2 with rfl | rfl
  all_goals refine Ret.tj (I := I13) (fun w' hm => hI.mod hm) (TTok 0 _) Tryz.func5 (by kernel_rfl) rfl ?_
  all_goals repeat' (
    (conv => whnf)
    first
      | (with_reducible first
          | refine TJ.seq ?_
          | refine TJ.region (TTok _ _) ?_
          | refine TJ.drawn (TTok _ _) mixed ?_
          | refine TJ.cond rfl ?_
          | refine TJ.block ?_
          | refine TJ.loop ?_
          | refine LJ.step ?_
          | refine TJ.ret ?_
          | refine TJ.exit ?_
          | refine TJ.skip ?_
          | refine TJ.scope ?_
          | refine TJ.label ?_
          | refine Br.cond_t ?_
          | refine Br.cond_f ?_
          | refine Br.yes (by first | decide | assumption | (apply decide_eq_true; omega)) ?_
          | refine Br.non (by first | decide | assumption | (apply decide_eq_false; omega)) ?_
          | refine Nm.and16 (by omega) ?_
          | refine Nm.and8 (by omega) ?_
          | refine Nm.mk' 65535 (by decide) ?_
          | refine Nm.mk' 255 (by decide) ?_
          | refine Ld.mk' _ rfl ?_
          | refine Need.mk (by first | decide | omega | kernel_rfl) ?_
          | refine Nm.i64 (by omega) ?_
          | refine Nm.u64 (by omega) ?_
          | refine Nm.u8 (by omega) ?_
          | refine Sh.shrL ?_
          | refine Sh.shlL ?_
          | refine Nm.fd (by decide) ?_
          | refine x_ret (f := 9) rfl rfl (fun w _ => hrr w) ?_
          | refine x_ret (f := 14) rfl rfl (fun w _ => g6 w) ?_
          | refine x_ret (f := 14) rfl rfl (fun w _ => g4 w) ?_
          | refine x_ret (f := 15) rfl rfl (fun w hw => f6 _ (by omega) w hw) ?_
          | refine x_ret (f := 15) rfl rfl (fun w hw => f4 _ (by omega) w hw) ?_)
      | refine x_join (X := ⟨Tryz.prog, TT, _, I13⟩) (KKok I13 16 kJoin rfl) rfl rfl rfl rfl rfl rfl rfl rfl rfl (by decide) hJ ?_
      | refine x_exq (TTok _ _) ?_)
  all_goals (conv => whnf)
  all_goals try rfl
end Go.Proofs.YtopadpgpmkkpgaaGreatDoor
set_option maxRecDepth 100000
namespace Go.Proofs.YtopadpgpmkkpgaaGreatDoor
open Go.SX
/-! ### strconv.ParseUint, of little numbers -/
def low (c : Int) : Int := IntKind.u8.wrap (BitVec.ofInt IntKind.u8.bits c ||| BitVec.ofInt IntKind.u8.bits 32).toNat
theorem low_range (c : Int) : 0 ≤ low c ∧ low c ≤ 255 := wrap8 _
theorem lower_ret (c : Int) (w : World) : Ret Tryz.prog 68 [.int .u8 c] w (.int .u8 (low c)) := by
  refine Ret.tj (I := fun _ => True) (fun _ _ => trivial) (TTok 0 _) Tryz.func68 (by kernel_rfl) rfl ?_
  repeat' (
    (conv => whnf)
    first
      | (with_reducible first
          | refine TJ.seq ?_
          | refine TJ.region (TTok _ _) ?_
          | refine TJ.drawn (TTok _ _) mixed ?_
          | refine TJ.cond rfl ?_
          | refine TJ.block ?_
          | refine TJ.loop ?_
          | refine LJ.step ?_
          | refine TJ.ret ?_
          | refine TJ.exit ?_
          | refine TJ.skip ?_
          | refine TJ.scope ?_
          | refine TJ.label ?_
          | refine Nm.keep ?_))
  all_goals (conv => whnf)
  all_goals rfl
def badV : Value := .tuple #[.int .u64 0, .iface 136 (.int .i64 2)]
def greatV (max : Int) : Value := .tuple #[.int .u64 max, .iface 136 (.int .i64 1)]
def goodV (n : Int) : Value := .tuple #[.int .u64 n, .nilIface]
/-- A digit. -/
def dig (c : Int) : Option Int := if 48 ≤ c ∧ c ≤ 57 then some (c - 48) else if 97 ≤ low c ∧ low c ≤ 122 then some (low c - 97 + 10) else none
def puR (base max : Int) : Int → List Int → Value
  | n, [] => goodV n
  | n, c :: r => match dig c with
    | none => badV
    | some d => if base ≤ d then badV else if max < n * base + d then greatV max else puR base max (n * base + d) r
theorem subL_byt (ns : List Int) (q : Nat) (n : Int) (h : ns[q]? = some n) : subL (byt ns) q 1 = some [.v (.int .u8 n)] := by
  induction ns generalizing q with
  | nil => simp at h
  | cons m r ih =>
    cases q with
    | zero =>
      simp only [List.getElem?_cons_zero, Option.some.injEq] at h
      subst h
      cases r <;> rfl
    | succ q =>
      simp only [byt, List.map_cons, subL]
      exact ih q (by simpa using h)
theorem sInts_get (s : ByteArray) (q : Nat) (h : q < s.size) : (sInts s)[q]? = some (bAt s q) := by
  have h' : q < s.data.toList.length := by simpa using h
  simp only [sInts, List.getElem?_map, List.getElem?_eq_getElem h', Option.map_some, bAt, Int.toNat_natCast, List.getD, Option.getD_some]
theorem bAt_range (s : ByteArray) (q : Int) : 0 ≤ bAt s q ∧ bAt s q ≤ 255 := by
  unfold bAt
  have := (s.data.toList.getD q.toNat 0).toNat_lt
  omega
def pbase (v6 : Bool) : Int := if v6 then 16 else 10
def pbits (v6 : Bool) : Int := if v6 then 16 else 8
def pmax (v6 : Bool) : Int := if v6 then 65535 else 255
def puV (v6 : Bool) (s : ByteArray) : Value := if s.size = 0 then badV else puR (pbase v6) (pmax v6) 0 (sInts s)
theorem dig_a {c : Int} (h : 48 ≤ c ∧ c ≤ 57) : dig c = some (c - 48) := by rw [dig, if_pos h]
theorem dig_b {c : Int} (h : ¬ (48 ≤ c ∧ c ≤ 57)) (h2 : 97 ≤ low c ∧ low c ≤ 122) : dig c = some (low c - 97 + 10) := by rw [dig, if_neg h, if_pos h2]
theorem dig_n {c : Int} (h : ¬ (48 ≤ c ∧ c ≤ 57)) (h2 : ¬ (97 ≤ low c ∧ low c ≤ 122)) : dig c = none := by rw [dig, if_neg h, if_neg h2]
theorem puR_bad1 {b m n c : Int} {r : List Int} (h : dig c = none) : puR b m n (c :: r) = badV := by simp only [puR, h]
theorem puR_bad2 {b m n c d : Int} {r : List Int} (h : dig c = some d) (hb : b ≤ d) : puR b m n (c :: r) = badV := by simp only [puR, h, if_pos hb]
theorem puR_great {b m n c d : Int} {r : List Int} (h : dig c = some d) (hb : ¬ b ≤ d) (hm : m < n * b + d) : puR b m n (c :: r) = greatV m := by simp only [puR, h, if_neg hb, if_pos hm]
theorem puR_go {b m n c d : Int} {r : List Int} (h : dig c = some d) (hb : ¬ b ≤ d) (hm : ¬ m < n * b + d) : puR b m n (c :: r) = puR b m (n * b + d) r := by simp only [puR, h, if_neg hb, if_neg hm]
theorem drop_bAt (s : ByteArray) (q : Int) (h0 : 0 ≤ q) (h1 : q < s.size) : (sInts s).drop q.toNat = bAt s q :: (sInts s).drop (q + 1).toNat := by
  have hl : q.toNat < (sInts s).length := by rw [sInts_length]; omega
  have h2 := sInts_get s q.toNat (by omega)
  rw [show ((q.toNat : Nat) : Int) = q by omega, List.getElem?_eq_getElem hl] at h2
  rw [List.drop_eq_getElem_cons hl, Option.some.inj h2, show (q + 1).toNat = q.toNat + 1 by omega]
end Go.Proofs.YtopadpgpmkkpgaaGreatDoor
set_option maxRecDepth 100000
namespace Go.Proofs.YtopadpgpmkkpgaaGreatDoor
open Go.SX
set_option maxHeartbeats 4000000 in
theorem pu_ret6 (s : ByteArray) (w : World) (hs : s.size < 4294967281) : Ret Tryz.prog 38 [.string s, .int .i64 16, .int .i64 16] w (if s = ⟨#[]⟩ then badV else puR 16 65535 0 (sInts s)) := by
  have low1 : ∀ c w, Ret Tryz.prog 68 [.int .u8 c] w (.int .u8 (low c)) := fun c w => lower_ret c w
  refine Ret.of (I := fun _ => True) (fun _ _ => trivial) (TTok 0 _) Tryz.func38 (by kernel_rfl) rfl rfl ?_
  repeat' (
    (conv => whnf)
    first
      | (with_reducible first
          | refine TR.seq ?_
          | refine TR.region (TTok _ _) ?_
          | refine TR.drawn (TTok _ _) mixed ?_
          | refine TR.block ?_
          | refine TR.ret ?_
          | refine TR.exit ?_
          | refine TR.skip ?_
          | refine TR.condB rfl ?_
          | refine Br.cond_t ?_
          | refine Br.cond_f ?_
          | refine Br.yes (by first | decide | assumption | (apply decide_eq_true; omega)) ?_
          | refine Br.non (by first | decide | assumption | (apply decide_eq_false; omega)) ?_
          | refine Br.cond_ff ?_
          | refine Br.eqT (by omega) ?_
          | refine Br.eqF (by omega) ?_
          | refine Br.neT (by omega) ?_
          | refine Br.neF (by omega) ?_
          | refine Br.dec (fun hc => ?_) (fun hc => ?_)
          | refine Nm.mk' 65535 (by decide) ?_
          | refine Ld.mk' _ rfl ?_
          | refine Need.mk (by first | decide | omega | kernel_rfl) ?_
          | refine Nm.i64 (by omega) ?_
          | refine Nm.u64 (by omega) ?_
          | refine Nm.u8 (by omega) ?_
          | refine Sh.shrL ?_
          | refine Sh.shlL ?_
          | refine Nm.fd (by decide) ?_
          | refine x_str_bytes (d := 5) (TTok _ _) rfl rfl rfl rfl rfl rfl rfl rfl rfl ?_))
  · (conv => whnf)
    rw [if_pos hc]
    rfl
  rw [if_neg hc]
  have hlen : (sInts s).length = s.size := sInts_length s
  refine TR.loopH (fun x : Int × Int => [(101, .v (.int .i64 x.1)), (13, .v (.int .u64 x.2)), (12, .v (.bool false))]) (fun _ => []) (fun x => 0 ≤ x.1 ∧ x.1 ≤ s.size ∧ 0 ≤ x.2 ∧ x.2 ≤ 65535 ∧ puR 16 65535 x.2 ((sInts s).drop x.1.toNat) = puR 16 65535 0 (sInts s)) (fun x => (s.size - x.1).toNat) (0, 0) ⟨by omega, by omega, by omega, by omega, by simp⟩ ?_ ?_
  · repeat' ((conv => whnf); first | exact trivial | exact Fgt.nil | exact Fgt.mk rfl rfl rfl | refine And.intro rfl ?_ | refine And.intro ?_ ?_)
  · rintro ⟨q, n⟩ ⟨q0, q1, n0, n1, hV⟩
    simp only at q0 q1 n0 n1 hV
    have hb := bAt_range s q
    have hl := low_range (bAt s q)
    repeat' (
      (conv => whnf)
      first
        | (with_reducible first
            | refine TR.seq ?_
            | refine TR.region (TTok _ _) ?_
            | refine TR.drawn (TTok _ _) mixed ?_
            | refine TR.block ?_
            | refine TR.ret ?_
            | refine TR.exit ?_
            | refine TR.skip ?_
            | refine TR.condB rfl ?_
            | refine Br.cond_t ?_
            | refine Br.cond_f ?_
            | refine Br.yes (by first | decide | assumption | (apply decide_eq_true; omega)) ?_
            | refine Br.non (by first | decide | assumption | (apply decide_eq_false; omega)) ?_
            | refine Br.cond_ff ?_
            | refine Br.eqT (by omega) ?_
            | refine Br.eqF (by omega) ?_
            | refine Br.neT (by omega) ?_
            | refine Br.neF (by omega) ?_
            | refine Ld.mk' _ rfl ?_
            | refine Need.mk (by first | decide | omega | kernel_rfl) ?_
            | refine Nm.i64 (by omega) ?_
            | refine Nm.u64 (by omega) ?_
            | refine Nm.u8 (by omega) ?_
            | refine Br.dec (fun hc => ?_) (fun hc => ?_)
            | refine Br.eq (fun hc => ?_) (fun hc => ?_)
            | refine Br.ne (fun hc => ?_) (fun hc => ?_)
            | refine Br.mk (fun hc => ?_) (fun hc => ?_)
            | refine x_ret (f := 68) rfl rfl (fun w _ => low1 _ w) ?_)
        | refine Ld.mk' [.v (.int .u8 (bAt s q))] (by have h := subL_byt (sInts s) q.toNat (bAt s q) (by have := sInts_get s q.toNat (by omega); rwa [show ((q.toNat : Nat) : Int) = q by omega] at this); rw [show q.toNat = 0 * 1 + q.toNat * 1 by omega] at h; exact h) ?_)
    all_goals (conv => whnf)
    all_goals dsimp only at *
    all_goals try
      have hd := drop_bAt s q q0 (by omega)
      first
        | (have e := puR_bad1 (b := 16) (m := 65535) (n := n) (r := (sInts s).drop (q + 1).toNat) (dig_n (c := bAt s q) (by omega) (by omega)); rw [← hV, hd, e]; rfl)
        | (have e := puR_bad2 (b := 16) (m := 65535) (n := n) (r := (sInts s).drop (q + 1).toNat) (dig_a (c := bAt s q) (by omega)) (by omega); rw [← hV, hd, e]; rfl)
        | (have e := puR_bad2 (b := 16) (m := 65535) (n := n) (r := (sInts s).drop (q + 1).toNat) (dig_b (c := bAt s q) (by omega) (by omega)) (by omega); rw [← hV, hd, e]; rfl)
        | (have e := puR_great (b := 16) (m := 65535) (n := n) (r := (sInts s).drop (q + 1).toNat) (dig_a (c := bAt s q) (by omega)) (by omega) (by omega); rw [← hV, hd, e]; rfl)
        | (have e := puR_great (b := 16) (m := 65535) (n := n) (r := (sInts s).drop (q + 1).toNat) (dig_b (c := bAt s q) (by omega) (by omega)) (by omega) (by omega); rw [← hV, hd, e]; rfl)
        | (have e := puR_go (b := 16) (m := 65535) (n := n) (r := (sInts s).drop (q + 1).toNat) (dig_a (c := bAt s q) (by omega)) (by omega) (by omega)
           refine ⟨(q + 1, n * 16 + (bAt s q - 48)), ⟨by dsimp only; omega, by dsimp only; omega, by dsimp only; omega, by dsimp only; omega, by dsimp only; rw [← hV, hd, e]⟩, by dsimp only; omega, ?_⟩
           repeat' ((conv => whnf); first | exact trivial | exact Fgt.nil | exact Fgt.mk rfl rfl rfl | refine And.intro rfl ?_ | refine And.intro ?_ ?_))
        | (have e := puR_go (b := 16) (m := 65535) (n := n) (r := (sInts s).drop (q + 1).toNat) (dig_b (c := bAt s q) (by omega) (by omega)) (by omega) (by omega)
           refine ⟨(q + 1, n * 16 + (low (bAt s q) - 97 + 10)), ⟨by dsimp only; omega, by dsimp only; omega, by dsimp only; omega, by dsimp only; omega, by dsimp only; rw [← hV, hd, e]⟩, by dsimp only; omega, ?_⟩
           repeat' ((conv => whnf); first | exact trivial | exact Fgt.nil | exact Fgt.mk rfl rfl rfl | refine And.intro rfl ?_ | refine And.intro ?_ ?_))
    all_goals
      have e : (sInts s).drop q.toNat = [] := List.drop_eq_nil_of_le (by rw [hlen]; omega)
      rw [← hV, e]
      rfl
set_option maxHeartbeats 4000000 in
theorem pu_ret4 (s : ByteArray) (w : World) (hs : s.size < 4294967281) : Ret Tryz.prog 38 [.string s, .int .i64 10, .int .i64 8] w (if s = ⟨#[]⟩ then badV else puR 10 255 0 (sInts s)) := by
  have low1 : ∀ c w, Ret Tryz.prog 68 [.int .u8 c] w (.int .u8 (low c)) := fun c w => lower_ret c w
  refine Ret.of (I := fun _ => True) (fun _ _ => trivial) (TTok 0 _) Tryz.func38 (by kernel_rfl) rfl rfl ?_
  repeat' (
    (conv => whnf)
    first
      | (with_reducible first
          | refine TR.seq ?_
          | refine TR.region (TTok _ _) ?_
          | refine TR.drawn (TTok _ _) mixed ?_
          | refine TR.block ?_
          | refine TR.ret ?_
          | refine TR.exit ?_
          | refine TR.skip ?_
          | refine TR.condB rfl ?_
          | refine Br.cond_t ?_
          | refine Br.cond_f ?_
          | refine Br.yes (by first | decide | assumption | (apply decide_eq_true; omega)) ?_
          | refine Br.non (by first | decide | assumption | (apply decide_eq_false; omega)) ?_
          | refine Br.cond_ff ?_
          | refine Br.eqT (by omega) ?_
          | refine Br.eqF (by omega) ?_
          | refine Br.neT (by omega) ?_
          | refine Br.neF (by omega) ?_
          | refine Br.dec (fun hc => ?_) (fun hc => ?_)
          | refine Nm.mk' 255 (by decide) ?_
          | refine Ld.mk' _ rfl ?_
          | refine Need.mk (by first | decide | omega | kernel_rfl) ?_
          | refine Nm.i64 (by omega) ?_
          | refine Nm.u64 (by omega) ?_
          | refine Nm.u8 (by omega) ?_
          | refine Sh.shrL ?_
          | refine Sh.shlL ?_
          | refine Nm.fd (by decide) ?_
          | refine x_str_bytes (d := 5) (TTok _ _) rfl rfl rfl rfl rfl rfl rfl rfl rfl ?_))
  · (conv => whnf)
    rw [if_pos hc]
    rfl
  rw [if_neg hc]
  have hlen : (sInts s).length = s.size := sInts_length s
  refine TR.loopH (fun x : Int × Int => [(101, .v (.int .i64 x.1)), (13, .v (.int .u64 x.2)), (12, .v (.bool false))]) (fun _ => []) (fun x => 0 ≤ x.1 ∧ x.1 ≤ s.size ∧ 0 ≤ x.2 ∧ x.2 ≤ 255 ∧ puR 10 255 x.2 ((sInts s).drop x.1.toNat) = puR 10 255 0 (sInts s)) (fun x => (s.size - x.1).toNat) (0, 0) ⟨by omega, by omega, by omega, by omega, by simp⟩ ?_ ?_
  · repeat' ((conv => whnf); first | exact trivial | exact Fgt.nil | exact Fgt.mk rfl rfl rfl | refine And.intro rfl ?_ | refine And.intro ?_ ?_)
  · rintro ⟨q, n⟩ ⟨q0, q1, n0, n1, hV⟩
    simp only at q0 q1 n0 n1 hV
    have hb := bAt_range s q
    have hl := low_range (bAt s q)
    repeat' (
      (conv => whnf)
      first
        | (with_reducible first
            | refine TR.seq ?_
            | refine TR.region (TTok _ _) ?_
            | refine TR.drawn (TTok _ _) mixed ?_
            | refine TR.block ?_
            | refine TR.ret ?_
            | refine TR.exit ?_
            | refine TR.skip ?_
            | refine TR.condB rfl ?_
            | refine Br.cond_t ?_
            | refine Br.cond_f ?_
            | refine Br.yes (by first | decide | assumption | (apply decide_eq_true; omega)) ?_
            | refine Br.non (by first | decide | assumption | (apply decide_eq_false; omega)) ?_
            | refine Br.cond_ff ?_
            | refine Br.eqT (by omega) ?_
            | refine Br.eqF (by omega) ?_
            | refine Br.neT (by omega) ?_
            | refine Br.neF (by omega) ?_
            | refine Ld.mk' _ rfl ?_
            | refine Need.mk (by first | decide | omega | kernel_rfl) ?_
            | refine Nm.i64 (by omega) ?_
            | refine Nm.u64 (by omega) ?_
            | refine Nm.u8 (by omega) ?_
            | refine Br.dec (fun hc => ?_) (fun hc => ?_)
            | refine Br.eq (fun hc => ?_) (fun hc => ?_)
            | refine Br.ne (fun hc => ?_) (fun hc => ?_)
            | refine Br.mk (fun hc => ?_) (fun hc => ?_)
            | refine x_ret (f := 68) rfl rfl (fun w _ => low1 _ w) ?_)
        | refine Ld.mk' [.v (.int .u8 (bAt s q))] (by have h := subL_byt (sInts s) q.toNat (bAt s q) (by have := sInts_get s q.toNat (by omega); rwa [show ((q.toNat : Nat) : Int) = q by omega] at this); rw [show q.toNat = 0 * 1 + q.toNat * 1 by omega] at h; exact h) ?_)
    all_goals (conv => whnf)
    all_goals dsimp only at *
    all_goals try
      have hd := drop_bAt s q q0 (by omega)
      first
        | (have e := puR_bad1 (b := 10) (m := 255) (n := n) (r := (sInts s).drop (q + 1).toNat) (dig_n (c := bAt s q) (by omega) (by omega)); rw [← hV, hd, e]; rfl)
        | (have e := puR_bad2 (b := 10) (m := 255) (n := n) (r := (sInts s).drop (q + 1).toNat) (dig_a (c := bAt s q) (by omega)) (by omega); rw [← hV, hd, e]; rfl)
        | (have e := puR_bad2 (b := 10) (m := 255) (n := n) (r := (sInts s).drop (q + 1).toNat) (dig_b (c := bAt s q) (by omega) (by omega)) (by omega); rw [← hV, hd, e]; rfl)
        | (have e := puR_great (b := 10) (m := 255) (n := n) (r := (sInts s).drop (q + 1).toNat) (dig_a (c := bAt s q) (by omega)) (by omega) (by omega); rw [← hV, hd, e]; rfl)
        | (have e := puR_great (b := 10) (m := 255) (n := n) (r := (sInts s).drop (q + 1).toNat) (dig_b (c := bAt s q) (by omega) (by omega)) (by omega) (by omega); rw [← hV, hd, e]; rfl)
        | (have e := puR_go (b := 10) (m := 255) (n := n) (r := (sInts s).drop (q + 1).toNat) (dig_a (c := bAt s q) (by omega)) (by omega) (by omega)
           refine ⟨(q + 1, n * 10 + (bAt s q - 48)), ⟨by dsimp only; omega, by dsimp only; omega, by dsimp only; omega, by dsimp only; omega, by dsimp only; rw [← hV, hd, e]⟩, by dsimp only; omega, ?_⟩
           repeat' ((conv => whnf); first | exact trivial | exact Fgt.nil | exact Fgt.mk rfl rfl rfl | refine And.intro rfl ?_ | refine And.intro ?_ ?_))
        | (have e := puR_go (b := 10) (m := 255) (n := n) (r := (sInts s).drop (q + 1).toNat) (dig_b (c := bAt s q) (by omega) (by omega)) (by omega) (by omega)
           refine ⟨(q + 1, n * 10 + (low (bAt s q) - 97 + 10)), ⟨by dsimp only; omega, by dsimp only; omega, by dsimp only; omega, by dsimp only; omega, by dsimp only; rw [← hV, hd, e]⟩, by dsimp only; omega, ?_⟩
           repeat' ((conv => whnf); first | exact trivial | exact Fgt.nil | exact Fgt.mk rfl rfl rfl | refine And.intro rfl ?_ | refine And.intro ?_ ?_))
    all_goals
      have e : (sInts s).drop q.toNat = [] := List.drop_eq_nil_of_le (by rw [hlen]; omega)
      rw [← hV, e]
      rfl
end Go.Proofs.YtopadpgpmkkpgaaGreatDoor
set_option maxRecDepth 100000
namespace Go.Proofs.YtopadpgpmkkpgaaGreatDoor
open Go.SX
/-- Two variables that hold errors. -/
def GE (u2 : TypeId) (v2 : Value) (u3 : TypeId) (v3 : Value) : Nat → Option (List Value)
  | 2 => some [.iface u2 v2]
  | 3 => some [.iface u3 v3]
  | _ => none
def IE (u2 : TypeId) (v2 : Value) (u3 : TypeId) (v3 : Value) (w : World) : Prop := w.cell? ⟨2, 0, none⟩ = some (.iface u2 v2) ∧ w.cell? ⟨3, 0, none⟩ = some (.iface u3 v3)
theorem GE_ok {u2 v2 u3 v3} : ∀ w, IE u2 v2 u3 v3 w → ∀ g cells, GE u2 v2 u3 v3 g = some cells → ∀ i u, cells[i]? = some u → w.cell? ⟨g, i, none⟩ = some u := by
  intro w hw g cells hg i u hu
  unfold GE at hg
  split at hg
  · cases hg
    cases i with
    | zero => simp at hu; rw [← hu]; exact hw.1
    | succ i => simp at hu
  · cases hg
    cases i with
    | zero => simp at hu; rw [← hu]; exact hw.2
    | succ i => simp at hu
  · cases hg
theorem IE.mod {u2 v2 u3 v3} {w w' : World} (h : IE u2 v2 u3 v3 w) (hm : Mod w w' fun _ => False) : IE u2 v2 u3 v3 w' := by
  obtain ⟨h1, h2⟩ := h
  have k : ∀ g u, w.cell? ⟨g, 0, none⟩ = some u → w'.cell? ⟨g, 0, none⟩ = some u := by
    intro g u hg
    have hb := hm.block g (cell_lt hg) id
    simp only [World.cell?] at hg ⊢
    rw [hb]
    exact hg
  exact ⟨k 2 _ h1, k 3 _ h2⟩
theorem clone_ret (s : ByteArray) (w : World) (hs : s.size < 4294967281) : Ret Tryz.prog 113 [.string s] w (.string s) :=
  Ret.shelf Tryz.func113 (by kernel_rfl) (by kernel_rfl) (Tryz.stringslite_Clone s w (by omega))
def PU : ByteArray := ⟨#[80, 97, 114, 115, 101, 85, 105, 110, 116]⟩
theorem toErr_ret (s : ByteArray) (hs : s.size < 4294967281) (base bits e : Int) (he : e = 1 ∨ e = 2) {u2 v2 u3 v3} (w : World) (hI : IE u2 v2 u3 v3 w) :
    RetA Tryz.prog 39 [.string PU, .string s, .int .i64 base, .int .i64 bits, .iface 136 (.int .i64 e)] w (.ifc 138 .dead) := by
  have cl : ∀ w, Ret Tryz.prog 113 [.string s] w (.string s) := fun w => clone_ret s w hs
  rcases he with rfl | rfl
  all_goals refine RetA.tj (I := IE u2 v2 u3 v3) (fun w' hm => hI.mod hm) (TTok 0 _) Tryz.func39 (by kernel_rfl) rfl ?_
  all_goals repeat' (
    (conv => whnf)
    first
      | (with_reducible first
          | refine TJ.seq ?_
          | refine TJ.region (TTok _ _) ?_
          | refine TJ.drawn (TTok _ _) mixed ?_
          | refine TJ.cond rfl ?_
          | refine TJ.block ?_
          | refine TJ.loop ?_
          | refine LJ.step ?_
          | refine TJ.ret ?_
          | refine TJ.exit ?_
          | refine TJ.skip ?_
          | refine TJ.scope ?_
          | refine TJ.label ?_
          | refine Br.cond_t ?_
          | refine Br.cond_f ?_
          | refine Br.yes (by first | decide | assumption | (apply decide_eq_true; omega)) ?_
          | refine Br.non (by first | decide | assumption | (apply decide_eq_false; omega)) ?_
          | refine Br.cond_ff ?_
          | refine Br.eqT (by omega) ?_
          | refine Br.eqF (by omega) ?_
          | refine Br.neT (by omega) ?_
          | refine Br.neF (by omega) ?_
          | refine Ld.mk' _ rfl ?_
          | refine Need.mk (by first | decide | omega | kernel_rfl) ?_
          | refine Nm.i64 (by omega) ?_
          | refine Nm.u64 (by omega) ?_
          | refine Nm.u8 (by omega) ?_
          | refine x_eq_ifc_int (TTok _ _) .eql (.inl rfl) rfl rfl rfl rfl rfl rfl rfl (by kernel_rfl) ?_
          | refine x_ret (f := 113) rfl rfl (fun w _ => cl w) ?_
          | refine x_call (f := 70) (TTok _ _) rfl rfl Tryz.func70 (by kernel_rfl) rfl ?_
          | refine x_call (f := 71) (TTok _ _) rfl rfl Tryz.func71 (by kernel_rfl) rfl ?_)
      | refine x_exG (G := GE u2 v2 u3 v3) (TTok _ _) GE_ok ?_)
  all_goals (conv => whnf)
  all_goals rfl
theorem pu29_good (s : ByteArray) (B T k : Int) (h40 : ∀ w, Ret Tryz.prog 38 [.string s, .int .i64 B, .int .i64 T] w (goodV k)) (w : World) : Ret Tryz.prog 21 [.string s, .int .i64 B, .int .i64 T] w (goodV k) := by
  refine Ret.tj (I := fun _ => True) (fun _ _ => trivial) (TTok 0 _) Tryz.func21 (by kernel_rfl) rfl ?_
  repeat' (
    (conv => whnf)
    first
      | (with_reducible first
          | refine TJ.seq ?_
          | refine TJ.region (TTok _ _) ?_
          | refine TJ.drawn (TTok _ _) mixed ?_
          | refine TJ.cond rfl ?_
          | refine TJ.block ?_
          | refine TJ.loop ?_
          | refine LJ.step ?_
          | refine TJ.ret ?_
          | refine TJ.exit ?_
          | refine TJ.skip ?_
          | refine TJ.scope ?_
          | refine TJ.label ?_
          | refine Br.cond_t ?_
          | refine Br.cond_f ?_
          | refine Br.yes (by first | decide | assumption | (apply decide_eq_true; omega)) ?_
          | refine Br.non (by first | decide | assumption | (apply decide_eq_false; omega)) ?_
          | refine Br.cond_ff ?_
          | refine Br.eqT (by omega) ?_
          | refine Br.eqF (by omega) ?_
          | refine Br.neT (by omega) ?_
          | refine Br.neF (by omega) ?_
          | refine Ld.mk' _ rfl ?_
          | refine Need.mk (by first | decide | omega | kernel_rfl) ?_
          | refine Nm.i64 (by omega) ?_
          | refine Nm.u64 (by omega) ?_
          | refine Nm.u8 (by omega) ?_
          | refine x_ret (f := 38) rfl rfl (fun w _ => h40 w) ?_))
  all_goals (conv => whnf)
  all_goals rfl
theorem pu29_bad (s : ByteArray) (hs : s.size < 4294967281) (B T x e : Int) (he : e = 1 ∨ e = 2) (h40 : ∀ w, Ret Tryz.prog 38 [.string s, .int .i64 B, .int .i64 T] w (.tuple #[.int .u64 x, .iface 136 (.int .i64 e)])) {u2 v2 u3 v3} (w : World) (hI : IE u2 v2 u3 v3 w) :
    RetA Tryz.prog 21 [.string s, .int .i64 B, .int .i64 T] w (.tup [.v (.int .u64 x), .ifc 138 .dead]) := by
  refine RetA.tj (I := IE u2 v2 u3 v3) (fun w' hm => hI.mod hm) (TTok 0 _) Tryz.func21 (by kernel_rfl) rfl ?_
  repeat' (
    (conv => whnf)
    first
      | (with_reducible first
          | refine TJ.seq ?_
          | refine TJ.region (TTok _ _) ?_
          | refine TJ.drawn (TTok _ _) mixed ?_
          | refine TJ.cond rfl ?_
          | refine TJ.block ?_
          | refine TJ.loop ?_
          | refine LJ.step ?_
          | refine TJ.ret ?_
          | refine TJ.exit ?_
          | refine TJ.skip ?_
          | refine TJ.scope ?_
          | refine TJ.label ?_
          | refine Br.cond_t ?_
          | refine Br.cond_f ?_
          | refine Br.yes (by first | decide | assumption | (apply decide_eq_true; omega)) ?_
          | refine Br.non (by first | decide | assumption | (apply decide_eq_false; omega)) ?_
          | refine Br.cond_ff ?_
          | refine Br.eqT (by omega) ?_
          | refine Br.eqF (by omega) ?_
          | refine Br.neT (by omega) ?_
          | refine Br.neF (by omega) ?_
          | refine Ld.mk' _ rfl ?_
          | refine Need.mk (by first | decide | omega | kernel_rfl) ?_
          | refine Nm.i64 (by omega) ?_
          | refine Nm.u64 (by omega) ?_
          | refine Nm.u8 (by omega) ?_
          | refine x_ret (f := 38) rfl rfl (fun w _ => h40 w) ?_
          | refine x_retA (f := 39) rfl rfl (fun w hw => toErr_ret s hs B T e he w hw) ?_))
  all_goals (conv => whnf)
  all_goals rfl
end Go.Proofs.YtopadpgpmkkpgaaGreatDoor
set_option maxRecDepth 100000
namespace Go.Proofs.YtopadpgpmkkpgaaGreatDoor
open Go.SX
/-! ### acl.Parse -/
def puO (base max : Int) : Int → List Int → Option Int
  | n, [] => some n
  | n, c :: r => match dig c with
    | none => none
    | some d => if base ≤ d then none else if max < n * base + d then none else puO base max (n * base + d) r
def puN (v6 : Bool) (p : ByteArray) : Option Int := if p = ⟨#[]⟩ then none else puO (pbase v6) (pmax v6) 0 (sInts p)
theorem puR_of (base max : Int) (hb : 0 ≤ base) (hm : 0 ≤ max) : ∀ (l : List Int) (n : Int), 0 ≤ n → n ≤ max → (∃ k, puO base max n l = some k ∧ 0 ≤ k ∧ k ≤ max ∧ puR base max n l = goodV k) ∨ (puO base max n l = none ∧ ∃ x e, (e = 1 ∨ e = 2) ∧ puR base max n l = .tuple #[.int .u64 x, .iface 136 (.int .i64 e)])
  | [], n, h0, h1 => .inl ⟨n, rfl, h0, h1, rfl⟩
  | c :: r, n, h0, h1 => by
    simp only [puO, puR]
    cases hd : dig c with
    | none => exact .inr ⟨rfl, 0, 2, .inr rfl, rfl⟩
    | some d =>
      have hd0 : 0 ≤ d := by
        unfold dig at hd
        split at hd
        · cases hd; omega
        · split at hd
          · cases hd; omega
          · cases hd
      simp only
      split
      · exact .inr ⟨rfl, 0, 2, .inr rfl, rfl⟩
      · split
        · exact .inr ⟨rfl, max, 1, .inl rfl, rfl⟩
        · have := Int.mul_nonneg h0 hb
          exact puR_of base max hb hm r (n * base + d) (by omega) (by omega)
/-- One part: a number, or none. -/
theorem part_cases (v6 : Bool) (p : ByteArray) (hp : p.size < 4294967281) :
    (∃ k, puN v6 p = some k ∧ 0 ≤ k ∧ k ≤ pmax v6 ∧ ∀ w, Ret Tryz.prog 21 [.string p, .int .i64 (pbase v6), .int .i64 (pbits v6)] w (goodV k)) ∨
    (puN v6 p = none ∧ ∃ x, ∀ u2 v2 u3 v3 w, IE u2 v2 u3 v3 w → RetA Tryz.prog 21 [.string p, .int .i64 (pbase v6), .int .i64 (pbits v6)] w (.tup [.v (.int .u64 x), .ifc 138 .dead])) := by
  have h40 : ∀ w, Ret Tryz.prog 38 [.string p, .int .i64 (pbase v6), .int .i64 (pbits v6)] w (if p = ⟨#[]⟩ then badV else puR (pbase v6) (pmax v6) 0 (sInts p)) := fun w => by
    cases v6
    · exact pu_ret4 p w hp
    · exact pu_ret6 p w hp
  unfold puN
  by_cases he : p = ⟨#[]⟩
  · simp only [if_pos he] at h40
    rw [if_pos he]
    exact .inr ⟨rfl, 0, fun u2 v2 u3 v3 w hw => pu29_bad p hp _ _ 0 2 (.inr rfl) h40 w hw⟩
  · simp only [if_neg he] at h40
    rw [if_neg he]
    rcases puR_of (pbase v6) (pmax v6) (by cases v6 <;> decide) (by cases v6 <;> decide) (sInts p) 0 (by omega) (by cases v6 <;> decide) with ⟨k, h1, h2, h3, h4⟩ | ⟨h1, x, e, he, h4⟩
    · rw [h4] at h40
      exact .inl ⟨k, h1, h2, h3, fun w => pu29_good p _ _ k h40 w⟩
    · rw [h4] at h40
      exact .inr ⟨h1, x, fun u2 v2 u3 v3 w hw => pu29_bad p hp _ _ x e he h40 w hw⟩
def shlU (d a : Int) : Int := IntKind.u64.wrap (a * d)
def orU (a b : Int) : Int := IntKind.u64.wrap (BitVec.ofInt IntKind.u64.bits a ||| BitVec.ofInt IntKind.u64.bits b).toNat
theorem Nm.shlU {a d : Int} {f : Int → Prop} (k : f (shlU d a)) : Nm (IntKind.u64.wrap (a * d)) f := ⟨_, rfl, k⟩
theorem Nm.orU {a b : Int} {f : Int → Prop} (k : f (orU a b)) : Nm (IntKind.u64.wrap (BitVec.ofInt IntKind.u64.bits a ||| BitVec.ofInt IntKind.u64.bits b).toNat) f := ⟨_, rfl, k⟩
theorem Br.ndec {p : Prop} [Decidable p] {f : Bool → Prop} (h1 : ¬ p → f true) (h2 : p → f false) : Br (!decide p) f :=
  Br.not (fun h => h1 (of_decide_eq_false h)) (fun h => h2 (of_decide_eq_true h))
def has58 (s : ByteArray) : Bool := decide (0 ≤ Lib.indexByte s.data.toList 58)
def parts (v6 : Bool) (s : ByteArray) : List ByteArray := Lib.splitB (sepS v6) 0 (Lib.countB s (sepS v6)) s
def many (v6 : Bool) : Nat := if v6 then 8 else 4
theorem has_ret (s : ByteArray) (w : World) : Ret Tryz.prog 19 [.string s, .string ⟨#[58]⟩] w (.bool (has58 s)) :=
  Ret.shelf0 Tryz.func19 (by kernel_rfl) (by kernel_rfl) (Tryz.strings_Contains_one s 58 w)
def IM (w : World) : Prop := ∃ m, w.cell? ⟨1, 0, none⟩ = some (.int .i64 m)
theorem split_row (v6 : Bool) (s : ByteArray) (hs : s.size < 4294967281) (ps : List ByteArray) (hp : parts v6 s = ps) (w : World) (hI : IM w) : RetRow Tryz.prog 20 [.string s, .string (sepS v6)] w 9 1 ps.length (ps.map Value.string) := by
  obtain ⟨m, hm⟩ := hI
  have hsz : 1 ≤ (sepS v6).size := by cases v6 <;> decide
  have hlen : ps.length = Lib.countB s (sepS v6) + 1 := by rw [← hp]; exact Lib.splitB_all _ hsz 0 _ _ rfl
  have hcnt : Lib.countB s (sepS v6) ≤ s.size := Lib.countB_le _ hsz _ _ (Nat.le_refl _)
  refine ⟨⟨Tryz.f20, Tryz.func20, by kernel_rfl, by kernel_rfl⟩, (Tryz.strings_Split s (sepS v6) m w hs hm hsz).mono ?_⟩
  rintro e w' ⟨rfl, rfl⟩
  have hw : (w.alloc (.cells ((Lib.splitB (sepS v6) 0 (Lib.countB s (sepS v6)) s).map Value.string).toArray 9)) = w.alloc (.cells (ps.map Value.string).toArray 9) := by rw [← hp]; rfl
  rw [hw]
  obtain ⟨g1, g2, g3, g4, g5⟩ := new_row w 9 (ps.map Value.string).toArray 1 ps.length 0 [] (by simp) (by unfold maxLen; omega)
  refine ⟨w.heap.size, Lib.countB s (sepS v6) + 1, by rw [hlen], g1, Nat.le_refl _, by simp, ?_⟩
  rw [← hlen]
  exact ownsRow_of_heap (rest := []) (by simp) (by simpa using heap_alloc_new w _) (Nat.le_refl _) (by unfold maxLen; omega) (by simp)
theorem IM.mod {w w' : World} (h : IM w) (hm : Mod w w' fun _ => False) : IM w' := by
  obtain ⟨m, h⟩ := h
  refine ⟨m, ?_⟩
  have hb := hm.block 1 (cell_lt h) id
  simp only [World.cell?] at h ⊢
  rw [hb]
  exact h
end Go.Proofs.YtopadpgpmkkpgaaGreatDoor
