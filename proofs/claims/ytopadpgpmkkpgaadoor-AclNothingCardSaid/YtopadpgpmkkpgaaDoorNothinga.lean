/-
  AclNothing: called with any address, number and bool, the law returns true, and its arguments read as they did; the listed variables hold what the text lays (the card ties them).
-/
import Derived.Test.YtopadpgpmkkpgaaDoorProg
import Derived.Test.YtopadpgpmkkpgaaDoorSxb
import Derived.Shelf.Strings.Builder1
import Derived.Shelf.Strings.Builder2
import Derived.Shelf.Strings.OnBuilder
import Derived.Shelf.Utf8.RuneCount
import Derived.Shelf.Strconv.Itoa0
import Derived.Shelf.Strconv.Itoa1
import Derived.Shelf.LaysM
import Derived.Shelf.Strconv.Itoa2
import Derived.Shelf.Strconv.Itoa3
import Derived.Shelf.Strconv.Clone
import Derived.Shelf.Strconv.Lower
import Derived.Shelf.Strconv.ParseUint10Empty
import Derived.Shelf.Strconv.ParseUintEmpty
import Derived.Shelf.Strings.Search1
import Derived.Shelf.Strings.Search2
import Derived.Shelf.Strings.Search3
import Derived.Shelf.Strings.Count
import Derived.Shelf.Strings.Shaped
import Derived.Shelf.Strings.Split
import Derived.Shelf.Strings.SplitShaped
import Derived.Shelf.Unicode.Decode
import Derived.Shelf.Strings.RuneCount
import Derived.Shelf.Strings.Explode
import Derived.Shelf.Unicode.DecodeSlow
import Derived.Shelf.Unicode.DecodeAny
import Derived.Test.YtopadpgpmkkpgaaDoorRows
set_option linter.unusedVariables false
set_option linter.unusedSimpArgs false
set_option linter.unnecessarySimpa false
namespace Go.Proofs.YtopadpgpmkkpgaaDoor
open Go.SX
def TT : List (Option Ty) := [
  none,
  some ⟨.fn, 1, 8, [.nilFunc], false⟩,
  some ⟨(.int .i64), 1, 8, [.int .i64 0], false⟩,
  some ⟨(.int .i64), 1, 8, [.int .i64 0], false⟩,
  some ⟨.bool, 1, 1, [.bool false], false⟩,
  some ⟨(.int .u8), 1, 1, [.int .u8 0], false⟩,
  some ⟨(.int .u8), 1, 1, [.int .u8 0], false⟩,
  some ⟨(.st [(0, 2), (1, 3), (2, 4), (3, 6)]), 4, 24, [.int .i64 0, .int .i64 0, .bool false, .int .u8 0], true⟩,
  some ⟨(.st [(0, 2), (1, 3), (2, 4), (3, 6)]), 4, 24, [.int .i64 0, .int .i64 0, .bool false, .int .u8 0], true⟩,
  some ⟨.str, 1, 16, [.string ⟨#[]⟩], false⟩,
  some ⟨.str, 1, 16, [.string ⟨#[]⟩], false⟩,
  some ⟨.str, 1, 16, [.string ⟨#[]⟩], false⟩,
  some ⟨(.int .u64), 1, 8, [.int .u64 0], false⟩,
  some ⟨(.st [(0, 9), (1, 12)]), 2, 24, [.string ⟨#[]⟩, .int .u64 0], false⟩,
  some ⟨(.st [(0, 9), (1, 12)]), 2, 24, [.string ⟨#[]⟩, .int .u64 0], false⟩,
  some ⟨(.ptr 139), 1, 8, [.pointer none], false⟩,
  some ⟨(.ptr 142), 1, 8, [.pointer none], false⟩,
  some ⟨(.ptr 150), 1, 8, [.pointer none], false⟩,
  some ⟨(.st [(0, 17)]), 1, 8, [.pointer none], false⟩,
  some ⟨(.st [(0, 17)]), 1, 8, [.pointer none], false⟩,
  some ⟨.ifc, 1, 16, [.nilIface], false⟩,
  some ⟨(.int .i32), 1, 4, [.int .i32 0], false⟩,
  some ⟨(.sl 36), 1, 24, [.slice none 0 0], false⟩,
  some ⟨(.sl 32), 1, 24, [.slice none 0 0], false⟩,
  some ⟨.fn, 1, 8, [.nilFunc], false⟩,
  some ⟨(.ptr 58), 1, 8, [.pointer none], false⟩,
  some ⟨(.int .i64), 1, 8, [.int .i64 0], false⟩,
  none,
  some ⟨.fn, 1, 8, [.nilFunc], false⟩,
  some ⟨.fn, 1, 8, [.nilFunc], false⟩,
  some ⟨(.int .u64), 1, 8, [.int .u64 0], false⟩,
  some ⟨(.st [(0, 4), (1, 30), (2, 30)]), 3, 24, [.bool false, .int .u64 0, .int .u64 0], true⟩,
  some ⟨(.st [(0, 4), (1, 30), (2, 30)]), 3, 24, [.bool false, .int .u64 0, .int .u64 0], true⟩,
  some ⟨(.st [(0, 32), (3, 3)]), 4, 32, [.bool false, .int .u64 0, .int .u64 0, .int .i64 0], true⟩,
  some ⟨(.st [(0, 32), (3, 3)]), 4, 32, [.bool false, .int .u64 0, .int .u64 0, .int .i64 0], true⟩,
  some ⟨(.st [(0, 34), (4, 3)]), 5, 40, [.bool false, .int .u64 0, .int .u64 0, .int .i64 0, .int .i64 0], true⟩,
  some ⟨(.st [(0, 34), (4, 3)]), 5, 40, [.bool false, .int .u64 0, .int .u64 0, .int .i64 0, .int .i64 0], true⟩,
  none,
  some ⟨.fn, 1, 8, [.nilFunc], false⟩,
  some ⟨.fn, 1, 8, [.nilFunc], false⟩,
  some ⟨.fn, 1, 8, [.nilFunc], false⟩,
  none,
  some ⟨.fn, 1, 8, [.nilFunc], false⟩,
  none,
  some ⟨.fn, 1, 8, [.nilFunc], false⟩,
  some ⟨.fn, 1, 8, [.nilFunc], false⟩,
  some ⟨.fn, 1, 8, [.nilFunc], false⟩,
  some ⟨.fn, 1, 8, [.nilFunc], false⟩,
  some ⟨.fn, 1, 8, [.nilFunc], false⟩,
  some ⟨.fn, 1, 8, [.nilFunc], false⟩,
  some ⟨.fn, 1, 8, [.nilFunc], false⟩,
  some ⟨(.ptr 55), 1, 8, [.pointer none], false⟩,
  some ⟨(.arr 2 51), 2, 16, [.pointer none, .pointer none], false⟩,
  some ⟨(.ptr 36), 1, 8, [.pointer none], false⟩,
  some ⟨(.st [(0, 52), (2, 53)]), 3, 24, [.pointer none, .pointer none, .pointer none], true⟩,
  some ⟨(.st [(0, 52), (2, 53)]), 3, 24, [.pointer none, .pointer none, .pointer none], true⟩,
  some ⟨(.arr 2 55), 6, 48, [.pointer none, .pointer none, .pointer none, .pointer none, .pointer none, .pointer none], false⟩,
  some ⟨(.st [(0, 56)]), 6, 48, [.pointer none, .pointer none, .pointer none, .pointer none, .pointer none, .pointer none], true⟩,
  some ⟨(.st [(0, 56)]), 6, 48, [.pointer none, .pointer none, .pointer none, .pointer none, .pointer none, .pointer none], true⟩,
  some ⟨.fn, 1, 8, [.nilFunc], false⟩,
  some ⟨.fn, 1, 8, [.nilFunc], false⟩,
  some ⟨(.st [(0, 30), (1, 30), (2, 3)]), 3, 24, [.int .u64 0, .int .u64 0, .int .i64 0], true⟩,
  some ⟨(.st [(0, 30), (1, 30), (2, 3)]), 3, 24, [.int .u64 0, .int .u64 0, .int .i64 0], true⟩,
  some ⟨.fn, 1, 8, [.nilFunc], false⟩,
  some ⟨(.ptr 51), 1, 8, [.pointer none], false⟩,
  some ⟨.fn, 1, 8, [.nilFunc], false⟩,
  none,
  some ⟨.fn, 1, 8, [.nilFunc], false⟩,
  some ⟨(.sl 9), 1, 24, [.slice none 0 0], false⟩,
  some ⟨.fn, 1, 8, [.nilFunc], false⟩,
  some ⟨.fn, 1, 8, [.nilFunc], false⟩,
  some ⟨.fn, 1, 8, [.nilFunc], false⟩,
  some ⟨.fn, 1, 8, [.nilFunc], false⟩,
  some ⟨.ifc, 1, 16, [.nilIface], false⟩,
  some ⟨.ifc, 1, 16, [.nilIface], false⟩,
  none,
  some ⟨.fn, 1, 8, [.nilFunc], false⟩,
  some ⟨(.int .u64), 1, 8, [.int .u64 0], false⟩,
  some ⟨.fn, 1, 8, [.nilFunc], false⟩,
  none,
  some ⟨.fn, 1, 8, [.nilFunc], false⟩,
  some ⟨.fn, 1, 8, [.nilFunc], false⟩,
  some ⟨(.ptr 85), 1, 8, [.pointer none], false⟩,
  some ⟨(.sl 5), 1, 24, [.slice none 0 0], false⟩,
  some ⟨(.st [(0, 82), (1, 83)]), 2, 32, [.pointer none, .slice none 0 0], true⟩,
  some ⟨(.st [(0, 82), (1, 83)]), 2, 32, [.pointer none, .slice none 0 0], true⟩,
  some ⟨.fn, 1, 8, [.nilFunc], false⟩,
  none,
  some ⟨.fn, 1, 8, [.nilFunc], false⟩,
  some ⟨.fn, 1, 8, [.nilFunc], false⟩,
  some ⟨.fn, 1, 8, [.nilFunc], false⟩,
  some ⟨.fn, 1, 8, [.nilFunc], false⟩,
  some ⟨.fn, 1, 8, [.nilFunc], false⟩,
  some ⟨.fn, 1, 8, [.nilFunc], false⟩,
  some ⟨.fn, 1, 8, [.nilFunc], false⟩,
  some ⟨(.arr 24 5), 24, 24, [.int .u8 0, .int .u8 0, .int .u8 0, .int .u8 0, .int .u8 0, .int .u8 0, .int .u8 0, .int .u8 0, .int .u8 0, .int .u8 0, .int .u8 0, .int .u8 0, .int .u8 0, .int .u8 0, .int .u8 0, .int .u8 0, .int .u8 0, .int .u8 0, .int .u8 0, .int .u8 0, .int .u8 0, .int .u8 0, .int .u8 0, .int .u8 0], false⟩,
  some ⟨.fn, 1, 8, [.nilFunc], false⟩,
  some ⟨.fn, 1, 8, [.nilFunc], false⟩,
  none,
  some ⟨.fn, 1, 8, [.nilFunc], false⟩,
  some ⟨(.ptr 5), 1, 8, [.pointer none], false⟩,
  some ⟨.fn, 1, 8, [.nilFunc], false⟩,
  some ⟨(.int .i64), 1, 8, [.int .i64 0], false⟩,
  some ⟨.fn, 1, 8, [.nilFunc], false⟩,
  some ⟨.fn, 1, 8, [.nilFunc], false⟩,
  some ⟨(.ptr 123), 1, 8, [.pointer none], false⟩,
  some ⟨.fn, 1, 8, [.nilFunc], false⟩,
  some ⟨.fn, 1, 8, [.nilFunc], false⟩,
  some ⟨.fn, 1, 8, [.nilFunc], false⟩,
  some ⟨(.arr 20 30), 20, 160, [.int .u64 0, .int .u64 0, .int .u64 0, .int .u64 0, .int .u64 0, .int .u64 0, .int .u64 0, .int .u64 0, .int .u64 0, .int .u64 0, .int .u64 0, .int .u64 0, .int .u64 0, .int .u64 0, .int .u64 0, .int .u64 0, .int .u64 0, .int .u64 0, .int .u64 0, .int .u64 0], false⟩,
  some ⟨(.int .u32), 1, 4, [.int .u32 0], false⟩,
  some ⟨(.arr 65 5), 65, 65, [.int .u8 0, .int .u8 0, .int .u8 0, .int .u8 0, .int .u8 0, .int .u8 0, .int .u8 0, .int .u8 0, .int .u8 0, .int .u8 0, .int .u8 0, .int .u8 0, .int .u8 0, .int .u8 0, .int .u8 0, .int .u8 0, .int .u8 0, .int .u8 0, .int .u8 0, .int .u8 0, .int .u8 0, .int .u8 0, .int .u8 0, .int .u8 0, .int .u8 0, .int .u8 0, .int .u8 0, .int .u8 0, .int .u8 0, .int .u8 0, .int .u8 0, .int .u8 0, .int .u8 0, .int .u8 0, .int .u8 0, .int .u8 0, .int .u8 0, .int .u8 0, .int .u8 0, .int .u8 0, .int .u8 0, .int .u8 0, .int .u8 0, .int .u8 0, .int .u8 0, .int .u8 0, .int .u8 0, .int .u8 0, .int .u8 0, .int .u8 0, .int .u8 0, .int .u8 0, .int .u8 0, .int .u8 0, .int .u8 0, .int .u8 0, .int .u8 0, .int .u8 0, .int .u8 0, .int .u8 0, .int .u8 0, .int .u8 0, .int .u8 0, .int .u8 0, .int .u8 0], false⟩,
  some ⟨.fn, 1, 8, [.nilFunc], false⟩,
  some ⟨.fn, 1, 8, [.nilFunc], false⟩,
  some ⟨.oth, 1, 8, [.pointer none], false⟩,
  some ⟨.fn, 1, 8, [.nilFunc], false⟩,
  some ⟨.fn, 1, 8, [.nilFunc], false⟩,
  some ⟨.fn, 1, 8, [.nilFunc], false⟩,
  some ⟨.fn, 1, 8, [.nilFunc], false⟩,
  none,
  some ⟨.fn, 1, 8, [.nilFunc], false⟩,
  some ⟨.fn, 1, 8, [.nilFunc], false⟩,
  some ⟨(.st [(0, 9), (1, 9), (2, 74)]), 3, 48, [.string ⟨#[]⟩, .string ⟨#[]⟩, .nilIface], false⟩,
  some ⟨(.st [(0, 9), (1, 9), (2, 74)]), 3, 48, [.string ⟨#[]⟩, .string ⟨#[]⟩, .nilIface], false⟩,
  some ⟨.fn, 1, 8, [.nilFunc], false⟩,
  some ⟨.fn, 1, 8, [.nilFunc], false⟩,
  none,
  some ⟨.fn, 1, 8, [.nilFunc], false⟩,
  some ⟨(.ptr 130), 1, 8, [.pointer none], false⟩,
  some ⟨(.st [(0, 9)]), 1, 16, [.string ⟨#[]⟩], true⟩,
  some ⟨(.st [(0, 9)]), 1, 16, [.string ⟨#[]⟩], true⟩,
  some ⟨(.arr 32 5), 32, 32, [.int .u8 0, .int .u8 0, .int .u8 0, .int .u8 0, .int .u8 0, .int .u8 0, .int .u8 0, .int .u8 0, .int .u8 0, .int .u8 0, .int .u8 0, .int .u8 0, .int .u8 0, .int .u8 0, .int .u8 0, .int .u8 0, .int .u8 0, .int .u8 0, .int .u8 0, .int .u8 0, .int .u8 0, .int .u8 0, .int .u8 0, .int .u8 0, .int .u8 0, .int .u8 0, .int .u8 0, .int .u8 0, .int .u8 0, .int .u8 0, .int .u8 0, .int .u8 0], false⟩,
  some ⟨(.arr 64 5), 64, 64, [.int .u8 0, .int .u8 0, .int .u8 0, .int .u8 0, .int .u8 0, .int .u8 0, .int .u8 0, .int .u8 0, .int .u8 0, .int .u8 0, .int .u8 0, .int .u8 0, .int .u8 0, .int .u8 0, .int .u8 0, .int .u8 0, .int .u8 0, .int .u8 0, .int .u8 0, .int .u8 0, .int .u8 0, .int .u8 0, .int .u8 0, .int .u8 0, .int .u8 0, .int .u8 0, .int .u8 0, .int .u8 0, .int .u8 0, .int .u8 0, .int .u8 0, .int .u8 0, .int .u8 0, .int .u8 0, .int .u8 0, .int .u8 0, .int .u8 0, .int .u8 0, .int .u8 0, .int .u8 0, .int .u8 0, .int .u8 0, .int .u8 0, .int .u8 0, .int .u8 0, .int .u8 0, .int .u8 0, .int .u8 0, .int .u8 0, .int .u8 0, .int .u8 0, .int .u8 0, .int .u8 0, .int .u8 0, .int .u8 0, .int .u8 0, .int .u8 0, .int .u8 0, .int .u8 0, .int .u8 0, .int .u8 0, .int .u8 0, .int .u8 0, .int .u8 0], false⟩,
  some ⟨(.arr 256 5), 256, 256, [.int .u8 0, .int .u8 0, .int .u8 0, .int .u8 0, .int .u8 0, .int .u8 0, .int .u8 0, .int .u8 0, .int .u8 0, .int .u8 0, .int .u8 0, .int .u8 0, .int .u8 0, .int .u8 0, .int .u8 0, .int .u8 0, .int .u8 0, .int .u8 0, .int .u8 0, .int .u8 0, .int .u8 0, .int .u8 0, .int .u8 0, .int .u8 0, .int .u8 0, .int .u8 0, .int .u8 0, .int .u8 0, .int .u8 0, .int .u8 0, .int .u8 0, .int .u8 0, .int .u8 0, .int .u8 0, .int .u8 0, .int .u8 0, .int .u8 0, .int .u8 0, .int .u8 0, .int .u8 0, .int .u8 0, .int .u8 0, .int .u8 0, .int .u8 0, .int .u8 0, .int .u8 0, .int .u8 0, .int .u8 0, .int .u8 0, .int .u8 0, .int .u8 0, .int .u8 0, .int .u8 0, .int .u8 0, .int .u8 0, .int .u8 0, .int .u8 0, .int .u8 0, .int .u8 0, .int .u8 0, .int .u8 0, .int .u8 0, .int .u8 0, .int .u8 0, .int .u8 0, .int .u8 0, .int .u8 0, .int .u8 0, .int .u8 0, .int .u8 0, .int .u8 0, .int .u8 0, .int .u8 0, .int .u8 0, .int .u8 0, .int .u8 0, .int .u8 0, .int .u8 0, .int .u8 0, .int .u8 0, .int .u8 0, .int .u8 0, .int .u8 0, .int .u8 0, .int .u8 0, .int .u8 0, .int .u8 0, .int .u8 0, .int .u8 0, .int .u8 0, .int .u8 0, .int .u8 0, .int .u8 0, .int .u8 0, .int .u8 0, .int .u8 0, .int .u8 0, .int .u8 0, .int .u8 0, .int .u8 0, .int .u8 0, .int .u8 0, .int .u8 0, .int .u8 0, .int .u8 0, .int .u8 0, .int .u8 0, .int .u8 0, .int .u8 0, .int .u8 0, .int .u8 0, .int .u8 0, .int .u8 0, .int .u8 0, .int .u8 0, .int .u8 0, .int .u8 0, .int .u8 0, .int .u8 0, .int .u8 0, .int .u8 0, .int .u8 0, .int .u8 0, .int .u8 0, .int .u8 0, .int .u8 0, .int .u8 0, .int .u8 0, .int .u8 0, .int .u8 0, .int .u8 0, .int .u8 0, .int .u8 0, .int .u8 0, .int .u8 0, .int .u8 0, .int .u8 0, .int .u8 0, .int .u8 0, .int .u8 0, .int .u8 0, .int .u8 0, .int .u8 0, .int .u8 0, .int .u8 0, .int .u8 0, .int .u8 0, .int .u8 0, .int .u8 0, .int .u8 0, .int .u8 0, .int .u8 0, .int .u8 0, .int .u8 0, .int .u8 0, .int .u8 0, .int .u8 0, .int .u8 0, .int .u8 0, .int .u8 0, .int .u8 0, .int .u8 0, .int .u8 0, .int .u8 0, .int .u8 0, .int .u8 0, .int .u8 0, .int .u8 0, .int .u8 0, .int .u8 0, .int .u8 0, .int .u8 0, .int .u8 0, .int .u8 0, .int .u8 0, .int .u8 0, .int .u8 0, .int .u8 0, .int .u8 0, .int .u8 0, .int .u8 0, .int .u8 0, .int .u8 0, .int .u8 0, .int .u8 0, .int .u8 0, .int .u8 0, .int .u8 0, .int .u8 0, .int .u8 0, .int .u8 0, .int .u8 0, .int .u8 0, .int .u8 0, .int .u8 0, .int .u8 0, .int .u8 0, .int .u8 0, .int .u8 0, .int .u8 0, .int .u8 0, .int .u8 0, .int .u8 0, .int .u8 0, .int .u8 0, .int .u8 0, .int .u8 0, .int .u8 0, .int .u8 0, .int .u8 0, .int .u8 0, .int .u8 0, .int .u8 0, .int .u8 0, .int .u8 0, .int .u8 0, .int .u8 0, .int .u8 0, .int .u8 0, .int .u8 0, .int .u8 0, .int .u8 0, .int .u8 0, .int .u8 0, .int .u8 0, .int .u8 0, .int .u8 0, .int .u8 0, .int .u8 0, .int .u8 0, .int .u8 0, .int .u8 0, .int .u8 0, .int .u8 0, .int .u8 0, .int .u8 0, .int .u8 0, .int .u8 0, .int .u8 0, .int .u8 0, .int .u8 0, .int .u8 0, .int .u8 0, .int .u8 0, .int .u8 0, .int .u8 0, .int .u8 0, .int .u8 0, .int .u8 0, .int .u8 0, .int .u8 0, .int .u8 0, .int .u8 0, .int .u8 0, .int .u8 0, .int .u8 0], false⟩,
  some ⟨(.st [(0, 5), (1, 5)]), 2, 2, [.int .u8 0, .int .u8 0], true⟩,
  some ⟨(.st [(0, 5), (1, 5)]), 2, 2, [.int .u8 0, .int .u8 0], true⟩,
  some ⟨(.arr 16 135), 32, 32, [.int .u8 0, .int .u8 0, .int .u8 0, .int .u8 0, .int .u8 0, .int .u8 0, .int .u8 0, .int .u8 0, .int .u8 0, .int .u8 0, .int .u8 0, .int .u8 0, .int .u8 0, .int .u8 0, .int .u8 0, .int .u8 0, .int .u8 0, .int .u8 0, .int .u8 0, .int .u8 0, .int .u8 0, .int .u8 0, .int .u8 0, .int .u8 0, .int .u8 0, .int .u8 0, .int .u8 0, .int .u8 0, .int .u8 0, .int .u8 0, .int .u8 0, .int .u8 0], false⟩,
  some ⟨.fn, 1, 8, [.nilFunc], false⟩,
  some ⟨(.st [(0, 17), (1, 17), (2, 17), (3, 9)]), 4, 40, [.pointer none, .pointer none, .pointer none, .string ⟨#[]⟩], false⟩,
  some ⟨(.st [(0, 17), (1, 17), (2, 17), (3, 9)]), 4, 40, [.pointer none, .pointer none, .pointer none, .string ⟨#[]⟩], false⟩,
  some ⟨(.arr 0 16), 0, 0, [], false⟩,
  some ⟨(.st [(0, 140)]), 0, 0, [], false⟩,
  some ⟨(.st [(0, 140)]), 0, 0, [], false⟩,
  some ⟨.fn, 1, 8, [.nilFunc], false⟩,
  some ⟨(.int .u8), 1, 1, [.int .u8 0], false⟩,
  some ⟨(.int .u8), 1, 1, [.int .u8 0], false⟩,
  some ⟨.fn, 1, 8, [.nilFunc], false⟩,
  some ⟨(.int .i32), 1, 4, [.int .i32 0], false⟩,
  some ⟨(.int .i32), 1, 4, [.int .i32 0], false⟩,
  some ⟨(.st [(0, 12), (1, 12), (2, 110), (3, 144), (4, 5), (5, 5), (6, 145), (7, 146), (8, 100), (9, 147), (10, 148)]), 11, 48, [.int .u64 0, .int .u64 0, .int .u32 0, .int .u8 0, .int .u8 0, .int .u8 0, .int .u8 0, .nilFunc, .pointer none, .int .i32 0, .int .i32 0], false⟩,
  some ⟨(.st [(0, 12), (1, 12), (2, 110), (3, 144), (4, 5), (5, 5), (6, 145), (7, 146), (8, 100), (9, 147), (10, 148)]), 11, 48, [.int .u64 0, .int .u64 0, .int .u32 0, .int .u8 0, .int .u8 0, .int .u8 0, .int .u8 0, .nilFunc, .pointer none, .int .i32 0, .int .i32 0], false⟩]

theorem TTok (n : Nat) (I : World → Prop) : Ctx.ok ⟨Tryd.prog, TT, n, I⟩ := Ctx.ok_of (by kernel_rfl) n I
theorem mixed : Tryd.prog.follows .mixedOrders = true := by kernel_rfl
end Go.Proofs.YtopadpgpmkkpgaaDoor
namespace Go.Proofs.YtopadpgpmkkpgaaDoor
open Go.SX
def GG : Nat → Option (List Value)
  | 0 => some [.int .u64 1, .int .u64 10, .int .u64 100, .int .u64 1000, .int .u64 10000, .int .u64 100000, .int .u64 1000000, .int .u64 10000000, .int .u64 100000000, .int .u64 1000000000, .int .u64 10000000000, .int .u64 100000000000, .int .u64 1000000000000, .int .u64 10000000000000, .int .u64 100000000000000, .int .u64 1000000000000000, .int .u64 10000000000000000, .int .u64 100000000000000000, .int .u64 1000000000000000000, .int .u64 10000000000000000000]
  | _ => none
end Go.Proofs.YtopadpgpmkkpgaaDoor
set_option maxRecDepth 100000
namespace Go.Proofs.YtopadpgpmkkpgaaDoor
open Go.SX
def rightM (v6 : Bool) (hi lo : Int) : Bool := v6 || (hi == 0 && lo / 4294967296 == 0)
theorem right_ret (v6 : Bool) (hi lo : Int) (w : World) : Ret Tryd.prog 15 [.agg #[.bool v6, .int .u64 hi, .int .u64 lo]] w (.bool (rightM v6 hi lo)) := by
  refine Ret.of (I := fun _ => True) (fun _ _ => trivial) (TTok 0 _) Tryd.func15 (by kernel_rfl) rfl rfl ?_
  repeat' ((conv => whnf); with_reducible first
    | refine TR.seq ?_ | refine TR.region (TTok 0 _) ?_ | refine Ld.mk' _ rfl ?_ | refine TR.ret ?_ | refine TR.drawn (TTok 0 _) mixed ?_
    | refine Br.mk (fun _ => ?_) (fun _ => ?_) | refine Sh.shrL ?_ | refine Sh.shlL ?_ | refine Nm.fd (by decide) ?_ | refine Nm.i64 (by omega) ?_)
  all_goals (conv => whnf)
  all_goals simp_all [val, rightM]
theorem refright_ret (v6 : Bool) (hi lo : Int) (w : World) (h0 : 0 ≤ lo) : Ret Tryd.prog 30 [.agg #[.bool v6, .int .u64 hi, .int .u64 lo]] w (.bool (rightM v6 hi lo)) := by
  refine Ret.of (I := fun _ => True) (fun _ _ => trivial) (TTok 0 _) Tryd.func30 (by kernel_rfl) rfl rfl ?_
  repeat' ((conv => whnf); with_reducible first
    | refine TR.seq ?_ | refine TR.region (TTok 0 _) ?_ | refine Ld.mk' _ rfl ?_ | refine TR.ret ?_ | refine TR.drawn (TTok 0 _) mixed ?_
    | refine Br.mk (fun _ => ?_) (fun _ => ?_))
  all_goals (conv => whnf)
  all_goals simp_all [val, rightM]
  all_goals (rw [Bool.eq_iff_iff]; simp; omega)
theorem width_ret (v6 : Bool) (hi lo : Int) (w : World) : Ret Tryd.prog 33 [.agg #[.bool v6, .int .u64 hi, .int .u64 lo]] w (.int .i64 (if v6 then 128 else 32)) := by
  refine Ret.of (I := fun _ => True) (fun _ _ => trivial) (TTok 0 _) Tryd.func33 (by kernel_rfl) rfl rfl ?_
  repeat' ((conv => whnf); with_reducible first
    | refine TR.seq ?_ | refine TR.region (TTok 0 _) ?_ | refine Ld.mk' _ rfl ?_ | refine TR.ret ?_ | refine TR.drawn (TTok 0 _) mixed ?_
    | refine TR.cond (t := v6) rfl (fun _ => ?_) (fun _ => ?_) | refine TR.skip ?_ | refine Br.mk (fun _ => ?_) (fun _ => ?_))
  all_goals (conv => whnf)
  all_goals simp_all [val]
def pathM (v6 : Bool) (hi lo : Int) : Value := if v6 then .agg #[.int .u64 hi, .int .u64 lo, .int .i64 128] else .agg #[.int .u64 (IntKind.u64.wrap (lo * 4294967296)), .int .u64 0, .int .i64 32]
theorem pathOf_ret (v6 : Bool) (hi lo : Int) (w : World) : Ret Tryd.prog 21 [.agg #[.bool v6, .int .u64 hi, .int .u64 lo]] w (pathM v6 hi lo) := by
  refine Ret.of (I := fun _ => True) (fun _ _ => trivial) (TTok 0 _) Tryd.func21 (by kernel_rfl) rfl rfl ?_
  repeat' ((conv => whnf); with_reducible first
    | refine TR.seq ?_ | refine TR.region (TTok 0 _) ?_ | refine Ld.mk' _ rfl ?_ | refine TR.ret ?_ | refine TR.drawn (TTok 0 _) mixed ?_
    | refine TR.cond (t := v6) rfl (fun _ => ?_) (fun _ => ?_) | refine TR.skip ?_ | refine Br.mk (fun _ => ?_) (fun _ => ?_) | refine Sh.shlL ?_ | refine Nm.keep ?_)
  all_goals (conv => whnf)
  all_goals simp_all [val, valL, pathM]
def bitM (hi lo k : Int) : Int := if k < 64 then hi / 2 ^ (63 - k).toNat % 2 else lo / 2 ^ (127 - k).toNat % 2
theorem bit_ret (hi lo wide k : Int) (w : World) (h0 : 0 ≤ k) (h1 : k < 128) (hh : 0 ≤ hi ∧ hi ≤ 18446744073709551615) (hl : 0 ≤ lo ∧ lo ≤ 18446744073709551615) : Ret Tryd.prog 22 [.agg #[.int .u64 hi, .int .u64 lo, .int .i64 wide], .int .i64 k] w (.int .i64 (bitM hi lo k)) := by
  have d1 := div_pow_range hh (63 - k).toNat
  have d2 := div_pow_range hl (127 - k).toNat
  refine Ret.of (I := fun _ => True) (fun _ _ => trivial) (TTok 0 _) Tryd.func22 (by kernel_rfl) rfl rfl ?_
  repeat' ((conv => whnf); with_reducible first
    | refine TR.seq ?_ | refine TR.region (TTok 0 _) ?_ | refine Ld.mk' _ rfl ?_ | refine TR.ret ?_ | refine TR.drawn (TTok 0 _) mixed ?_
    | refine TR.cond_dec (p := k < 64) rfl (fun _ => ?_) (fun _ => ?_) | refine TR.skip ?_
    | refine Br.mk (fun _ => ?_) (fun _ => ?_) | refine Sh.shr64 (by omega) ?_ | refine Nm.and1 (by assumption) ?_ | refine Nm.i64 (by omega) ?_)
  all_goals (conv => whnf)
  all_goals simp_all [val, bitM]
  all_goals (try (intro _; omega))
def restHi (hi k : Int) : Int := if 64 ≤ k then 0 else IntKind.u64.wrap (hi * 2 ^ k.toNat)
def restLo (lo k : Int) : Int := if 64 ≤ k then IntKind.u64.wrap (lo * 2 ^ (k - 64).toNat) else lo
theorem rest_ret (hi lo wide k : Int) (w : World) (h0 : 0 ≤ k) (h1 : k ≤ 128) : Ret Tryd.prog 32 [.agg #[.int .u64 hi, .int .u64 lo, .int .i64 wide], .int .i64 k] w (.tuple #[.int .u64 (restHi hi k), .int .u64 (restLo lo k)]) := by
  refine Ret.of (I := fun _ => True) (fun _ _ => trivial) (TTok 0 _) Tryd.func32 (by kernel_rfl) rfl rfl ?_
  repeat' ((conv => whnf); with_reducible first
    | refine TR.seq ?_ | refine TR.region (TTok 0 _) ?_ | refine Ld.mk' _ rfl ?_ | refine TR.ret ?_ | refine TR.drawn (TTok 0 _) mixed ?_
    | refine TR.cond_dec (p := k ≥ 64) rfl (fun _ => ?_) (fun _ => ?_) | refine TR.skip ?_ | refine Need.mk' (by kernel_rfl) (fun _ => ?_)
    | refine Br.mk (fun _ => ?_) (fun _ => ?_) | refine Sh.shl64 (by omega) ?_ | refine Nm.i64 (by omega) ?_)
  all_goals (conv => whnf)
  all_goals simp_all [val, valL, restHi, restLo]
  all_goals (try omega)
def prefM (v6 : Bool) (hi lo bits : Int) : Bool :=
  rightM v6 hi lo && !(decide (bits < 0)) && !(decide (bits > if v6 then 128 else 32)) && (if v6 then restHi hi bits == 0 && restLo lo bits == 0 else restHi (IntKind.u64.wrap (lo * 4294967296)) bits == 0 && restLo 0 bits == 0)
theorem pref_ret (v6 : Bool) (hi lo bits : Int) (w : World) : Ret Tryd.prog 19 [.agg #[.bool v6, .int .u64 hi, .int .u64 lo, .int .i64 bits]] w (.bool (prefM v6 hi lo bits)) := by
  have p1 : ∀ w, Ret Tryd.prog 21 [.agg #[.bool v6, .int .u64 hi, .int .u64 lo]] w (pathM v6 hi lo) := fun w => pathOf_ret v6 hi lo w
  have hv : v6 = true ∨ v6 = false := by cases v6 <;> simp
  rcases hv with hv | hv
  all_goals subst hv
  all_goals simp only [pathM, if_true, Bool.false_eq_true, if_false] at p1
  all_goals refine Ret.of (I := fun _ => True) (fun _ _ => trivial) (TTok 0 _) Tryd.func19 (by kernel_rfl) rfl rfl ?_
  all_goals repeat' ((conv => whnf); with_reducible first
    | refine TR.seq ?_ | refine TR.region (TTok 0 _) ?_ | refine Ld.mk' _ rfl ?_ | refine TR.ret ?_ | refine TR.drawn (TTok 0 _) mixed ?_
    | refine TR.cond_true rfl ?_ | refine TR.cond_false rfl ?_ | refine TR.cond rfl (fun _ => ?_) (fun _ => ?_) | refine TR.skip ?_ | refine Need.mk' (by kernel_rfl) (fun _ => ?_)
    | refine Br.mk (fun _ => ?_) (fun _ => ?_) | refine x_ret (f := 15) rfl rfl (fun w _ => right_ret _ _ _ w) ?_ | refine x_ret (f := 21) rfl rfl (fun w _ => p1 w) ?_
    | refine x_ret (f := 32) rfl rfl (fun w _ => rest_ret _ _ _ _ w (by simp_all <;> omega) (by simp_all <;> omega)) ?_)
  all_goals (conv => whnf)
  all_goals (clear p1; simp_all [val, prefM])
  all_goals (try (intros; omega))
  all_goals simp [rightM]
end Go.Proofs.YtopadpgpmkkpgaaDoor
set_option maxRecDepth 100000
namespace Go.Proofs.YtopadpgpmkkpgaaDoor
open Go.SX
def B8 (x : Int) : List Int := [IntKind.u8.wrap (x / 72057594037927936), IntKind.u8.wrap (x / 281474976710656), IntKind.u8.wrap (x / 1099511627776), IntKind.u8.wrap (x / 4294967296), IntKind.u8.wrap (x / 16777216), IntKind.u8.wrap (x / 65536), IntKind.u8.wrap (x / 256), IntKind.u8.wrap (x / 1)]
theorem bytes4_ret (hi lo : Int) (w : World) : Ret Tryd.prog 42 [.agg #[.bool false, .int .u64 hi, .int .u64 lo]] w (.string (strOfNums ((B8 lo).drop 4))) := by
  refine Ret.of (I := fun _ => True) (fun _ _ => trivial) (TTok 0 _) Tryd.func42 (by kernel_rfl) rfl rfl ?_
  repeat' ((conv => whnf); with_reducible first
    | refine TR.seq ?_ | refine TR.region (TTok 0 _) ?_ | refine Ld.mk' _ rfl ?_ | refine TR.ret ?_ | refine TR.drawn (TTok 0 _) mixed ?_
    | refine TR.cond_true rfl ?_ | refine TR.cond_false rfl ?_ | refine TR.skip ?_ | refine TR.exit ?_ | refine Need.mk' (by kernel_rfl) (fun _ => ?_) | refine TR.block ?_)
  refine TR.le ?_ (Le.promote (i := 3) (c := 3) (e := 5) (esz := 1) rfl rfl)
  refine TR.loopH (fun r : Nat => [(3, .sl 3 r 0 r), (6, .v (.int .i64 (3 - r)))]) (fun r => [(3, ⟨.row, 5, 1, r, byt (((B8 lo).drop 4).take r)⟩)]) (fun r => r ≤ 4) (fun r => 4 - r) 0 (by decide) ?_ ?_
  · repeat' ((conv => whnf); first | exact trivial | exact Fgt.mk rfl rfl rfl | refine And.intro rfl ?_ | refine And.intro ?_ ?_)
  · intro r hr
    have hr' : r = 0 ∨ r = 1 ∨ r = 2 ∨ r = 3 ∨ r = 4 := by omega
    rcases hr' with rfl | rfl | rfl | rfl | rfl
    all_goals repeat' ((conv => whnf); with_reducible first
      | refine TR.seq ?_ | refine TR.region (TTok 0 _) ?_ | refine Ld.mk' _ rfl ?_ | refine TR.ret ?_ | refine TR.drawn (TTok 0 _) mixed ?_
      | refine TR.cond_dec rfl (fun hlt => ?_) (fun hlt => ?_) | refine TR.skip ?_ | refine TR.exit ?_ | refine Need.mk' (by kernel_rfl) (fun _ => ?_) | refine Need.mk' (by decide) (fun _ => ?_)
      | refine Br.mk (fun _ => ?_) (fun _ => ?_) | refine TR.block ?_ | refine Nm.i64 (by omega) ?_ | refine Sh.shrL ?_ | refine Nm.fd (by decide) ?_ | refine x_more (TTok 0 _) ?_ | refine Nm.keep ?_)
    all_goals (conv => whnf)
    all_goals try first
      | (exfalso; omega)
      | rfl
    · refine ⟨1, by decide, by decide, ?_⟩
      repeat' ((conv => whnf); first | exact trivial | exact Fgt.mk rfl rfl rfl | refine And.intro rfl ?_ | refine And.intro ?_ ?_)
    · refine ⟨2, by decide, by decide, ?_⟩
      repeat' ((conv => whnf); first | exact trivial | exact Fgt.mk rfl rfl rfl | refine And.intro rfl ?_ | refine And.intro ?_ ?_)
    · refine ⟨3, by decide, by decide, ?_⟩
      repeat' ((conv => whnf); first | exact trivial | exact Fgt.mk rfl rfl rfl | refine And.intro rfl ?_ | refine And.intro ?_ ?_)
    · refine ⟨4, by decide, by decide, ?_⟩
      repeat' ((conv => whnf); first | exact trivial | exact Fgt.mk rfl rfl rfl | refine And.intro rfl ?_ | refine And.intro ?_ ?_)
theorem bytes16_ret (hi lo : Int) (w : World) : Ret Tryd.prog 42 [.agg #[.bool true, .int .u64 hi, .int .u64 lo]] w (.string (strOfNums (B8 hi ++ B8 lo))) := by
  refine Ret.of (I := fun _ => True) (fun _ _ => trivial) (TTok 0 _) Tryd.func42 (by kernel_rfl) rfl rfl ?_
  repeat' ((conv => whnf); with_reducible first
    | refine TR.seq ?_ | refine TR.region (TTok 0 _) ?_ | refine Ld.mk' _ rfl ?_ | refine TR.ret ?_ | refine TR.drawn (TTok 0 _) mixed ?_
    | refine TR.cond_true rfl ?_ | refine TR.cond_false rfl ?_ | refine TR.skip ?_ | refine TR.exit ?_ | refine Need.mk' (by kernel_rfl) (fun _ => ?_) | refine TR.block ?_)
  refine TR.le ?_ (Le.promote (i := 3) (c := 3) (e := 5) (esz := 1) rfl rfl)
  refine TR.loopH (fun r : Nat => [(3, .sl 3 r 0 r), (4, .v (.int .i64 (7 - r)))]) (fun r => [(3, ⟨.row, 5, 1, r, byt ((B8 hi).take r)⟩)]) (fun r => r ≤ 8) (fun r => 8 - r) 0 (by decide) ?_ ?_
  · repeat' ((conv => whnf); first | exact trivial | exact Fgt.mk rfl rfl rfl | refine And.intro rfl ?_ | refine And.intro ?_ ?_)
  · intro r hr
    have hr' : r = 0 ∨ r = 1 ∨ r = 2 ∨ r = 3 ∨ r = 4 ∨ r = 5 ∨ r = 6 ∨ r = 7 ∨ r = 8 := by omega
    rcases hr' with rfl | rfl | rfl | rfl | rfl | rfl | rfl | rfl | rfl
    all_goals repeat' ((conv => whnf); with_reducible first
      | refine TR.seq ?_ | refine TR.region (TTok 0 _) ?_ | refine Ld.mk' _ rfl ?_ | refine TR.ret ?_ | refine TR.drawn (TTok 0 _) mixed ?_
      | refine TR.cond_dec rfl (fun hlt => ?_) (fun hlt => ?_) | refine TR.skip ?_ | refine TR.exit ?_ | refine Need.mk' (by kernel_rfl) (fun _ => ?_) | refine Need.mk' (by decide) (fun _ => ?_)
      | refine Br.mk (fun _ => ?_) (fun _ => ?_) | refine TR.block ?_ | refine Nm.i64 (by omega) ?_ | refine Sh.shrL ?_ | refine Nm.fd (by decide) ?_ | refine x_more (TTok 0 _) ?_ | refine Nm.keep ?_)
    all_goals (conv => whnf)
    all_goals try first
      | (exfalso; omega)
      | rfl
    · refine ⟨1, by decide, by decide, ?_⟩
      repeat' ((conv => whnf); first | exact trivial | exact Fgt.mk rfl rfl rfl | refine And.intro rfl ?_ | refine And.intro ?_ ?_)
    · refine ⟨2, by decide, by decide, ?_⟩
      repeat' ((conv => whnf); first | exact trivial | exact Fgt.mk rfl rfl rfl | refine And.intro rfl ?_ | refine And.intro ?_ ?_)
    · refine ⟨3, by decide, by decide, ?_⟩
      repeat' ((conv => whnf); first | exact trivial | exact Fgt.mk rfl rfl rfl | refine And.intro rfl ?_ | refine And.intro ?_ ?_)
    · refine ⟨4, by decide, by decide, ?_⟩
      repeat' ((conv => whnf); first | exact trivial | exact Fgt.mk rfl rfl rfl | refine And.intro rfl ?_ | refine And.intro ?_ ?_)
    · refine ⟨5, by decide, by decide, ?_⟩
      repeat' ((conv => whnf); first | exact trivial | exact Fgt.mk rfl rfl rfl | refine And.intro rfl ?_ | refine And.intro ?_ ?_)
    · refine ⟨6, by decide, by decide, ?_⟩
      repeat' ((conv => whnf); first | exact trivial | exact Fgt.mk rfl rfl rfl | refine And.intro rfl ?_ | refine And.intro ?_ ?_)
    · refine ⟨7, by decide, by decide, ?_⟩
      repeat' ((conv => whnf); first | exact trivial | exact Fgt.mk rfl rfl rfl | refine And.intro rfl ?_ | refine And.intro ?_ ?_)
    · refine ⟨8, by decide, by decide, ?_⟩
      repeat' ((conv => whnf); first | exact trivial | exact Fgt.mk rfl rfl rfl | refine And.intro rfl ?_ | refine And.intro ?_ ?_)
    refine TR.loopH (fun r : Nat => [(3, .sl 3 (8 + r) 0 (8 + r)), (5, .v (.int .i64 (7 - r)))]) (fun r => [(3, ⟨.row, 5, 1, 8 + r, byt (B8 hi ++ (B8 lo).take r)⟩)]) (fun r => r ≤ 8) (fun r => 8 - r) 0 (by decide) ?_ ?_
    · repeat' ((conv => whnf); first | exact trivial | exact Fgt.mk rfl rfl rfl | refine And.intro rfl ?_ | refine And.intro ?_ ?_)
    · intro r hr
      have hr' : r = 0 ∨ r = 1 ∨ r = 2 ∨ r = 3 ∨ r = 4 ∨ r = 5 ∨ r = 6 ∨ r = 7 ∨ r = 8 := by omega
      rcases hr' with rfl | rfl | rfl | rfl | rfl | rfl | rfl | rfl | rfl
      all_goals repeat' ((conv => whnf); with_reducible first
        | refine TR.seq ?_ | refine TR.region (TTok 0 _) ?_ | refine Ld.mk' _ rfl ?_ | refine TR.ret ?_ | refine TR.drawn (TTok 0 _) mixed ?_
        | refine TR.cond_dec rfl (fun hlt => ?_) (fun hlt => ?_) | refine TR.skip ?_ | refine TR.exit ?_ | refine Need.mk' (by kernel_rfl) (fun _ => ?_) | refine Need.mk' (by decide) (fun _ => ?_)
        | refine Br.mk (fun _ => ?_) (fun _ => ?_) | refine TR.block ?_ | refine Nm.i64 (by omega) ?_ | refine Sh.shrL ?_ | refine Nm.fd (by decide) ?_ | refine x_more (TTok 0 _) ?_ | refine Nm.keep ?_)
      all_goals (conv => whnf)
      all_goals try first
        | (exfalso; omega)
        | rfl
      · refine ⟨1, by decide, by decide, ?_⟩
        repeat' ((conv => whnf); first | exact trivial | exact Fgt.mk rfl rfl rfl | refine And.intro rfl ?_ | refine And.intro ?_ ?_)
      · refine ⟨2, by decide, by decide, ?_⟩
        repeat' ((conv => whnf); first | exact trivial | exact Fgt.mk rfl rfl rfl | refine And.intro rfl ?_ | refine And.intro ?_ ?_)
      · refine ⟨3, by decide, by decide, ?_⟩
        repeat' ((conv => whnf); first | exact trivial | exact Fgt.mk rfl rfl rfl | refine And.intro rfl ?_ | refine And.intro ?_ ?_)
      · refine ⟨4, by decide, by decide, ?_⟩
        repeat' ((conv => whnf); first | exact trivial | exact Fgt.mk rfl rfl rfl | refine And.intro rfl ?_ | refine And.intro ?_ ?_)
      · refine ⟨5, by decide, by decide, ?_⟩
        repeat' ((conv => whnf); first | exact trivial | exact Fgt.mk rfl rfl rfl | refine And.intro rfl ?_ | refine And.intro ?_ ?_)
      · refine ⟨6, by decide, by decide, ?_⟩
        repeat' ((conv => whnf); first | exact trivial | exact Fgt.mk rfl rfl rfl | refine And.intro rfl ?_ | refine And.intro ?_ ?_)
      · refine ⟨7, by decide, by decide, ?_⟩
        repeat' ((conv => whnf); first | exact trivial | exact Fgt.mk rfl rfl rfl | refine And.intro rfl ?_ | refine And.intro ?_ ?_)
      · refine ⟨8, by decide, by decide, ?_⟩
        repeat' ((conv => whnf); first | exact trivial | exact Fgt.mk rfl rfl rfl | refine And.intro rfl ?_ | refine And.intro ?_ ?_)
end Go.Proofs.YtopadpgpmkkpgaaDoor
set_option maxRecDepth 100000
namespace Go.Proofs.YtopadpgpmkkpgaaDoor
open Go.SX
theorem byte_bit (x : Int) (a b : Nat) (hb : b ≤ 7) : IntKind.u8.wrap (x / 2 ^ a) / 2 ^ b % 2 = x / 2 ^ (a + b) % 2 := by
  have h1 : x / 2 ^ (a + b) = x / 2 ^ a / 2 ^ b := by
    rw [Int.pow_add, Int.ediv_ediv_of_nonneg (Int.le_of_lt (pow_pos' a))]
  rw [h1]
  generalize x / 2 ^ a = y
  have h2 : IntKind.u8.wrap y = y % 256 := by
    simp [IntKind.wrap, IntKind.signed, IntKind.bits]
  rw [h2]
  have : b = 0 ∨ b = 1 ∨ b = 2 ∨ b = 3 ∨ b = 4 ∨ b = 5 ∨ b = 6 ∨ b = 7 := by omega
  rcases this with rfl | rfl | rfl | rfl | rfl | rfl | rfl | rfl <;> simp <;> omega
theorem bAt_nums (l : List Int) (q : Nat) (n : Int) (hq : l[q]? = some n) (hn : 0 ≤ n ∧ n ≤ 255) : bAt (strOfNums l) q = n := by
  unfold bAt
  rw [strOfNums_data]
  simp only [Int.toNat_natCast, List.getD_eq_getElem?_getD, List.getElem?_map, hq, Option.map_some, Option.getD_some]
  simp
  omega
def bitsOf (v6 : Bool) (hi lo : Int) : List Int := if v6 then B8 hi ++ B8 lo else (B8 lo).drop 4
theorem bytes_ret (v6 : Bool) (hi lo : Int) (w : World) : Ret Tryd.prog 42 [.agg #[.bool v6, .int .u64 hi, .int .u64 lo]] w (.string (strOfNums (bitsOf v6 hi lo))) := by
  cases v6
  · exact bytes4_ret hi lo w
  · exact bytes16_ret hi lo w
theorem wrap8 (x : Int) : 0 ≤ IntKind.u8.wrap x ∧ IntKind.u8.wrap x ≤ 255 := by
  have h2 : IntKind.u8.wrap x = x % 256 := by simp [IntKind.wrap, IntKind.signed, IntKind.bits]
  rw [h2]; omega
theorem bitsOf_range (v6 : Bool) (hi lo : Int) (q : Nat) (n : Int) (h : (bitsOf v6 hi lo)[q]? = some n) : 0 ≤ n ∧ n ≤ 255 := by
  have hm := List.mem_of_getElem? h
  unfold bitsOf at hm
  cases v6
  · simp [B8] at hm
    rcases hm with rfl | rfl | rfl | rfl <;> exact wrap8 _
  · simp [B8] at hm
    rcases hm with rfl | rfl | rfl | rfl | rfl | rfl | rfl | rfl | rfl | rfl | rfl | rfl | rfl | rfl | rfl | rfl <;> exact wrap8 _
def wid (v6 : Bool) : Int := if v6 then 128 else 32
theorem refbit_ret (v6 : Bool) (hi lo k : Int) (w : World) (h0 : 0 ≤ k) (h1 : k < wid v6) :
    Ret Tryd.prog 31 [.agg #[.bool v6, .int .u64 hi, .int .u64 lo], .int .i64 k] w (.int .u64 (bAt (strOfNums (bitsOf v6 hi lo)) (k / 8) / 2 ^ (7 - k % 8).toNat % 2)) := by
  have hsz : ((strOfNums (bitsOf v6 hi lo)).size : Int) * 8 = wid v6 := by
    rw [strOfNums_size]; cases v6 <;> simp [bitsOf, B8, wid]
  have hw : wid v6 ≤ 128 := by cases v6 <;> simp [wid]
  have hd : 0 ≤ bAt (strOfNums (bitsOf v6 hi lo)) (k / 8) / 2 ^ (7 - k % 8).toNat := Int.ediv_nonneg (by unfold bAt; omega) (Int.le_of_lt (pow_pos' _))
  refine Ret.of (I := fun _ => True) (fun _ _ => trivial) (TTok 0 _) Tryd.func31 (by kernel_rfl) rfl rfl ?_
  repeat' ((conv => whnf); with_reducible first
    | refine TR.seq ?_ | refine TR.region (TTok 0 _) ?_ | refine Ld.mk' _ rfl ?_ | refine TR.ret ?_ | refine TR.drawn (TTok 0 _) mixed ?_
    | refine x_ret (f := 42) rfl rfl (fun w _ => bytes_ret _ _ _ w) ?_ | refine Need.mk' (by decide) (fun _ => ?_)
    | refine Nm.mk' (k / 8) (by rw [Int.tdiv_eq_ediv_of_nonneg h0]; exact wrap_i64 (by omega)) ?_ | refine Need.mk' (by omega) (fun _ => ?_)
    | refine Nm.mk' (k % 8) (Int.tmod_eq_emod_of_nonneg h0) ?_ | refine Nm.i64 (by omega) ?_ | refine Sh.shr8 (by omega) ?_
    | refine Nm.mk' (bAt (strOfNums (bitsOf v6 hi lo)) (k / 8) / 2 ^ (7 - k % 8).toNat % 2) (Int.tmod_eq_emod_of_nonneg hd) ?_ | refine Nm.u64 (by omega) ?_)
  all_goals (conv => whnf)
  all_goals rfl
/-- The bits of the bytes are the number's. -/
theorem b8_get (x : Int) (j : Nat) (hj : j < 8) : (B8 x)[j]? = some (IntKind.u8.wrap (x / 2 ^ (8 * (7 - j)))) := by
  have : j = 0 ∨ j = 1 ∨ j = 2 ∨ j = 3 ∨ j = 4 ∨ j = 5 ∨ j = 6 ∨ j = 7 := by omega
  rcases this with rfl | rfl | rfl | rfl | rfl | rfl | rfl | rfl <;> rfl
theorem bits_law6 (hi lo k : Int) (h0 : 0 ≤ k) (h1 : k < 128) : bAt (strOfNums (bitsOf true hi lo)) (k / 8) / 2 ^ (7 - k % 8).toNat % 2 = bitM hi lo k := by
  obtain ⟨n, rfl⟩ : ∃ n : Nat, k = n := ⟨k.toNat, by omega⟩
  have e1 : ((n : Int) / 8) = ((n / 8 : Nat) : Int) := by omega
  have e2 : (7 - (n : Int) % 8).toNat = 7 - n % 8 := by omega
  rw [e1, e2]
  unfold bitM
  by_cases hn : n < 64
  · have hg : (bitsOf true hi lo)[n / 8]? = some (IntKind.u8.wrap (hi / 2 ^ (8 * (7 - n / 8)))) := by
      have := b8_get hi (n / 8) (by omega)
      simp only [bitsOf, if_true]
      rw [List.getElem?_append_left (by simp [B8]; omega)]
      exact this
    rw [bAt_nums _ _ _ hg (wrap8 _), byte_bit _ _ _ (by omega), if_pos (by omega)]
    congr 3
    omega
  · have hg : (bitsOf true hi lo)[n / 8]? = some (IntKind.u8.wrap (lo / 2 ^ (8 * (7 - (n / 8 - 8))))) := by
      have := b8_get lo (n / 8 - 8) (by omega)
      simp only [bitsOf, if_true]
      rw [List.getElem?_append_right (by simp [B8]; omega)]
      simpa [B8] using this
    rw [bAt_nums _ _ _ hg (wrap8 _), byte_bit _ _ _ (by omega), if_neg (by omega)]
    congr 3
    omega
end Go.Proofs.YtopadpgpmkkpgaaDoor
set_option maxRecDepth 100000
namespace Go.Proofs.YtopadpgpmkkpgaaDoor
open Go.SX
/-- A number's low bits are 0 just where it is a multiple. -/
theorem low_bits (x : Int) (hx : 0 ≤ x) : ∀ m : Nat, x % 2 ^ m = 0 ↔ ∀ i : Nat, i < m → x / 2 ^ i % 2 = 0
  | 0 => by simp [Int.emod_one]
  | m + 1 => by
    have hp := pow_pos' m
    have ih := low_bits x hx m
    have e : x % 2 ^ (m + 1) = x % 2 ^ m + 2 ^ m * (x / 2 ^ m % 2) := by
      rw [Int.pow_succ]
      have h1 := Int.mul_ediv_add_emod x (2 ^ m)
      have h2 := Int.mul_ediv_add_emod (x / 2 ^ m) 2
      have h3 : x / (2 ^ m * 2) = x / 2 ^ m / 2 := (Int.ediv_ediv_of_nonneg (by omega)).symm
      have h4 := Int.mul_ediv_add_emod x (2 ^ m * 2)
      rw [h3] at h4
      have h5 : 2 ^ m * (x / 2 ^ m) = 2 ^ m * 2 * (x / 2 ^ m / 2) + 2 ^ m * (x / 2 ^ m % 2) := by
        rw [Int.mul_assoc, ← Int.mul_add, h2]
      omega
    have hr : 0 ≤ x % 2 ^ m := Int.emod_nonneg _ (by omega)
    have hb : x / 2 ^ m % 2 = 0 ∨ x / 2 ^ m % 2 = 1 := by omega
    constructor
    · intro h i hi
      rw [e] at h
      rcases hb with h0 | h1
      · rw [h0] at h
        rcases Nat.lt_or_ge i m with h2 | h2
        · exact ih.1 (by simpa using h) i h2
        · have : i = m := by omega
          rw [this]; exact h0
      · rw [h1] at h; omega
    · intro h
      rw [e, h m (by omega), ih.2 (fun i hi => h i (by omega))]
      simp
theorem bits_law4 (hi lo k : Int) (hl : 0 ≤ lo ∧ lo < 4294967296) (h0 : 0 ≤ k) (h1 : k < 32) : bAt (strOfNums (bitsOf false hi lo)) (k / 8) / 2 ^ (7 - k % 8).toNat % 2 = bitM (IntKind.u64.wrap (lo * 4294967296)) 0 k := by
  obtain ⟨n, rfl⟩ : ∃ n : Nat, k = n := ⟨k.toNat, by omega⟩
  have e1 : ((n : Int) / 8) = ((n / 8 : Nat) : Int) := by omega
  have e2 : (7 - (n : Int) % 8).toNat = 7 - n % 8 := by omega
  rw [e1, e2, wrap_u64 (by omega)]
  unfold bitM
  have hg : (bitsOf false hi lo)[n / 8]? = some (IntKind.u8.wrap (lo / 2 ^ (8 * (7 - (n / 8 + 4))))) := by
    have := b8_get lo (n / 8 + 4) (by omega)
    simp only [bitsOf, Bool.false_eq_true, if_false]
    rw [List.getElem?_drop, Nat.add_comm]
    exact this
  rw [bAt_nums _ _ _ hg (wrap8 _), byte_bit _ _ _ (by omega), if_pos (by omega)]
  have e3 : (63 - (n : Int)).toNat = 32 + (31 - n) := by omega
  have e4 : lo * 4294967296 / 2 ^ 32 = lo := by
    have : (2 : Int) ^ 32 = 4294967296 := by decide
    rw [this]; omega
  have e5 : lo * 4294967296 / 2 ^ (32 + (31 - n)) = lo / 2 ^ (31 - n) := by
    rw [Int.pow_add, ← Int.ediv_ediv_of_nonneg (Int.le_of_lt (pow_pos' 32)), e4]
  rw [e3, e5]
  congr 3
  omega
end Go.Proofs.YtopadpgpmkkpgaaDoor
set_option maxRecDepth 100000
namespace Go.Proofs.YtopadpgpmkkpgaaDoor
open Go.SX
def ph (v6 : Bool) (hi lo : Int) : Int := if v6 then hi else IntKind.u64.wrap (lo * 4294967296)
def pl (v6 : Bool) (lo : Int) : Int := if v6 then lo else 0
def eqB (h1 l1 h2 l2 : Int) (n : Int) : Prop := ∀ j, 0 ≤ j → j < n → bitM h1 l1 j = bitM h2 l2 j
theorem path_ret (v6 : Bool) (hi lo : Int) (w : World) : Ret Tryd.prog 21 [.agg #[.bool v6, .int .u64 hi, .int .u64 lo]] w (.agg #[.int .u64 (ph v6 hi lo), .int .u64 (pl v6 lo), .int .i64 (wid v6)]) := by
  have := pathOf_ret v6 hi lo w
  cases v6 <;> simpa [pathM, ph, pl, wid] using this
theorem wrapu (x : Int) : 0 ≤ IntKind.u64.wrap x ∧ IntKind.u64.wrap x ≤ 18446744073709551615 := by
  have h2 : IntKind.u64.wrap x = x % 18446744073709551616 := by simp [IntKind.wrap, IntKind.signed, IntKind.bits]
  rw [h2]; omega
theorem ph_range (v6 : Bool) (hi lo : Int) (hh : 0 ≤ hi ∧ hi ≤ 18446744073709551615) : 0 ≤ ph v6 hi lo ∧ ph v6 hi lo ≤ 18446744073709551615 := by
  cases v6
  · exact wrapu _
  · exact hh
theorem pl_range (v6 : Bool) (lo : Int) (hl : 0 ≤ lo ∧ lo ≤ 18446744073709551615) : 0 ≤ pl v6 lo ∧ pl v6 lo ≤ 18446744073709551615 := by
  cases v6
  · simp [pl]
  · exact hl
theorem holds_ret (v6 : Bool) (hi lo bits : Int) (av6 : Bool) (ahi alo : Int) (w : World) (hh : 0 ≤ hi ∧ hi ≤ 18446744073709551615) (hl : 0 ≤ lo ∧ lo ≤ 18446744073709551615) (ah : 0 ≤ ahi ∧ ahi ≤ 18446744073709551615) (al : 0 ≤ alo ∧ alo ≤ 18446744073709551615)
    (b : Bool) (hbb : b = true ↔ (prefM v6 hi lo bits = true ∧ rightM av6 ahi alo = true ∧ v6 = av6 ∧ eqB (ph v6 hi lo) (pl v6 lo) (ph av6 ahi alo) (pl av6 alo) bits)) :
    Ret Tryd.prog 17 [.agg #[.bool v6, .int .u64 hi, .int .u64 lo, .int .i64 bits], .agg #[.bool av6, .int .u64 ahi, .int .u64 alo]] w (.bool b) := by
  have b1 : prefM v6 hi lo bits = true → 0 ≤ bits ∧ bits ≤ 128 := by
    intro hb
    cases v6 <;> simp [prefM] at hb <;> omega
  have r1 := ph_range v6 hi lo hh
  have r2 := pl_range v6 lo hl
  have r3 := ph_range av6 ahi alo ah
  have r4 := pl_range av6 alo al
  have bfalse : ¬ (prefM v6 hi lo bits = true ∧ rightM av6 ahi alo = true ∧ v6 = av6 ∧ eqB (ph v6 hi lo) (pl v6 lo) (ph av6 ahi alo) (pl av6 alo) bits) → b = false := by
    intro h
    cases b with
    | false => rfl
    | true => exact absurd (hbb.1 rfl) h
  refine Ret.of (I := fun _ => True) (fun _ _ => trivial) (TTok 0 _) Tryd.func17 (by kernel_rfl) rfl rfl ?_
  repeat' ((conv => whnf); with_reducible first
    | refine TR.seq ?_ | refine TR.region (TTok 0 _) ?_ | refine Ld.mk' _ rfl ?_ | refine TR.ret ?_ | refine TR.drawn (TTok 0 _) mixed ?_
    | refine TR.cond_true rfl ?_ | refine TR.cond_false rfl ?_ | refine TR.cond rfl (fun hc => ?_) (fun hc => ?_) | refine TR.skip ?_ | refine Need.mk' (by kernel_rfl) (fun _ => ?_)
    | refine Br.mk (fun _ => ?_) (fun _ => ?_) | refine x_ret (f := 15) rfl rfl (fun w _ => right_ret _ _ _ w) ?_ | refine x_ret (f := 21) rfl rfl (fun w _ => path_ret _ _ _ w) ?_
    | refine x_ret (f := 19) rfl rfl (fun w _ => pref_ret _ _ _ _ w) ?_ | refine TR.block ?_)
  all_goals (conv => whnf)
  all_goals try (exfalso; simp_all; done)
  all_goals try (rw [bfalse (by simp_all [eqR])]; rfl)
  have hp : prefM v6 hi lo bits = true := by simp_all
  have hr : rightM av6 ahi alo = true := by simp_all
  have hv : v6 = av6 := by simp_all [eqR]
  have b2 := b1 hp
  refine TR.loopH (fun k : Int => [(31, .v (.int .i64 k))]) (fun _ => []) (fun k => 0 ≤ k ∧ k ≤ bits ∧ eqB (ph v6 hi lo) (pl v6 lo) (ph av6 ahi alo) (pl av6 alo) k) (fun k => (bits - k).toNat) 0 ⟨by omega, by omega, fun j h0 h1 => by omega⟩ ?_ ?_
  · repeat' ((conv => whnf); first | exact trivial | exact Fgt.mk rfl rfl rfl | refine And.intro rfl ?_ | refine And.intro ?_ ?_)
  · rintro k ⟨k0, k1, k2⟩
    repeat' ((conv => whnf); with_reducible first
      | refine TR.seq ?_ | refine TR.region (TTok 0 _) ?_ | refine Ld.mk' _ rfl ?_ | refine TR.ret ?_ | refine TR.drawn (TTok 0 _) mixed ?_
      | refine TR.cond_true rfl ?_ | refine TR.cond_false rfl ?_ | refine TR.cond_dec (p := k < bits) rfl (fun hlt => ?_) (fun hlt => ?_) | refine TR.cond_ne rfl (fun hne => ?_) (fun heq => ?_) | refine TR.skip ?_ | refine TR.exit ?_ | refine Need.mk' (by kernel_rfl) (fun _ => ?_)
      | refine Br.mk (fun _ => ?_) (fun _ => ?_) | refine x_ret (f := 22) rfl rfl (fun w _ => bit_ret _ _ _ _ w (by omega) (by omega) (by assumption) (by assumption)) ?_
      | refine TR.block ?_ | refine Nm.i64 (by omega) ?_)
    all_goals (conv => whnf)
    · rw [bfalse (fun h => hne (h.2.2.2 k k0 hlt))]
      rfl
    · refine ⟨k + 1, ⟨by omega, by omega, fun j j0 j1 => ?_⟩, by omega, ?_⟩
      · by_cases hj : j = k
        · rw [hj]; exact heq
        · exact k2 j j0 (by omega)
      · repeat' ((conv => whnf); first | exact trivial | exact Fgt.mk rfl rfl rfl | refine And.intro rfl ?_ | refine And.intro ?_ ?_)
    · have hbt : b = true := hbb.2 ⟨hp, hr, hv, by
        have : k = bits := by omega
        rw [← this]
        exact k2⟩
      rw [hbt]
      rfl
end Go.Proofs.YtopadpgpmkkpgaaDoor
set_option maxRecDepth 100000
namespace Go.Proofs.YtopadpgpmkkpgaaDoor
open Go.SX
/-- The bit of an address, as the document has it. -/
def rbit (v6 : Bool) (hi lo k : Int) : Int := bAt (strOfNums (bitsOf v6 hi lo)) (k / 8) / 2 ^ (7 - k % 8).toNat % 2
theorem rbit_range (v6 : Bool) (hi lo k : Int) : 0 ≤ rbit v6 hi lo k ∧ rbit v6 hi lo k ≤ 1 := by unfold rbit; omega
def rpref (v6 : Bool) (hi lo bits : Int) : Prop := rightM v6 hi lo = true ∧ 0 ≤ bits ∧ bits ≤ wid v6 ∧ ∀ k, bits ≤ k → k < wid v6 → rbit v6 hi lo k = 0
theorem width_ret' (v6 : Bool) (hi lo : Int) (w : World) : Ret Tryd.prog 33 [.agg #[.bool v6, .int .u64 hi, .int .u64 lo]] w (.int .i64 (wid v6)) := width_ret v6 hi lo w
theorem rpref_ret (v6 : Bool) (hi lo bits : Int) (w : World) (hl : 0 ≤ lo) (b : Bool) (hbb : b = true ↔ rpref v6 hi lo bits) :
    Ret Tryd.prog 23 [.agg #[.bool v6, .int .u64 hi, .int .u64 lo, .int .i64 bits]] w (.bool b) := by
  have hw : wid v6 ≤ 128 := by cases v6 <;> simp [wid]
  have bfalse : ¬ rpref v6 hi lo bits → b = false := by
    intro h
    cases b with
    | false => rfl
    | true => exact absurd (hbb.1 rfl) h
  refine Ret.of (I := fun _ => True) (fun _ _ => trivial) (TTok 0 _) Tryd.func23 (by kernel_rfl) rfl rfl ?_
  repeat' ((conv => whnf); with_reducible first
    | refine TR.seq ?_ | refine TR.region (TTok 0 _) ?_ | refine Ld.mk' _ rfl ?_ | refine TR.ret ?_ | refine TR.drawn (TTok 0 _) mixed ?_
    | refine TR.cond_true rfl ?_ | refine TR.cond_false rfl ?_ | refine TR.cond rfl (fun hc => ?_) (fun hc => ?_) | refine TR.skip ?_ | refine Need.mk' (by kernel_rfl) (fun _ => ?_)
    | refine Br.mk (fun _ => ?_) (fun _ => ?_) | refine x_ret (f := 30) rfl rfl (fun w _ => refright_ret _ _ _ w hl) ?_ | refine x_ret (f := 33) rfl rfl (fun w _ => width_ret' _ _ _ w) ?_ | refine TR.block ?_)
  all_goals (conv => whnf)
  all_goals try (exfalso; simp_all; done)
  all_goals try (rw [bfalse (fun h => by obtain ⟨a1, a2, a3, _⟩ := h; simp_all <;> omega)]; rfl)
  have hr : rightM v6 hi lo = true := by simp_all
  have hb : 0 ≤ bits ∧ bits ≤ wid v6 := by simp_all
  refine TR.loopH (fun k : Int => [(4, .v (.int .i64 k))]) (fun _ => []) (fun k => bits ≤ k ∧ k ≤ wid v6 ∧ ∀ j, bits ≤ j → j < k → rbit v6 hi lo j = 0) (fun k => (wid v6 - k).toNat) bits ⟨by omega, by omega, fun j h0 h1 => by omega⟩ ?_ ?_
  · repeat' ((conv => whnf); first | exact trivial | exact Fgt.mk rfl rfl rfl | refine And.intro rfl ?_ | refine And.intro ?_ ?_)
  · rintro k ⟨k0, k1, k2⟩
    repeat' ((conv => whnf); with_reducible first
      | refine TR.seq ?_ | refine TR.region (TTok 0 _) ?_ | refine Ld.mk' _ rfl ?_ | refine TR.ret ?_ | refine TR.drawn (TTok 0 _) mixed ?_
      | refine TR.cond_true rfl ?_ | refine TR.cond_false rfl ?_ | refine TR.cond_dec (p := k < wid v6) rfl (fun hlt => ?_) (fun hlt => ?_) | refine TR.cond_ne rfl (fun hne => ?_) (fun heq => ?_) | refine TR.skip ?_ | refine TR.exit ?_ | refine Need.mk' (by kernel_rfl) (fun _ => ?_)
      | refine Br.mk (fun _ => ?_) (fun _ => ?_) | refine x_ret (f := 33) rfl rfl (fun w _ => width_ret' _ _ _ w) ?_ | refine x_ret (f := 31) rfl rfl (fun w _ => refbit_ret _ _ _ _ w (by omega) (by assumption)) ?_
      | refine TR.block ?_ | refine Nm.i64 (by omega) ?_)
    all_goals (conv => whnf)
    · rw [bfalse (fun h => hne (h.2.2.2 k k0 hlt))]
      rfl
    · refine ⟨k + 1, ⟨by omega, by omega, fun j j0 j1 => ?_⟩, by omega, ?_⟩
      · by_cases hj : j = k
        · rw [hj]; exact heq
        · exact k2 j j0 (by omega)
      · repeat' ((conv => whnf); first | exact trivial | exact Fgt.mk rfl rfl rfl | refine And.intro rfl ?_ | refine And.intro ?_ ?_)
    · have hbt : b = true := hbb.2 ⟨hr, hb.1, hb.2, fun j j0 j1 => k2 j j0 (by omega)⟩
      rw [hbt]
      rfl
end Go.Proofs.YtopadpgpmkkpgaaDoor
set_option maxRecDepth 100000
namespace Go.Proofs.YtopadpgpmkkpgaaDoor
open Go.SX
theorem rholds_ret (v6 : Bool) (hi lo bits : Int) (av6 : Bool) (ahi alo : Int) (w : World) (hl : 0 ≤ lo) (al : 0 ≤ alo) (p : Bool) (hpp : p = true ↔ rpref v6 hi lo bits)
    (b : Bool) (hbb : b = true ↔ (p = true ∧ rightM av6 ahi alo = true ∧ v6 = av6 ∧ ∀ k, 0 ≤ k → k < bits → rbit v6 hi lo k = rbit av6 ahi alo k)) :
    Ret Tryd.prog 16 [.agg #[.bool v6, .int .u64 hi, .int .u64 lo, .int .i64 bits], .agg #[.bool av6, .int .u64 ahi, .int .u64 alo]] w (.bool b) := by
  have hw : wid v6 ≤ 128 := by cases v6 <;> simp [wid]
  have bfalse : ¬ (p = true ∧ rightM av6 ahi alo = true ∧ v6 = av6 ∧ ∀ k, 0 ≤ k → k < bits → rbit v6 hi lo k = rbit av6 ahi alo k) → b = false := by
    intro h
    cases b with
    | false => rfl
    | true => exact absurd (hbb.1 rfl) h
  refine Ret.of (I := fun _ => True) (fun _ _ => trivial) (TTok 0 _) Tryd.func16 (by kernel_rfl) rfl rfl ?_
  repeat' ((conv => whnf); with_reducible first
    | refine TR.seq ?_ | refine TR.region (TTok 0 _) ?_ | refine Ld.mk' _ rfl ?_ | refine TR.ret ?_ | refine TR.drawn (TTok 0 _) mixed ?_
    | refine TR.cond_true rfl ?_ | refine TR.cond_false rfl ?_ | refine TR.cond rfl (fun hc => ?_) (fun hc => ?_) | refine TR.skip ?_ | refine Need.mk' (by kernel_rfl) (fun _ => ?_)
    | refine Br.mk (fun _ => ?_) (fun _ => ?_) | refine x_ret (f := 30) rfl rfl (fun w _ => refright_ret _ _ _ w (by assumption)) ?_ | refine x_ret (f := 23) rfl rfl (fun w _ => rpref_ret _ _ _ _ w hl p hpp) ?_ | refine TR.block ?_)
  all_goals (conv => whnf)
  all_goals try (exfalso; simp_all; done)
  all_goals try (rw [bfalse (by simp_all [eqR])]; rfl)
  have hp : p = true := by simp_all
  have hr : rightM av6 ahi alo = true := by simp_all
  have hv : v6 = av6 := by simp_all [eqR]
  obtain ⟨_, b2, b3, _⟩ := hpp.1 hp
  have hw2 : wid av6 = wid v6 := by rw [hv]
  refine TR.loopH (fun k : Int => [(7, .v (.int .i64 k))]) (fun _ => []) (fun k => 0 ≤ k ∧ k ≤ bits ∧ ∀ j, 0 ≤ j → j < k → rbit v6 hi lo j = rbit av6 ahi alo j) (fun k => (bits - k).toNat) 0 ⟨by omega, by omega, fun j h0 h1 => by omega⟩ ?_ ?_
  · repeat' ((conv => whnf); first | exact trivial | exact Fgt.mk rfl rfl rfl | refine And.intro rfl ?_ | refine And.intro ?_ ?_)
  · rintro k ⟨k0, k1, k2⟩
    repeat' ((conv => whnf); with_reducible first
      | refine TR.seq ?_ | refine TR.region (TTok 0 _) ?_ | refine Ld.mk' _ rfl ?_ | refine TR.ret ?_ | refine TR.drawn (TTok 0 _) mixed ?_
      | refine TR.cond_true rfl ?_ | refine TR.cond_false rfl ?_ | refine TR.cond_dec (p := k < bits) rfl (fun hlt => ?_) (fun hlt => ?_) | refine TR.cond_ne rfl (fun hne => ?_) (fun heq => ?_) | refine TR.skip ?_ | refine TR.exit ?_ | refine Need.mk' (by kernel_rfl) (fun _ => ?_)
      | refine Br.mk (fun _ => ?_) (fun _ => ?_) | refine x_ret (f := 31) rfl rfl (fun w _ => refbit_ret _ _ _ _ w (by omega) (by omega)) ?_
      | refine TR.block ?_ | refine Nm.i64 (by omega) ?_)
    all_goals (conv => whnf)
    · rw [bfalse (fun h => hne (h.2.2.2 k k0 hlt))]
      rfl
    · refine ⟨k + 1, ⟨by omega, by omega, fun j j0 j1 => ?_⟩, by omega, ?_⟩
      · by_cases hj : j = k
        · rw [hj]; exact heq
        · exact k2 j j0 (by omega)
      · repeat' ((conv => whnf); first | exact trivial | exact Fgt.mk rfl rfl rfl | refine And.intro rfl ?_ | refine And.intro ?_ ?_)
    · have hbt : b = true := hbb.2 ⟨hp, hr, hv, fun j j0 j1 => k2 j j0 (by omega)⟩
      rw [hbt]
      rfl
end Go.Proofs.YtopadpgpmkkpgaaDoor
set_option maxRecDepth 100000
namespace Go.Proofs.YtopadpgpmkkpgaaDoor
open Go.SX
theorem shl_zero (x : Int) (k : Nat) (hk : k ≤ 64) : IntKind.u64.wrap (x * 2 ^ k) = 0 ↔ x % 2 ^ (64 - k) = 0 := by
  have h2 : IntKind.u64.wrap (x * 2 ^ k) = (x * 2 ^ k) % 2 ^ 64 := by simp [IntKind.wrap, IntKind.signed, IntKind.bits]
  have e : (2 : Int) ^ 64 = 2 ^ (64 - k) * 2 ^ k := by rw [← Int.pow_add]; congr 1; omega
  have hp := pow_pos' k
  rw [h2, e, ← Int.dvd_iff_emod_eq_zero, ← Int.dvd_iff_emod_eq_zero]
  exact Int.mul_dvd_mul_iff_right (by omega)
end Go.Proofs.YtopadpgpmkkpgaaDoor
namespace Go.Proofs.YtopadpgpmkkpgaaDoor
open Go.SX
theorem low_all (x : Int) (hx : 0 ≤ x) (k : Nat) (hk : k ≤ 64) : IntKind.u64.wrap (x * 2 ^ k) = 0 ↔ ∀ j : Nat, k ≤ j → j < 64 → x / 2 ^ (63 - j) % 2 = 0 := by
  rw [shl_zero x k hk, low_bits x hx]
  constructor
  · intro h j h1 h2
    exact h (63 - j) (by omega)
  · intro h i hi
    have := h (63 - i) (by omega) (by omega)
    rwa [show 63 - (63 - i) = i by omega] at this
theorem pref_law6 (hi lo bits : Int) (hh : 0 ≤ hi ∧ hi ≤ 18446744073709551615) (hl : 0 ≤ lo ∧ lo ≤ 18446744073709551615) : prefM true hi lo bits = true ↔ rpref true hi lo bits := by
  have key : 0 ≤ bits → bits ≤ 128 → ((restHi hi bits = 0 ∧ restLo lo bits = 0) ↔ ∀ k, bits ≤ k → k < 128 → rbit true hi lo k = 0) := by
    intro b0 b1
    have hb : ∀ k, 0 ≤ k → k < 128 → rbit true hi lo k = bitM hi lo k := fun k h0 h1 => bits_law6 hi lo k h0 h1
    by_cases h64 : 64 ≤ bits
    · rw [restHi, restLo, if_pos h64, if_pos h64, low_all lo hl.1 _ (by omega)]
      constructor
      · rintro ⟨_, h⟩ k k0 k1
        rw [hb k (by omega) k1, bitM, if_neg (by omega)]
        have := h (k - 64).toNat (by omega) (by omega)
        rwa [show 63 - (k - 64).toNat = (127 - k).toNat by omega] at this
      · intro h
        refine ⟨rfl, fun j j0 j1 => ?_⟩
        have := h (j + 64) (by omega) (by omega)
        rw [hb _ (by omega) (by omega), bitM, if_neg (by omega)] at this
        rwa [show (127 - ((j : Int) + 64)).toNat = 63 - j by omega] at this
    · rw [restHi, restLo, if_neg h64, if_neg h64, low_all hi hh.1 _ (by omega)]
      have hlo : lo = 0 ↔ ∀ j : Nat, j < 64 → lo / 2 ^ j % 2 = 0 := by
        rw [← low_bits lo hl.1 64]
        omega
      rw [hlo]
      constructor
      · rintro ⟨h, h'⟩ k k0 k1
        rw [hb k (by omega) k1, bitM]
        split
        · have := h k.toNat (by omega) (by omega)
          rwa [show 63 - k.toNat = (63 - k).toNat by omega] at this
        · exact h' _ (by omega)
      · intro h
        refine ⟨fun j j0 j1 => ?_, fun j j1 => ?_⟩
        · have := h j (by omega) (by omega)
          rw [hb _ (by omega) (by omega), bitM, if_pos (by omega)] at this
          rwa [show (63 - (j : Int)).toNat = 63 - j by omega] at this
        · have := h (127 - j) (by omega) (by omega)
          rw [hb _ (by omega) (by omega), bitM, if_neg (by omega)] at this
          rwa [show (127 - (127 - (j : Int))).toNat = j by omega] at this
  unfold rpref
  simp only [prefM, wid, if_true]
  constructor
  · intro h
    simp at h
    obtain ⟨⟨⟨h1, h2⟩, h3⟩, h4⟩ := h
    exact ⟨h1, by omega, by omega, (key (by omega) (by omega)).1 h4⟩
  · rintro ⟨h1, h2, h3, h4⟩
    have := (key h2 h3).2 h4
    simp [h1, this]
    omega
end Go.Proofs.YtopadpgpmkkpgaaDoor
set_option maxRecDepth 100000
namespace Go.Proofs.YtopadpgpmkkpgaaDoor
open Go.SX
theorem pref_law4 (hi lo bits : Int) (hl : 0 ≤ lo ∧ lo ≤ 18446744073709551615) : prefM false hi lo bits = true ↔ rpref false hi lo bits := by
  have key : 0 ≤ lo ∧ lo < 4294967296 → 0 ≤ bits → bits ≤ 32 → (restHi (IntKind.u64.wrap (lo * 4294967296)) bits = 0 ↔ ∀ k, bits ≤ k → k < 32 → rbit false hi lo k = 0) := by
    intro hlo b0 b1
    have hb : ∀ k, 0 ≤ k → k < 32 → rbit false hi lo k = bitM (IntKind.u64.wrap (lo * 4294967296)) 0 k := fun k h0 h1 => bits_law4 hi lo k hlo h0 h1
    have hw : IntKind.u64.wrap (lo * 4294967296) = lo * 4294967296 := wrap_u64 (by omega)
    rw [restHi, if_neg (by omega), low_all _ (wrapu _).1 _ (by omega)]
    constructor
    · intro h k k0 k1
      rw [hb k (by omega) k1, bitM, if_pos (by omega)]
      have := h k.toNat (by omega) (by omega)
      rwa [show 63 - k.toNat = (63 - k).toNat by omega] at this
    · intro h j j0 j1
      by_cases hj : j < 32
      · have := h j (by omega) (by omega)
        rw [hb _ (by omega) (by omega), bitM, if_pos (by omega)] at this
        rwa [show (63 - (j : Int)).toNat = 63 - j by omega] at this
      · rw [hw]
        have e : lo * 4294967296 / 2 ^ (63 - j) = lo * 2 ^ (32 - (63 - j)) := by
          have : (4294967296 : Int) = 2 ^ (32 - (63 - j)) * 2 ^ (63 - j) := by
            rw [← Int.pow_add, show 32 - (63 - j) + (63 - j) = 32 by omega]; decide
          rw [this, ← Int.mul_assoc, Int.mul_ediv_cancel _ (by have := pow_pos' (63 - j); omega)]
        rw [e, show 32 - (63 - j) = (32 - (63 - j) - 1) + 1 by omega, Int.pow_succ, ← Int.mul_assoc]
        omega
  unfold rpref
  simp only [prefM, wid, Bool.false_eq_true, if_false]
  have hr : rightM false hi lo = true → lo < 4294967296 := by
    intro h; simp [rightM] at h; omega
  have hz : restLo 0 bits = 0 := by
    unfold restLo; split
    · simp [IntKind.wrap, IntKind.signed, IntKind.bits]
    · rfl
  constructor
  · intro h
    simp [hz] at h
    obtain ⟨⟨⟨h1, h2⟩, h3⟩, h4⟩ := h
    exact ⟨h1, by omega, by omega, (key ⟨hl.1, hr h1⟩ (by omega) (by omega)).1 h4⟩
  · rintro ⟨h1, h2, h3, h4⟩
    have := (key ⟨hl.1, hr h1⟩ h2 h3).2 h4
    simp [h1, this, hz]
    omega
end Go.Proofs.YtopadpgpmkkpgaaDoor
set_option maxRecDepth 100000
namespace Go.Proofs.YtopadpgpmkkpgaaDoor
open Go.SX
theorem right_lo {hi lo : Int} (h0 : 0 ≤ lo) (h : rightM false hi lo = true) : 0 ≤ lo ∧ lo < 4294967296 := by
  simp [rightM] at h; omega
theorem rbit_eq (v6 : Bool) (hi lo k : Int) (hl : 0 ≤ lo) (hr : rightM v6 hi lo = true) (h0 : 0 ≤ k) (h1 : k < wid v6) : rbit v6 hi lo k = bitM (ph v6 hi lo) (pl v6 lo) k := by
  cases v6
  · exact bits_law4 hi lo k (right_lo hl hr) h0 (by simpa [wid] using h1)
  · exact bits_law6 hi lo k h0 (by simpa [wid] using h1)
/-- Both tell the same. -/
theorem both_hold (v6 : Bool) (hi lo bits : Int) (av6 : Bool) (ahi alo : Int) (hh : 0 ≤ hi ∧ hi ≤ 18446744073709551615) (hl : 0 ≤ lo ∧ lo ≤ 18446744073709551615) (ah : 0 ≤ ahi ∧ ahi ≤ 18446744073709551615) (al : 0 ≤ alo ∧ alo ≤ 18446744073709551615) :
    ∃ b : Bool, ∀ w, Ret Tryd.prog 17 [.agg #[.bool v6, .int .u64 hi, .int .u64 lo, .int .i64 bits], .agg #[.bool av6, .int .u64 ahi, .int .u64 alo]] w (.bool b) ∧
      Ret Tryd.prog 16 [.agg #[.bool v6, .int .u64 hi, .int .u64 lo, .int .i64 bits], .agg #[.bool av6, .int .u64 ahi, .int .u64 alo]] w (.bool b) := by
  have hlaw : prefM v6 hi lo bits = true ↔ rpref v6 hi lo bits := by
    cases v6
    · exact pref_law4 hi lo bits hl
    · exact pref_law6 hi lo bits hh hl
  obtain ⟨b, hb⟩ : ∃ b : Bool, b = true ↔ (prefM v6 hi lo bits = true ∧ rightM av6 ahi alo = true ∧ v6 = av6 ∧ eqB (ph v6 hi lo) (pl v6 lo) (ph av6 ahi alo) (pl av6 alo) bits) :=
    by
      by_cases h : (prefM v6 hi lo bits = true ∧ rightM av6 ahi alo = true ∧ v6 = av6 ∧ eqB (ph v6 hi lo) (pl v6 lo) (ph av6 ahi alo) (pl av6 alo) bits)
      · exact ⟨true, ⟨fun _ => h, fun _ => rfl⟩⟩
      · exact ⟨false, ⟨fun hf => (by cases hf), fun h' => absurd h' h⟩⟩
  refine ⟨b, fun w => ⟨holds_ret v6 hi lo bits av6 ahi alo w hh hl ah al b hb, rholds_ret v6 hi lo bits av6 ahi alo w hl.1 al.1 (prefM v6 hi lo bits) hlaw b ?_⟩⟩
  rw [hb]
  refine and_congr_right fun h1 => and_congr_right fun h2 => and_congr_right fun h3 => ?_
  obtain ⟨r1, r2, r3, _⟩ := hlaw.1 h1
  unfold eqB
  refine forall_congr' fun k => forall_congr' fun k0 => forall_congr' fun k1 => ?_
  rw [rbit_eq v6 hi lo k hl.1 r1 k0 (by omega), rbit_eq av6 ahi alo k al.1 h2 k0 (by rw [← h3]; omega)]
end Go.Proofs.YtopadpgpmkkpgaaDoor
/-
  DERIVED: THE SHELF's CONTRACTS AT THIS DUMP, IN PLAIN WORDS (tools/lay-plain.mjs out of 'TrydShelf.lean', which tools/lay-shelf.mjs wrote): THE SAME DECLARATIONS UNDER THE SAME NAMES: 'import', 'namespace', 'open', 'def', 'theorem' AND NOTHING ELSE: no command of the shelf's: FOR A HAND-IN. Each laying: the table of numbers ('.._ren') and one theorem, a field a fact of the dump's own or the kernel's comparison; each contract: ONE APPLICATION.
-/
namespace Go.Proofs
open Go.Shelf
def Tryd.lays169_ren : Go.Shelf.Ren := ⟨fun | 169 => 37 | n => n, fun | 70 => 82 | 9 => 9 | 0 => 0 | 72 => 85 | 37 => 83 | 127 => 100 | 3 => 3 | 5 => 5 | n => n, fun | n => n⟩
theorem Tryd.lays169 : Go.Proofs.Lays.n169 Tryd.prog Tryd.lays169_ren := {
  mixed := by kernel_rfl
  f169 := Tryd.func37.trans (congrArg some (by kernel_rfl))
  t0 := Tryd.underlying0
  a0 := Tryd.isAgg0
  z0 := Tryd.sizeOf0
  v0 := Tryd.zeroValue0
  t3 := Tryd.underlying3
  a3 := Tryd.isAgg3
  z3 := Tryd.sizeOf3
  v3 := Tryd.zeroValue3
  t9 := Tryd.underlying9
  a9 := Tryd.isAgg9
  z9 := Tryd.sizeOf9
  v9 := Tryd.zeroValue9
  t37 := Tryd.underlying83
  a37 := Tryd.isAgg83
  z37 := Tryd.sizeOf83
  v37 := Tryd.zeroValue83
  t70 := Tryd.underlying82
  a70 := Tryd.isAgg82
  z70 := Tryd.sizeOf82
  v70 := Tryd.zeroValue82
  t72 := Tryd.underlying85
  a72 := Tryd.isAgg85
  z72 := Tryd.sizeOf85
  v72 := Tryd.zeroValue85
  t127 := Tryd.underlying100
  a127 := Tryd.isAgg100
  z127 := Tryd.sizeOf100
  v127 := Tryd.zeroValue100 }
theorem Tryd.Builder_Extra_169 : Builder.Extra Tryd.prog Tryd.lays169_ren := {
  sizeBuilder := by kernel_rfl
  liesBuilder := by kernel_rfl
  t5 := Tryd.underlying5
  a5 := Tryd.isAgg5
  z5 := Tryd.sizeOf5
  v5 := Tryd.zeroValue5
  infoByte := by kernel_rfl
  cellsByte := by kernel_rfl
  sizeByte := by kernel_rfl
  neB5 := by decide }
open Go.RowKit in
/-- (*strings.Builder).String: "String returns the accumulated string.": OF A BUILDER THAT HOLDS AT LEAST ONE BYTE. ✋ THE MODEL FREEZES THOSE BYTES IN THE BUFFER (unsafe.String): a later write INTO them ends the model's run without an answer; a later append BEHIND them goes on. The statement's order of evaluation is drawn: one draw. (LAID: no walk: one application.) -/
theorem Tryd.Builder_String (B b : Nat) (l : List UInt8) (w : World) (h : Lib.IsBuilder 85 5 B b (Lib.byteCells l) w) (h0 : l ≠ []) :
    Calls Tryd.prog 37 #[.pointer (some ⟨b, 0, none⟩)] w fun e w' => e = .returned (.string ⟨l.toArray⟩) ∧ Below B w w' := Any.Builder_String Tryd.lays169 Tryd.Builder_Extra_169 B b l w h h0
open Go.RowKit in
/-- (*strings.Builder).String OF A BUILDER THAT HOLDS NO BYTE: the empty string. (Its buffer is nil, or a row of which it has taken nothing yet; where that row has NO capacity the model lays one new block for unsafe.SliceData's 'some address'.) One draw. (LAID: no walk: one application.) -/
theorem Tryd.Builder_String_empty (B b : Nat) (w : World) (h : Lib.IsBuilder 85 5 B b [] w) (hBw : B ≤ w.heap.size) :
    Calls Tryd.prog 37 #[.pointer (some ⟨b, 0, none⟩)] w fun e w' => e = .returned (.string ⟨#[]⟩) ∧ Below B w w' := Any.Builder_String_empty Tryd.lays169 Tryd.Builder_Extra_169 B b w h hBw
open Go.RowKit in
/-- (*strings.Builder).String: "String returns the accumulated string.": WHATEVER THE BUILDER HOLDS. (LAID: no walk: one application.) -/
theorem Tryd.Builder_String_any (B b : Nat) (l : List UInt8) (w : World) (h : Lib.IsBuilder 85 5 B b (Lib.byteCells l) w) (hBw : B ≤ w.heap.size) :
    Calls Tryd.prog 37 #[.pointer (some ⟨b, 0, none⟩)] w fun e w' => e = .returned (.string ⟨l.toArray⟩) ∧ Below B w w' := Any.Builder_String_any Tryd.lays169 Tryd.Builder_Extra_169 B b l w h hBw
def Tryd.lays241_ren : Go.Shelf.Ren := ⟨fun | 241 => 48 | 277 => 64 | n => n, fun | 70 => 82 | 3 => 3 | 0 => 0 | 72 => 85 | 37 => 83 | 5 => 5 | n => n, fun | n => n⟩
theorem Tryd.lays241 : Go.Proofs.Lays.n241 Tryd.prog Tryd.lays241_ren := {
  mixed := by kernel_rfl
  f241 := Tryd.func48.trans (congrArg some (by kernel_rfl))
  f277 := Tryd.func64.trans (congrArg some (by kernel_rfl))
  t0 := Tryd.underlying0
  a0 := Tryd.isAgg0
  z0 := Tryd.sizeOf0
  v0 := Tryd.zeroValue0
  t3 := Tryd.underlying3
  a3 := Tryd.isAgg3
  z3 := Tryd.sizeOf3
  v3 := Tryd.zeroValue3
  t37 := Tryd.underlying83
  a37 := Tryd.isAgg83
  z37 := Tryd.sizeOf83
  v37 := Tryd.zeroValue83
  t70 := Tryd.underlying82
  a70 := Tryd.isAgg82
  z70 := Tryd.sizeOf82
  v70 := Tryd.zeroValue82
  t72 := Tryd.underlying85
  a72 := Tryd.isAgg85
  z72 := Tryd.sizeOf85
  v72 := Tryd.zeroValue85 }
theorem Tryd.Builder_Extra_241 : Builder.Extra Tryd.prog Tryd.lays241_ren := {
  sizeBuilder := by kernel_rfl
  liesBuilder := by kernel_rfl
  t5 := Tryd.underlying5
  a5 := Tryd.isAgg5
  z5 := Tryd.sizeOf5
  v5 := Tryd.zeroValue5
  infoByte := by kernel_rfl
  cellsByte := by kernel_rfl
  sizeByte := by kernel_rfl
  neB5 := by decide }
open Go.RowKit in
/-- (*strings.Builder).grow (no doc but "grow copies the buffer to a new, larger buffer so that there are at least n bytes of capacity beyond len(b.buf)."): AT A BUILDER WITHOUT A BUFFER: a new row of whatever bytes for its buffer, none of them its own yet. Three draws. (LAID: no walk: one application.) -/
theorem Tryd.Builder_grow_fresh (B b n : Nat) (w : World) (hB : B ≤ b) (hbk : w.heap[b]? = some (.cells #[.pointer (some ⟨b, 0, none⟩), .slice none 0 0] 85 (0, 0))) (hBw : B ≤ w.heap.size) (hn : n ≤ 281474976710656) :
    Calls Tryd.prog 48 #[.pointer (some ⟨b, 0, none⟩), .int .i64 n] w fun e w' => e = .returned (.tuple #[]) ∧ (Lib.BuilderAt 85 5 B b (.pointer (some ⟨b, 0, none⟩)) [] w' ∧ Below B w w') := Any.Builder_grow_fresh Tryd.lays241 Tryd.Builder_Extra_241 B b n w hB hbk hBw hn
def Tryd.lays165_ren : Go.Shelf.Ren := ⟨fun | 165 => 35 | 240 => 47 | 241 => 48 | 276 => 63 | 277 => 64 | n => n, fun | 70 => 82 | 3 => 3 | 0 => 0 | 4 => 4 | 9 => 9 | 20 => 20 | 72 => 85 | 37 => 83 | 164 => 114 | 5 => 5 | n => n, fun | n => n⟩
theorem Tryd.lays165 : Go.Proofs.Lays.n165 Tryd.prog Tryd.lays165_ren := {
  mixed := by kernel_rfl
  f165 := Tryd.func35.trans (congrArg some (by kernel_rfl))
  f240 := Tryd.func47.trans (congrArg some (by kernel_rfl))
  f241 := Tryd.func48.trans (congrArg some (by kernel_rfl))
  f276 := Tryd.func63.trans (congrArg some (by kernel_rfl))
  f277 := Tryd.func64.trans (congrArg some (by kernel_rfl))
  t0 := Tryd.underlying0
  a0 := Tryd.isAgg0
  z0 := Tryd.sizeOf0
  v0 := Tryd.zeroValue0
  t3 := Tryd.underlying3
  a3 := Tryd.isAgg3
  z3 := Tryd.sizeOf3
  v3 := Tryd.zeroValue3
  t4 := Tryd.underlying4
  a4 := Tryd.isAgg4
  z4 := Tryd.sizeOf4
  v4 := Tryd.zeroValue4
  t9 := Tryd.underlying9
  a9 := Tryd.isAgg9
  z9 := Tryd.sizeOf9
  v9 := Tryd.zeroValue9
  t20 := Tryd.underlying20
  a20 := Tryd.isAgg20
  z20 := Tryd.sizeOf20
  v20 := Tryd.zeroValue20
  t37 := Tryd.underlying83
  a37 := Tryd.isAgg83
  z37 := Tryd.sizeOf83
  v37 := Tryd.zeroValue83
  t70 := Tryd.underlying82
  a70 := Tryd.isAgg82
  z70 := Tryd.sizeOf82
  v70 := Tryd.zeroValue82
  t72 := Tryd.underlying85
  a72 := Tryd.isAgg85
  z72 := Tryd.sizeOf85
  v72 := Tryd.zeroValue85
  t164 := Tryd.underlying114
  a164 := Tryd.isAgg114
  z164 := Tryd.sizeOf114
  v164 := Tryd.zeroValue114 }
theorem Tryd.Builder_Extra_165 : Builder.Extra Tryd.prog Tryd.lays165_ren := {
  sizeBuilder := by kernel_rfl
  liesBuilder := by kernel_rfl
  t5 := Tryd.underlying5
  a5 := Tryd.isAgg5
  z5 := Tryd.sizeOf5
  v5 := Tryd.zeroValue5
  infoByte := by kernel_rfl
  cellsByte := by kernel_rfl
  sizeByte := by kernel_rfl
  neB5 := by decide }
open Go.RowKit in
/-- (*strings.Builder).Grow AT A BUILDER THAT HAS NOT BEEN WRITTEN ('var b strings.Builder; b.Grow(n)'): "Grow grows b's capacity, if necessary, to guarantee space for another n bytes.": it holds no byte behind it as before it. (LAID: no walk: one application.) -/
theorem Tryd.Builder_Grow_fresh (B b n : Nat) (w : World) (hB : B ≤ b) (hbk : w.heap[b]? = some (.cells #[.pointer none, .slice none 0 0] 85 (0, 0))) (hBw : B ≤ w.heap.size) (hn : n ≤ 281474976710656) :
    Calls Tryd.prog 35 #[.pointer (some ⟨b, 0, none⟩), .int .i64 n] w fun e w' => e = .returned (.tuple #[]) ∧ (Lib.BuilderAt 85 5 B b (.pointer (some ⟨b, 0, none⟩)) [] w' ∧ Below B w w') := Any.Builder_Grow_fresh Tryd.lays165 Tryd.Builder_Extra_165 B b n w hB hbk hBw hn
def Tryd.lays156_ren : Go.Shelf.Ren := ⟨fun | 156 => 26 | 165 => 35 | 166 => 36 | 169 => 37 | 240 => 47 | 241 => 48 | 276 => 63 | 277 => 64 | n => n, fun | 31 => 68 | 9 => 9 | 3 => 3 | 4 => 4 | 0 => 0 | 20 => 20 | 72 => 85 | 76 => 87 | 70 => 82 | 37 => 83 | 75 => 74 | 127 => 100 | 164 => 114 | 5 => 5 | 80 => 89 | n => n, fun | n => n⟩
theorem Tryd.lays156 : Go.Proofs.Lays.n156 Tryd.prog Tryd.lays156_ren := {
  mixed := by kernel_rfl
  f156 := Tryd.func26.trans (congrArg some (by kernel_rfl))
  f165 := Tryd.func35.trans (congrArg some (by kernel_rfl))
  f166 := Tryd.func36.trans (congrArg some (by kernel_rfl))
  f169 := Tryd.func37.trans (congrArg some (by kernel_rfl))
  f240 := Tryd.func47.trans (congrArg some (by kernel_rfl))
  f241 := Tryd.func48.trans (congrArg some (by kernel_rfl))
  f276 := Tryd.func63.trans (congrArg some (by kernel_rfl))
  f277 := Tryd.func64.trans (congrArg some (by kernel_rfl))
  t0 := Tryd.underlying0
  a0 := Tryd.isAgg0
  z0 := Tryd.sizeOf0
  v0 := Tryd.zeroValue0
  t3 := Tryd.underlying3
  a3 := Tryd.isAgg3
  z3 := Tryd.sizeOf3
  v3 := Tryd.zeroValue3
  t4 := Tryd.underlying4
  a4 := Tryd.isAgg4
  z4 := Tryd.sizeOf4
  v4 := Tryd.zeroValue4
  t9 := Tryd.underlying9
  a9 := Tryd.isAgg9
  z9 := Tryd.sizeOf9
  v9 := Tryd.zeroValue9
  t20 := Tryd.underlying20
  a20 := Tryd.isAgg20
  z20 := Tryd.sizeOf20
  v20 := Tryd.zeroValue20
  t31 := Tryd.underlying68
  a31 := Tryd.isAgg68
  z31 := Tryd.sizeOf68
  v31 := Tryd.zeroValue68
  t37 := Tryd.underlying83
  a37 := Tryd.isAgg83
  z37 := Tryd.sizeOf83
  v37 := Tryd.zeroValue83
  t70 := Tryd.underlying82
  a70 := Tryd.isAgg82
  z70 := Tryd.sizeOf82
  v70 := Tryd.zeroValue82
  t72 := Tryd.underlying85
  a72 := Tryd.isAgg85
  z72 := Tryd.sizeOf85
  v72 := Tryd.zeroValue85
  t75 := Tryd.underlying74
  a75 := Tryd.isAgg74
  z75 := Tryd.sizeOf74
  v75 := Tryd.zeroValue74
  t76 := Tryd.underlying87
  a76 := Tryd.isAgg87
  z76 := Tryd.sizeOf87
  v76 := Tryd.zeroValue87
  t127 := Tryd.underlying100
  a127 := Tryd.isAgg100
  z127 := Tryd.sizeOf100
  v127 := Tryd.zeroValue100
  t164 := Tryd.underlying114
  a164 := Tryd.isAgg114
  z164 := Tryd.sizeOf114
  v164 := Tryd.zeroValue114 }
theorem Tryd.Builder_Extra_156 : Builder.Extra Tryd.prog Tryd.lays156_ren := {
  sizeBuilder := by kernel_rfl
  liesBuilder := by kernel_rfl
  t5 := Tryd.underlying5
  a5 := Tryd.isAgg5
  z5 := Tryd.sizeOf5
  v5 := Tryd.zeroValue5
  infoByte := by kernel_rfl
  cellsByte := by kernel_rfl
  sizeByte := by kernel_rfl
  neB5 := by decide }
open Go.RowKit in
/-- No element: the empty string; the world is as it was. (Whatever the slice's address and capacity: a nil slice too.) (LAID: no walk: one application.) -/
theorem Tryd.strings_Join_none (a : Option Addr) (c : Nat) (sep : ByteArray) (w : World) :
    Calls Tryd.prog 26 #[.slice a 0 c, .string sep] w fun e w' => e = .returned (.string ⟨#[]⟩) ∧ w' = w := Any.strings_Join_none Tryd.lays156 Tryd.Builder_Extra_156 a c sep w
open Go.RowKit in
/-- strings.Join: "Join concatenates the elements of its first argument to create a single string. The separator string sep is placed between elements in the resulting string.": HOWEVER MANY ELEMENTS. Below the heap's end the world is as it was. (LAID: no walk: one application.) -/
theorem Tryd.strings_Join (bk o c : Nat) (xs : List ByteArray) (sep : ByteArray) (w : World) (hcells : ∀ (j : Nat) x, xs[j]? = some x → w.cell? ⟨bk, o + j, none⟩ = some (.string x)) (hbk : bk < w.heap.size) (hN : xs.length ≤ 140737488355328) (hcap : xs.length ≤ c) (hlen : (Lib.join (xs.map (·.data.toList)) sep.data.toList).length ≤ 140737488355328) :
    Calls Tryd.prog 26 #[.slice (some ⟨bk, o, none⟩) xs.length c, .string sep] w fun e w' => e = .returned (.string ⟨(Lib.join (xs.map (·.data.toList)) sep.data.toList).toArray⟩) ∧ Below w.heap.size w w' := Any.strings_Join Tryd.lays156 Tryd.Builder_Extra_156 bk o c xs sep w hcells hbk hN hcap hlen
def Tryd.lays195_ren : Go.Shelf.Ren := ⟨fun | 195 => 69 | n => n, fun | 9 => 9 | 3 => 3 | 0 => 0 | 4 => 4 | n => n, fun | n => n⟩
theorem Tryd.lays195 : Go.Proofs.Lays.n195 Tryd.prog Tryd.lays195_ren := {
  mixed := by kernel_rfl
  f195 := Tryd.func69.trans (congrArg some (by kernel_rfl))
  t0 := Tryd.underlying0
  a0 := Tryd.isAgg0
  z0 := Tryd.sizeOf0
  v0 := Tryd.zeroValue0
  t3 := Tryd.underlying3
  a3 := Tryd.isAgg3
  z3 := Tryd.sizeOf3
  v3 := Tryd.zeroValue3
  t4 := Tryd.underlying4
  a4 := Tryd.isAgg4
  z4 := Tryd.sizeOf4
  v4 := Tryd.zeroValue4
  t9 := Tryd.underlying9
  a9 := Tryd.isAgg9
  z9 := Tryd.sizeOf9
  v9 := Tryd.zeroValue9 }
open Go.RowKit in
/-- unicode/utf8.RuneCountInString: "RuneCountInString is like RuneCount but its input is a string." ("RuneCount returns the number of runes in p. Erroneous and short encodings are treated as single runes of width 1 byte."): EVERY STRING, valid UTF-8 or not: 'Lib.runeCount s' (plain Lean over the model's own 'Utf8.decode'; 'Lib.runeCount_le': at most len(s); 'Lib.runeCount_ascii': on ASCII: len(s)). THE ONE CONDITION: len(s) below 2^63 - 1 (the counter does not wrap): the form's reach pays it. THE WORLD BEHIND THE CALL: ONE BLOCK MORE: the model's iterator over s, at its end: all else as it was. (LAID: no walk: one application.) -/
theorem Tryd.utf8_RuneCountInString (s : ByteArray) (w : World) (hs : s.size < 9223372036854775807) :
    Calls Tryd.prog 69 #[.string s] w fun e w' => e = .returned (.int .i64 (Lib.runeCount s)) ∧ ∃ pos, w' = w.iter s pos := Any.utf8_RuneCountInString Tryd.lays195 s w hs
def Tryd.lays129_ren : Go.Shelf.Ren := ⟨fun | 129 => 59 | n => n, fun | 53 => 30 | 3 => 3 | 4 => 4 | 46 => 77 | 5 => 5 | 9 => 9 | n => n, fun | n => n⟩
theorem Tryd.lays129 : Go.Proofs.Lays.n129 Tryd.prog Tryd.lays129_ren := {
  mixed := by kernel_rfl
  f129 := Tryd.func59.trans (congrArg some (by kernel_rfl))
  t3 := Tryd.underlying3
  a3 := Tryd.isAgg3
  z3 := Tryd.sizeOf3
  v3 := Tryd.zeroValue3
  t4 := Tryd.underlying4
  a4 := Tryd.isAgg4
  z4 := Tryd.sizeOf4
  v4 := Tryd.zeroValue4
  t5 := Tryd.underlying5
  a5 := Tryd.isAgg5
  z5 := Tryd.sizeOf5
  v5 := Tryd.zeroValue5
  t9 := Tryd.underlying9
  a9 := Tryd.isAgg9
  z9 := Tryd.sizeOf9
  v9 := Tryd.zeroValue9
  t46 := Tryd.underlying77
  a46 := Tryd.isAgg77
  z46 := Tryd.sizeOf77
  v46 := Tryd.zeroValue77
  t53 := Tryd.underlying30
  a53 := Tryd.isAgg30
  z53 := Tryd.sizeOf30
  v53 := Tryd.zeroValue30 }
/-- bits.Len64: "Len64 returns the minimum number of bits required to represent x; the result is 0 for x == 0.": IT RETURNS 'Lib.bitLen x'; the world is as it was. ('h0', 'h1': x is a uint64.) (LAID: no walk: one application.) -/
theorem Tryd.bits_Len64 (x : Int) (w : World) (h0 : 0 ≤ x) (h1 : x ≤ 18446744073709551615) :
    Calls Tryd.prog 59 #[.int .u64 x] w fun e w' => e = .returned (.int .i64 (Lib.bitLen x.toNat)) ∧ w' = w := Any.bits_Len64 Tryd.lays129 x w h0 h1
def Tryd.lays317_ren : Go.Shelf.Ren := ⟨fun | 317 => 58 | n => n, fun | 3 => 3 | 46 => 77 | n => n, fun | n => n⟩
theorem Tryd.lays317 : Go.Proofs.Lays.n317 Tryd.prog Tryd.lays317_ren := {
  mixed := by kernel_rfl
  f317 := Tryd.func58.trans (congrArg some (by kernel_rfl))
  t3 := Tryd.underlying3
  a3 := Tryd.isAgg3
  z3 := Tryd.sizeOf3
  v3 := Tryd.zeroValue3
  t46 := Tryd.underlying77
  a46 := Tryd.isAgg77
  z46 := Tryd.sizeOf77
  v46 := Tryd.zeroValue77 }
open Go.Lib in
/-- internal/strconv.log10Pow2: "log10Pow2(x) returns ⌊log₁₀ 2**x⌋ = ⌊x * log₁₀ 2⌋.": '(x * 78913) >> 18', at an x up to 64 (a length in bits). The world is as it was. (LAID: no walk: one application.) -/
theorem Tryd.internal_strconv_log10Pow2 (x : Nat) (h : x ≤ 64) (w : World) :
    Calls Tryd.prog 58 #[.int .i64 x] w fun e w' => e = .returned (.int .i64 (Lib.l10 x)) ∧ w' = w := Any.internal_strconv_log10Pow2 Tryd.lays317 x h w
def Tryd.lays318_ren : Go.Shelf.Ren := ⟨fun | 318 => 60 | n => n, fun | 3 => 3 | 4 => 4 | n => n, fun | n => n⟩
theorem Tryd.lays318 : Go.Proofs.Lays.n318 Tryd.prog Tryd.lays318_ren := {
  mixed := by kernel_rfl
  f318 := Tryd.func60.trans (congrArg some (by kernel_rfl))
  t3 := Tryd.underlying3
  a3 := Tryd.isAgg3
  z3 := Tryd.sizeOf3
  v3 := Tryd.zeroValue3
  t4 := Tryd.underlying4
  a4 := Tryd.isAgg4
  z4 := Tryd.sizeOf4
  v4 := Tryd.zeroValue4 }
open Go.Lib in
/-- internal/strconv.bool2: "bool2 converts b to an integer: 1 for true, 0 for false." The world is as it was. (LAID: no walk: one application.) -/
theorem Tryd.internal_strconv_bool2_int (b : Bool) (w : World) :
    Calls Tryd.prog 60 #[.bool b] w fun e w' => e = .returned (.int .i64 (if b then 1 else 0)) ∧ w' = w := Any.internal_strconv_bool2_int Tryd.lays318 b w
def Tryd.lays283_ren : Go.Shelf.Ren := ⟨fun | 283 => 43 | n => n, fun | 3 => 3 | 9 => 9 | 4 => 4 | n => n, fun | n => n⟩
theorem Tryd.lays283 : Go.Proofs.Lays.n283 Tryd.prog Tryd.lays283_ren := {
  mixed := by kernel_rfl
  f283 := Tryd.func43.trans (congrArg some (by kernel_rfl))
  t3 := Tryd.underlying3
  a3 := Tryd.isAgg3
  z3 := Tryd.sizeOf3
  v3 := Tryd.zeroValue3
  t4 := Tryd.underlying4
  a4 := Tryd.isAgg4
  z4 := Tryd.sizeOf4
  v4 := Tryd.zeroValue4
  t9 := Tryd.underlying9
  a9 := Tryd.isAgg9
  z9 := Tryd.sizeOf9
  v9 := Tryd.zeroValue9 }
open Go.Lib in
/-- internal/strconv.small: "small returns the string for an i with 0 <= i < nSmalls.": i's decimal numeral. The world is as it was. (LAID: no walk: one application.) -/
theorem Tryd.internal_strconv_small (i : Nat) (h : i < 100) (w : World) :
    Calls Tryd.prog 43 #[.int .i64 i] w fun e w' => e = .returned (.string ⟨(Lib.decDigits i).toArray⟩) ∧ w' = w := Any.internal_strconv_small Tryd.lays283 i h w
def Tryd.laysM284_ren : Go.Shelf.Ren := ⟨fun | 284 => 44 | 129 => 59 | 317 => 58 | 318 => 60 | n => n, fun | 53 => 30 | 3 => 3 | 212 => 109 | 0 => 0 | 4 => 4 | 46 => 77 | 5 => 5 | 9 => 9 | n => n, fun | 17 => 0 | n => n⟩
theorem Tryd.laysM284 : Go.Proofs.LaysM.n284 Tryd.prog Tryd.laysM284_ren := {
  mixed := by kernel_rfl
  f129 := Tryd.func59.trans (congrArg some (by kernel_rfl))
  f284 := Tryd.func44.trans (congrArg some (by kernel_rfl))
  f317 := Tryd.func58.trans (congrArg some (by kernel_rfl))
  f318 := Tryd.func60.trans (congrArg some (by kernel_rfl))
  t0 := Tryd.underlying0
  a0 := Tryd.isAgg0
  z0 := Tryd.sizeOf0
  v0 := Tryd.zeroValue0
  t3 := Tryd.underlying3
  a3 := Tryd.isAgg3
  z3 := Tryd.sizeOf3
  v3 := Tryd.zeroValue3
  t4 := Tryd.underlying4
  a4 := Tryd.isAgg4
  z4 := Tryd.sizeOf4
  v4 := Tryd.zeroValue4
  t5 := Tryd.underlying5
  a5 := Tryd.isAgg5
  z5 := Tryd.sizeOf5
  v5 := Tryd.zeroValue5
  t9 := Tryd.underlying9
  a9 := Tryd.isAgg9
  z9 := Tryd.sizeOf9
  v9 := Tryd.zeroValue9
  t46 := Tryd.underlying77
  a46 := Tryd.isAgg77
  z46 := Tryd.sizeOf77
  v46 := Tryd.zeroValue77
  t53 := Tryd.underlying30
  a53 := Tryd.isAgg30
  z53 := Tryd.sizeOf30
  v53 := Tryd.zeroValue30
  t212 := Tryd.underlying109
  a212 := Tryd.isAgg109
  z212 := Tryd.sizeOf109
  v212 := Tryd.zeroValue109
  g17 := by kernel_rfl
  i0 := by kernel_rfl
  i3 := by kernel_rfl
  i4 := by kernel_rfl
  i5 := by kernel_rfl
  i9 := by kernel_rfl
  i46 := by kernel_rfl
  i53 := by kernel_rfl
  i212 := by kernel_rfl
  m17 := by kernel_rfl }
open Go.Lib in
/-- internal/strconv.numDigits, at a d that is not 0: THE NUMBER OF d's DECIMAL DIGITS. The world is as it was. (LAID: no walk: one application.) -/
theorem Tryd.internal_strconv_numDigits (u : Nat) (h1 : 1 ≤ u) (h2 : u < 18446744073709551616) (w : World) (htab : Lib.TabIs Tryd.prog w "internal/strconv.uint64pow10" .u64 Lib.pow10Tab) :
    Calls Tryd.prog 44 #[.int .u64 u] w fun e w' => e = .returned (.int .i64 (Lib.nDigits u)) ∧ w' = w := Any.internal_strconv_numDigits Tryd.laysM284 u h1 h2 w htab
def Tryd.lays285_ren : Go.Shelf.Ren := ⟨fun | 285 => 45 | n => n, fun | 37 => 83 | 53 => 30 | 3 => 3 | 4 => 4 | 51 => 110 | 9 => 9 | 5 => 5 | 0 => 0 | n => n, fun | n => n⟩
theorem Tryd.lays285 : Go.Proofs.Lays.n285 Tryd.prog Tryd.lays285_ren := {
  mixed := by kernel_rfl
  f285 := Tryd.func45.trans (congrArg some (by kernel_rfl))
  t0 := Tryd.underlying0
  a0 := Tryd.isAgg0
  z0 := Tryd.sizeOf0
  v0 := Tryd.zeroValue0
  t3 := Tryd.underlying3
  a3 := Tryd.isAgg3
  z3 := Tryd.sizeOf3
  v3 := Tryd.zeroValue3
  t4 := Tryd.underlying4
  a4 := Tryd.isAgg4
  z4 := Tryd.sizeOf4
  v4 := Tryd.zeroValue4
  t5 := Tryd.underlying5
  a5 := Tryd.isAgg5
  z5 := Tryd.sizeOf5
  v5 := Tryd.zeroValue5
  t9 := Tryd.underlying9
  a9 := Tryd.isAgg9
  z9 := Tryd.sizeOf9
  v9 := Tryd.zeroValue9
  t37 := Tryd.underlying83
  a37 := Tryd.isAgg83
  z37 := Tryd.sizeOf83
  v37 := Tryd.zeroValue83
  t51 := Tryd.underlying110
  a51 := Tryd.isAgg110
  z51 := Tryd.sizeOf110
  v51 := Tryd.zeroValue110
  t53 := Tryd.underlying30
  a53 := Tryd.isAgg30
  z53 := Tryd.sizeOf30
  v53 := Tryd.zeroValue30 }
open Go.RowKit Go.Sort Go.Lib in
/-- internal/strconv.formatBase10: "formatBase10 formats the decimal representation of u into a. The caller is responsible for ensuring that a is big enough to hold u. If a is too big, leading zeros will be filled in as needed.": THE ROW HOLDS u's DIGITS ('FmtInv .. 0 ..': every place t holds 'dg u (len - 1 - t)'); all else is as it was but for the count of draws. (LAID: no walk: one application.) -/
theorem Tryd.internal_strconv_formatBase10 (blk off cap : Nat) (u : Nat) (d : Array UInt8) (w : World) (hH : Holds (fun (b : UInt8) => Value.int .u8 (b.toNat : Int)) w blk off d) (hu : u < 10 ^ d.size) (hu64 : u < 18446744073709551616) (hsz : d.size < 4611686018427387904) :
    Calls Tryd.prog 45 #[.slice (some ⟨blk, off, none⟩) d.size cap, .int .u64 u] w fun e w' =>
      e = .returned (.tuple #[]) ∧ ∃ (n v' : Nat) (dk : Array UInt8), w' = (putRow (fun (b : UInt8) => Value.int .u8 (b.toNat : Int)) w blk off dk).drewN n ∧ FmtInv d.size u 0 v' dk := Any.internal_strconv_formatBase10 Tryd.lays285 blk off cap u d w hH hu hu64 hsz
def Tryd.laysM246_ren : Go.Shelf.Ren := ⟨fun | 246 => 81 | 283 => 43 | 284 => 44 | 285 => 45 | 286 => 46 | 129 => 59 | 317 => 58 | 318 => 60 | 319 => 61 | 320 => 62 | 337 => 75 | 338 => 76 | n => n, fun | 2 => 2 | 3 => 3 | 9 => 9 | 4 => 4 | 171 => 95 | 0 => 0 | 53 => 30 | 37 => 83 | 5 => 5 | 173 => 98 | 212 => 109 | 51 => 110 | 20 => 20 | 213 => 111 | 46 => 77 | 232 => 131 | 233 => 132 | n => n, fun | 17 => 0 | 18 => 4 | 19 => 5 | n => n⟩
theorem Tryd.laysM246 : Go.Proofs.LaysM.n246 Tryd.prog Tryd.laysM246_ren := {
  mixed := by kernel_rfl
  f129 := Tryd.func59.trans (congrArg some (by kernel_rfl))
  f246 := Tryd.func81.trans (congrArg some (by kernel_rfl))
  f283 := Tryd.func43.trans (congrArg some (by kernel_rfl))
  f284 := Tryd.func44.trans (congrArg some (by kernel_rfl))
  f285 := Tryd.func45.trans (congrArg some (by kernel_rfl))
  f286 := Tryd.func46.trans (congrArg some (by kernel_rfl))
  f317 := Tryd.func58.trans (congrArg some (by kernel_rfl))
  f318 := Tryd.func60.trans (congrArg some (by kernel_rfl))
  f319 := Tryd.func61.trans (congrArg some (by kernel_rfl))
  f320 := Tryd.func62.trans (congrArg some (by kernel_rfl))
  f337 := Tryd.func75.trans (congrArg some (by kernel_rfl))
  f338 := Tryd.func76.trans (congrArg some (by kernel_rfl))
  t0 := Tryd.underlying0
  a0 := Tryd.isAgg0
  z0 := Tryd.sizeOf0
  v0 := Tryd.zeroValue0
  t2 := Tryd.underlying2
  a2 := Tryd.isAgg2
  z2 := Tryd.sizeOf2
  v2 := Tryd.zeroValue2
  t3 := Tryd.underlying3
  a3 := Tryd.isAgg3
  z3 := Tryd.sizeOf3
  v3 := Tryd.zeroValue3
  t4 := Tryd.underlying4
  a4 := Tryd.isAgg4
  z4 := Tryd.sizeOf4
  v4 := Tryd.zeroValue4
  t5 := Tryd.underlying5
  a5 := Tryd.isAgg5
  z5 := Tryd.sizeOf5
  v5 := Tryd.zeroValue5
  t9 := Tryd.underlying9
  a9 := Tryd.isAgg9
  z9 := Tryd.sizeOf9
  v9 := Tryd.zeroValue9
  t20 := Tryd.underlying20
  a20 := Tryd.isAgg20
  z20 := Tryd.sizeOf20
  v20 := Tryd.zeroValue20
  t37 := Tryd.underlying83
  a37 := Tryd.isAgg83
  z37 := Tryd.sizeOf83
  v37 := Tryd.zeroValue83
  t46 := Tryd.underlying77
  a46 := Tryd.isAgg77
  z46 := Tryd.sizeOf77
  v46 := Tryd.zeroValue77
  t51 := Tryd.underlying110
  a51 := Tryd.isAgg110
  z51 := Tryd.sizeOf110
  v51 := Tryd.zeroValue110
  t53 := Tryd.underlying30
  a53 := Tryd.isAgg30
  z53 := Tryd.sizeOf30
  v53 := Tryd.zeroValue30
  t171 := Tryd.underlying95
  a171 := Tryd.isAgg95
  z171 := Tryd.sizeOf95
  v171 := Tryd.zeroValue95
  t173 := Tryd.underlying98
  a173 := Tryd.isAgg98
  z173 := Tryd.sizeOf98
  v173 := Tryd.zeroValue98
  t212 := Tryd.underlying109
  a212 := Tryd.isAgg109
  z212 := Tryd.sizeOf109
  v212 := Tryd.zeroValue109
  t213 := Tryd.underlying111
  a213 := Tryd.isAgg111
  z213 := Tryd.sizeOf111
  t232 := Tryd.underlying131
  a232 := Tryd.isAgg131
  z232 := Tryd.sizeOf131
  v232 := Tryd.zeroValue131
  t233 := Tryd.underlying132
  a233 := Tryd.isAgg132
  z233 := Tryd.sizeOf132
  v233 := Tryd.zeroValue132
  g17 := by kernel_rfl
  g18 := by kernel_rfl
  g19 := by kernel_rfl
  i0 := by kernel_rfl
  i2 := by kernel_rfl
  i3 := by kernel_rfl
  i4 := by kernel_rfl
  i5 := by kernel_rfl
  i9 := by kernel_rfl
  i20 := by kernel_rfl
  i37 := by kernel_rfl
  i46 := by kernel_rfl
  i51 := by kernel_rfl
  i53 := by kernel_rfl
  i171 := by kernel_rfl
  i173 := by kernel_rfl
  i212 := by kernel_rfl
  i232 := by kernel_rfl
  i233 := by kernel_rfl
  m17 := by kernel_rfl
  m18 := by kernel_rfl
  m19 := by kernel_rfl }
open Go.RowKit Go.Sort Go.Lib in
/-- internal/strconv.FormatInt: "FormatInt returns the string representation of i in the given base": AT BASE 10: i's decimal numeral, for every int64. The world behind the call: the world before it, new blocks behind the heap, draws. (LAID: no walk: one application.) -/
theorem Tryd.internal_strconv_FormatInt_10 (n : Int) (h0 : -9223372036854775808 ≤ n) (h1 : n ≤ 9223372036854775807) (w : World) (htab : Lib.TabIs Tryd.prog w "internal/strconv.uint64pow10" .u64 Lib.pow10Tab) :
    Calls Tryd.prog 81 #[.int .i64 n, .int .i64 10] w fun e w' => e = .returned (.string ⟨(Lib.itoa n).toArray⟩) ∧ ∃ k os, w' = grow (w.drewN k) os := Any.internal_strconv_FormatInt_10 Tryd.laysM246 n h0 h1 w htab
def Tryd.lays246_ren : Go.Shelf.Ren := ⟨fun | 246 => 81 | 283 => 43 | 284 => 44 | 285 => 45 | 286 => 46 | 129 => 59 | 317 => 58 | 318 => 60 | 319 => 61 | 320 => 62 | 337 => 75 | 338 => 76 | n => n, fun | 2 => 2 | 3 => 3 | 9 => 9 | 4 => 4 | 171 => 95 | 0 => 0 | 53 => 30 | 37 => 83 | 5 => 5 | 173 => 98 | 212 => 109 | 51 => 110 | 20 => 20 | 213 => 111 | 46 => 77 | 232 => 131 | 233 => 132 | n => n, fun | 17 => 0 | 18 => 4 | 19 => 5 | n => n⟩
theorem Tryd.lays246 : Go.Proofs.Lays.n246 Tryd.prog Tryd.lays246_ren := {
  mixed := by kernel_rfl
  f129 := Tryd.func59.trans (congrArg some (by kernel_rfl))
  f246 := Tryd.func81.trans (congrArg some (by kernel_rfl))
  f283 := Tryd.func43.trans (congrArg some (by kernel_rfl))
  f284 := Tryd.func44.trans (congrArg some (by kernel_rfl))
  f285 := Tryd.func45.trans (congrArg some (by kernel_rfl))
  f286 := Tryd.func46.trans (congrArg some (by kernel_rfl))
  f317 := Tryd.func58.trans (congrArg some (by kernel_rfl))
  f318 := Tryd.func60.trans (congrArg some (by kernel_rfl))
  f319 := Tryd.func61.trans (congrArg some (by kernel_rfl))
  f320 := Tryd.func62.trans (congrArg some (by kernel_rfl))
  f337 := Tryd.func75.trans (congrArg some (by kernel_rfl))
  f338 := Tryd.func76.trans (congrArg some (by kernel_rfl))
  t0 := Tryd.underlying0
  a0 := Tryd.isAgg0
  z0 := Tryd.sizeOf0
  v0 := Tryd.zeroValue0
  t2 := Tryd.underlying2
  a2 := Tryd.isAgg2
  z2 := Tryd.sizeOf2
  v2 := Tryd.zeroValue2
  t3 := Tryd.underlying3
  a3 := Tryd.isAgg3
  z3 := Tryd.sizeOf3
  v3 := Tryd.zeroValue3
  t4 := Tryd.underlying4
  a4 := Tryd.isAgg4
  z4 := Tryd.sizeOf4
  v4 := Tryd.zeroValue4
  t5 := Tryd.underlying5
  a5 := Tryd.isAgg5
  z5 := Tryd.sizeOf5
  v5 := Tryd.zeroValue5
  t9 := Tryd.underlying9
  a9 := Tryd.isAgg9
  z9 := Tryd.sizeOf9
  v9 := Tryd.zeroValue9
  t20 := Tryd.underlying20
  a20 := Tryd.isAgg20
  z20 := Tryd.sizeOf20
  v20 := Tryd.zeroValue20
  t37 := Tryd.underlying83
  a37 := Tryd.isAgg83
  z37 := Tryd.sizeOf83
  v37 := Tryd.zeroValue83
  t46 := Tryd.underlying77
  a46 := Tryd.isAgg77
  z46 := Tryd.sizeOf77
  v46 := Tryd.zeroValue77
  t51 := Tryd.underlying110
  a51 := Tryd.isAgg110
  z51 := Tryd.sizeOf110
  v51 := Tryd.zeroValue110
  t53 := Tryd.underlying30
  a53 := Tryd.isAgg30
  z53 := Tryd.sizeOf30
  v53 := Tryd.zeroValue30
  t171 := Tryd.underlying95
  a171 := Tryd.isAgg95
  z171 := Tryd.sizeOf95
  v171 := Tryd.zeroValue95
  t173 := Tryd.underlying98
  a173 := Tryd.isAgg98
  z173 := Tryd.sizeOf98
  v173 := Tryd.zeroValue98
  t212 := Tryd.underlying109
  a212 := Tryd.isAgg109
  z212 := Tryd.sizeOf109
  v212 := Tryd.zeroValue109
  t213 := Tryd.underlying111
  a213 := Tryd.isAgg111
  z213 := Tryd.sizeOf111
  t232 := Tryd.underlying131
  a232 := Tryd.isAgg131
  z232 := Tryd.sizeOf131
  v232 := Tryd.zeroValue131
  t233 := Tryd.underlying132
  a233 := Tryd.isAgg132
  z233 := Tryd.sizeOf132
  v233 := Tryd.zeroValue132
  g17 := by kernel_rfl
  g18 := by kernel_rfl
  g19 := by kernel_rfl }
open Go.RowKit Go.Sort Go.Lib in
/-- THE ROAD WITHOUT THE TABLE: 0 <= i < 100: two constants are read, nothing is laid: no premise on the world, and the world is as it was. (LAID: no walk: one application.) -/
theorem Tryd.internal_strconv_FormatInt_10_small (i : Nat) (hi : i < 100) (w : World) :
    Calls Tryd.prog 81 #[.int .i64 i, .int .i64 10] w fun e w' => e = .returned (.string ⟨(Lib.decDigits i).toArray⟩) ∧ w' = w := Any.internal_strconv_FormatInt_10_small Tryd.lays246 i hi w
def Tryd.laysM243_ren : Go.Shelf.Ren := ⟨fun | 243 => 80 | 246 => 81 | 283 => 43 | 284 => 44 | 285 => 45 | 286 => 46 | 129 => 59 | 317 => 58 | 318 => 60 | 319 => 61 | 320 => 62 | 337 => 75 | 338 => 76 | n => n, fun | 3 => 3 | 9 => 9 | 2 => 2 | 4 => 4 | 171 => 95 | 0 => 0 | 53 => 30 | 37 => 83 | 5 => 5 | 173 => 98 | 212 => 109 | 51 => 110 | 20 => 20 | 213 => 111 | 46 => 77 | 232 => 131 | 233 => 132 | n => n, fun | 17 => 0 | 18 => 4 | 19 => 5 | n => n⟩
theorem Tryd.laysM243 : Go.Proofs.LaysM.n243 Tryd.prog Tryd.laysM243_ren := {
  mixed := by kernel_rfl
  f129 := Tryd.func59.trans (congrArg some (by kernel_rfl))
  f243 := Tryd.func80.trans (congrArg some (by kernel_rfl))
  f246 := Tryd.func81.trans (congrArg some (by kernel_rfl))
  f283 := Tryd.func43.trans (congrArg some (by kernel_rfl))
  f284 := Tryd.func44.trans (congrArg some (by kernel_rfl))
  f285 := Tryd.func45.trans (congrArg some (by kernel_rfl))
  f286 := Tryd.func46.trans (congrArg some (by kernel_rfl))
  f317 := Tryd.func58.trans (congrArg some (by kernel_rfl))
  f318 := Tryd.func60.trans (congrArg some (by kernel_rfl))
  f319 := Tryd.func61.trans (congrArg some (by kernel_rfl))
  f320 := Tryd.func62.trans (congrArg some (by kernel_rfl))
  f337 := Tryd.func75.trans (congrArg some (by kernel_rfl))
  f338 := Tryd.func76.trans (congrArg some (by kernel_rfl))
  t0 := Tryd.underlying0
  a0 := Tryd.isAgg0
  z0 := Tryd.sizeOf0
  v0 := Tryd.zeroValue0
  t2 := Tryd.underlying2
  a2 := Tryd.isAgg2
  z2 := Tryd.sizeOf2
  v2 := Tryd.zeroValue2
  t3 := Tryd.underlying3
  a3 := Tryd.isAgg3
  z3 := Tryd.sizeOf3
  v3 := Tryd.zeroValue3
  t4 := Tryd.underlying4
  a4 := Tryd.isAgg4
  z4 := Tryd.sizeOf4
  v4 := Tryd.zeroValue4
  t5 := Tryd.underlying5
  a5 := Tryd.isAgg5
  z5 := Tryd.sizeOf5
  v5 := Tryd.zeroValue5
  t9 := Tryd.underlying9
  a9 := Tryd.isAgg9
  z9 := Tryd.sizeOf9
  v9 := Tryd.zeroValue9
  t20 := Tryd.underlying20
  a20 := Tryd.isAgg20
  z20 := Tryd.sizeOf20
  v20 := Tryd.zeroValue20
  t37 := Tryd.underlying83
  a37 := Tryd.isAgg83
  z37 := Tryd.sizeOf83
  v37 := Tryd.zeroValue83
  t46 := Tryd.underlying77
  a46 := Tryd.isAgg77
  z46 := Tryd.sizeOf77
  v46 := Tryd.zeroValue77
  t51 := Tryd.underlying110
  a51 := Tryd.isAgg110
  z51 := Tryd.sizeOf110
  v51 := Tryd.zeroValue110
  t53 := Tryd.underlying30
  a53 := Tryd.isAgg30
  z53 := Tryd.sizeOf30
  v53 := Tryd.zeroValue30
  t171 := Tryd.underlying95
  a171 := Tryd.isAgg95
  z171 := Tryd.sizeOf95
  v171 := Tryd.zeroValue95
  t173 := Tryd.underlying98
  a173 := Tryd.isAgg98
  z173 := Tryd.sizeOf98
  v173 := Tryd.zeroValue98
  t212 := Tryd.underlying109
  a212 := Tryd.isAgg109
  z212 := Tryd.sizeOf109
  v212 := Tryd.zeroValue109
  t213 := Tryd.underlying111
  a213 := Tryd.isAgg111
  z213 := Tryd.sizeOf111
  t232 := Tryd.underlying131
  a232 := Tryd.isAgg131
  z232 := Tryd.sizeOf131
  v232 := Tryd.zeroValue131
  t233 := Tryd.underlying132
  a233 := Tryd.isAgg132
  z233 := Tryd.sizeOf132
  v233 := Tryd.zeroValue132
  g17 := by kernel_rfl
  g18 := by kernel_rfl
  g19 := by kernel_rfl
  i0 := by kernel_rfl
  i2 := by kernel_rfl
  i3 := by kernel_rfl
  i4 := by kernel_rfl
  i5 := by kernel_rfl
  i9 := by kernel_rfl
  i20 := by kernel_rfl
  i37 := by kernel_rfl
  i46 := by kernel_rfl
  i51 := by kernel_rfl
  i53 := by kernel_rfl
  i171 := by kernel_rfl
  i173 := by kernel_rfl
  i212 := by kernel_rfl
  i232 := by kernel_rfl
  i233 := by kernel_rfl
  m17 := by kernel_rfl
  m18 := by kernel_rfl
  m19 := by kernel_rfl }
open Go.RowKit Go.Sort Go.Lib in
/-- internal/strconv.Itoa: "Itoa is equivalent to FormatInt(int64(i), 10).": i's decimal numeral, for every int. (LAID: no walk: one application.) -/
theorem Tryd.internal_strconv_Itoa (n : Int) (h0 : -9223372036854775808 ≤ n) (h1 : n ≤ 9223372036854775807) (w : World) (htab : Lib.TabIs Tryd.prog w "internal/strconv.uint64pow10" .u64 Lib.pow10Tab) :
    Calls Tryd.prog 80 #[.int .i64 n] w fun e w' => e = .returned (.string ⟨(Lib.itoa n).toArray⟩) ∧ ∃ k os, w' = grow (w.drewN k) os := Any.internal_strconv_Itoa Tryd.laysM243 n h0 h1 w htab
def Tryd.lays243_ren : Go.Shelf.Ren := ⟨fun | 243 => 80 | 246 => 81 | 283 => 43 | 284 => 44 | 285 => 45 | 286 => 46 | 129 => 59 | 317 => 58 | 318 => 60 | 319 => 61 | 320 => 62 | 337 => 75 | 338 => 76 | n => n, fun | 3 => 3 | 9 => 9 | 2 => 2 | 4 => 4 | 171 => 95 | 0 => 0 | 53 => 30 | 37 => 83 | 5 => 5 | 173 => 98 | 212 => 109 | 51 => 110 | 20 => 20 | 213 => 111 | 46 => 77 | 232 => 131 | 233 => 132 | n => n, fun | 17 => 0 | 18 => 4 | 19 => 5 | n => n⟩
theorem Tryd.lays243 : Go.Proofs.Lays.n243 Tryd.prog Tryd.lays243_ren := {
  mixed := by kernel_rfl
  f129 := Tryd.func59.trans (congrArg some (by kernel_rfl))
  f243 := Tryd.func80.trans (congrArg some (by kernel_rfl))
  f246 := Tryd.func81.trans (congrArg some (by kernel_rfl))
  f283 := Tryd.func43.trans (congrArg some (by kernel_rfl))
  f284 := Tryd.func44.trans (congrArg some (by kernel_rfl))
  f285 := Tryd.func45.trans (congrArg some (by kernel_rfl))
  f286 := Tryd.func46.trans (congrArg some (by kernel_rfl))
  f317 := Tryd.func58.trans (congrArg some (by kernel_rfl))
  f318 := Tryd.func60.trans (congrArg some (by kernel_rfl))
  f319 := Tryd.func61.trans (congrArg some (by kernel_rfl))
  f320 := Tryd.func62.trans (congrArg some (by kernel_rfl))
  f337 := Tryd.func75.trans (congrArg some (by kernel_rfl))
  f338 := Tryd.func76.trans (congrArg some (by kernel_rfl))
  t0 := Tryd.underlying0
  a0 := Tryd.isAgg0
  z0 := Tryd.sizeOf0
  v0 := Tryd.zeroValue0
  t2 := Tryd.underlying2
  a2 := Tryd.isAgg2
  z2 := Tryd.sizeOf2
  v2 := Tryd.zeroValue2
  t3 := Tryd.underlying3
  a3 := Tryd.isAgg3
  z3 := Tryd.sizeOf3
  v3 := Tryd.zeroValue3
  t4 := Tryd.underlying4
  a4 := Tryd.isAgg4
  z4 := Tryd.sizeOf4
  v4 := Tryd.zeroValue4
  t5 := Tryd.underlying5
  a5 := Tryd.isAgg5
  z5 := Tryd.sizeOf5
  v5 := Tryd.zeroValue5
  t9 := Tryd.underlying9
  a9 := Tryd.isAgg9
  z9 := Tryd.sizeOf9
  v9 := Tryd.zeroValue9
  t20 := Tryd.underlying20
  a20 := Tryd.isAgg20
  z20 := Tryd.sizeOf20
  v20 := Tryd.zeroValue20
  t37 := Tryd.underlying83
  a37 := Tryd.isAgg83
  z37 := Tryd.sizeOf83
  v37 := Tryd.zeroValue83
  t46 := Tryd.underlying77
  a46 := Tryd.isAgg77
  z46 := Tryd.sizeOf77
  v46 := Tryd.zeroValue77
  t51 := Tryd.underlying110
  a51 := Tryd.isAgg110
  z51 := Tryd.sizeOf110
  v51 := Tryd.zeroValue110
  t53 := Tryd.underlying30
  a53 := Tryd.isAgg30
  z53 := Tryd.sizeOf30
  v53 := Tryd.zeroValue30
  t171 := Tryd.underlying95
  a171 := Tryd.isAgg95
  z171 := Tryd.sizeOf95
  v171 := Tryd.zeroValue95
  t173 := Tryd.underlying98
  a173 := Tryd.isAgg98
  z173 := Tryd.sizeOf98
  v173 := Tryd.zeroValue98
  t212 := Tryd.underlying109
  a212 := Tryd.isAgg109
  z212 := Tryd.sizeOf109
  v212 := Tryd.zeroValue109
  t213 := Tryd.underlying111
  a213 := Tryd.isAgg111
  z213 := Tryd.sizeOf111
  t232 := Tryd.underlying131
  a232 := Tryd.isAgg131
  z232 := Tryd.sizeOf131
  v232 := Tryd.zeroValue131
  t233 := Tryd.underlying132
  a233 := Tryd.isAgg132
  z233 := Tryd.sizeOf132
  v233 := Tryd.zeroValue132
  g17 := by kernel_rfl
  g18 := by kernel_rfl
  g19 := by kernel_rfl }
open Go.RowKit Go.Sort Go.Lib in
/-- THE ROAD WITHOUT THE TABLE: 0 <= i < 100. (LAID: no walk: one application.) -/
theorem Tryd.internal_strconv_Itoa_small (i : Nat) (hi : i < 100) (w : World) :
    Calls Tryd.prog 80 #[.int .i64 i] w fun e w' => e = .returned (.string ⟨(Lib.decDigits i).toArray⟩) ∧ w' = w := Any.internal_strconv_Itoa_small Tryd.lays243 i hi w
def Tryd.laysM171_ren : Go.Shelf.Ren := ⟨fun | 171 => 74 | 243 => 80 | 246 => 81 | 283 => 43 | 284 => 44 | 285 => 45 | 286 => 46 | 129 => 59 | 317 => 58 | 318 => 60 | 319 => 61 | 320 => 62 | 337 => 75 | 338 => 76 | n => n, fun | 3 => 3 | 9 => 9 | 2 => 2 | 4 => 4 | 171 => 95 | 0 => 0 | 53 => 30 | 37 => 83 | 5 => 5 | 173 => 98 | 212 => 109 | 51 => 110 | 20 => 20 | 213 => 111 | 46 => 77 | 232 => 131 | 233 => 132 | n => n, fun | 17 => 0 | 18 => 4 | 19 => 5 | n => n⟩
theorem Tryd.laysM171 : Go.Proofs.LaysM.n171 Tryd.prog Tryd.laysM171_ren := {
  mixed := by kernel_rfl
  f129 := Tryd.func59.trans (congrArg some (by kernel_rfl))
  f171 := Tryd.func74.trans (congrArg some (by kernel_rfl))
  f243 := Tryd.func80.trans (congrArg some (by kernel_rfl))
  f246 := Tryd.func81.trans (congrArg some (by kernel_rfl))
  f283 := Tryd.func43.trans (congrArg some (by kernel_rfl))
  f284 := Tryd.func44.trans (congrArg some (by kernel_rfl))
  f285 := Tryd.func45.trans (congrArg some (by kernel_rfl))
  f286 := Tryd.func46.trans (congrArg some (by kernel_rfl))
  f317 := Tryd.func58.trans (congrArg some (by kernel_rfl))
  f318 := Tryd.func60.trans (congrArg some (by kernel_rfl))
  f319 := Tryd.func61.trans (congrArg some (by kernel_rfl))
  f320 := Tryd.func62.trans (congrArg some (by kernel_rfl))
  f337 := Tryd.func75.trans (congrArg some (by kernel_rfl))
  f338 := Tryd.func76.trans (congrArg some (by kernel_rfl))
  t0 := Tryd.underlying0
  a0 := Tryd.isAgg0
  z0 := Tryd.sizeOf0
  v0 := Tryd.zeroValue0
  t2 := Tryd.underlying2
  a2 := Tryd.isAgg2
  z2 := Tryd.sizeOf2
  v2 := Tryd.zeroValue2
  t3 := Tryd.underlying3
  a3 := Tryd.isAgg3
  z3 := Tryd.sizeOf3
  v3 := Tryd.zeroValue3
  t4 := Tryd.underlying4
  a4 := Tryd.isAgg4
  z4 := Tryd.sizeOf4
  v4 := Tryd.zeroValue4
  t5 := Tryd.underlying5
  a5 := Tryd.isAgg5
  z5 := Tryd.sizeOf5
  v5 := Tryd.zeroValue5
  t9 := Tryd.underlying9
  a9 := Tryd.isAgg9
  z9 := Tryd.sizeOf9
  v9 := Tryd.zeroValue9
  t20 := Tryd.underlying20
  a20 := Tryd.isAgg20
  z20 := Tryd.sizeOf20
  v20 := Tryd.zeroValue20
  t37 := Tryd.underlying83
  a37 := Tryd.isAgg83
  z37 := Tryd.sizeOf83
  v37 := Tryd.zeroValue83
  t46 := Tryd.underlying77
  a46 := Tryd.isAgg77
  z46 := Tryd.sizeOf77
  v46 := Tryd.zeroValue77
  t51 := Tryd.underlying110
  a51 := Tryd.isAgg110
  z51 := Tryd.sizeOf110
  v51 := Tryd.zeroValue110
  t53 := Tryd.underlying30
  a53 := Tryd.isAgg30
  z53 := Tryd.sizeOf30
  v53 := Tryd.zeroValue30
  t171 := Tryd.underlying95
  a171 := Tryd.isAgg95
  z171 := Tryd.sizeOf95
  v171 := Tryd.zeroValue95
  t173 := Tryd.underlying98
  a173 := Tryd.isAgg98
  z173 := Tryd.sizeOf98
  v173 := Tryd.zeroValue98
  t212 := Tryd.underlying109
  a212 := Tryd.isAgg109
  z212 := Tryd.sizeOf109
  v212 := Tryd.zeroValue109
  t213 := Tryd.underlying111
  a213 := Tryd.isAgg111
  z213 := Tryd.sizeOf111
  t232 := Tryd.underlying131
  a232 := Tryd.isAgg131
  z232 := Tryd.sizeOf131
  v232 := Tryd.zeroValue131
  t233 := Tryd.underlying132
  a233 := Tryd.isAgg132
  z233 := Tryd.sizeOf132
  v233 := Tryd.zeroValue132
  g17 := by kernel_rfl
  g18 := by kernel_rfl
  g19 := by kernel_rfl
  i0 := by kernel_rfl
  i2 := by kernel_rfl
  i3 := by kernel_rfl
  i4 := by kernel_rfl
  i5 := by kernel_rfl
  i9 := by kernel_rfl
  i20 := by kernel_rfl
  i37 := by kernel_rfl
  i46 := by kernel_rfl
  i51 := by kernel_rfl
  i53 := by kernel_rfl
  i171 := by kernel_rfl
  i173 := by kernel_rfl
  i212 := by kernel_rfl
  i232 := by kernel_rfl
  i233 := by kernel_rfl
  m17 := by kernel_rfl
  m18 := by kernel_rfl
  m19 := by kernel_rfl }
open Go.RowKit Go.Sort Go.Lib in
/-- strconv.Itoa: "Itoa is equivalent to FormatInt(int64(i), 10).": i's DECIMAL NUMERAL ('Lib.itoa': a '-' where i is negative, then the digits), FOR EVERY int. The world behind the call: the world before it, new blocks behind the heap (the library's 'var a [24]byte'), draws. (LAID: no walk: one application.) -/
theorem Tryd.strconv_Itoa (n : Int) (h0 : -9223372036854775808 ≤ n) (h1 : n ≤ 9223372036854775807) (w : World) (htab : Lib.TabIs Tryd.prog w "internal/strconv.uint64pow10" .u64 Lib.pow10Tab) :
    Calls Tryd.prog 74 #[.int .i64 n] w fun e w' => e = .returned (.string ⟨(Lib.itoa n).toArray⟩) ∧ ∃ k os, w' = grow (w.drewN k) os := Any.strconv_Itoa Tryd.laysM171 n h0 h1 w htab
def Tryd.lays171_ren : Go.Shelf.Ren := ⟨fun | 171 => 74 | 243 => 80 | 246 => 81 | 283 => 43 | 284 => 44 | 285 => 45 | 286 => 46 | 129 => 59 | 317 => 58 | 318 => 60 | 319 => 61 | 320 => 62 | 337 => 75 | 338 => 76 | n => n, fun | 3 => 3 | 9 => 9 | 2 => 2 | 4 => 4 | 171 => 95 | 0 => 0 | 53 => 30 | 37 => 83 | 5 => 5 | 173 => 98 | 212 => 109 | 51 => 110 | 20 => 20 | 213 => 111 | 46 => 77 | 232 => 131 | 233 => 132 | n => n, fun | 17 => 0 | 18 => 4 | 19 => 5 | n => n⟩
theorem Tryd.lays171 : Go.Proofs.Lays.n171 Tryd.prog Tryd.lays171_ren := {
  mixed := by kernel_rfl
  f129 := Tryd.func59.trans (congrArg some (by kernel_rfl))
  f171 := Tryd.func74.trans (congrArg some (by kernel_rfl))
  f243 := Tryd.func80.trans (congrArg some (by kernel_rfl))
  f246 := Tryd.func81.trans (congrArg some (by kernel_rfl))
  f283 := Tryd.func43.trans (congrArg some (by kernel_rfl))
  f284 := Tryd.func44.trans (congrArg some (by kernel_rfl))
  f285 := Tryd.func45.trans (congrArg some (by kernel_rfl))
  f286 := Tryd.func46.trans (congrArg some (by kernel_rfl))
  f317 := Tryd.func58.trans (congrArg some (by kernel_rfl))
  f318 := Tryd.func60.trans (congrArg some (by kernel_rfl))
  f319 := Tryd.func61.trans (congrArg some (by kernel_rfl))
  f320 := Tryd.func62.trans (congrArg some (by kernel_rfl))
  f337 := Tryd.func75.trans (congrArg some (by kernel_rfl))
  f338 := Tryd.func76.trans (congrArg some (by kernel_rfl))
  t0 := Tryd.underlying0
  a0 := Tryd.isAgg0
  z0 := Tryd.sizeOf0
  v0 := Tryd.zeroValue0
  t2 := Tryd.underlying2
  a2 := Tryd.isAgg2
  z2 := Tryd.sizeOf2
  v2 := Tryd.zeroValue2
  t3 := Tryd.underlying3
  a3 := Tryd.isAgg3
  z3 := Tryd.sizeOf3
  v3 := Tryd.zeroValue3
  t4 := Tryd.underlying4
  a4 := Tryd.isAgg4
  z4 := Tryd.sizeOf4
  v4 := Tryd.zeroValue4
  t5 := Tryd.underlying5
  a5 := Tryd.isAgg5
  z5 := Tryd.sizeOf5
  v5 := Tryd.zeroValue5
  t9 := Tryd.underlying9
  a9 := Tryd.isAgg9
  z9 := Tryd.sizeOf9
  v9 := Tryd.zeroValue9
  t20 := Tryd.underlying20
  a20 := Tryd.isAgg20
  z20 := Tryd.sizeOf20
  v20 := Tryd.zeroValue20
  t37 := Tryd.underlying83
  a37 := Tryd.isAgg83
  z37 := Tryd.sizeOf83
  v37 := Tryd.zeroValue83
  t46 := Tryd.underlying77
  a46 := Tryd.isAgg77
  z46 := Tryd.sizeOf77
  v46 := Tryd.zeroValue77
  t51 := Tryd.underlying110
  a51 := Tryd.isAgg110
  z51 := Tryd.sizeOf110
  v51 := Tryd.zeroValue110
  t53 := Tryd.underlying30
  a53 := Tryd.isAgg30
  z53 := Tryd.sizeOf30
  v53 := Tryd.zeroValue30
  t171 := Tryd.underlying95
  a171 := Tryd.isAgg95
  z171 := Tryd.sizeOf95
  v171 := Tryd.zeroValue95
  t173 := Tryd.underlying98
  a173 := Tryd.isAgg98
  z173 := Tryd.sizeOf98
  v173 := Tryd.zeroValue98
  t212 := Tryd.underlying109
  a212 := Tryd.isAgg109
  z212 := Tryd.sizeOf109
  v212 := Tryd.zeroValue109
  t213 := Tryd.underlying111
  a213 := Tryd.isAgg111
  z213 := Tryd.sizeOf111
  t232 := Tryd.underlying131
  a232 := Tryd.isAgg131
  z232 := Tryd.sizeOf131
  v232 := Tryd.zeroValue131
  t233 := Tryd.underlying132
  a233 := Tryd.isAgg132
  z233 := Tryd.sizeOf132
  v233 := Tryd.zeroValue132
  g17 := by kernel_rfl
  g18 := by kernel_rfl
  g19 := by kernel_rfl }
open Go.RowKit Go.Sort Go.Lib in
/-- THE ROAD WITHOUT THE TABLE: 0 <= i < 100: NO PREMISE ON THE WORLD, AND THE WORLD IS AS IT WAS: a row that keeps its argument in that range need list no table ('laid = []'). (LAID: no walk: one application.) -/
theorem Tryd.strconv_Itoa_small (i : Nat) (hi : i < 100) (w : World) :
    Calls Tryd.prog 74 #[.int .i64 i] w fun e w' => e = .returned (.string ⟨(Lib.decDigits i).toArray⟩) ∧ w' = w := Any.strconv_Itoa_small Tryd.lays171 i hi w
def Tryd.laysM316_ren : Go.Shelf.Ren := ⟨fun | 316 => 72 | n => n, fun | 9 => 9 | 3 => 3 | 4 => 4 | 37 => 83 | 0 => 0 | 127 => 100 | 5 => 5 | n => n, fun | n => n⟩
theorem Tryd.laysM316 : Go.Proofs.LaysM.n316 Tryd.prog Tryd.laysM316_ren := {
  mixed := by kernel_rfl
  f316 := Tryd.func72.trans (congrArg some (by kernel_rfl))
  t0 := Tryd.underlying0
  a0 := Tryd.isAgg0
  z0 := Tryd.sizeOf0
  v0 := Tryd.zeroValue0
  t3 := Tryd.underlying3
  a3 := Tryd.isAgg3
  z3 := Tryd.sizeOf3
  v3 := Tryd.zeroValue3
  t4 := Tryd.underlying4
  a4 := Tryd.isAgg4
  z4 := Tryd.sizeOf4
  v4 := Tryd.zeroValue4
  t9 := Tryd.underlying9
  a9 := Tryd.isAgg9
  z9 := Tryd.sizeOf9
  v9 := Tryd.zeroValue9
  t37 := Tryd.underlying83
  a37 := Tryd.isAgg83
  z37 := Tryd.sizeOf83
  v37 := Tryd.zeroValue83
  t127 := Tryd.underlying100
  a127 := Tryd.isAgg100
  z127 := Tryd.sizeOf100
  v127 := Tryd.zeroValue100
  t5 := Tryd.underlying5
  a5 := Tryd.isAgg5
  z5 := Tryd.sizeOf5
  v5 := Tryd.zeroValue5
  i0 := by kernel_rfl
  i3 := by kernel_rfl
  i4 := by kernel_rfl
  i5 := by kernel_rfl
  i9 := by kernel_rfl
  i37 := by kernel_rfl
  i127 := by kernel_rfl }
open Go.RowKit in
/-- internal/stringslite.Clone (what strings.Clone calls): "Clone returns a fresh copy of s.": THE SAME BYTES. Of what was there nothing has turned (a new row is laid, and frozen, where s is not empty). (LAID: no walk: one application.) -/
theorem Tryd.stringslite_Clone (s : ByteArray) (w : World) (hlim : s.size ≤ 281474976710656) :
    Calls Tryd.prog 72 #[.string s] w fun e w' => e = .returned (.string s) ∧ Below w.heap.size w w' := Any.stringslite_Clone Tryd.laysM316 s w hlim
def Tryd.lays321_ren : Go.Shelf.Ren := ⟨fun | 321 => 52 | n => n, fun | 5 => 5 | n => n, fun | n => n⟩
theorem Tryd.lays321 : Go.Proofs.Lays.n321 Tryd.prog Tryd.lays321_ren := {
  mixed := by kernel_rfl
  f321 := Tryd.func52.trans (congrArg some (by kernel_rfl))
  t5 := Tryd.underlying5
  a5 := Tryd.isAgg5
  z5 := Tryd.sizeOf5
  v5 := Tryd.zeroValue5 }
open Go.RowKit in
/-- internal/strconv.lower: 'c | ('x' - 'X')': the bit 32 set. The world is as it was. (LAID: no walk: one application.) -/
theorem Tryd.internal_strconv_lower (c : Int) (w : World) :
    Calls Tryd.prog 52 #[.int .u8 c] w fun e w' => e = .returned (.int .u8 (bits .or .u8 c 32)) ∧ w' = w := Any.internal_strconv_lower Tryd.lays321 c w
def Tryd.lays287_ren : Go.Shelf.Ren := ⟨fun | 287 => 40 | 321 => 52 | 322 => 53 | n => n, fun | 9 => 9 | 3 => 3 | 53 => 30 | 75 => 74 | 4 => 4 | 167 => 102 | 5 => 5 | 46 => 77 | 37 => 83 | 0 => 0 | 21 => 21 | 80 => 89 | n => n, fun | n => n⟩
theorem Tryd.lays287 : Go.Proofs.Lays.n287 Tryd.prog Tryd.lays287_ren := {
  mixed := by kernel_rfl
  f287 := Tryd.func40.trans (congrArg some (by kernel_rfl))
  f321 := Tryd.func52.trans (congrArg some (by kernel_rfl))
  f322 := Tryd.func53.trans (congrArg some (by kernel_rfl))
  t0 := Tryd.underlying0
  a0 := Tryd.isAgg0
  z0 := Tryd.sizeOf0
  v0 := Tryd.zeroValue0
  t3 := Tryd.underlying3
  a3 := Tryd.isAgg3
  z3 := Tryd.sizeOf3
  v3 := Tryd.zeroValue3
  t4 := Tryd.underlying4
  a4 := Tryd.isAgg4
  z4 := Tryd.sizeOf4
  v4 := Tryd.zeroValue4
  t5 := Tryd.underlying5
  a5 := Tryd.isAgg5
  z5 := Tryd.sizeOf5
  v5 := Tryd.zeroValue5
  t9 := Tryd.underlying9
  a9 := Tryd.isAgg9
  z9 := Tryd.sizeOf9
  v9 := Tryd.zeroValue9
  t21 := Tryd.underlying21
  a21 := Tryd.isAgg21
  z21 := Tryd.sizeOf21
  v21 := Tryd.zeroValue21
  t37 := Tryd.underlying83
  a37 := Tryd.isAgg83
  z37 := Tryd.sizeOf83
  v37 := Tryd.zeroValue83
  t46 := Tryd.underlying77
  a46 := Tryd.isAgg77
  z46 := Tryd.sizeOf77
  v46 := Tryd.zeroValue77
  t53 := Tryd.underlying30
  a53 := Tryd.isAgg30
  z53 := Tryd.sizeOf30
  v53 := Tryd.zeroValue30
  t75 := Tryd.underlying74
  a75 := Tryd.isAgg74
  z75 := Tryd.sizeOf74
  v75 := Tryd.zeroValue74
  t167 := Tryd.underlying102
  a167 := Tryd.isAgg102
  z167 := Tryd.sizeOf102
  v167 := Tryd.zeroValue102 }
open Go.RowKit in
/-- internal/strconv.ParseUint("", base, bitSize): (0, ErrSyntax): the first test of the text. The world is as it was. (LAID: no walk: one application.) -/
theorem Tryd.internal_strconv_ParseUint_empty (base bits : Int) (w : World) :
    Calls Tryd.prog 40 #[.string ⟨#[]⟩, .int .i64 base, .int .i64 bits] w fun e w' => e = .returned (.tuple #[.int .u64 0, .iface 102 (.int .i64 2)]) ∧ w' = w := Any.internal_strconv_ParseUint_empty Tryd.lays287 base bits w
def Tryd.lays217_ren : Go.Shelf.Ren := ⟨fun | 217 => 65 | 266 => 77 | n => n, fun | 9 => 9 | 5 => 5 | 3 => 3 | n => n, fun | n => n⟩
theorem Tryd.lays217 : Go.Proofs.Lays.n217 Tryd.prog Tryd.lays217_ren := {
  mixed := by kernel_rfl
  f217 := Tryd.func65.trans (congrArg some (by kernel_rfl))
  f266 := Tryd.func77.trans (congrArg some (by kernel_rfl))
  t3 := Tryd.underlying3
  a3 := Tryd.isAgg3
  z3 := Tryd.sizeOf3
  v3 := Tryd.zeroValue3
  t5 := Tryd.underlying5
  a5 := Tryd.isAgg5
  z5 := Tryd.sizeOf5
  v5 := Tryd.zeroValue5
  t9 := Tryd.underlying9
  a9 := Tryd.isAgg9
  z9 := Tryd.sizeOf9
  v9 := Tryd.zeroValue9 }
open Go.RowKit Go.Lib in
/-- internal/stringslite.IndexByte (what strings.IndexByte calls): IT RETURNS 'Lib.indexByte s c'; the world is as it was. (LAID: no walk: one application.) -/
theorem Tryd.stringslite_IndexByte (s : ByteArray) (c : Int) (w : World) :
    Calls Tryd.prog 65 #[.string s, .int .u8 c] w fun e w' => e = .returned (.int .i64 (Lib.indexByte s.data.toList c.toNat.toUInt8)) ∧ w' = w := Any.stringslite_IndexByte Tryd.lays217 s c w
def Tryd.lays224_ren : Go.Shelf.Ren := ⟨fun | 224 => 67 | n => n, fun | 3 => 3 | n => n, fun | n => n⟩
theorem Tryd.lays224 : Go.Proofs.Lays.n224 Tryd.prog Tryd.lays224_ren := {
  mixed := by kernel_rfl
  f224 := Tryd.func67.trans (congrArg some (by kernel_rfl))
  t3 := Tryd.underlying3
  a3 := Tryd.isAgg3
  z3 := Tryd.sizeOf3
  v3 := Tryd.zeroValue3 }
open Go.RowKit Go.Lib in
/-- internal/bytealg.Cutover: "Cutover reports the number of failures of IndexByte we should tolerate before switching over to Index. n is the number of bytes processed so far.": on amd64: (n + 16) / 8. (LAID: no walk: one application.) -/
theorem Tryd.bytealg_Cutover (n : Int) (h0 : 0 ≤ n) (h1 : n < 4611686018427387904) (w : World) :
    Calls Tryd.prog 67 #[.int .i64 n] w fun e w' => e = .returned (.int .i64 ((n + 16) / 8)) ∧ w' = w := Any.bytealg_Cutover Tryd.lays224 n h0 h1 w
def Tryd.lays314_ren : Go.Shelf.Ren := ⟨fun | 314 => 78 | n => n, fun | 9 => 9 | 51 => 110 | 3 => 3 | 4 => 4 | 5 => 5 | 46 => 77 | n => n, fun | n => n⟩
theorem Tryd.lays314 : Go.Proofs.Lays.n314 Tryd.prog Tryd.lays314_ren := {
  mixed := by kernel_rfl
  f314 := Tryd.func78.trans (congrArg some (by kernel_rfl))
  t3 := Tryd.underlying3
  a3 := Tryd.isAgg3
  z3 := Tryd.sizeOf3
  v3 := Tryd.zeroValue3
  t4 := Tryd.underlying4
  a4 := Tryd.isAgg4
  z4 := Tryd.sizeOf4
  v4 := Tryd.zeroValue4
  t5 := Tryd.underlying5
  a5 := Tryd.isAgg5
  z5 := Tryd.sizeOf5
  v5 := Tryd.zeroValue5
  t9 := Tryd.underlying9
  a9 := Tryd.isAgg9
  z9 := Tryd.sizeOf9
  v9 := Tryd.zeroValue9
  t46 := Tryd.underlying77
  a46 := Tryd.isAgg77
  z46 := Tryd.sizeOf77
  v46 := Tryd.zeroValue77
  t51 := Tryd.underlying110
  a51 := Tryd.isAgg110
  z51 := Tryd.sizeOf110
  v51 := Tryd.zeroValue110 }
open Go.RowKit Go.Lib in
/-- hashStr: "returns the hash and the appropriate multiplicative factor for use in Rabin-Karp algorithm": THE HASH OF ALL OF sep, AND 16777619 ^ len(sep), both in uint32. (LAID: no walk: one application.) -/
theorem Tryd.bytealg_hashStr (sep : ByteArray) (hs : sep.size < 4294967281) (w : World) :
    Calls Tryd.prog 78 #[.string sep] w fun e w' => e = .returned (.tuple #[.int .u32 (RK.H sep.data.toList % 4294967296), .int .u32 (16777619 ^ sep.size % 4294967296)]) ∧ w' = w := Any.bytealg_hashStr Tryd.lays314 sep hs w
def Tryd.lays267_ren : Go.Shelf.Ren := ⟨fun | 267 => 68 | 314 => 78 | n => n, fun | 9 => 9 | 3 => 3 | 146 => 126 | 51 => 110 | 4 => 4 | 5 => 5 | 46 => 77 | n => n, fun | n => n⟩
theorem Tryd.lays267 : Go.Proofs.Lays.n267 Tryd.prog Tryd.lays267_ren := {
  mixed := by kernel_rfl
  f267 := Tryd.func68.trans (congrArg some (by kernel_rfl))
  f314 := Tryd.func78.trans (congrArg some (by kernel_rfl))
  t3 := Tryd.underlying3
  a3 := Tryd.isAgg3
  z3 := Tryd.sizeOf3
  v3 := Tryd.zeroValue3
  t4 := Tryd.underlying4
  a4 := Tryd.isAgg4
  z4 := Tryd.sizeOf4
  v4 := Tryd.zeroValue4
  t5 := Tryd.underlying5
  a5 := Tryd.isAgg5
  z5 := Tryd.sizeOf5
  v5 := Tryd.zeroValue5
  t9 := Tryd.underlying9
  a9 := Tryd.isAgg9
  z9 := Tryd.sizeOf9
  v9 := Tryd.zeroValue9
  t46 := Tryd.underlying77
  a46 := Tryd.isAgg77
  z46 := Tryd.sizeOf77
  v46 := Tryd.zeroValue77
  t51 := Tryd.underlying110
  a51 := Tryd.isAgg110
  z51 := Tryd.sizeOf110
  v51 := Tryd.zeroValue110
  t146 := Tryd.underlying126
  a146 := Tryd.isAgg126
  z146 := Tryd.sizeOf126
  v146 := Tryd.zeroValue126 }
open Go.RowKit Go.Lib in
theorem Tryd.bytealg_IndexRabinKarp (s sep : ByteArray) (h1 : 1 ≤ sep.size) (h2 : sep.size ≤ s.size) (hs : s.size < 4294967281) (w : World) :
    Calls Tryd.prog 68 #[.string s, .string sep] w fun e w' => e = .returned (.int .i64 (Lib.index s.data.toList sep.data.toList)) ∧ w' = w := Any.bytealg_IndexRabinKarp Tryd.lays267 s sep h1 h2 hs w
def Tryd.lays219_ren : Go.Shelf.Ren := ⟨fun | 219 => 49 | 217 => 65 | 225 => 66 | 224 => 67 | 267 => 68 | 266 => 77 | 314 => 78 | n => n, fun | 9 => 9 | 3 => 3 | 4 => 4 | 5 => 5 | 46 => 77 | 146 => 126 | 51 => 110 | n => n, fun | 1 => 1 | n => n⟩
theorem Tryd.lays219 : Go.Proofs.Lays.n219 Tryd.prog Tryd.lays219_ren := {
  mixed := by kernel_rfl
  f217 := Tryd.func65.trans (congrArg some (by kernel_rfl))
  f219 := Tryd.func49.trans (congrArg some (by kernel_rfl))
  f224 := Tryd.func67.trans (congrArg some (by kernel_rfl))
  f225 := Tryd.func66.trans (congrArg some (by kernel_rfl))
  f266 := Tryd.func77.trans (congrArg some (by kernel_rfl))
  f267 := Tryd.func68.trans (congrArg some (by kernel_rfl))
  f314 := Tryd.func78.trans (congrArg some (by kernel_rfl))
  t3 := Tryd.underlying3
  a3 := Tryd.isAgg3
  z3 := Tryd.sizeOf3
  v3 := Tryd.zeroValue3
  t4 := Tryd.underlying4
  a4 := Tryd.isAgg4
  z4 := Tryd.sizeOf4
  v4 := Tryd.zeroValue4
  t5 := Tryd.underlying5
  a5 := Tryd.isAgg5
  z5 := Tryd.sizeOf5
  v5 := Tryd.zeroValue5
  t9 := Tryd.underlying9
  a9 := Tryd.isAgg9
  z9 := Tryd.sizeOf9
  v9 := Tryd.zeroValue9
  t46 := Tryd.underlying77
  a46 := Tryd.isAgg77
  z46 := Tryd.sizeOf77
  v46 := Tryd.zeroValue77
  t51 := Tryd.underlying110
  a51 := Tryd.isAgg110
  z51 := Tryd.sizeOf110
  v51 := Tryd.zeroValue110
  t146 := Tryd.underlying126
  a146 := Tryd.isAgg126
  z146 := Tryd.sizeOf126
  v146 := Tryd.zeroValue126
  g1 := by kernel_rfl }
open Go.RowKit Go.Lib in
/-- internal/stringslite.Index (what strings.Index calls) AT A substr OF ONE BYTE c: IT RETURNS 'Lib.indexByte s c'; the world is as it was. (LAID: no walk: one application.) -/
theorem Tryd.stringslite_Index_one (s : ByteArray) (c : UInt8) (w : World) :
    Calls Tryd.prog 49 #[.string s, .string ⟨#[c]⟩] w fun e w' => e = .returned (.int .i64 (Lib.indexByte s.data.toList c)) ∧ w' = w := Any.stringslite_Index_one Tryd.lays219 s c w
open Go.RowKit Go.Lib in
/-- internal/stringslite.Index (what strings.Index calls) AT A substr OF WHATEVER LENGTH: IT RETURNS 'Lib.index s substr'; the world is as it was. 'm': what internal/bytealg.MaxLen holds: whatever. (LAID: no walk: one application.) -/
theorem Tryd.stringslite_Index (s sub : ByteArray) (m : Int) (w : World) (hs : s.size < 4294967281) (hm : w.cell? ⟨1, 0, none⟩ = some (.int .i64 m)) :
    Calls Tryd.prog 49 #[.string s, .string sub] w fun e w' => e = .returned (.int .i64 (Lib.index s.data.toList sub.data.toList)) ∧ w' = w := Any.stringslite_Index Tryd.lays219 s sub m w hs hm
def Tryd.lays143_ren : Go.Shelf.Ren := ⟨fun | 143 => 38 | 219 => 49 | 217 => 65 | 225 => 66 | 224 => 67 | 267 => 68 | 266 => 77 | 314 => 78 | n => n, fun | 9 => 9 | 3 => 3 | 4 => 4 | 5 => 5 | 46 => 77 | 146 => 126 | 51 => 110 | n => n, fun | 1 => 1 | n => n⟩
theorem Tryd.lays143 : Go.Proofs.Lays.n143 Tryd.prog Tryd.lays143_ren := {
  mixed := by kernel_rfl
  f143 := Tryd.func38.trans (congrArg some (by kernel_rfl))
  f217 := Tryd.func65.trans (congrArg some (by kernel_rfl))
  f219 := Tryd.func49.trans (congrArg some (by kernel_rfl))
  f224 := Tryd.func67.trans (congrArg some (by kernel_rfl))
  f225 := Tryd.func66.trans (congrArg some (by kernel_rfl))
  f266 := Tryd.func77.trans (congrArg some (by kernel_rfl))
  f267 := Tryd.func68.trans (congrArg some (by kernel_rfl))
  f314 := Tryd.func78.trans (congrArg some (by kernel_rfl))
  t3 := Tryd.underlying3
  a3 := Tryd.isAgg3
  z3 := Tryd.sizeOf3
  v3 := Tryd.zeroValue3
  t4 := Tryd.underlying4
  a4 := Tryd.isAgg4
  z4 := Tryd.sizeOf4
  v4 := Tryd.zeroValue4
  t5 := Tryd.underlying5
  a5 := Tryd.isAgg5
  z5 := Tryd.sizeOf5
  v5 := Tryd.zeroValue5
  t9 := Tryd.underlying9
  a9 := Tryd.isAgg9
  z9 := Tryd.sizeOf9
  v9 := Tryd.zeroValue9
  t46 := Tryd.underlying77
  a46 := Tryd.isAgg77
  z46 := Tryd.sizeOf77
  v46 := Tryd.zeroValue77
  t51 := Tryd.underlying110
  a51 := Tryd.isAgg110
  z51 := Tryd.sizeOf110
  v51 := Tryd.zeroValue110
  t146 := Tryd.underlying126
  a146 := Tryd.isAgg126
  z146 := Tryd.sizeOf126
  v146 := Tryd.zeroValue126
  g1 := by kernel_rfl }
open Go.RowKit Go.Lib in
/-- strings.Index: "Index returns the index of the first instance of substr in s, or -1 if substr is not present in s.": AT A substr OF ONE BYTE c: IT RETURNS 'Lib.indexByte s c'; the world is as it was. (LAID: no walk: one application.) -/
theorem Tryd.strings_Index_one (s : ByteArray) (c : UInt8) (w : World) :
    Calls Tryd.prog 38 #[.string s, .string ⟨#[c]⟩] w fun e w' => e = .returned (.int .i64 (Lib.indexByte s.data.toList c)) ∧ w' = w := Any.strings_Index_one Tryd.lays143 s c w
open Go.RowKit Go.Lib in
/-- strings.Index: "Index returns the index of the first instance of substr in s, or -1 if substr is not present in s.": IT RETURNS 'Lib.index s substr'; the world is as it was. (LAID: no walk: one application.) -/
theorem Tryd.strings_Index (s sub : ByteArray) (m : Int) (w : World) (hs : s.size < 4294967281) (hm : w.cell? ⟨1, 0, none⟩ = some (.int .i64 m)) :
    Calls Tryd.prog 38 #[.string s, .string sub] w fun e w' => e = .returned (.int .i64 (Lib.index s.data.toList sub.data.toList)) ∧ w' = w := Any.strings_Index Tryd.lays143 s sub m w hs hm
def Tryd.lays144_ren : Go.Shelf.Ren := ⟨fun | 144 => 27 | 143 => 38 | 219 => 49 | 217 => 65 | 225 => 66 | 224 => 67 | 267 => 68 | 266 => 77 | 314 => 78 | n => n, fun | 9 => 9 | 4 => 4 | 3 => 3 | 5 => 5 | 46 => 77 | 146 => 126 | 51 => 110 | n => n, fun | 1 => 1 | n => n⟩
theorem Tryd.lays144 : Go.Proofs.Lays.n144 Tryd.prog Tryd.lays144_ren := {
  mixed := by kernel_rfl
  f143 := Tryd.func38.trans (congrArg some (by kernel_rfl))
  f144 := Tryd.func27.trans (congrArg some (by kernel_rfl))
  f217 := Tryd.func65.trans (congrArg some (by kernel_rfl))
  f219 := Tryd.func49.trans (congrArg some (by kernel_rfl))
  f224 := Tryd.func67.trans (congrArg some (by kernel_rfl))
  f225 := Tryd.func66.trans (congrArg some (by kernel_rfl))
  f266 := Tryd.func77.trans (congrArg some (by kernel_rfl))
  f267 := Tryd.func68.trans (congrArg some (by kernel_rfl))
  f314 := Tryd.func78.trans (congrArg some (by kernel_rfl))
  t3 := Tryd.underlying3
  a3 := Tryd.isAgg3
  z3 := Tryd.sizeOf3
  v3 := Tryd.zeroValue3
  t4 := Tryd.underlying4
  a4 := Tryd.isAgg4
  z4 := Tryd.sizeOf4
  v4 := Tryd.zeroValue4
  t5 := Tryd.underlying5
  a5 := Tryd.isAgg5
  z5 := Tryd.sizeOf5
  v5 := Tryd.zeroValue5
  t9 := Tryd.underlying9
  a9 := Tryd.isAgg9
  z9 := Tryd.sizeOf9
  v9 := Tryd.zeroValue9
  t46 := Tryd.underlying77
  a46 := Tryd.isAgg77
  z46 := Tryd.sizeOf77
  v46 := Tryd.zeroValue77
  t51 := Tryd.underlying110
  a51 := Tryd.isAgg110
  z51 := Tryd.sizeOf110
  v51 := Tryd.zeroValue110
  t146 := Tryd.underlying126
  a146 := Tryd.isAgg126
  z146 := Tryd.sizeOf126
  v146 := Tryd.zeroValue126
  g1 := by kernel_rfl }
open Go.RowKit Go.Lib in
/-- strings.Contains: "Contains reports whether substr is within s.": AT A substr OF ONE BYTE c: IT RETURNS 'decide (0 ≤ Lib.indexByte s c)'; the world is as it was. (LAID: no walk: one application.) -/
theorem Tryd.strings_Contains_one (s : ByteArray) (c : UInt8) (w : World) :
    Calls Tryd.prog 27 #[.string s, .string ⟨#[c]⟩] w fun e w' => e = .returned (.bool (decide (0 ≤ Lib.indexByte s.data.toList c))) ∧ w' = w := Any.strings_Contains_one Tryd.lays144 s c w
open Go.RowKit Go.Lib in
/-- strings.Contains: "Contains reports whether substr is within s.": IT RETURNS 'Lib.contains s substr'; the world is as it was. (LAID: no walk: one application.) -/
theorem Tryd.strings_Contains (s sub : ByteArray) (m : Int) (w : World) (hs : s.size < 4294967281) (hm : w.cell? ⟨1, 0, none⟩ = some (.int .i64 m)) :
    Calls Tryd.prog 27 #[.string s, .string sub] w fun e w' => e = .returned (.bool (Lib.contains s.data.toList sub.data.toList)) ∧ w' = w := Any.strings_Contains Tryd.lays144 s sub m w hs hm
def Tryd.lays138_ren : Go.Shelf.Ren := ⟨fun | 138 => 51 | 195 => 69 | 218 => 71 | 143 => 38 | 219 => 49 | 217 => 65 | 225 => 66 | 224 => 67 | 267 => 68 | 266 => 77 | 314 => 78 | n => n, fun | 9 => 9 | 3 => 3 | 4 => 4 | 5 => 5 | 0 => 0 | 46 => 77 | 146 => 126 | 51 => 110 | n => n, fun | 1 => 1 | n => n⟩
theorem Tryd.lays138 : Go.Proofs.Lays.n138 Tryd.prog Tryd.lays138_ren := {
  mixed := by kernel_rfl
  f138 := Tryd.func51.trans (congrArg some (by kernel_rfl))
  f143 := Tryd.func38.trans (congrArg some (by kernel_rfl))
  f195 := Tryd.func69.trans (congrArg some (by kernel_rfl))
  f217 := Tryd.func65.trans (congrArg some (by kernel_rfl))
  f218 := Tryd.func71.trans (congrArg some (by kernel_rfl))
  f219 := Tryd.func49.trans (congrArg some (by kernel_rfl))
  f224 := Tryd.func67.trans (congrArg some (by kernel_rfl))
  f225 := Tryd.func66.trans (congrArg some (by kernel_rfl))
  f266 := Tryd.func77.trans (congrArg some (by kernel_rfl))
  f267 := Tryd.func68.trans (congrArg some (by kernel_rfl))
  f314 := Tryd.func78.trans (congrArg some (by kernel_rfl))
  t0 := Tryd.underlying0
  a0 := Tryd.isAgg0
  z0 := Tryd.sizeOf0
  v0 := Tryd.zeroValue0
  t3 := Tryd.underlying3
  a3 := Tryd.isAgg3
  z3 := Tryd.sizeOf3
  v3 := Tryd.zeroValue3
  t4 := Tryd.underlying4
  a4 := Tryd.isAgg4
  z4 := Tryd.sizeOf4
  v4 := Tryd.zeroValue4
  t5 := Tryd.underlying5
  a5 := Tryd.isAgg5
  z5 := Tryd.sizeOf5
  v5 := Tryd.zeroValue5
  t9 := Tryd.underlying9
  a9 := Tryd.isAgg9
  z9 := Tryd.sizeOf9
  v9 := Tryd.zeroValue9
  t46 := Tryd.underlying77
  a46 := Tryd.isAgg77
  z46 := Tryd.sizeOf77
  v46 := Tryd.zeroValue77
  t51 := Tryd.underlying110
  a51 := Tryd.isAgg110
  z51 := Tryd.sizeOf110
  v51 := Tryd.zeroValue110
  t146 := Tryd.underlying126
  a146 := Tryd.isAgg126
  z146 := Tryd.sizeOf126
  v146 := Tryd.zeroValue126
  g1 := by kernel_rfl }
open Go.RowKit Go.Lib in
/-- strings.Count AT A substr OF ONE BYTE ('hp'): "Count counts the number of non-overlapping instances of substr in s.": IT RETURNS 'Lib.countByte s (that byte)'; the world is as it was. ✋ NO CONTRACT HERE YET at an empty substr (utf8.RuneCountInString) or at a longer one (a loop over strings.Index). (LAID: no walk: one application.) -/
theorem Tryd.strings_Count_one (s : ByteArray) (c : UInt8) (w : World) :
    Calls Tryd.prog 51 #[.string s, .string ⟨#[c]⟩] w fun e w' => e = .returned (.int .i64 (Lib.countByte s.data.toList c)) ∧ w' = w := Any.strings_Count_one Tryd.lays138 s c w
open Go.RowKit Go.Lib in
/-- strings.Count AT A substr OF TWO BYTES OR MORE: "Count counts the number of non-overlapping instances of substr in s.": IT RETURNS 'Lib.count s substr'; the world is as it was. (LAID: no walk: one application.) -/
theorem Tryd.strings_Count (s sub : ByteArray) (m : Int) (w : World) (hs : s.size < 4294967281) (hm : w.cell? ⟨1, 0, none⟩ = some (.int .i64 m)) (h2 : 2 ≤ sub.size) :
    Calls Tryd.prog 51 #[.string s, .string sub] w fun e w' => e = .returned (.int .i64 (Lib.countB s sub)) ∧ w' = w := Any.strings_Count Tryd.lays138 s sub m w hs hm h2
def Tryd.laysM219_ren : Go.Shelf.Ren := ⟨fun | 219 => 49 | 217 => 65 | 225 => 66 | 224 => 67 | 267 => 68 | 266 => 77 | 314 => 78 | n => n, fun | 9 => 9 | 3 => 3 | 4 => 4 | 5 => 5 | 46 => 77 | 146 => 126 | 51 => 110 | n => n, fun | 1 => 1 | n => n⟩
theorem Tryd.laysM219 : Go.Proofs.LaysM.n219 Tryd.prog Tryd.laysM219_ren := {
  mixed := by kernel_rfl
  f217 := Tryd.func65.trans (congrArg some (by kernel_rfl))
  f219 := Tryd.func49.trans (congrArg some (by kernel_rfl))
  f224 := Tryd.func67.trans (congrArg some (by kernel_rfl))
  f225 := Tryd.func66.trans (congrArg some (by kernel_rfl))
  f266 := Tryd.func77.trans (congrArg some (by kernel_rfl))
  f267 := Tryd.func68.trans (congrArg some (by kernel_rfl))
  f314 := Tryd.func78.trans (congrArg some (by kernel_rfl))
  t3 := Tryd.underlying3
  a3 := Tryd.isAgg3
  z3 := Tryd.sizeOf3
  v3 := Tryd.zeroValue3
  t4 := Tryd.underlying4
  a4 := Tryd.isAgg4
  z4 := Tryd.sizeOf4
  v4 := Tryd.zeroValue4
  t5 := Tryd.underlying5
  a5 := Tryd.isAgg5
  z5 := Tryd.sizeOf5
  v5 := Tryd.zeroValue5
  t9 := Tryd.underlying9
  a9 := Tryd.isAgg9
  z9 := Tryd.sizeOf9
  v9 := Tryd.zeroValue9
  t46 := Tryd.underlying77
  a46 := Tryd.isAgg77
  z46 := Tryd.sizeOf77
  v46 := Tryd.zeroValue77
  t51 := Tryd.underlying110
  a51 := Tryd.isAgg110
  z51 := Tryd.sizeOf110
  v51 := Tryd.zeroValue110
  t146 := Tryd.underlying126
  a146 := Tryd.isAgg126
  z146 := Tryd.sizeOf126
  v146 := Tryd.zeroValue126
  g1 := by kernel_rfl
  i3 := by kernel_rfl
  i4 := by kernel_rfl
  i5 := by kernel_rfl
  i9 := by kernel_rfl
  i46 := by kernel_rfl
  i51 := by kernel_rfl
  i146 := by kernel_rfl
  m1 := by kernel_rfl
  s1_3 := fun w h => Go.Proofs.cell_of_shapedOpen_int (zero := #[.int .i64 0]) (t := 3) h (of_decide_eq_true (by kernel_rfl)) (by kernel_rfl) rfl (by kernel_rfl) (by kernel_rfl) Tryd.underlying3 }
open Go.RowKit Go.Lib in
theorem Tryd.stringslite_Index_shaped (s sub : ByteArray) (w : World) (h : w.ShapedOpen Tryd.prog) (hs : s.size < 4294967281) :
    Calls Tryd.prog 49 #[.string s, .string sub] w fun e w' => e = .returned (.int .i64 (Lib.index s.data.toList sub.data.toList)) ∧ w' = w := Any.stringslite_Index_shaped Tryd.laysM219 s sub w h hs
def Tryd.laysM143_ren : Go.Shelf.Ren := ⟨fun | 143 => 38 | 219 => 49 | 217 => 65 | 225 => 66 | 224 => 67 | 267 => 68 | 266 => 77 | 314 => 78 | n => n, fun | 9 => 9 | 3 => 3 | 4 => 4 | 5 => 5 | 46 => 77 | 146 => 126 | 51 => 110 | n => n, fun | 1 => 1 | n => n⟩
theorem Tryd.laysM143 : Go.Proofs.LaysM.n143 Tryd.prog Tryd.laysM143_ren := {
  mixed := by kernel_rfl
  f143 := Tryd.func38.trans (congrArg some (by kernel_rfl))
  f217 := Tryd.func65.trans (congrArg some (by kernel_rfl))
  f219 := Tryd.func49.trans (congrArg some (by kernel_rfl))
  f224 := Tryd.func67.trans (congrArg some (by kernel_rfl))
  f225 := Tryd.func66.trans (congrArg some (by kernel_rfl))
  f266 := Tryd.func77.trans (congrArg some (by kernel_rfl))
  f267 := Tryd.func68.trans (congrArg some (by kernel_rfl))
  f314 := Tryd.func78.trans (congrArg some (by kernel_rfl))
  t3 := Tryd.underlying3
  a3 := Tryd.isAgg3
  z3 := Tryd.sizeOf3
  v3 := Tryd.zeroValue3
  t4 := Tryd.underlying4
  a4 := Tryd.isAgg4
  z4 := Tryd.sizeOf4
  v4 := Tryd.zeroValue4
  t5 := Tryd.underlying5
  a5 := Tryd.isAgg5
  z5 := Tryd.sizeOf5
  v5 := Tryd.zeroValue5
  t9 := Tryd.underlying9
  a9 := Tryd.isAgg9
  z9 := Tryd.sizeOf9
  v9 := Tryd.zeroValue9
  t46 := Tryd.underlying77
  a46 := Tryd.isAgg77
  z46 := Tryd.sizeOf77
  v46 := Tryd.zeroValue77
  t51 := Tryd.underlying110
  a51 := Tryd.isAgg110
  z51 := Tryd.sizeOf110
  v51 := Tryd.zeroValue110
  t146 := Tryd.underlying126
  a146 := Tryd.isAgg126
  z146 := Tryd.sizeOf126
  v146 := Tryd.zeroValue126
  g1 := by kernel_rfl
  i3 := by kernel_rfl
  i4 := by kernel_rfl
  i5 := by kernel_rfl
  i9 := by kernel_rfl
  i46 := by kernel_rfl
  i51 := by kernel_rfl
  i146 := by kernel_rfl
  m1 := by kernel_rfl
  s1_3 := fun w h => Go.Proofs.cell_of_shapedOpen_int (zero := #[.int .i64 0]) (t := 3) h (of_decide_eq_true (by kernel_rfl)) (by kernel_rfl) rfl (by kernel_rfl) (by kernel_rfl) Tryd.underlying3 }
open Go.RowKit Go.Lib in
theorem Tryd.strings_Index_shaped (s sub : ByteArray) (w : World) (h : w.ShapedOpen Tryd.prog) (hs : s.size < 4294967281) :
    Calls Tryd.prog 38 #[.string s, .string sub] w fun e w' => e = .returned (.int .i64 (Lib.index s.data.toList sub.data.toList)) ∧ w' = w := Any.strings_Index_shaped Tryd.laysM143 s sub w h hs
def Tryd.laysM144_ren : Go.Shelf.Ren := ⟨fun | 144 => 27 | 143 => 38 | 219 => 49 | 217 => 65 | 225 => 66 | 224 => 67 | 267 => 68 | 266 => 77 | 314 => 78 | n => n, fun | 9 => 9 | 4 => 4 | 3 => 3 | 5 => 5 | 46 => 77 | 146 => 126 | 51 => 110 | n => n, fun | 1 => 1 | n => n⟩
theorem Tryd.laysM144 : Go.Proofs.LaysM.n144 Tryd.prog Tryd.laysM144_ren := {
  mixed := by kernel_rfl
  f143 := Tryd.func38.trans (congrArg some (by kernel_rfl))
  f144 := Tryd.func27.trans (congrArg some (by kernel_rfl))
  f217 := Tryd.func65.trans (congrArg some (by kernel_rfl))
  f219 := Tryd.func49.trans (congrArg some (by kernel_rfl))
  f224 := Tryd.func67.trans (congrArg some (by kernel_rfl))
  f225 := Tryd.func66.trans (congrArg some (by kernel_rfl))
  f266 := Tryd.func77.trans (congrArg some (by kernel_rfl))
  f267 := Tryd.func68.trans (congrArg some (by kernel_rfl))
  f314 := Tryd.func78.trans (congrArg some (by kernel_rfl))
  t3 := Tryd.underlying3
  a3 := Tryd.isAgg3
  z3 := Tryd.sizeOf3
  v3 := Tryd.zeroValue3
  t4 := Tryd.underlying4
  a4 := Tryd.isAgg4
  z4 := Tryd.sizeOf4
  v4 := Tryd.zeroValue4
  t5 := Tryd.underlying5
  a5 := Tryd.isAgg5
  z5 := Tryd.sizeOf5
  v5 := Tryd.zeroValue5
  t9 := Tryd.underlying9
  a9 := Tryd.isAgg9
  z9 := Tryd.sizeOf9
  v9 := Tryd.zeroValue9
  t46 := Tryd.underlying77
  a46 := Tryd.isAgg77
  z46 := Tryd.sizeOf77
  v46 := Tryd.zeroValue77
  t51 := Tryd.underlying110
  a51 := Tryd.isAgg110
  z51 := Tryd.sizeOf110
  v51 := Tryd.zeroValue110
  t146 := Tryd.underlying126
  a146 := Tryd.isAgg126
  z146 := Tryd.sizeOf126
  v146 := Tryd.zeroValue126
  g1 := by kernel_rfl
  i3 := by kernel_rfl
  i4 := by kernel_rfl
  i5 := by kernel_rfl
  i9 := by kernel_rfl
  i46 := by kernel_rfl
  i51 := by kernel_rfl
  i146 := by kernel_rfl
  m1 := by kernel_rfl
  s1_3 := fun w h => Go.Proofs.cell_of_shapedOpen_int (zero := #[.int .i64 0]) (t := 3) h (of_decide_eq_true (by kernel_rfl)) (by kernel_rfl) rfl (by kernel_rfl) (by kernel_rfl) Tryd.underlying3 }
open Go.RowKit Go.Lib in
theorem Tryd.strings_Contains_shaped (s sub : ByteArray) (w : World) (h : w.ShapedOpen Tryd.prog) (hs : s.size < 4294967281) :
    Calls Tryd.prog 27 #[.string s, .string sub] w fun e w' => e = .returned (.bool (Lib.contains s.data.toList sub.data.toList)) ∧ w' = w := Any.strings_Contains_shaped Tryd.laysM144 s sub w h hs
def Tryd.laysM138_ren : Go.Shelf.Ren := ⟨fun | 138 => 51 | 195 => 69 | 218 => 71 | 143 => 38 | 219 => 49 | 217 => 65 | 225 => 66 | 224 => 67 | 267 => 68 | 266 => 77 | 314 => 78 | n => n, fun | 9 => 9 | 3 => 3 | 4 => 4 | 5 => 5 | 0 => 0 | 46 => 77 | 146 => 126 | 51 => 110 | n => n, fun | 1 => 1 | n => n⟩
theorem Tryd.laysM138 : Go.Proofs.LaysM.n138 Tryd.prog Tryd.laysM138_ren := {
  mixed := by kernel_rfl
  f138 := Tryd.func51.trans (congrArg some (by kernel_rfl))
  f143 := Tryd.func38.trans (congrArg some (by kernel_rfl))
  f195 := Tryd.func69.trans (congrArg some (by kernel_rfl))
  f217 := Tryd.func65.trans (congrArg some (by kernel_rfl))
  f218 := Tryd.func71.trans (congrArg some (by kernel_rfl))
  f219 := Tryd.func49.trans (congrArg some (by kernel_rfl))
  f224 := Tryd.func67.trans (congrArg some (by kernel_rfl))
  f225 := Tryd.func66.trans (congrArg some (by kernel_rfl))
  f266 := Tryd.func77.trans (congrArg some (by kernel_rfl))
  f267 := Tryd.func68.trans (congrArg some (by kernel_rfl))
  f314 := Tryd.func78.trans (congrArg some (by kernel_rfl))
  t0 := Tryd.underlying0
  a0 := Tryd.isAgg0
  z0 := Tryd.sizeOf0
  v0 := Tryd.zeroValue0
  t3 := Tryd.underlying3
  a3 := Tryd.isAgg3
  z3 := Tryd.sizeOf3
  v3 := Tryd.zeroValue3
  t4 := Tryd.underlying4
  a4 := Tryd.isAgg4
  z4 := Tryd.sizeOf4
  v4 := Tryd.zeroValue4
  t5 := Tryd.underlying5
  a5 := Tryd.isAgg5
  z5 := Tryd.sizeOf5
  v5 := Tryd.zeroValue5
  t9 := Tryd.underlying9
  a9 := Tryd.isAgg9
  z9 := Tryd.sizeOf9
  v9 := Tryd.zeroValue9
  t46 := Tryd.underlying77
  a46 := Tryd.isAgg77
  z46 := Tryd.sizeOf77
  v46 := Tryd.zeroValue77
  t51 := Tryd.underlying110
  a51 := Tryd.isAgg110
  z51 := Tryd.sizeOf110
  v51 := Tryd.zeroValue110
  t146 := Tryd.underlying126
  a146 := Tryd.isAgg126
  z146 := Tryd.sizeOf126
  v146 := Tryd.zeroValue126
  g1 := by kernel_rfl
  i0 := by kernel_rfl
  i3 := by kernel_rfl
  i4 := by kernel_rfl
  i5 := by kernel_rfl
  i9 := by kernel_rfl
  i46 := by kernel_rfl
  i51 := by kernel_rfl
  i146 := by kernel_rfl
  m1 := by kernel_rfl
  s1_3 := fun w h => Go.Proofs.cell_of_shapedOpen_int (zero := #[.int .i64 0]) (t := 3) h (of_decide_eq_true (by kernel_rfl)) (by kernel_rfl) rfl (by kernel_rfl) (by kernel_rfl) Tryd.underlying3 }
open Go.RowKit Go.Lib in
theorem Tryd.strings_Count_shaped (s sub : ByteArray) (w : World) (h : w.ShapedOpen Tryd.prog) (hs : s.size < 4294967281) (h2 : 2 ≤ sub.size) :
    Calls Tryd.prog 51 #[.string s, .string sub] w fun e w' => e = .returned (.int .i64 (Lib.countB s sub)) ∧ w' = w := Any.strings_Count_shaped Tryd.laysM138 s sub w h hs h2
open Go.RowKit Go.Lib in
/-- strings.Count at whatever sep that is not empty: the two roads under one statement. (LAID: no walk: one application.) -/
theorem Tryd.strings_Count_any (s sep : ByteArray) (m : Int) (w : World) (hs : s.size < 4294967281) (hm : w.cell? ⟨1, 0, none⟩ = some (.int .i64 m)) (h1 : 1 ≤ sep.size) :
    Calls Tryd.prog 51 #[.string s, .string sep] w fun e w' => e = .returned (.int .i64 (Lib.countB s sep)) ∧ w' = w := Any.strings_Count_any Tryd.lays138 s sep m w hs hm h1
def Tryd.lays221_ren : Go.Shelf.Ren := ⟨fun | 221 => 39 | 268 => 50 | 138 => 51 | 143 => 38 | 195 => 69 | 197 => 70 | 218 => 71 | 219 => 49 | 260 => 79 | 217 => 65 | 225 => 66 | 224 => 67 | 267 => 68 | 266 => 77 | 314 => 78 | n => n, fun | 9 => 9 | 3 => 3 | 31 => 68 | 4 => 4 | 0 => 0 | 105 => 119 | 21 => 21 | 5 => 5 | 46 => 77 | 119 => 133 | 139 => 136 | 138 => 135 | 146 => 126 | 51 => 110 | n => n, fun | 1 => 1 | 3 => 6 | 4 => 7 | n => n⟩
theorem Tryd.lays221 : Go.Proofs.Lays.n221 Tryd.prog Tryd.lays221_ren := {
  mixed := by kernel_rfl
  f138 := Tryd.func51.trans (congrArg some (by kernel_rfl))
  f143 := Tryd.func38.trans (congrArg some (by kernel_rfl))
  f195 := Tryd.func69.trans (congrArg some (by kernel_rfl))
  f197 := Tryd.func70.trans (congrArg some (by kernel_rfl))
  f217 := Tryd.func65.trans (congrArg some (by kernel_rfl))
  f218 := Tryd.func71.trans (congrArg some (by kernel_rfl))
  f219 := Tryd.func49.trans (congrArg some (by kernel_rfl))
  f221 := Tryd.func39.trans (congrArg some (by kernel_rfl))
  f224 := Tryd.func67.trans (congrArg some (by kernel_rfl))
  f225 := Tryd.func66.trans (congrArg some (by kernel_rfl))
  f260 := Tryd.func79.trans (congrArg some (by kernel_rfl))
  f266 := Tryd.func77.trans (congrArg some (by kernel_rfl))
  f267 := Tryd.func68.trans (congrArg some (by kernel_rfl))
  f268 := Tryd.func50.trans (congrArg some (by kernel_rfl))
  f314 := Tryd.func78.trans (congrArg some (by kernel_rfl))
  t0 := Tryd.underlying0
  a0 := Tryd.isAgg0
  z0 := Tryd.sizeOf0
  v0 := Tryd.zeroValue0
  t3 := Tryd.underlying3
  a3 := Tryd.isAgg3
  z3 := Tryd.sizeOf3
  v3 := Tryd.zeroValue3
  t4 := Tryd.underlying4
  a4 := Tryd.isAgg4
  z4 := Tryd.sizeOf4
  v4 := Tryd.zeroValue4
  t5 := Tryd.underlying5
  a5 := Tryd.isAgg5
  z5 := Tryd.sizeOf5
  v5 := Tryd.zeroValue5
  t9 := Tryd.underlying9
  a9 := Tryd.isAgg9
  z9 := Tryd.sizeOf9
  v9 := Tryd.zeroValue9
  t21 := Tryd.underlying21
  a21 := Tryd.isAgg21
  z21 := Tryd.sizeOf21
  v21 := Tryd.zeroValue21
  t31 := Tryd.underlying68
  a31 := Tryd.isAgg68
  z31 := Tryd.sizeOf68
  v31 := Tryd.zeroValue68
  t46 := Tryd.underlying77
  a46 := Tryd.isAgg77
  z46 := Tryd.sizeOf77
  v46 := Tryd.zeroValue77
  t51 := Tryd.underlying110
  a51 := Tryd.isAgg110
  z51 := Tryd.sizeOf110
  v51 := Tryd.zeroValue110
  t105 := Tryd.underlying119
  a105 := Tryd.isAgg119
  z105 := Tryd.sizeOf119
  v105 := Tryd.zeroValue119
  t119 := Tryd.underlying133
  a119 := Tryd.isAgg133
  z119 := Tryd.sizeOf133
  t138 := Tryd.underlying135
  a138 := Tryd.isAgg135
  z138 := Tryd.sizeOf135
  v138 := Tryd.zeroValue135
  t139 := Tryd.underlying136
  a139 := Tryd.isAgg136
  z139 := Tryd.sizeOf136
  v139 := Tryd.zeroValue136
  t146 := Tryd.underlying126
  a146 := Tryd.isAgg126
  z146 := Tryd.sizeOf126
  v146 := Tryd.zeroValue126
  g1 := by kernel_rfl
  g3 := by kernel_rfl
  g4 := by kernel_rfl }
open Go.RowKit Go.Lib in
theorem Tryd.strings_genSplit (s sep : ByteArray) (sv : Nat) (n : Int) (N : Nat) (m : Int) (w : World) (hs : s.size < 4294967281) (hm : w.cell? ⟨1, 0, none⟩ = some (.int .i64 m)) (h1 : 1 ≤ sep.size) (hsv : sv ≤ sep.size) (hn0 : n ≠ 0) (hn63 : n ≤ 9223372036854775807) (hN : (N : Int) = min (if n < 0 then (Lib.countB s sep : Int) + 1 else n) ((s.size : Int) + 1)) :
    Calls Tryd.prog 39 #[.string s, .string sep, .int .i64 sv, .int .i64 n] w fun e w' =>
      e = .returned (.slice (some ⟨w.heap.size, 0, none⟩) (Lib.splitB sep sv (N - 1) s).length N) ∧ w' = w.alloc (.cells (Lib.cellsOf (Lib.splitB sep sv (N - 1) s) N) 9) := Any.strings_genSplit Tryd.lays221 (by kernel_rfl) s sep sv n N m w hs hm h1 hsv hn0 hn63 hN
def Tryd.lays146_ren : Go.Shelf.Ren := ⟨fun | 146 => 28 | 221 => 39 | 268 => 50 | 138 => 51 | 143 => 38 | 195 => 69 | 197 => 70 | 218 => 71 | 219 => 49 | 260 => 79 | 217 => 65 | 225 => 66 | 224 => 67 | 267 => 68 | 266 => 77 | 314 => 78 | n => n, fun | 9 => 9 | 31 => 68 | 3 => 3 | 4 => 4 | 0 => 0 | 105 => 119 | 21 => 21 | 5 => 5 | 46 => 77 | 119 => 133 | 139 => 136 | 138 => 135 | 146 => 126 | 51 => 110 | n => n, fun | 1 => 1 | 3 => 6 | 4 => 7 | n => n⟩
theorem Tryd.lays146 : Go.Proofs.Lays.n146 Tryd.prog Tryd.lays146_ren := {
  mixed := by kernel_rfl
  f138 := Tryd.func51.trans (congrArg some (by kernel_rfl))
  f143 := Tryd.func38.trans (congrArg some (by kernel_rfl))
  f146 := Tryd.func28.trans (congrArg some (by kernel_rfl))
  f195 := Tryd.func69.trans (congrArg some (by kernel_rfl))
  f197 := Tryd.func70.trans (congrArg some (by kernel_rfl))
  f217 := Tryd.func65.trans (congrArg some (by kernel_rfl))
  f218 := Tryd.func71.trans (congrArg some (by kernel_rfl))
  f219 := Tryd.func49.trans (congrArg some (by kernel_rfl))
  f221 := Tryd.func39.trans (congrArg some (by kernel_rfl))
  f224 := Tryd.func67.trans (congrArg some (by kernel_rfl))
  f225 := Tryd.func66.trans (congrArg some (by kernel_rfl))
  f260 := Tryd.func79.trans (congrArg some (by kernel_rfl))
  f266 := Tryd.func77.trans (congrArg some (by kernel_rfl))
  f267 := Tryd.func68.trans (congrArg some (by kernel_rfl))
  f268 := Tryd.func50.trans (congrArg some (by kernel_rfl))
  f314 := Tryd.func78.trans (congrArg some (by kernel_rfl))
  t0 := Tryd.underlying0
  a0 := Tryd.isAgg0
  z0 := Tryd.sizeOf0
  v0 := Tryd.zeroValue0
  t3 := Tryd.underlying3
  a3 := Tryd.isAgg3
  z3 := Tryd.sizeOf3
  v3 := Tryd.zeroValue3
  t4 := Tryd.underlying4
  a4 := Tryd.isAgg4
  z4 := Tryd.sizeOf4
  v4 := Tryd.zeroValue4
  t5 := Tryd.underlying5
  a5 := Tryd.isAgg5
  z5 := Tryd.sizeOf5
  v5 := Tryd.zeroValue5
  t9 := Tryd.underlying9
  a9 := Tryd.isAgg9
  z9 := Tryd.sizeOf9
  v9 := Tryd.zeroValue9
  t21 := Tryd.underlying21
  a21 := Tryd.isAgg21
  z21 := Tryd.sizeOf21
  v21 := Tryd.zeroValue21
  t31 := Tryd.underlying68
  a31 := Tryd.isAgg68
  z31 := Tryd.sizeOf68
  v31 := Tryd.zeroValue68
  t46 := Tryd.underlying77
  a46 := Tryd.isAgg77
  z46 := Tryd.sizeOf77
  v46 := Tryd.zeroValue77
  t51 := Tryd.underlying110
  a51 := Tryd.isAgg110
  z51 := Tryd.sizeOf110
  v51 := Tryd.zeroValue110
  t105 := Tryd.underlying119
  a105 := Tryd.isAgg119
  z105 := Tryd.sizeOf119
  v105 := Tryd.zeroValue119
  t119 := Tryd.underlying133
  a119 := Tryd.isAgg133
  z119 := Tryd.sizeOf133
  t138 := Tryd.underlying135
  a138 := Tryd.isAgg135
  z138 := Tryd.sizeOf135
  v138 := Tryd.zeroValue135
  t139 := Tryd.underlying136
  a139 := Tryd.isAgg136
  z139 := Tryd.sizeOf136
  v139 := Tryd.zeroValue136
  t146 := Tryd.underlying126
  a146 := Tryd.isAgg126
  z146 := Tryd.sizeOf126
  v146 := Tryd.zeroValue126
  g1 := by kernel_rfl
  g3 := by kernel_rfl
  g4 := by kernel_rfl }
open Go.RowKit Go.Lib in
/-- strings.Split. (LAID: no walk: one application.) -/
theorem Tryd.strings_Split (s sep : ByteArray) (m : Int) (w : World) (hs : s.size < 4294967281) (hm : w.cell? ⟨1, 0, none⟩ = some (.int .i64 m)) (h1 : 1 ≤ sep.size) :
    Calls Tryd.prog 28 #[.string s, .string sep] w fun e w' =>
      e = .returned (.slice (some ⟨w.heap.size, 0, none⟩) (Lib.countB s sep + 1) (Lib.countB s sep + 1)) ∧ w' = w.alloc (.cells ((Lib.splitB sep 0 (Lib.countB s sep) s).map Value.string).toArray 9) := Any.strings_Split Tryd.lays146 (by kernel_rfl) s sep m w hs hm h1
def Tryd.laysM146_ren : Go.Shelf.Ren := ⟨fun | 146 => 28 | 221 => 39 | 268 => 50 | 138 => 51 | 143 => 38 | 195 => 69 | 197 => 70 | 218 => 71 | 219 => 49 | 260 => 79 | 217 => 65 | 225 => 66 | 224 => 67 | 267 => 68 | 266 => 77 | 314 => 78 | n => n, fun | 9 => 9 | 31 => 68 | 3 => 3 | 4 => 4 | 0 => 0 | 105 => 119 | 21 => 21 | 5 => 5 | 46 => 77 | 119 => 133 | 139 => 136 | 138 => 135 | 146 => 126 | 51 => 110 | n => n, fun | 1 => 1 | 3 => 6 | 4 => 7 | n => n⟩
theorem Tryd.laysM146 : Go.Proofs.LaysM.n146 Tryd.prog Tryd.laysM146_ren := {
  mixed := by kernel_rfl
  f138 := Tryd.func51.trans (congrArg some (by kernel_rfl))
  f143 := Tryd.func38.trans (congrArg some (by kernel_rfl))
  f146 := Tryd.func28.trans (congrArg some (by kernel_rfl))
  f195 := Tryd.func69.trans (congrArg some (by kernel_rfl))
  f197 := Tryd.func70.trans (congrArg some (by kernel_rfl))
  f217 := Tryd.func65.trans (congrArg some (by kernel_rfl))
  f218 := Tryd.func71.trans (congrArg some (by kernel_rfl))
  f219 := Tryd.func49.trans (congrArg some (by kernel_rfl))
  f221 := Tryd.func39.trans (congrArg some (by kernel_rfl))
  f224 := Tryd.func67.trans (congrArg some (by kernel_rfl))
  f225 := Tryd.func66.trans (congrArg some (by kernel_rfl))
  f260 := Tryd.func79.trans (congrArg some (by kernel_rfl))
  f266 := Tryd.func77.trans (congrArg some (by kernel_rfl))
  f267 := Tryd.func68.trans (congrArg some (by kernel_rfl))
  f268 := Tryd.func50.trans (congrArg some (by kernel_rfl))
  f314 := Tryd.func78.trans (congrArg some (by kernel_rfl))
  t0 := Tryd.underlying0
  a0 := Tryd.isAgg0
  z0 := Tryd.sizeOf0
  v0 := Tryd.zeroValue0
  t3 := Tryd.underlying3
  a3 := Tryd.isAgg3
  z3 := Tryd.sizeOf3
  v3 := Tryd.zeroValue3
  t4 := Tryd.underlying4
  a4 := Tryd.isAgg4
  z4 := Tryd.sizeOf4
  v4 := Tryd.zeroValue4
  t5 := Tryd.underlying5
  a5 := Tryd.isAgg5
  z5 := Tryd.sizeOf5
  v5 := Tryd.zeroValue5
  t9 := Tryd.underlying9
  a9 := Tryd.isAgg9
  z9 := Tryd.sizeOf9
  v9 := Tryd.zeroValue9
  t21 := Tryd.underlying21
  a21 := Tryd.isAgg21
  z21 := Tryd.sizeOf21
  v21 := Tryd.zeroValue21
  t31 := Tryd.underlying68
  a31 := Tryd.isAgg68
  z31 := Tryd.sizeOf68
  v31 := Tryd.zeroValue68
  t46 := Tryd.underlying77
  a46 := Tryd.isAgg77
  z46 := Tryd.sizeOf77
  v46 := Tryd.zeroValue77
  t51 := Tryd.underlying110
  a51 := Tryd.isAgg110
  z51 := Tryd.sizeOf110
  v51 := Tryd.zeroValue110
  t105 := Tryd.underlying119
  a105 := Tryd.isAgg119
  z105 := Tryd.sizeOf119
  v105 := Tryd.zeroValue119
  t119 := Tryd.underlying133
  a119 := Tryd.isAgg133
  z119 := Tryd.sizeOf133
  t138 := Tryd.underlying135
  a138 := Tryd.isAgg135
  z138 := Tryd.sizeOf135
  v138 := Tryd.zeroValue135
  t139 := Tryd.underlying136
  a139 := Tryd.isAgg136
  z139 := Tryd.sizeOf136
  v139 := Tryd.zeroValue136
  t146 := Tryd.underlying126
  a146 := Tryd.isAgg126
  z146 := Tryd.sizeOf126
  v146 := Tryd.zeroValue126
  g1 := by kernel_rfl
  g3 := by kernel_rfl
  g4 := by kernel_rfl
  i0 := by kernel_rfl
  i3 := by kernel_rfl
  i4 := by kernel_rfl
  i5 := by kernel_rfl
  i9 := by kernel_rfl
  i21 := by kernel_rfl
  i31 := by kernel_rfl
  i46 := by kernel_rfl
  i51 := by kernel_rfl
  i105 := by kernel_rfl
  i138 := by kernel_rfl
  i139 := by kernel_rfl
  i146 := by kernel_rfl
  m1 := by kernel_rfl
  s1_3 := fun w h => Go.Proofs.cell_of_shapedOpen_int (zero := #[.int .i64 0]) (t := 3) h (of_decide_eq_true (by kernel_rfl)) (by kernel_rfl) rfl (by kernel_rfl) (by kernel_rfl) Tryd.underlying3
  m3 := by kernel_rfl
  m4 := by kernel_rfl }
open Go.RowKit Go.Lib in
/-- strings.Split, sep not empty. (LAID: no walk: one application.) -/
theorem Tryd.strings_Split_shaped (s sep : ByteArray) (w : World) (h : w.ShapedOpen Tryd.prog) (hs : s.size < 4294967281) (h1 : 1 ≤ sep.size) :
    Calls Tryd.prog 28 #[.string s, .string sep] w fun e w' =>
      e = .returned (.slice (some ⟨w.heap.size, 0, none⟩) (Lib.countB s sep + 1) (Lib.countB s sep + 1)) ∧ w' = w.alloc (.cells ((Lib.splitB sep 0 (Lib.countB s sep) s).map Value.string).toArray 9) := Any.strings_Split_shaped Tryd.laysM146 s sep w h hs h1
def Tryd.lays197_ren : Go.Shelf.Ren := ⟨fun | 197 => 70 | 260 => 79 | n => n, fun | 9 => 9 | 21 => 21 | 3 => 3 | 4 => 4 | 5 => 5 | 105 => 119 | 119 => 133 | 0 => 0 | 46 => 77 | 139 => 136 | 138 => 135 | n => n, fun | 3 => 6 | 4 => 7 | n => n⟩
theorem Tryd.lays197 : Go.Proofs.Lays.n197 Tryd.prog Tryd.lays197_ren := {
  mixed := by kernel_rfl
  f197 := Tryd.func70.trans (congrArg some (by kernel_rfl))
  f260 := Tryd.func79.trans (congrArg some (by kernel_rfl))
  t0 := Tryd.underlying0
  a0 := Tryd.isAgg0
  z0 := Tryd.sizeOf0
  v0 := Tryd.zeroValue0
  t3 := Tryd.underlying3
  a3 := Tryd.isAgg3
  z3 := Tryd.sizeOf3
  v3 := Tryd.zeroValue3
  t4 := Tryd.underlying4
  a4 := Tryd.isAgg4
  z4 := Tryd.sizeOf4
  v4 := Tryd.zeroValue4
  t5 := Tryd.underlying5
  a5 := Tryd.isAgg5
  z5 := Tryd.sizeOf5
  v5 := Tryd.zeroValue5
  t9 := Tryd.underlying9
  a9 := Tryd.isAgg9
  z9 := Tryd.sizeOf9
  v9 := Tryd.zeroValue9
  t21 := Tryd.underlying21
  a21 := Tryd.isAgg21
  z21 := Tryd.sizeOf21
  v21 := Tryd.zeroValue21
  t46 := Tryd.underlying77
  a46 := Tryd.isAgg77
  z46 := Tryd.sizeOf77
  v46 := Tryd.zeroValue77
  t105 := Tryd.underlying119
  a105 := Tryd.isAgg119
  z105 := Tryd.sizeOf119
  v105 := Tryd.zeroValue119
  t119 := Tryd.underlying133
  a119 := Tryd.isAgg133
  z119 := Tryd.sizeOf133
  t138 := Tryd.underlying135
  a138 := Tryd.isAgg135
  z138 := Tryd.sizeOf135
  v138 := Tryd.zeroValue135
  t139 := Tryd.underlying136
  a139 := Tryd.isAgg136
  z139 := Tryd.sizeOf136
  v139 := Tryd.zeroValue136
  g3 := by kernel_rfl
  g4 := by kernel_rfl }
open Go.RowKit Go.Lib in
/-- unicode/utf8.DecodeRuneInString: "DecodeRuneInString is like DecodeRune but its input is a string.": ("DecodeRune unpacks the first UTF-8 encoding in p and returns the rune and its width in bytes."): WHERE s BEGINS WITH AN ASCII BYTE x: (x, 1). (LAID: no walk: one application.) -/
theorem Tryd.utf8_DecodeRuneInString_ascii (s : ByteArray) (x : UInt8) (w : World) (h0 : s.data.toList[0]? = some x) (hx : x.toNat < 128) :
    Calls Tryd.prog 70 #[.string s] w fun e w' => e = .returned (.tuple #[.int .i32 x.toNat, .int .i64 1]) ∧ w' = w := Any.utf8_DecodeRuneInString_ascii Tryd.lays197 s x w h0 hx
open Go.RowKit Go.Lib in
theorem Tryd.utf8_RuneCountInString_ascii (s : ByteArray) (w : World) (hs : s.size < 4294967281) (hascii : ∀ (j : Nat) b, s.data.toList[j]? = some b → b.toNat < 128) :
    Calls Tryd.prog 69 #[.string s] w fun e w' => e = .returned (.int .i64 s.size) ∧ w' = w.iter s s.size := Any.utf8_RuneCountInString_ascii Tryd.lays195 s w hs hascii
def Tryd.lays268_ren : Go.Shelf.Ren := ⟨fun | 268 => 50 | 195 => 69 | 197 => 70 | 260 => 79 | n => n, fun | 9 => 9 | 3 => 3 | 31 => 68 | 4 => 4 | 105 => 119 | 21 => 21 | 0 => 0 | 5 => 5 | 119 => 133 | 46 => 77 | 139 => 136 | 138 => 135 | n => n, fun | 3 => 6 | 4 => 7 | n => n⟩
theorem Tryd.lays268 : Go.Proofs.Lays.n268 Tryd.prog Tryd.lays268_ren := {
  mixed := by kernel_rfl
  f195 := Tryd.func69.trans (congrArg some (by kernel_rfl))
  f197 := Tryd.func70.trans (congrArg some (by kernel_rfl))
  f260 := Tryd.func79.trans (congrArg some (by kernel_rfl))
  f268 := Tryd.func50.trans (congrArg some (by kernel_rfl))
  t0 := Tryd.underlying0
  a0 := Tryd.isAgg0
  z0 := Tryd.sizeOf0
  v0 := Tryd.zeroValue0
  t3 := Tryd.underlying3
  a3 := Tryd.isAgg3
  z3 := Tryd.sizeOf3
  v3 := Tryd.zeroValue3
  t4 := Tryd.underlying4
  a4 := Tryd.isAgg4
  z4 := Tryd.sizeOf4
  v4 := Tryd.zeroValue4
  t5 := Tryd.underlying5
  a5 := Tryd.isAgg5
  z5 := Tryd.sizeOf5
  v5 := Tryd.zeroValue5
  t9 := Tryd.underlying9
  a9 := Tryd.isAgg9
  z9 := Tryd.sizeOf9
  v9 := Tryd.zeroValue9
  t21 := Tryd.underlying21
  a21 := Tryd.isAgg21
  z21 := Tryd.sizeOf21
  v21 := Tryd.zeroValue21
  t31 := Tryd.underlying68
  a31 := Tryd.isAgg68
  z31 := Tryd.sizeOf68
  v31 := Tryd.zeroValue68
  t46 := Tryd.underlying77
  a46 := Tryd.isAgg77
  z46 := Tryd.sizeOf77
  v46 := Tryd.zeroValue77
  t105 := Tryd.underlying119
  a105 := Tryd.isAgg119
  z105 := Tryd.sizeOf119
  v105 := Tryd.zeroValue119
  t119 := Tryd.underlying133
  a119 := Tryd.isAgg133
  z119 := Tryd.sizeOf133
  t138 := Tryd.underlying135
  a138 := Tryd.isAgg135
  z138 := Tryd.sizeOf135
  v138 := Tryd.zeroValue135
  t139 := Tryd.underlying136
  a139 := Tryd.isAgg136
  z139 := Tryd.sizeOf136
  v139 := Tryd.zeroValue136
  g3 := by kernel_rfl
  g4 := by kernel_rfl }
open Go.RowKit Go.Lib in
theorem Tryd.strings_explode_all (s : ByteArray) (n : Int) (w : World) (hn : n < 0) (hs : s.size < 4294967281) (hascii : ∀ (j : Nat) b, s.data.toList[j]? = some b → b.toNat < 128) :
    Calls Tryd.prog 50 #[.string s, .int .i64 n] w fun e w' =>
      e = .returned (.slice (some ⟨(w.iter s s.size).heap.size, 0, none⟩) s.size s.size) ∧ w' = (w.iter s s.size).alloc (.cells ((Lib.charsB s).map Value.string).toArray 9) := Any.strings_explode_all Tryd.lays268 (by kernel_rfl) s n w hn hs hascii
open Go.RowKit Go.Lib in
/-- strings.genSplit at sep == "", n < 0: 'return explode(s, n)'. (LAID: no walk: one application.) -/
theorem Tryd.strings_genSplit_chars (s sep : ByteArray) (sv n : Int) (w : World) (h0 : sep.size = 0) (hn : n < 0) (hs : s.size < 4294967281) (hascii : ∀ (j : Nat) b, s.data.toList[j]? = some b → b.toNat < 128) :
    Calls Tryd.prog 39 #[.string s, .string sep, .int .i64 sv, .int .i64 n] w fun e w' =>
      e = .returned (.slice (some ⟨(w.iter s s.size).heap.size, 0, none⟩) s.size s.size) ∧ w' = (w.iter s s.size).alloc (.cells ((Lib.charsB s).map Value.string).toArray 9) := Any.strings_genSplit_chars Tryd.lays221 (by kernel_rfl) s sep sv n w h0 hn hs hascii
open Go.RowKit Go.Lib in
/-- strings.Split(s, ""), s ASCII: a piece a byte. (LAID: no walk: one application.) -/
theorem Tryd.strings_Split_chars (s sep : ByteArray) (w : World) (h0 : sep.size = 0) (hs : s.size < 4294967281) (hascii : ∀ (j : Nat) b, s.data.toList[j]? = some b → b.toNat < 128) :
    Calls Tryd.prog 28 #[.string s, .string sep] w fun e w' =>
      e = .returned (.slice (some ⟨(w.iter s s.size).heap.size, 0, none⟩) s.size s.size) ∧ w' = (w.iter s s.size).alloc (.cells ((Lib.charsB s).map Value.string).toArray 9) := Any.strings_Split_chars Tryd.lays146 (by kernel_rfl) s sep w h0 hs hascii
def Tryd.lays260_ren : Go.Shelf.Ren := ⟨fun | 260 => 79 | n => n, fun | 9 => 9 | 21 => 21 | 3 => 3 | 4 => 4 | 5 => 5 | 119 => 133 | 0 => 0 | 46 => 77 | 139 => 136 | 138 => 135 | n => n, fun | 3 => 6 | 4 => 7 | n => n⟩
theorem Tryd.lays260 : Go.Proofs.Lays.n260 Tryd.prog Tryd.lays260_ren := {
  mixed := by kernel_rfl
  f260 := Tryd.func79.trans (congrArg some (by kernel_rfl))
  t0 := Tryd.underlying0
  a0 := Tryd.isAgg0
  z0 := Tryd.sizeOf0
  v0 := Tryd.zeroValue0
  t3 := Tryd.underlying3
  a3 := Tryd.isAgg3
  z3 := Tryd.sizeOf3
  v3 := Tryd.zeroValue3
  t4 := Tryd.underlying4
  a4 := Tryd.isAgg4
  z4 := Tryd.sizeOf4
  v4 := Tryd.zeroValue4
  t5 := Tryd.underlying5
  a5 := Tryd.isAgg5
  z5 := Tryd.sizeOf5
  v5 := Tryd.zeroValue5
  t9 := Tryd.underlying9
  a9 := Tryd.isAgg9
  z9 := Tryd.sizeOf9
  v9 := Tryd.zeroValue9
  t21 := Tryd.underlying21
  a21 := Tryd.isAgg21
  z21 := Tryd.sizeOf21
  v21 := Tryd.zeroValue21
  t46 := Tryd.underlying77
  a46 := Tryd.isAgg77
  z46 := Tryd.sizeOf77
  v46 := Tryd.zeroValue77
  t119 := Tryd.underlying133
  a119 := Tryd.isAgg133
  z119 := Tryd.sizeOf133
  t138 := Tryd.underlying135
  a138 := Tryd.isAgg135
  z138 := Tryd.sizeOf135
  v138 := Tryd.zeroValue135
  t139 := Tryd.underlying136
  a139 := Tryd.isAgg136
  z139 := Tryd.sizeOf136
  v139 := Tryd.zeroValue136
  g3 := by kernel_rfl
  g4 := by kernel_rfl }
open Go.RowKit Go.Lib in
theorem Tryd.utf8_decodeRuneInStringSlow (s : ByteArray) (w : World) (hT : Lib.Utf8Tabs 6 7 w) :
    Calls Tryd.prog 79 #[.string s] w fun e w' => e = .returned (.tuple #[.int .i32 (Lib.decodeGo s).1, .int .i64 (Lib.decodeGo s).2]) ∧ Below w.heap.size w w' := Any.utf8_decodeRuneInStringSlow Tryd.lays260 s w hT
open Go.RowKit Go.Lib in
/-- **unicode/utf8.DecodeRuneInString AT EVERY STRING.** (LAID: no walk: one application.) -/
theorem Tryd.utf8_DecodeRuneInString (s : ByteArray) (w : World) (hT : Lib.Utf8Tabs 6 7 w) :
    Calls Tryd.prog 70 #[.string s] w fun e w' => e = .returned (.tuple #[.int .i32 (Lib.decodeGo s).1, .int .i64 (Lib.decodeGo s).2]) ∧ Below w.heap.size w w' := Any.utf8_DecodeRuneInString Tryd.lays197 s w hT
end Go.Proofs
set_option maxRecDepth 100000
namespace Go.Proofs.YtopadpgpmkkpgaaDoor
open Go.SX
def KK : Nat → Option KSpec
  | 26 => some kJoin
  | 77 => some kIndexByteString
  | 71 => some kCountString
  | _ => none
theorem has26 : Has Tryd.prog 26 := ⟨Tryd.f26, Tryd.func26, by kernel_rfl, by kernel_rfl⟩
theorem KKok (I : World → Prop) : ∀ f sp, KK f = some sp → KOk Tryd.prog I f sp := by
  intro f sp h
  unfold KK at h
  split at h
  · cases h
    exact kJoin_ok has26 (fun a c sep w => Tryd.strings_Join_none a c sep w) fun bk o c xs sep w h1 h2 h3 h4 h5 => Tryd.strings_Join bk o c xs sep w h1 h2 h3 h4 h5
  · cases h
    exact kIndexByteString_ok Tryd.func77 (by kernel_rfl) (by kernel_rfl) (by kernel_rfl) (by kernel_rfl)
  · cases h
    exact kCountString_ok Tryd.func71 (by kernel_rfl) (by kernel_rfl) (by kernel_rfl) (by kernel_rfl)
  · cases h
/-- The tables that the library lays, as they stand in a world. -/
def I13 (w : World) : Prop := ∀ g cells, GG g = some cells → ∀ i u, cells[i]? = some u → w.cell? ⟨g, i, none⟩ = some u
theorem I13.mod {w w' : World} (h : I13 w) (hm : Mod w w' fun _ => False) : I13 w' := by
  intro g cells hg i u hu
  have h1 := h g cells hg i u hu
  have h2 := hm.block g (cell_lt h1) id
  simp only [World.cell?] at h1 ⊢
  rw [h2]
  exact h1
theorem examples_run : runF KK GG (fun f => Tryd.prog.funcs[f]?) TT 1000 12 Tryd.f8 [] (wantB true) = true := by kernel_rfl
theorem examples_ret {w : World} (h : I13 w) : Ret Tryd.prog 8 [] w (.bool true) :=
  Ret.runB' (I := I13) (fun w' hm => h.mod hm) (fun f => Tryd.prog.funcs[f]?) GG (fun w hw => hw) KK (KKok I13) 1000 12 (TTok 0 I13) mixed (fun f fn hf => hf) Tryd.func8 (by kernel_rfl) examples_run
end Go.Proofs.YtopadpgpmkkpgaaDoor
set_option maxRecDepth 100000
namespace Go.Proofs.YtopadpgpmkkpgaaDoor
open Go.SX
theorem law_ret (v6 : Bool) (hi lo bits : Int) (av6 : Bool) (ahi alo : Int) (w : World) (hI : I13 w) (hh : 0 ≤ hi ∧ hi ≤ 18446744073709551615) (hl : 0 ≤ lo ∧ lo ≤ 18446744073709551615) (ah : 0 ≤ ahi ∧ ahi ≤ 18446744073709551615) (al : 0 ≤ alo ∧ alo ≤ 18446744073709551615) :
    Ret Tryd.prog 6 [.agg #[.bool v6, .int .u64 hi, .int .u64 lo, .int .i64 bits], .agg #[.bool av6, .int .u64 ahi, .int .u64 alo]] w (.bool true) := by
  obtain ⟨b, hb⟩ := both_hold v6 hi lo bits av6 ahi alo hh hl ah al
  refine Ret.of (I := I13) (fun w' hm => hI.mod hm) (TTok 0 _) Tryd.func6 (by kernel_rfl) rfl rfl ?_
  repeat' ((conv => whnf); with_reducible first
    | refine TR.seq ?_ | refine TR.region (TTok 0 _) ?_ | refine Ld.mk' _ rfl ?_ | refine TR.ret ?_ | refine TR.drawn (TTok 0 _) mixed ?_
    | refine TR.cond_true rfl ?_ | refine TR.cond_false rfl ?_ | refine TR.cond rfl (fun hc => ?_) (fun hc => ?_) | refine TR.skip ?_ | refine Need.mk' (by kernel_rfl) (fun _ => ?_)
    | refine Br.tt ?_ | refine Br.mk (fun _ => ?_) (fun _ => ?_) | refine x_ret (f := 8) rfl rfl (fun w hw => examples_ret hw) ?_ | refine x_ret (f := 16) rfl rfl (fun w _ => (hb w).2) ?_ | refine x_ret (f := 17) rfl rfl (fun w _ => (hb w).1) ?_ | refine TR.block ?_)
  all_goals (conv => whnf)
  all_goals simp_all [val, eqR]
end Go.Proofs.YtopadpgpmkkpgaaDoor
set_option maxRecDepth 100000
namespace Go.Proofs.YtopadpgpmkkpgaaDoor
open Go.SX
set_option maxHeartbeats 20000000 in
theorem no_ret (v6 : Bool) (hi lo : Int) (action : Int) (w6 : Bool) (w : World) (hI : I13 w) (hh : 0 ≤ hi ∧ hi ≤ 18446744073709551615) (hl : 0 ≤ lo ∧ lo ≤ 18446744073709551615) (ha : -9223372036854775808 ≤ action ∧ action ≤ 9223372036854775807)
    (b : Int) (hb : b = 0 ∨ b = 1) (hbit : bitM (ph v6 hi lo) (pl v6 lo) 0 = b) (r : Bool) (hr : r = true ∨ r = false) (hright : rightM v6 hi lo = r) :
    Ret Tryd.prog 5 [.agg #[.bool v6, .int .u64 hi, .int .u64 lo], .int .i64 action, .bool w6] w (.bool true) := by
  have hbr : ∀ w, Ret Tryd.prog 22 [.agg #[.int .u64 (ph v6 hi lo), .int .u64 (pl v6 lo), .int .i64 (wid v6)], .int .i64 0] w (.int .i64 b) := fun w => by
    rw [← hbit]
    exact bit_ret _ _ _ _ w (by omega) (by omega) (ph_range _ _ _ hh) (pl_range _ _ hl)
  have hp0 : ∀ w, Ret Tryd.prog 19 [.agg #[.bool w6, .int .u64 0, .int .u64 0, .int .i64 0]] w (.bool true) := fun w => by
    have := pref_ret w6 0 0 0 w
    have e : prefM w6 0 0 0 = true := by cases w6 <;> decide
    rwa [e] at this
  have hrr : ∀ w, Ret Tryd.prog 15 [.agg #[.bool v6, .int .u64 hi, .int .u64 lo]] w (.bool r) := fun w => by
    rw [← hright]
    exact right_ret _ _ _ w
  have hw : (v6 = true ∨ v6 = false) ∧ (w6 = true ∨ w6 = false) := by cases v6 <;> cases w6 <;> simp
  clear hbit hright hh hl ha
  obtain ⟨hv, hw⟩ := hw
  rcases hr with rfl | rfl <;> rcases hb with rfl | rfl <;> rcases hv with rfl | rfl <;> rcases hw with rfl | rfl
  all_goals refine Ret.tj (I := I13) (fun w' hm => hI.mod hm) (TTok 0 _) Tryd.func5 (by kernel_rfl) rfl ?_
  all_goals repeat' ((conv => whnf); with_reducible first
    | refine TJ.seq ?_ | refine TJ.region (TTok _ _) ?_ | refine TJ.drawn (TTok _ _) mixed ?_ | refine TJ.cond rfl ?_ | refine TJ.block ?_ | refine TJ.loop ?_ | refine LJ.step ?_ | refine TJ.ret ?_ | refine TJ.exit ?_ | refine TJ.skip ?_
    | refine Br.cond_t ?_ | refine Br.cond_f ?_ | refine Br.yes (by first | decide | assumption) ?_ | refine Br.non (by first | decide | assumption) ?_ | refine Br.mk (fun hc => ?_) (fun hc => ?_) | refine Ld.mk' _ rfl ?_ | refine Need.mk (by first | decide | kernel_rfl) ?_ | refine Nm.i64 (by omega) ?_
    | refine x_ret (f := 8) rfl rfl (fun w hw => examples_ret hw) ?_ | refine x_ret (f := 15) rfl rfl (fun w _ => hrr w) ?_ | refine x_ret (f := 19) rfl rfl (fun w _ => hp0 w) ?_
    | refine x_ret (f := 21) rfl rfl (fun w _ => path_ret _ _ _ w) ?_ | refine x_ret (f := 22) rfl rfl (fun w _ => hbr w) ?_
    | refine x_call (f := 9) (TTok _ _) rfl rfl Tryd.func9 (by kernel_rfl) rfl ?_ | refine x_call (f := 11) (TTok _ _) rfl rfl Tryd.func11 (by kernel_rfl) rfl ?_ | refine x_call (f := 20) (TTok _ _) rfl rfl Tryd.func20 (by kernel_rfl) rfl ?_
    | refine x_exq (TTok _ _) ?_)
  all_goals (conv => whnf)
  all_goals simp_all [val, eqR]
end Go.Proofs.YtopadpgpmkkpgaaDoor
set_option maxRecDepth 100000
namespace Go.Proofs.YtopadpgpmkkpgaaDoor
open Go.SX
theorem I13_of {l : List (String × DataW Unit)} {W : World} (h : laidMet Tryd.prog l W) (hm : ("internal/strconv.uint64pow10", Lib.tabData .u64 [1, 10, 100, 1000, 10000, 100000, 1000000, 10000000, 100000000, 1000000000, 10000000000, 100000000000, 1000000000000, 10000000000000, 100000000000000, 1000000000000000, 10000000000000000, 100000000000000000, 1000000000000000000, 10000000000000000000]) ∈ l) : I13 W := by
  intro g cells hg
  unfold GG at hg
  split at hg
  · cases hg
    exact laid_tab h hm (t := 109) (e := 30) (n := 20) (by kernel_rfl) (by kernel_rfl) Tryd.underlying109 Tryd.underlying30 (by kernel_rfl) (by kernel_rfl)
  · cases hg
theorem fit_addr {W : World} {v : Value} (h : FitV TT W 32 v) : ∃ (v6 : Bool) (hi lo : Int), v = .agg #[.bool v6, .int .u64 hi, .int .u64 lo] ∧ (0 ≤ hi ∧ hi ≤ 18446744073709551615) ∧ (0 ≤ lo ∧ lo ≤ 18446744073709551615) := by
  obtain ⟨cs, hf, rfl⟩ := h
  obtain ⟨hl, h1, h2, h3, _⟩ := hf
  match cs, hl with
  | [a, b, c], _ =>
    obtain ⟨v6, e1⟩ := h1
    obtain ⟨hi, e2, r2⟩ := h2
    obtain ⟨lo, e3, r3⟩ := h3
    simp at e1 e2 e3
    subst e1 e2 e3
    exact ⟨v6, hi, lo, rfl, bounds_u64 r2, bounds_u64 r3⟩
theorem fit_prefix {W : World} {v : Value} (h : FitV TT W 34 v) : ∃ (v6 : Bool) (hi lo bits : Int), v = .agg #[.bool v6, .int .u64 hi, .int .u64 lo, .int .i64 bits] ∧ (0 ≤ hi ∧ hi ≤ 18446744073709551615) ∧ (0 ≤ lo ∧ lo ≤ 18446744073709551615) ∧ (-9223372036854775808 ≤ bits ∧ bits ≤ 9223372036854775807) := by
  obtain ⟨cs, hf, rfl⟩ := h
  obtain ⟨hl, h1, h2, _⟩ := hf
  match cs, hl with
  | [a, b, c, d], _ =>
    obtain ⟨_, g1, g2, g3, _⟩ := h1
    obtain ⟨v6, e1⟩ := g1
    obtain ⟨hi, e2, r2⟩ := g2
    obtain ⟨lo, e3, r3⟩ := g3
    obtain ⟨bits, e4, r4⟩ := h2
    simp at e1 e2 e3 e4
    subst e1 e2 e3 e4
    exact ⟨v6, hi, lo, bits, rfl, bounds_u64 r2, bounds_u64 r3, bounds_i64 r4⟩
namespace aclHolds
def inv (W : World) : Prop := I13 W
theorem inv_of {W : World} (h : laidMet Tryd.prog Rows.aclHoldsRow.laid W) : inv W := I13_of h (List.mem_of_getElem? (i := 2) (by kernel_rfl))
theorem returns (W : World) (args : Array Value) (hI : inv W) (hF : FitAll TT W Tryd.f6.params.toList args.toList) : Ret Tryd.prog 6 args.toList W (.bool true) := by
  rw [show Tryd.f6.params.toList = [34, 32] by kernel_rfl] at hF
  generalize args.toList = l at hF
  obtain ⟨p, l, rfl, hp, hF⟩ := fitAll_cons hF
  obtain ⟨a, l, rfl, ha, hF⟩ := fitAll_cons hF
  obtain rfl := fitAll_nil hF
  obtain ⟨v6, hi, lo, bits, rfl, r1, r2, r3⟩ := fit_prefix hp
  obtain ⟨av6, ahi, alo, rfl, r4, r5⟩ := fit_addr ha
  exact law_ret v6 hi lo bits av6 ahi alo W hI r1 r2 r4 r5
end aclHolds
end Go.Proofs.YtopadpgpmkkpgaaDoor
set_option maxRecDepth 100000
namespace Go.Proofs.YtopadpgpmkkpgaaDoor.aclNothing
open Go.SX
def inv (W : World) : Prop := I13 W
theorem inv_of {W : World} (h : laidMet Tryd.prog Rows.aclNothingRow.laid W) : inv W := I13_of h (List.mem_of_getElem? (i := 2) (by kernel_rfl))
theorem returns (W : World) (args : Array Value) (hI : inv W) (hF : FitAll TT W Tryd.f5.params.toList args.toList) : Ret Tryd.prog 5 args.toList W (.bool true) := by
  rw [show Tryd.f5.params.toList = [32, 3, 4] by kernel_rfl] at hF
  generalize args.toList = l at hF
  obtain ⟨a, l, rfl, ha, hF⟩ := fitAll_cons hF
  obtain ⟨n, l, rfl, hn, hF⟩ := fitAll_cons hF
  obtain ⟨b, l, rfl, hb, hF⟩ := fitAll_cons hF
  obtain rfl := fitAll_nil hF
  obtain ⟨v6, hi, lo, rfl, r1, r2⟩ := fit_addr ha
  obtain ⟨action, rfl, r3⟩ := fit_int (k := .i64) rfl rfl hn
  obtain ⟨w6, rfl⟩ := fit_bool rfl rfl hb
  refine no_ret v6 hi lo action w6 W hI r1 r2 (bounds_i64 r3) _ ?_ rfl _ ?_ rfl
  · unfold bitM
    split <;> omega
  · cases rightM v6 hi lo <;> simp
end Go.Proofs.YtopadpgpmkkpgaaDoor.aclNothing
