/-
  What the laws of these data stand on: contracts of functions, and plain laws.
-/
import Derived.Test.YtbladfkakmdigaaGreatDoorProg
import Derived.Shelf.Strings.Builder1
import Derived.Shelf.Strings.Builder2
import Derived.Shelf.Strings.OnBuilder
import Derived.Shelf.Small.Strs
import Derived.Shelf.Small.Wraps
import Derived.Shelf.Strings.BuilderF
import Derived.Shelf.Strings.BuilderK
import Derived.Shelf.Utf8.RuneCount
import Derived.Shelf.Strconv.Atoi
import Derived.Shelf.Strconv.Itoa0
import Derived.Shelf.Strconv.Itoa1
import Derived.Shelf.LaysM
import Derived.Shelf.Strconv.Itoa2
import Derived.Shelf.Strconv.Itoa3
import Derived.Shelf.Strconv.AtoiErrFast
import Derived.Shelf.Strconv.ParseIntEmpty
import Derived.Shelf.Strconv.AtoiFail
import Derived.Shelf.Strconv.Clone
import Derived.Shelf.Strconv.SyntaxError
import Derived.Shelf.LaysC
import Derived.Shelf.Strconv.ToError
import Derived.Shelf.Strconv.AtoiErr
import Derived.Shelf.Strconv.ErrVar
import Derived.Shelf.Strconv.Lower
import Derived.Shelf.Strconv.ParseUint10
import Derived.Shelf.Strconv.ParseUint10Empty
import Derived.Shelf.Strconv.ParseUint10Any
import Derived.Shelf.Strconv.ParseInt10
import Derived.Shelf.Strconv.AtoiLong
import Derived.Shelf.Strconv.AtoiInnerAll
import Derived.Shelf.Strconv.RangeError
import Derived.Shelf.Strconv.ToErrorRange
import Derived.Shelf.Strconv.AtoiAll
import Derived.Shelf.Strconv.ErrVarAll
import Derived.Shelf.Strconv.ParseUintEmpty
import Derived.Shelf.Strings.Search1
import Derived.Shelf.Strings.Search2
import Derived.Shelf.Strings.Search3
import Derived.Shelf.Strings.Count
import Derived.Shelf.Strings.Shaped
import Derived.Shelf.Strings.Prefix
import Derived.Shelf.Strings.Split
import Derived.Shelf.Strings.SplitShaped
import Derived.Shelf.Unicode.Decode
import Derived.Shelf.Strings.RuneCount
import Derived.Shelf.Strings.Explode
import Derived.Shelf.Unicode.DecodeSlow
import Derived.Shelf.Unicode.DecodeAny
import Derived.Lib.AtoiTie
import Derived.Test.YtbladfkakmdigaaGreatDoorRows
import Derived.Test.YtbladfkakmdigaaGreatDoorRXa
import Derived.Test.YtbladfkakmdigaaGreatDoorRXb
import Derived.Test.YtbladfkakmdigaaGreatDoorRXc
import Derived.Test.YtbladfkakmdigaaGreatDoorRXd
set_option linter.unusedVariables false
set_option linter.unusedSimpArgs false
set_option linter.unnecessarySimpa false
namespace Go.Proofs.YtbladfkakmdigaaGreatDoor
open Go.SX
def TT : List (Option Ty) := [
  none,
  some ⟨.fn, 1, 8, [.nilFunc], false⟩,
  some ⟨(.int .i64), 1, 8, [.int .i64 0], false⟩,
  some ⟨(.int .i64), 1, 8, [.int .i64 0], false⟩,
  some ⟨.bool, 1, 1, [.bool false], false⟩,
  some ⟨(.int .u8), 1, 1, [.int .u8 0], false⟩,
  some ⟨(.int .u8), 1, 1, [.int .u8 0], false⟩,
  some ⟨(.st [(0, 2), (1, 3), (2, 4), (3, 6)]), 4, 24, [.int .i64 0, .int .i64 0, .bool false, .int .u8 0], true⟩,
  some ⟨(.st [(0, 2), (1, 3), (2, 4), (3, 6)]), 4, 24, [.int .i64 0, .int .i64 0, .bool false, .int .u8 0], true⟩,
  some ⟨.str, 1, 16, [.string ⟨#[]⟩], false⟩,
  some ⟨.str, 1, 16, [.string ⟨#[]⟩], false⟩,
  some ⟨.str, 1, 16, [.string ⟨#[]⟩], false⟩,
  some ⟨(.int .u64), 1, 8, [.int .u64 0], false⟩,
  some ⟨(.st [(0, 9), (1, 12)]), 2, 24, [.string ⟨#[]⟩, .int .u64 0], false⟩,
  some ⟨(.st [(0, 9), (1, 12)]), 2, 24, [.string ⟨#[]⟩, .int .u64 0], false⟩,
  some ⟨(.ptr 270), 1, 8, [.pointer none], false⟩,
  some ⟨(.ptr 273), 1, 8, [.pointer none], false⟩,
  some ⟨(.ptr 280), 1, 8, [.pointer none], false⟩,
  some ⟨(.st [(0, 17)]), 1, 8, [.pointer none], false⟩,
  some ⟨(.st [(0, 17)]), 1, 8, [.pointer none], false⟩,
  some ⟨.ifc, 1, 16, [.nilIface], false⟩,
  some ⟨(.int .i32), 1, 4, [.int .i32 0], false⟩,
  some ⟨.fn, 1, 8, [.nilFunc], false⟩,
  some ⟨(.int .i64), 1, 8, [.int .i64 0], false⟩,
  none,
  some ⟨.fn, 1, 8, [.nilFunc], false⟩,
  none,
  some ⟨.fn, 1, 8, [.nilFunc], false⟩,
  none,
  some ⟨.fn, 1, 8, [.nilFunc], false⟩,
  none,
  some ⟨.fn, 1, 8, [.nilFunc], false⟩,
  some ⟨.fn, 1, 8, [.nilFunc], false⟩,
  some ⟨.fn, 1, 8, [.nilFunc], false⟩,
  none,
  some ⟨.fn, 1, 8, [.nilFunc], false⟩,
  some ⟨(.st [(0, 9), (1, 9), (2, 3), (3, 3), (4, 3), (5, 3), (6, 3)]), 7, 72, [.string ⟨#[]⟩, .string ⟨#[]⟩, .int .i64 0, .int .i64 0, .int .i64 0, .int .i64 0, .int .i64 0], true⟩,
  some ⟨(.st [(0, 9), (1, 9), (2, 3), (3, 3), (4, 3), (5, 3), (6, 3)]), 7, 72, [.string ⟨#[]⟩, .string ⟨#[]⟩, .int .i64 0, .int .i64 0, .int .i64 0, .int .i64 0, .int .i64 0], true⟩,
  none,
  some ⟨.fn, 1, 8, [.nilFunc], false⟩,
  none,
  some ⟨.fn, 1, 8, [.nilFunc], false⟩,
  some ⟨(.st [(0, 3), (1, 3), (2, 3), (3, 3), (4, 3), (5, 3), (6, 3), (7, 9), (8, 9)]), 9, 88, [.int .i64 0, .int .i64 0, .int .i64 0, .int .i64 0, .int .i64 0, .int .i64 0, .int .i64 0, .string ⟨#[]⟩, .string ⟨#[]⟩], true⟩,
  some ⟨(.st [(0, 3), (1, 3), (2, 3), (3, 3), (4, 3), (5, 3), (6, 3), (7, 9), (8, 9)]), 9, 88, [.int .i64 0, .int .i64 0, .int .i64 0, .int .i64 0, .int .i64 0, .int .i64 0, .int .i64 0, .string ⟨#[]⟩, .string ⟨#[]⟩], true⟩,
  none,
  some ⟨.fn, 1, 8, [.nilFunc], false⟩,
  none,
  some ⟨.fn, 1, 8, [.nilFunc], false⟩,
  some ⟨(.st [(0, 3), (1, 3), (2, 3), (3, 9)]), 4, 40, [.int .i64 0, .int .i64 0, .int .i64 0, .string ⟨#[]⟩], true⟩,
  some ⟨(.st [(0, 3), (1, 3), (2, 3), (3, 9)]), 4, 40, [.int .i64 0, .int .i64 0, .int .i64 0, .string ⟨#[]⟩], true⟩,
  none,
  some ⟨.fn, 1, 8, [.nilFunc], false⟩,
  none,
  some ⟨.fn, 1, 8, [.nilFunc], false⟩,
  some ⟨(.st [(0, 3), (1, 3), (2, 3), (3, 9)]), 4, 40, [.int .i64 0, .int .i64 0, .int .i64 0, .string ⟨#[]⟩], true⟩,
  some ⟨(.st [(0, 3), (1, 3), (2, 3), (3, 9)]), 4, 40, [.int .i64 0, .int .i64 0, .int .i64 0, .string ⟨#[]⟩], true⟩,
  none,
  some ⟨.fn, 1, 8, [.nilFunc], false⟩,
  none,
  some ⟨.fn, 1, 8, [.nilFunc], false⟩,
  some ⟨(.sl 3), 1, 24, [.slice none 0 0], false⟩,
  some ⟨(.st [(0, 9), (1, 60)]), 2, 40, [.string ⟨#[]⟩, .slice none 0 0], true⟩,
  some ⟨(.st [(0, 9), (1, 60)]), 2, 40, [.string ⟨#[]⟩, .slice none 0 0], true⟩,
  none,
  some ⟨.fn, 1, 8, [.nilFunc], false⟩,
  none,
  some ⟨.fn, 1, 8, [.nilFunc], false⟩,
  some ⟨(.st [(0, 3), (1, 3), (2, 3), (3, 9), (4, 9), (5, 60)]), 6, 80, [.int .i64 0, .int .i64 0, .int .i64 0, .string ⟨#[]⟩, .string ⟨#[]⟩, .slice none 0 0], true⟩,
  some ⟨(.st [(0, 3), (1, 3), (2, 3), (3, 9), (4, 9), (5, 60)]), 6, 80, [.int .i64 0, .int .i64 0, .int .i64 0, .string ⟨#[]⟩, .string ⟨#[]⟩, .slice none 0 0], true⟩,
  none,
  some ⟨.fn, 1, 8, [.nilFunc], false⟩,
  none,
  some ⟨.fn, 1, 8, [.nilFunc], false⟩,
  some ⟨(.sl 23), 1, 24, [.slice none 0 0], false⟩,
  some ⟨(.sl 4), 1, 24, [.slice none 0 0], false⟩,
  some ⟨.fn, 1, 8, [.nilFunc], false⟩,
  some ⟨.fn, 1, 8, [.nilFunc], false⟩,
  some ⟨.fn, 1, 8, [.nilFunc], false⟩,
  some ⟨.fn, 1, 8, [.nilFunc], false⟩,
  some ⟨.fn, 1, 8, [.nilFunc], false⟩,
  some ⟨.fn, 1, 8, [.nilFunc], false⟩,
  some ⟨.fn, 1, 8, [.nilFunc], false⟩,
  some ⟨.fn, 1, 8, [.nilFunc], false⟩,
  some ⟨.fn, 1, 8, [.nilFunc], false⟩,
  some ⟨.fn, 1, 8, [.nilFunc], false⟩,
  some ⟨.fn, 1, 8, [.nilFunc], false⟩,
  some ⟨.fn, 1, 8, [.nilFunc], false⟩,
  some ⟨.fn, 1, 8, [.nilFunc], false⟩,
  some ⟨.fn, 1, 8, [.nilFunc], false⟩,
  some ⟨.fn, 1, 8, [.nilFunc], false⟩,
  some ⟨.fn, 1, 8, [.nilFunc], false⟩,
  some ⟨.fn, 1, 8, [.nilFunc], false⟩,
  some ⟨.fn, 1, 8, [.nilFunc], false⟩,
  some ⟨.fn, 1, 8, [.nilFunc], false⟩,
  some ⟨.fn, 1, 8, [.nilFunc], false⟩,
  some ⟨(.sl 9), 1, 24, [.slice none 0 0], false⟩,
  some ⟨.fn, 1, 8, [.nilFunc], false⟩,
  some ⟨.fn, 1, 8, [.nilFunc], false⟩,
  some ⟨.fn, 1, 8, [.nilFunc], false⟩,
  some ⟨(.sl 101), 1, 24, [.slice none 0 0], false⟩,
  some ⟨.fn, 1, 8, [.nilFunc], false⟩,
  some ⟨(.st [(0, 3), (1, 9)]), 2, 24, [.int .i64 0, .string ⟨#[]⟩], true⟩,
  some ⟨.fn, 1, 8, [.nilFunc], false⟩,
  some ⟨.fn, 1, 8, [.nilFunc], false⟩,
  some ⟨.ifc, 1, 16, [.nilIface], false⟩,
  some ⟨.ifc, 1, 16, [.nilIface], false⟩,
  none,
  some ⟨.fn, 1, 8, [.nilFunc], false⟩,
  some ⟨.fn, 1, 8, [.nilFunc], false⟩,
  some ⟨.fn, 1, 8, [.nilFunc], false⟩,
  some ⟨.fn, 1, 8, [.nilFunc], false⟩,
  some ⟨(.st [(0, 76), (1, 109), (2, 110), (3, 109)]), 4, 32, [.nilFunc, .nilFunc, .nilFunc, .nilFunc], true⟩,
  some ⟨(.st [(0, 76), (1, 109), (2, 110), (3, 109)]), 4, 32, [.nilFunc, .nilFunc, .nilFunc, .nilFunc], true⟩,
  some ⟨.fn, 1, 8, [.nilFunc], false⟩,
  some ⟨.fn, 1, 8, [.nilFunc], false⟩,
  some ⟨.fn, 1, 8, [.nilFunc], false⟩,
  some ⟨.fn, 1, 8, [.nilFunc], false⟩,
  some ⟨(.ptr 192), 1, 8, [.pointer none], false⟩,
  some ⟨.fn, 1, 8, [.nilFunc], false⟩,
  some ⟨(.ptr 3), 1, 8, [.pointer none], false⟩,
  some ⟨(.sl 119), 1, 24, [.slice none 0 0], false⟩,
  some ⟨.fn, 1, 8, [.nilFunc], false⟩,
  some ⟨.fn, 1, 8, [.nilFunc], false⟩,
  some ⟨(.ptr 125), 1, 8, [.pointer none], false⟩,
  some ⟨(.st [(0, 9), (1, 4)]), 2, 24, [.string ⟨#[]⟩, .bool false], true⟩,
  some ⟨(.st [(0, 9), (1, 4)]), 2, 24, [.string ⟨#[]⟩, .bool false], true⟩,
  some ⟨.fn, 1, 8, [.nilFunc], false⟩,
  some ⟨.fn, 1, 8, [.nilFunc], false⟩,
  some ⟨.fn, 1, 8, [.nilFunc], false⟩,
  some ⟨.fn, 1, 8, [.nilFunc], false⟩,
  some ⟨.fn, 1, 8, [.nilFunc], false⟩,
  some ⟨.fn, 1, 8, [.nilFunc], false⟩,
  some ⟨.fn, 1, 8, [.nilFunc], false⟩,
  some ⟨.fn, 1, 8, [.nilFunc], false⟩,
  some ⟨.fn, 1, 8, [.nilFunc], false⟩,
  some ⟨.fn, 1, 8, [.nilFunc], false⟩,
  some ⟨.fn, 1, 8, [.nilFunc], false⟩,
  some ⟨.fn, 1, 8, [.nilFunc], false⟩,
  some ⟨(.ptr 141), 1, 8, [.pointer none], false⟩,
  some ⟨(.sl 5), 1, 24, [.slice none 0 0], false⟩,
  some ⟨(.st [(0, 139), (1, 4)]), 2, 32, [.slice none 0 0, .bool false], true⟩,
  some ⟨(.st [(0, 139), (1, 4)]), 2, 32, [.slice none 0 0, .bool false], true⟩,
  some ⟨.fn, 1, 8, [.nilFunc], false⟩,
  some ⟨.fn, 1, 8, [.nilFunc], false⟩,
  some ⟨.fn, 1, 8, [.nilFunc], false⟩,
  some ⟨.fn, 1, 8, [.nilFunc], false⟩,
  some ⟨.fn, 1, 8, [.nilFunc], false⟩,
  some ⟨(.arr 2 3), 2, 16, [.int .i64 0, .int .i64 0], false⟩,
  some ⟨(.sl 147), 1, 24, [.slice none 0 0], false⟩,
  some ⟨.fn, 1, 8, [.nilFunc], false⟩,
  some ⟨.fn, 1, 8, [.nilFunc], false⟩,
  some ⟨.fn, 1, 8, [.nilFunc], false⟩,
  some ⟨.fn, 1, 8, [.nilFunc], false⟩,
  some ⟨.fn, 1, 8, [.nilFunc], false⟩,
  some ⟨.fn, 1, 8, [.nilFunc], false⟩,
  none,
  some ⟨.fn, 1, 8, [.nilFunc], false⟩,
  none,
  some ⟨.fn, 1, 8, [.nilFunc], false⟩,
  some ⟨.fn, 1, 8, [.nilFunc], false⟩,
  some ⟨.fn, 1, 8, [.nilFunc], false⟩,
  some ⟨(.ptr 163), 1, 8, [.pointer none], false⟩,
  some ⟨(.st [(0, 95), (1, 4)]), 2, 32, [.slice none 0 0, .bool false], true⟩,
  some ⟨(.st [(0, 95), (1, 4)]), 2, 32, [.slice none 0 0, .bool false], true⟩,
  some ⟨.fn, 1, 8, [.nilFunc], false⟩,
  some ⟨.fn, 1, 8, [.nilFunc], false⟩,
  some ⟨.fn, 1, 8, [.nilFunc], false⟩,
  some ⟨(.st [(0, 3), (1, 9)]), 2, 24, [.int .i64 0, .string ⟨#[]⟩], true⟩,
  some ⟨(.st [(0, 3), (1, 9)]), 2, 24, [.int .i64 0, .string ⟨#[]⟩], true⟩,
  some ⟨.fn, 1, 8, [.nilFunc], false⟩,
  none,
  some ⟨.fn, 1, 8, [.nilFunc], false⟩,
  some ⟨.fn, 1, 8, [.nilFunc], false⟩,
  some ⟨.fn, 1, 8, [.nilFunc], false⟩,
  some ⟨.fn, 1, 8, [.nilFunc], false⟩,
  some ⟨.fn, 1, 8, [.nilFunc], false⟩,
  some ⟨.fn, 1, 8, [.nilFunc], false⟩,
  some ⟨.fn, 1, 8, [.nilFunc], false⟩,
  some ⟨.fn, 1, 8, [.nilFunc], false⟩,
  some ⟨(.int .u64), 1, 8, [.int .u64 0], false⟩,
  none,
  some ⟨.fn, 1, 8, [.nilFunc], false⟩,
  some ⟨.fn, 1, 8, [.nilFunc], false⟩,
  some ⟨.fn, 1, 8, [.nilFunc], false⟩,
  some ⟨(.st [(0, 95)]), 1, 24, [.slice none 0 0], true⟩,
  some ⟨(.st [(0, 95)]), 1, 24, [.slice none 0 0], true⟩,
  some ⟨.fn, 1, 8, [.nilFunc], false⟩,
  some ⟨.fn, 1, 8, [.nilFunc], false⟩,
  some ⟨(.st []), 0, 0, [], true⟩,
  some ⟨(.st []), 0, 0, [], true⟩,
  none,
  some ⟨(.st [(0, 9)]), 1, 16, [.string ⟨#[]⟩], true⟩,
  some ⟨(.st [(0, 9)]), 1, 16, [.string ⟨#[]⟩], true⟩,
  some ⟨(.int .u64), 1, 8, [.int .u64 0], false⟩,
  some ⟨(.arr 32 5), 32, 32, [.int .u8 0, .int .u8 0, .int .u8 0, .int .u8 0, .int .u8 0, .int .u8 0, .int .u8 0, .int .u8 0, .int .u8 0, .int .u8 0, .int .u8 0, .int .u8 0, .int .u8 0, .int .u8 0, .int .u8 0, .int .u8 0, .int .u8 0, .int .u8 0, .int .u8 0, .int .u8 0, .int .u8 0, .int .u8 0, .int .u8 0, .int .u8 0, .int .u8 0, .int .u8 0, .int .u8 0, .int .u8 0, .int .u8 0, .int .u8 0, .int .u8 0, .int .u8 0], false⟩,
  some ⟨(.ptr 197), 1, 8, [.pointer none], false⟩,
  some ⟨(.st [(0, 195), (1, 139)]), 2, 32, [.pointer none, .slice none 0 0], true⟩,
  some ⟨(.st [(0, 195), (1, 139)]), 2, 32, [.pointer none, .slice none 0 0], true⟩,
  some ⟨.fn, 1, 8, [.nilFunc], false⟩,
  some ⟨.fn, 1, 8, [.nilFunc], false⟩,
  some ⟨.fn, 1, 8, [.nilFunc], false⟩,
  some ⟨.fn, 1, 8, [.nilFunc], false⟩,
  some ⟨.fn, 1, 8, [.nilFunc], false⟩,
  some ⟨.fn, 1, 8, [.nilFunc], false⟩,
  some ⟨.fn, 1, 8, [.nilFunc], false⟩,
  some ⟨.fn, 1, 8, [.nilFunc], false⟩,
  some ⟨.fn, 1, 8, [.nilFunc], false⟩,
  some ⟨.fn, 1, 8, [.nilFunc], false⟩,
  some ⟨.fn, 1, 8, [.nilFunc], false⟩,
  some ⟨(.int .i64), 1, 8, [.int .i64 0], false⟩,
  none,
  some ⟨.fn, 1, 8, [.nilFunc], false⟩,
  some ⟨(.ptr 236), 1, 8, [.pointer none], false⟩,
  some ⟨.fn, 1, 8, [.nilFunc], false⟩,
  some ⟨.fn, 1, 8, [.nilFunc], false⟩,
  some ⟨.fn, 1, 8, [.nilFunc], false⟩,
  some ⟨.fn, 1, 8, [.nilFunc], false⟩,
  some ⟨.fn, 1, 8, [.nilFunc], false⟩,
  some ⟨.fn, 1, 8, [.nilFunc], false⟩,
  none,
  some ⟨.fn, 1, 8, [.nilFunc], false⟩,
  some ⟨.fn, 1, 8, [.nilFunc], false⟩,
  some ⟨.fn, 1, 8, [.nilFunc], false⟩,
  some ⟨.fn, 1, 8, [.nilFunc], false⟩,
  some ⟨.fn, 1, 8, [.nilFunc], false⟩,
  some ⟨.fn, 1, 8, [.nilFunc], false⟩,
  some ⟨.fn, 1, 8, [.nilFunc], false⟩,
  some ⟨.fn, 1, 8, [.nilFunc], false⟩,
  some ⟨.fn, 1, 8, [.nilFunc], false⟩,
  some ⟨(.ptr 5), 1, 8, [.pointer none], false⟩,
  some ⟨(.arr 24 5), 24, 24, [.int .u8 0, .int .u8 0, .int .u8 0, .int .u8 0, .int .u8 0, .int .u8 0, .int .u8 0, .int .u8 0, .int .u8 0, .int .u8 0, .int .u8 0, .int .u8 0, .int .u8 0, .int .u8 0, .int .u8 0, .int .u8 0, .int .u8 0, .int .u8 0, .int .u8 0, .int .u8 0, .int .u8 0, .int .u8 0, .int .u8 0, .int .u8 0], false⟩,
  some ⟨.fn, 1, 8, [.nilFunc], false⟩,
  some ⟨.fn, 1, 8, [.nilFunc], false⟩,
  none,
  some ⟨.fn, 1, 8, [.nilFunc], false⟩,
  some ⟨(.st [(0, 9), (1, 9), (2, 105)]), 3, 48, [.string ⟨#[]⟩, .string ⟨#[]⟩, .nilIface], false⟩,
  some ⟨(.st [(0, 9), (1, 9), (2, 105)]), 3, 48, [.string ⟨#[]⟩, .string ⟨#[]⟩, .nilIface], false⟩,
  some ⟨.fn, 1, 8, [.nilFunc], false⟩,
  none,
  some ⟨.fn, 1, 8, [.nilFunc], false⟩,
  some ⟨.fn, 1, 8, [.nilFunc], false⟩,
  some ⟨.fn, 1, 8, [.nilFunc], false⟩,
  none,
  some ⟨.fn, 1, 8, [.nilFunc], false⟩,
  some ⟨.fn, 1, 8, [.nilFunc], false⟩,
  none,
  some ⟨.fn, 1, 8, [.nilFunc], false⟩,
  some ⟨.fn, 1, 8, [.nilFunc], false⟩,
  some ⟨.oth, 1, 8, [.pointer none], false⟩,
  some ⟨.fn, 1, 8, [.nilFunc], false⟩,
  some ⟨.fn, 1, 8, [.nilFunc], false⟩,
  some ⟨.fn, 1, 8, [.nilFunc], false⟩,
  some ⟨.fn, 1, 8, [.nilFunc], false⟩,
  some ⟨(.arr 20 179), 20, 160, [.int .u64 0, .int .u64 0, .int .u64 0, .int .u64 0, .int .u64 0, .int .u64 0, .int .u64 0, .int .u64 0, .int .u64 0, .int .u64 0, .int .u64 0, .int .u64 0, .int .u64 0, .int .u64 0, .int .u64 0, .int .u64 0, .int .u64 0, .int .u64 0, .int .u64 0, .int .u64 0], false⟩,
  some ⟨(.int .u32), 1, 4, [.int .u32 0], false⟩,
  some ⟨(.arr 65 5), 65, 65, [.int .u8 0, .int .u8 0, .int .u8 0, .int .u8 0, .int .u8 0, .int .u8 0, .int .u8 0, .int .u8 0, .int .u8 0, .int .u8 0, .int .u8 0, .int .u8 0, .int .u8 0, .int .u8 0, .int .u8 0, .int .u8 0, .int .u8 0, .int .u8 0, .int .u8 0, .int .u8 0, .int .u8 0, .int .u8 0, .int .u8 0, .int .u8 0, .int .u8 0, .int .u8 0, .int .u8 0, .int .u8 0, .int .u8 0, .int .u8 0, .int .u8 0, .int .u8 0, .int .u8 0, .int .u8 0, .int .u8 0, .int .u8 0, .int .u8 0, .int .u8 0, .int .u8 0, .int .u8 0, .int .u8 0, .int .u8 0, .int .u8 0, .int .u8 0, .int .u8 0, .int .u8 0, .int .u8 0, .int .u8 0, .int .u8 0, .int .u8 0, .int .u8 0, .int .u8 0, .int .u8 0, .int .u8 0, .int .u8 0, .int .u8 0, .int .u8 0, .int .u8 0, .int .u8 0, .int .u8 0, .int .u8 0, .int .u8 0, .int .u8 0, .int .u8 0, .int .u8 0], false⟩,
  some ⟨.fn, 1, 8, [.nilFunc], false⟩,
  some ⟨(.ptr 259), 1, 8, [.pointer none], false⟩,
  some ⟨(.st [(0, 9)]), 1, 16, [.string ⟨#[]⟩], true⟩,
  some ⟨(.st [(0, 9)]), 1, 16, [.string ⟨#[]⟩], true⟩,
  some ⟨.fn, 1, 8, [.nilFunc], false⟩,
  some ⟨.fn, 1, 8, [.nilFunc], false⟩,
  some ⟨(.arr 256 5), 256, 256, [.int .u8 0, .int .u8 0, .int .u8 0, .int .u8 0, .int .u8 0, .int .u8 0, .int .u8 0, .int .u8 0, .int .u8 0, .int .u8 0, .int .u8 0, .int .u8 0, .int .u8 0, .int .u8 0, .int .u8 0, .int .u8 0, .int .u8 0, .int .u8 0, .int .u8 0, .int .u8 0, .int .u8 0, .int .u8 0, .int .u8 0, .int .u8 0, .int .u8 0, .int .u8 0, .int .u8 0, .int .u8 0, .int .u8 0, .int .u8 0, .int .u8 0, .int .u8 0, .int .u8 0, .int .u8 0, .int .u8 0, .int .u8 0, .int .u8 0, .int .u8 0, .int .u8 0, .int .u8 0, .int .u8 0, .int .u8 0, .int .u8 0, .int .u8 0, .int .u8 0, .int .u8 0, .int .u8 0, .int .u8 0, .int .u8 0, .int .u8 0, .int .u8 0, .int .u8 0, .int .u8 0, .int .u8 0, .int .u8 0, .int .u8 0, .int .u8 0, .int .u8 0, .int .u8 0, .int .u8 0, .int .u8 0, .int .u8 0, .int .u8 0, .int .u8 0, .int .u8 0, .int .u8 0, .int .u8 0, .int .u8 0, .int .u8 0, .int .u8 0, .int .u8 0, .int .u8 0, .int .u8 0, .int .u8 0, .int .u8 0, .int .u8 0, .int .u8 0, .int .u8 0, .int .u8 0, .int .u8 0, .int .u8 0, .int .u8 0, .int .u8 0, .int .u8 0, .int .u8 0, .int .u8 0, .int .u8 0, .int .u8 0, .int .u8 0, .int .u8 0, .int .u8 0, .int .u8 0, .int .u8 0, .int .u8 0, .int .u8 0, .int .u8 0, .int .u8 0, .int .u8 0, .int .u8 0, .int .u8 0, .int .u8 0, .int .u8 0, .int .u8 0, .int .u8 0, .int .u8 0, .int .u8 0, .int .u8 0, .int .u8 0, .int .u8 0, .int .u8 0, .int .u8 0, .int .u8 0, .int .u8 0, .int .u8 0, .int .u8 0, .int .u8 0, .int .u8 0, .int .u8 0, .int .u8 0, .int .u8 0, .int .u8 0, .int .u8 0, .int .u8 0, .int .u8 0, .int .u8 0, .int .u8 0, .int .u8 0, .int .u8 0, .int .u8 0, .int .u8 0, .int .u8 0, .int .u8 0, .int .u8 0, .int .u8 0, .int .u8 0, .int .u8 0, .int .u8 0, .int .u8 0, .int .u8 0, .int .u8 0, .int .u8 0, .int .u8 0, .int .u8 0, .int .u8 0, .int .u8 0, .int .u8 0, .int .u8 0, .int .u8 0, .int .u8 0, .int .u8 0, .int .u8 0, .int .u8 0, .int .u8 0, .int .u8 0, .int .u8 0, .int .u8 0, .int .u8 0, .int .u8 0, .int .u8 0, .int .u8 0, .int .u8 0, .int .u8 0, .int .u8 0, .int .u8 0, .int .u8 0, .int .u8 0, .int .u8 0, .int .u8 0, .int .u8 0, .int .u8 0, .int .u8 0, .int .u8 0, .int .u8 0, .int .u8 0, .int .u8 0, .int .u8 0, .int .u8 0, .int .u8 0, .int .u8 0, .int .u8 0, .int .u8 0, .int .u8 0, .int .u8 0, .int .u8 0, .int .u8 0, .int .u8 0, .int .u8 0, .int .u8 0, .int .u8 0, .int .u8 0, .int .u8 0, .int .u8 0, .int .u8 0, .int .u8 0, .int .u8 0, .int .u8 0, .int .u8 0, .int .u8 0, .int .u8 0, .int .u8 0, .int .u8 0, .int .u8 0, .int .u8 0, .int .u8 0, .int .u8 0, .int .u8 0, .int .u8 0, .int .u8 0, .int .u8 0, .int .u8 0, .int .u8 0, .int .u8 0, .int .u8 0, .int .u8 0, .int .u8 0, .int .u8 0, .int .u8 0, .int .u8 0, .int .u8 0, .int .u8 0, .int .u8 0, .int .u8 0, .int .u8 0, .int .u8 0, .int .u8 0, .int .u8 0, .int .u8 0, .int .u8 0, .int .u8 0, .int .u8 0, .int .u8 0, .int .u8 0, .int .u8 0, .int .u8 0, .int .u8 0, .int .u8 0, .int .u8 0, .int .u8 0, .int .u8 0, .int .u8 0, .int .u8 0, .int .u8 0, .int .u8 0, .int .u8 0, .int .u8 0, .int .u8 0, .int .u8 0, .int .u8 0, .int .u8 0, .int .u8 0, .int .u8 0, .int .u8 0, .int .u8 0, .int .u8 0, .int .u8 0, .int .u8 0], false⟩,
  some ⟨(.st [(0, 5), (1, 5)]), 2, 2, [.int .u8 0, .int .u8 0], true⟩,
  some ⟨(.st [(0, 5), (1, 5)]), 2, 2, [.int .u8 0, .int .u8 0], true⟩,
  some ⟨(.arr 16 264), 32, 32, [.int .u8 0, .int .u8 0, .int .u8 0, .int .u8 0, .int .u8 0, .int .u8 0, .int .u8 0, .int .u8 0, .int .u8 0, .int .u8 0, .int .u8 0, .int .u8 0, .int .u8 0, .int .u8 0, .int .u8 0, .int .u8 0, .int .u8 0, .int .u8 0, .int .u8 0, .int .u8 0, .int .u8 0, .int .u8 0, .int .u8 0, .int .u8 0, .int .u8 0, .int .u8 0, .int .u8 0, .int .u8 0, .int .u8 0, .int .u8 0, .int .u8 0, .int .u8 0], false⟩,
  none,
  some ⟨.fn, 1, 8, [.nilFunc], false⟩,
  some ⟨(.arr 64 5), 64, 64, [.int .u8 0, .int .u8 0, .int .u8 0, .int .u8 0, .int .u8 0, .int .u8 0, .int .u8 0, .int .u8 0, .int .u8 0, .int .u8 0, .int .u8 0, .int .u8 0, .int .u8 0, .int .u8 0, .int .u8 0, .int .u8 0, .int .u8 0, .int .u8 0, .int .u8 0, .int .u8 0, .int .u8 0, .int .u8 0, .int .u8 0, .int .u8 0, .int .u8 0, .int .u8 0, .int .u8 0, .int .u8 0, .int .u8 0, .int .u8 0, .int .u8 0, .int .u8 0, .int .u8 0, .int .u8 0, .int .u8 0, .int .u8 0, .int .u8 0, .int .u8 0, .int .u8 0, .int .u8 0, .int .u8 0, .int .u8 0, .int .u8 0, .int .u8 0, .int .u8 0, .int .u8 0, .int .u8 0, .int .u8 0, .int .u8 0, .int .u8 0, .int .u8 0, .int .u8 0, .int .u8 0, .int .u8 0, .int .u8 0, .int .u8 0, .int .u8 0, .int .u8 0, .int .u8 0, .int .u8 0, .int .u8 0, .int .u8 0, .int .u8 0, .int .u8 0], false⟩,
  some ⟨(.st [(0, 17), (1, 17), (2, 17), (3, 9)]), 4, 40, [.pointer none, .pointer none, .pointer none, .string ⟨#[]⟩], false⟩,
  some ⟨(.st [(0, 17), (1, 17), (2, 17), (3, 9)]), 4, 40, [.pointer none, .pointer none, .pointer none, .string ⟨#[]⟩], false⟩,
  some ⟨(.arr 0 16), 0, 0, [], false⟩,
  some ⟨(.st [(0, 271)]), 0, 0, [], false⟩,
  some ⟨(.st [(0, 271)]), 0, 0, [], false⟩,
  some ⟨(.int .u8), 1, 1, [.int .u8 0], false⟩,
  some ⟨(.int .u8), 1, 1, [.int .u8 0], false⟩,
  some ⟨.fn, 1, 8, [.nilFunc], false⟩,
  some ⟨(.int .i32), 1, 4, [.int .i32 0], false⟩,
  some ⟨(.int .i32), 1, 4, [.int .i32 0], false⟩,
  some ⟨(.st [(0, 12), (1, 12), (2, 254), (3, 274), (4, 5), (5, 5), (6, 275), (7, 276), (8, 229), (9, 277), (10, 278)]), 11, 48, [.int .u64 0, .int .u64 0, .int .u32 0, .int .u8 0, .int .u8 0, .int .u8 0, .int .u8 0, .nilFunc, .pointer none, .int .i32 0, .int .i32 0], false⟩,
  some ⟨(.st [(0, 12), (1, 12), (2, 254), (3, 274), (4, 5), (5, 5), (6, 275), (7, 276), (8, 229), (9, 277), (10, 278)]), 11, 48, [.int .u64 0, .int .u64 0, .int .u32 0, .int .u8 0, .int .u8 0, .int .u8 0, .int .u8 0, .nilFunc, .pointer none, .int .i32 0, .int .i32 0], false⟩]

theorem TTok (n : Nat) (I : World → Prop) : Ctx.ok ⟨Tryz.prog, TT, n, I⟩ := Ctx.ok_of (by kernel_rfl) n I
theorem mixed : Tryz.prog.follows .mixedOrders = true := by kernel_rfl
end Go.Proofs.YtbladfkakmdigaaGreatDoor
namespace Go.Proofs.YtbladfkakmdigaaGreatDoor
open Go.SX
def GG : Nat → Option (List Value)
  | 2 => some [.int .u64 1, .int .u64 10, .int .u64 100, .int .u64 1000, .int .u64 10000, .int .u64 100000, .int .u64 1000000, .int .u64 10000000, .int .u64 100000000, .int .u64 1000000000, .int .u64 10000000000, .int .u64 100000000000, .int .u64 1000000000000, .int .u64 10000000000000, .int .u64 100000000000000, .int .u64 1000000000000000, .int .u64 10000000000000000, .int .u64 100000000000000000, .int .u64 1000000000000000000, .int .u64 10000000000000000000]
  | 7 => some [.int .u8 0, .int .u8 1, .int .u8 56, .int .u8 2, .int .u8 57, .int .u8 49, .int .u8 28, .int .u8 3, .int .u8 61, .int .u8 58, .int .u8 42, .int .u8 50, .int .u8 38, .int .u8 29, .int .u8 17, .int .u8 4, .int .u8 62, .int .u8 47, .int .u8 59, .int .u8 36, .int .u8 45, .int .u8 43, .int .u8 51, .int .u8 22, .int .u8 53, .int .u8 39, .int .u8 33, .int .u8 30, .int .u8 24, .int .u8 18, .int .u8 12, .int .u8 5, .int .u8 63, .int .u8 55, .int .u8 48, .int .u8 27, .int .u8 60, .int .u8 41, .int .u8 37, .int .u8 16, .int .u8 46, .int .u8 35, .int .u8 44, .int .u8 21, .int .u8 52, .int .u8 32, .int .u8 23, .int .u8 11, .int .u8 54, .int .u8 26, .int .u8 40, .int .u8 15, .int .u8 34, .int .u8 20, .int .u8 31, .int .u8 10, .int .u8 25, .int .u8 14, .int .u8 19, .int .u8 9, .int .u8 13, .int .u8 8, .int .u8 7, .int .u8 6]
  | _ => none
end Go.Proofs.YtbladfkakmdigaaGreatDoor
/-
  DERIVED: THE SHELF's CONTRACTS AT THIS DUMP, IN PLAIN WORDS (tools/lay-plain.mjs out of 'TryzShelf.lean', which tools/lay-shelf.mjs wrote): THE SAME DECLARATIONS UNDER THE SAME NAMES: 'import', 'namespace', 'open', 'def', 'theorem' AND NOTHING ELSE: no command of the shelf's: FOR A HAND-IN. Each laying: the table of numbers ('.._ren') and one theorem, a field a fact of the dump's own or the kernel's comparison; each contract: ONE APPLICATION.
-/
namespace Go.Proofs
open Go.Shelf
def Tryz.lays169_ren : Go.Shelf.Ren := ⟨fun | 169 => 181 | n => n, fun | 70 => 195 | 9 => 9 | 0 => 0 | 72 => 197 | 37 => 139 | 127 => 229 | 3 => 3 | 5 => 5 | n => n, fun | n => n⟩
def Tryz.lays241_ren : Go.Shelf.Ren := ⟨fun | 241 => 235 | 277 => 260 | n => n, fun | 70 => 195 | 3 => 3 | 0 => 0 | 72 => 197 | 37 => 139 | 5 => 5 | n => n, fun | n => n⟩
def Tryz.lays165_ren : Go.Shelf.Ren := ⟨fun | 165 => 179 | 240 => 234 | 241 => 235 | 276 => 259 | 277 => 260 | n => n, fun | 70 => 195 | 3 => 3 | 0 => 0 | 4 => 4 | 9 => 9 | 20 => 20 | 72 => 197 | 37 => 139 | 164 => 248 | 5 => 5 | n => n, fun | n => n⟩
def Tryz.lays156_ren : Go.Shelf.Ren := ⟨fun | 156 => 102 | 165 => 179 | 166 => 180 | 169 => 181 | 240 => 234 | 241 => 235 | 276 => 259 | 277 => 260 | n => n, fun | 31 => 95 | 9 => 9 | 3 => 3 | 4 => 4 | 0 => 0 | 20 => 20 | 72 => 197 | 76 => 106 | 70 => 195 | 37 => 139 | 75 => 105 | 127 => 229 | 164 => 248 | 5 => 5 | 80 => 118 | n => n, fun | n => n⟩
theorem Tryz.lays156 : Go.Proofs.Lays.n156 Tryz.prog Tryz.lays156_ren := {
  mixed := by kernel_rfl
  f156 := Tryz.func102.trans (congrArg some (by kernel_rfl))
  f165 := Tryz.func179.trans (congrArg some (by kernel_rfl))
  f166 := Tryz.func180.trans (congrArg some (by kernel_rfl))
  f169 := Tryz.func181.trans (congrArg some (by kernel_rfl))
  f240 := Tryz.func234.trans (congrArg some (by kernel_rfl))
  f241 := Tryz.func235.trans (congrArg some (by kernel_rfl))
  f276 := Tryz.func259.trans (congrArg some (by kernel_rfl))
  f277 := Tryz.func260.trans (congrArg some (by kernel_rfl))
  t0 := Tryz.underlying0
  a0 := Tryz.isAgg0
  z0 := Tryz.sizeOf0
  v0 := Tryz.zeroValue0
  t3 := Tryz.underlying3
  a3 := Tryz.isAgg3
  z3 := Tryz.sizeOf3
  v3 := Tryz.zeroValue3
  t4 := Tryz.underlying4
  a4 := Tryz.isAgg4
  z4 := Tryz.sizeOf4
  v4 := Tryz.zeroValue4
  t9 := Tryz.underlying9
  a9 := Tryz.isAgg9
  z9 := Tryz.sizeOf9
  v9 := Tryz.zeroValue9
  t20 := Tryz.underlying20
  a20 := Tryz.isAgg20
  z20 := Tryz.sizeOf20
  v20 := Tryz.zeroValue20
  t31 := Tryz.underlying95
  a31 := Tryz.isAgg95
  z31 := Tryz.sizeOf95
  v31 := Tryz.zeroValue95
  t37 := Tryz.underlying139
  a37 := Tryz.isAgg139
  z37 := Tryz.sizeOf139
  v37 := Tryz.zeroValue139
  t70 := Tryz.underlying195
  a70 := Tryz.isAgg195
  z70 := Tryz.sizeOf195
  v70 := Tryz.zeroValue195
  t72 := Tryz.underlying197
  a72 := Tryz.isAgg197
  z72 := Tryz.sizeOf197
  v72 := Tryz.zeroValue197
  t75 := Tryz.underlying105
  a75 := Tryz.isAgg105
  z75 := Tryz.sizeOf105
  v75 := Tryz.zeroValue105
  t76 := Tryz.underlying106
  a76 := Tryz.isAgg106
  z76 := Tryz.sizeOf106
  v76 := Tryz.zeroValue106
  t127 := Tryz.underlying229
  a127 := Tryz.isAgg229
  z127 := Tryz.sizeOf229
  v127 := Tryz.zeroValue229
  t164 := Tryz.underlying248
  a164 := Tryz.isAgg248
  z164 := Tryz.sizeOf248
  v164 := Tryz.zeroValue248 }
theorem Tryz.Builder_Extra_156 : Builder.Extra Tryz.prog Tryz.lays156_ren := {
  sizeBuilder := by kernel_rfl
  liesBuilder := by kernel_rfl
  t5 := Tryz.underlying5
  a5 := Tryz.isAgg5
  z5 := Tryz.sizeOf5
  v5 := Tryz.zeroValue5
  infoByte := by kernel_rfl
  cellsByte := by kernel_rfl
  sizeByte := by kernel_rfl
  neB5 := by decide }
open Go.RowKit in
theorem Tryz.strings_Join_none (a : Option Addr) (c : Nat) (sep : ByteArray) (w : World) :
    Calls Tryz.prog 102 #[.slice a 0 c, .string sep] w fun e w' => e = .returned (.string ⟨#[]⟩) ∧ w' = w := Any.strings_Join_none Tryz.lays156 Tryz.Builder_Extra_156 a c sep w
open Go.RowKit in
theorem Tryz.strings_Join (bk o c : Nat) (xs : List ByteArray) (sep : ByteArray) (w : World) (hcells : ∀ (j : Nat) x, xs[j]? = some x → w.cell? ⟨bk, o + j, none⟩ = some (.string x)) (hbk : bk < w.heap.size) (hN : xs.length ≤ 140737488355328) (hcap : xs.length ≤ c) (hlen : (Lib.join (xs.map (·.data.toList)) sep.data.toList).length ≤ 140737488355328) :
    Calls Tryz.prog 102 #[.slice (some ⟨bk, o, none⟩) xs.length c, .string sep] w fun e w' => e = .returned (.string ⟨(Lib.join (xs.map (·.data.toList)) sep.data.toList).toArray⟩) ∧ Below w.heap.size w w' := Any.strings_Join Tryz.lays156 Tryz.Builder_Extra_156 bk o c xs sep w hcells hbk hN hcap hlen
def Tryz.lays137_ren : Go.Shelf.Ren := ⟨fun | 137 => 268 | 217 => 270 | 266 => 277 | n => n, fun | 9 => 9 | 5 => 5 | 3 => 3 | n => n, fun | n => n⟩
def Tryz.lays210_ren : Go.Shelf.Ren := ⟨fun | 210 => 112 | 206 => 196 | n => n, fun | 9 => 9 | 4 => 4 | 3 => 3 | n => n, fun | n => n⟩
def Tryz.lays103_ren : Go.Shelf.Ren := ⟨fun | 103 => 61 | 210 => 112 | 206 => 196 | n => n, fun | 9 => 9 | 4 => 4 | 24 => 26 | 3 => 3 | n => n, fun | n => n⟩
def Tryz.lays195_ren : Go.Shelf.Ren := ⟨fun | 195 => 253 | n => n, fun | 9 => 9 | 3 => 3 | 0 => 0 | 4 => 4 | n => n, fun | n => n⟩
def Tryz.lays244_ren : Go.Shelf.Ren := ⟨fun | 244 => 113 | 247 => 197 | 287 => 227 | 321 => 251 | 322 => 252 | n => n, fun | 9 => 9 | 3 => 3 | 75 => 105 | 4 => 4 | 5 => 5 | 167 => 209 | 37 => 139 | 0 => 0 | 85 => 210 | 2 => 2 | 53 => 179 | 175 => 180 | 46 => 193 | 21 => 21 | 80 => 118 | n => n, fun | n => n⟩
def Tryz.lays172_ren : Go.Shelf.Ren := ⟨fun | 172 => 62 | 244 => 113 | 245 => 114 | 247 => 197 | 279 => 198 | 280 => 199 | 281 => 200 | 282 => 201 | 287 => 227 | 316 => 243 | 171 => 58 | 205 => 244 | 321 => 251 | 322 => 252 | 243 => 111 | 246 => 195 | 283 => 239 | 284 => 240 | 285 => 241 | 286 => 242 | 129 => 264 | 317 => 263 | 318 => 265 | 319 => 266 | 320 => 267 | 337 => 275 | 338 => 276 | n => n, fun | 9 => 9 | 3 => 3 | 75 => 105 | 76 => 106 | 4 => 4 | 5 => 5 | 167 => 209 | 37 => 139 | 0 => 0 | 85 => 210 | 2 => 2 | 168 => 212 | 53 => 179 | 175 => 180 | 46 => 193 | 210 => 236 | 127 => 229 | 145 => 259 | 143 => 257 | 21 => 21 | 171 => 230 | 173 => 233 | 212 => 253 | 51 => 254 | 20 => 20 | 213 => 255 | 232 => 194 | 233 => 268 | 80 => 118 | n => n, fun | 15 => 0 | 16 => 1 | 17 => 2 | 18 => 6 | 19 => 7 | n => n⟩
def Tryz.lays129_ren : Go.Shelf.Ren := ⟨fun | 129 => 264 | n => n, fun | 53 => 179 | 3 => 3 | 4 => 4 | 46 => 193 | 5 => 5 | 9 => 9 | n => n, fun | n => n⟩
def Tryz.lays317_ren : Go.Shelf.Ren := ⟨fun | 317 => 263 | n => n, fun | 3 => 3 | 46 => 193 | n => n, fun | n => n⟩
def Tryz.lays318_ren : Go.Shelf.Ren := ⟨fun | 318 => 265 | n => n, fun | 3 => 3 | 4 => 4 | n => n, fun | n => n⟩
def Tryz.lays283_ren : Go.Shelf.Ren := ⟨fun | 283 => 239 | n => n, fun | 3 => 3 | 9 => 9 | 4 => 4 | n => n, fun | n => n⟩
def Tryz.laysM284_ren : Go.Shelf.Ren := ⟨fun | 284 => 240 | 129 => 264 | 317 => 263 | 318 => 265 | n => n, fun | 53 => 179 | 3 => 3 | 212 => 253 | 0 => 0 | 4 => 4 | 46 => 193 | 5 => 5 | 9 => 9 | n => n, fun | 17 => 2 | n => n⟩
def Tryz.lays285_ren : Go.Shelf.Ren := ⟨fun | 285 => 241 | n => n, fun | 37 => 139 | 53 => 179 | 3 => 3 | 4 => 4 | 51 => 254 | 9 => 9 | 5 => 5 | 0 => 0 | n => n, fun | n => n⟩
def Tryz.laysM246_ren : Go.Shelf.Ren := ⟨fun | 246 => 195 | 283 => 239 | 284 => 240 | 285 => 241 | 286 => 242 | 129 => 264 | 317 => 263 | 318 => 265 | 319 => 266 | 320 => 267 | 337 => 275 | 338 => 276 | n => n, fun | 2 => 2 | 3 => 3 | 9 => 9 | 4 => 4 | 171 => 230 | 0 => 0 | 53 => 179 | 37 => 139 | 5 => 5 | 173 => 233 | 212 => 253 | 51 => 254 | 20 => 20 | 213 => 255 | 46 => 193 | 232 => 194 | 233 => 268 | n => n, fun | 17 => 2 | 18 => 6 | 19 => 7 | n => n⟩
def Tryz.lays246_ren : Go.Shelf.Ren := ⟨fun | 246 => 195 | 283 => 239 | 284 => 240 | 285 => 241 | 286 => 242 | 129 => 264 | 317 => 263 | 318 => 265 | 319 => 266 | 320 => 267 | 337 => 275 | 338 => 276 | n => n, fun | 2 => 2 | 3 => 3 | 9 => 9 | 4 => 4 | 171 => 230 | 0 => 0 | 53 => 179 | 37 => 139 | 5 => 5 | 173 => 233 | 212 => 253 | 51 => 254 | 20 => 20 | 213 => 255 | 46 => 193 | 232 => 194 | 233 => 268 | n => n, fun | 17 => 2 | 18 => 6 | 19 => 7 | n => n⟩
def Tryz.laysM243_ren : Go.Shelf.Ren := ⟨fun | 243 => 111 | 246 => 195 | 283 => 239 | 284 => 240 | 285 => 241 | 286 => 242 | 129 => 264 | 317 => 263 | 318 => 265 | 319 => 266 | 320 => 267 | 337 => 275 | 338 => 276 | n => n, fun | 3 => 3 | 9 => 9 | 2 => 2 | 4 => 4 | 171 => 230 | 0 => 0 | 53 => 179 | 37 => 139 | 5 => 5 | 173 => 233 | 212 => 253 | 51 => 254 | 20 => 20 | 213 => 255 | 46 => 193 | 232 => 194 | 233 => 268 | n => n, fun | 17 => 2 | 18 => 6 | 19 => 7 | n => n⟩
def Tryz.lays243_ren : Go.Shelf.Ren := ⟨fun | 243 => 111 | 246 => 195 | 283 => 239 | 284 => 240 | 285 => 241 | 286 => 242 | 129 => 264 | 317 => 263 | 318 => 265 | 319 => 266 | 320 => 267 | 337 => 275 | 338 => 276 | n => n, fun | 3 => 3 | 9 => 9 | 2 => 2 | 4 => 4 | 171 => 230 | 0 => 0 | 53 => 179 | 37 => 139 | 5 => 5 | 173 => 233 | 212 => 253 | 51 => 254 | 20 => 20 | 213 => 255 | 46 => 193 | 232 => 194 | 233 => 268 | n => n, fun | 17 => 2 | 18 => 6 | 19 => 7 | n => n⟩
def Tryz.laysM171_ren : Go.Shelf.Ren := ⟨fun | 171 => 58 | 243 => 111 | 246 => 195 | 283 => 239 | 284 => 240 | 285 => 241 | 286 => 242 | 129 => 264 | 317 => 263 | 318 => 265 | 319 => 266 | 320 => 267 | 337 => 275 | 338 => 276 | n => n, fun | 3 => 3 | 9 => 9 | 2 => 2 | 4 => 4 | 171 => 230 | 0 => 0 | 53 => 179 | 37 => 139 | 5 => 5 | 173 => 233 | 212 => 253 | 51 => 254 | 20 => 20 | 213 => 255 | 46 => 193 | 232 => 194 | 233 => 268 | n => n, fun | 17 => 2 | 18 => 6 | 19 => 7 | n => n⟩
def Tryz.lays171_ren : Go.Shelf.Ren := ⟨fun | 171 => 58 | 243 => 111 | 246 => 195 | 283 => 239 | 284 => 240 | 285 => 241 | 286 => 242 | 129 => 264 | 317 => 263 | 318 => 265 | 319 => 266 | 320 => 267 | 337 => 275 | 338 => 276 | n => n, fun | 3 => 3 | 9 => 9 | 2 => 2 | 4 => 4 | 171 => 230 | 0 => 0 | 53 => 179 | 37 => 139 | 5 => 5 | 173 => 233 | 212 => 253 | 51 => 254 | 20 => 20 | 213 => 255 | 46 => 193 | 232 => 194 | 233 => 268 | n => n, fun | 17 => 2 | 18 => 6 | 19 => 7 | n => n⟩
def Tryz.lays247_ren : Go.Shelf.Ren := ⟨fun | 247 => 197 | 287 => 227 | 321 => 251 | 322 => 252 | n => n, fun | 9 => 9 | 3 => 3 | 2 => 2 | 75 => 105 | 4 => 4 | 167 => 209 | 5 => 5 | 53 => 179 | 175 => 180 | 46 => 193 | 37 => 139 | 0 => 0 | 21 => 21 | 80 => 118 | n => n, fun | n => n⟩
def Tryz.laysM316_ren : Go.Shelf.Ren := ⟨fun | 316 => 243 | n => n, fun | 9 => 9 | 3 => 3 | 4 => 4 | 37 => 139 | 0 => 0 | 127 => 229 | 5 => 5 | n => n, fun | n => n⟩
theorem Tryz.laysM316 : Go.Proofs.LaysM.n316 Tryz.prog Tryz.laysM316_ren := {
  mixed := by kernel_rfl
  f316 := Tryz.func243.trans (congrArg some (by kernel_rfl))
  t0 := Tryz.underlying0
  a0 := Tryz.isAgg0
  z0 := Tryz.sizeOf0
  v0 := Tryz.zeroValue0
  t3 := Tryz.underlying3
  a3 := Tryz.isAgg3
  z3 := Tryz.sizeOf3
  v3 := Tryz.zeroValue3
  t4 := Tryz.underlying4
  a4 := Tryz.isAgg4
  z4 := Tryz.sizeOf4
  v4 := Tryz.zeroValue4
  t9 := Tryz.underlying9
  a9 := Tryz.isAgg9
  z9 := Tryz.sizeOf9
  v9 := Tryz.zeroValue9
  t37 := Tryz.underlying139
  a37 := Tryz.isAgg139
  z37 := Tryz.sizeOf139
  v37 := Tryz.zeroValue139
  t127 := Tryz.underlying229
  a127 := Tryz.isAgg229
  z127 := Tryz.sizeOf229
  v127 := Tryz.zeroValue229
  t5 := Tryz.underlying5
  a5 := Tryz.isAgg5
  z5 := Tryz.sizeOf5
  v5 := Tryz.zeroValue5
  i0 := by kernel_rfl
  i3 := by kernel_rfl
  i4 := by kernel_rfl
  i5 := by kernel_rfl
  i9 := by kernel_rfl
  i37 := by kernel_rfl
  i127 := by kernel_rfl }
open Go.RowKit in
theorem Tryz.stringslite_Clone (s : ByteArray) (w : World) (hlim : s.size ≤ 281474976710656) :
    Calls Tryz.prog 243 #[.string s] w fun e w' => e = .returned (.string s) ∧ Below w.heap.size w w' := Any.stringslite_Clone Tryz.laysM316 s w hlim
def Tryz.laysM279_ren : Go.Shelf.Ren := ⟨fun | 279 => 198 | 316 => 243 | n => n, fun | 9 => 9 | 168 => 212 | 75 => 105 | 210 => 236 | 3 => 3 | 4 => 4 | 37 => 139 | 0 => 0 | 127 => 229 | 80 => 118 | 5 => 5 | n => n, fun | 15 => 0 | n => n⟩
def Tryz.laysC245_ren : Go.Shelf.Ren := ⟨fun | 245 => 114 | 279 => 198 | 280 => 199 | 281 => 200 | 282 => 201 | 316 => 243 | 171 => 58 | 205 => 244 | 243 => 111 | 246 => 195 | 283 => 239 | 284 => 240 | 285 => 241 | 286 => 242 | 129 => 264 | 317 => 263 | 318 => 265 | 319 => 266 | 320 => 267 | 337 => 275 | 338 => 276 | n => n, fun | 9 => 9 | 3 => 3 | 75 => 105 | 167 => 209 | 4 => 4 | 168 => 212 | 210 => 236 | 37 => 139 | 0 => 0 | 127 => 229 | 145 => 259 | 143 => 257 | 2 => 2 | 171 => 230 | 53 => 179 | 5 => 5 | 173 => 233 | 212 => 253 | 51 => 254 | 20 => 20 | 213 => 255 | 46 => 193 | 232 => 194 | 233 => 268 | 80 => 118 | n => n, fun | 15 => 0 | 16 => 1 | 17 => 2 | 18 => 6 | 19 => 7 | n => n⟩
def Tryz.laysC172_ren : Go.Shelf.Ren := ⟨fun | 172 => 62 | 244 => 113 | 245 => 114 | 247 => 197 | 279 => 198 | 280 => 199 | 281 => 200 | 282 => 201 | 287 => 227 | 316 => 243 | 171 => 58 | 205 => 244 | 321 => 251 | 322 => 252 | 243 => 111 | 246 => 195 | 283 => 239 | 284 => 240 | 285 => 241 | 286 => 242 | 129 => 264 | 317 => 263 | 318 => 265 | 319 => 266 | 320 => 267 | 337 => 275 | 338 => 276 | n => n, fun | 9 => 9 | 3 => 3 | 75 => 105 | 76 => 106 | 4 => 4 | 5 => 5 | 167 => 209 | 37 => 139 | 0 => 0 | 85 => 210 | 2 => 2 | 168 => 212 | 53 => 179 | 175 => 180 | 46 => 193 | 210 => 236 | 127 => 229 | 145 => 259 | 143 => 257 | 21 => 21 | 171 => 230 | 173 => 233 | 212 => 253 | 51 => 254 | 20 => 20 | 213 => 255 | 232 => 194 | 233 => 268 | 80 => 118 | n => n, fun | 15 => 0 | 16 => 1 | 17 => 2 | 18 => 6 | 19 => 7 | n => n⟩
def Tryz.lays321_ren : Go.Shelf.Ren := ⟨fun | 321 => 251 | n => n, fun | 5 => 5 | n => n, fun | n => n⟩
def Tryz.lays287_ren : Go.Shelf.Ren := ⟨fun | 287 => 227 | 321 => 251 | 322 => 252 | n => n, fun | 9 => 9 | 3 => 3 | 53 => 179 | 75 => 105 | 4 => 4 | 167 => 209 | 5 => 5 | 46 => 193 | 37 => 139 | 0 => 0 | 21 => 21 | 80 => 118 | n => n, fun | n => n⟩
def Tryz.laysC247_ren : Go.Shelf.Ren := ⟨fun | 247 => 197 | 287 => 227 | 321 => 251 | 322 => 252 | n => n, fun | 9 => 9 | 3 => 3 | 2 => 2 | 75 => 105 | 4 => 4 | 167 => 209 | 5 => 5 | 53 => 179 | 175 => 180 | 46 => 193 | 37 => 139 | 0 => 0 | 21 => 21 | 80 => 118 | n => n, fun | n => n⟩
def Tryz.laysC244_ren : Go.Shelf.Ren := ⟨fun | 244 => 113 | 247 => 197 | 287 => 227 | 321 => 251 | 322 => 252 | n => n, fun | 9 => 9 | 3 => 3 | 75 => 105 | 4 => 4 | 5 => 5 | 167 => 209 | 37 => 139 | 0 => 0 | 85 => 210 | 2 => 2 | 53 => 179 | 175 => 180 | 46 => 193 | 21 => 21 | 80 => 118 | n => n, fun | n => n⟩
def Tryz.laysM280_ren : Go.Shelf.Ren := ⟨fun | 280 => 199 | 316 => 243 | n => n, fun | 9 => 9 | 168 => 212 | 75 => 105 | 210 => 236 | 3 => 3 | 4 => 4 | 37 => 139 | 0 => 0 | 127 => 229 | 80 => 118 | 5 => 5 | n => n, fun | 16 => 1 | n => n⟩
def Tryz.lays217_ren : Go.Shelf.Ren := ⟨fun | 217 => 270 | 266 => 277 | n => n, fun | 9 => 9 | 5 => 5 | 3 => 3 | n => n, fun | n => n⟩
def Tryz.lays224_ren : Go.Shelf.Ren := ⟨fun | 224 => 272 | n => n, fun | 3 => 3 | n => n, fun | n => n⟩
def Tryz.lays314_ren : Go.Shelf.Ren := ⟨fun | 314 => 278 | n => n, fun | 9 => 9 | 51 => 254 | 3 => 3 | 4 => 4 | 5 => 5 | 46 => 193 | n => n, fun | n => n⟩
def Tryz.lays267_ren : Go.Shelf.Ren := ⟨fun | 267 => 273 | 314 => 278 | n => n, fun | 9 => 9 | 3 => 3 | 146 => 266 | 51 => 254 | 4 => 4 | 5 => 5 | 46 => 193 | n => n, fun | n => n⟩
def Tryz.lays219_ren : Go.Shelf.Ren := ⟨fun | 219 => 256 | 217 => 270 | 225 => 271 | 224 => 272 | 267 => 273 | 266 => 277 | 314 => 278 | n => n, fun | 9 => 9 | 3 => 3 | 4 => 4 | 5 => 5 | 46 => 193 | 146 => 266 | 51 => 254 | n => n, fun | 1 => 3 | n => n⟩
def Tryz.lays143_ren : Go.Shelf.Ren := ⟨fun | 143 => 230 | 219 => 256 | 217 => 270 | 225 => 271 | 224 => 272 | 267 => 273 | 266 => 277 | 314 => 278 | n => n, fun | 9 => 9 | 3 => 3 | 4 => 4 | 5 => 5 | 46 => 193 | 146 => 266 | 51 => 254 | n => n, fun | 1 => 3 | n => n⟩
def Tryz.lays138_ren : Go.Shelf.Ren := ⟨fun | 138 => 229 | 195 => 253 | 218 => 255 | 143 => 230 | 219 => 256 | 217 => 270 | 225 => 271 | 224 => 272 | 267 => 273 | 266 => 277 | 314 => 278 | n => n, fun | 9 => 9 | 3 => 3 | 4 => 4 | 5 => 5 | 0 => 0 | 46 => 193 | 146 => 266 | 51 => 254 | n => n, fun | 1 => 3 | n => n⟩
def Tryz.laysM219_ren : Go.Shelf.Ren := ⟨fun | 219 => 256 | 217 => 270 | 225 => 271 | 224 => 272 | 267 => 273 | 266 => 277 | 314 => 278 | n => n, fun | 9 => 9 | 3 => 3 | 4 => 4 | 5 => 5 | 46 => 193 | 146 => 266 | 51 => 254 | n => n, fun | 1 => 3 | n => n⟩
def Tryz.laysM143_ren : Go.Shelf.Ren := ⟨fun | 143 => 230 | 219 => 256 | 217 => 270 | 225 => 271 | 224 => 272 | 267 => 273 | 266 => 277 | 314 => 278 | n => n, fun | 9 => 9 | 3 => 3 | 4 => 4 | 5 => 5 | 46 => 193 | 146 => 266 | 51 => 254 | n => n, fun | 1 => 3 | n => n⟩
def Tryz.laysM138_ren : Go.Shelf.Ren := ⟨fun | 138 => 229 | 195 => 253 | 218 => 255 | 143 => 230 | 219 => 256 | 217 => 270 | 225 => 271 | 224 => 272 | 267 => 273 | 266 => 277 | 314 => 278 | n => n, fun | 9 => 9 | 3 => 3 | 4 => 4 | 5 => 5 | 0 => 0 | 46 => 193 | 146 => 266 | 51 => 254 | n => n, fun | 1 => 3 | n => n⟩
def Tryz.lays206_ren : Go.Shelf.Ren := ⟨fun | 206 => 196 | n => n, fun | 9 => 9 | 4 => 4 | 3 => 3 | n => n, fun | n => n⟩
def Tryz.lays221_ren : Go.Shelf.Ren := ⟨fun | 221 => 163 | 268 => 228 | 138 => 229 | 143 => 230 | 195 => 253 | 197 => 254 | 218 => 255 | 219 => 256 | 260 => 269 | 217 => 270 | 225 => 271 | 224 => 272 | 267 => 273 | 266 => 277 | 314 => 278 | n => n, fun | 9 => 9 | 3 => 3 | 31 => 95 | 4 => 4 | 0 => 0 | 105 => 242 | 21 => 21 | 5 => 5 | 46 => 193 | 119 => 262 | 139 => 265 | 138 => 264 | 146 => 266 | 51 => 254 | n => n, fun | 1 => 3 | 3 => 4 | 4 => 5 | n => n⟩
def Tryz.lays146_ren : Go.Shelf.Ren := ⟨fun | 146 => 66 | 221 => 163 | 268 => 228 | 138 => 229 | 143 => 230 | 195 => 253 | 197 => 254 | 218 => 255 | 219 => 256 | 260 => 269 | 217 => 270 | 225 => 271 | 224 => 272 | 267 => 273 | 266 => 277 | 314 => 278 | n => n, fun | 9 => 9 | 31 => 95 | 3 => 3 | 4 => 4 | 0 => 0 | 105 => 242 | 21 => 21 | 5 => 5 | 46 => 193 | 119 => 262 | 139 => 265 | 138 => 264 | 146 => 266 | 51 => 254 | n => n, fun | 1 => 3 | 3 => 4 | 4 => 5 | n => n⟩
def Tryz.laysM146_ren : Go.Shelf.Ren := ⟨fun | 146 => 66 | 221 => 163 | 268 => 228 | 138 => 229 | 143 => 230 | 195 => 253 | 197 => 254 | 218 => 255 | 219 => 256 | 260 => 269 | 217 => 270 | 225 => 271 | 224 => 272 | 267 => 273 | 266 => 277 | 314 => 278 | n => n, fun | 9 => 9 | 31 => 95 | 3 => 3 | 4 => 4 | 0 => 0 | 105 => 242 | 21 => 21 | 5 => 5 | 46 => 193 | 119 => 262 | 139 => 265 | 138 => 264 | 146 => 266 | 51 => 254 | n => n, fun | 1 => 3 | 3 => 4 | 4 => 5 | n => n⟩
def Tryz.lays197_ren : Go.Shelf.Ren := ⟨fun | 197 => 254 | 260 => 269 | n => n, fun | 9 => 9 | 21 => 21 | 3 => 3 | 4 => 4 | 5 => 5 | 105 => 242 | 119 => 262 | 0 => 0 | 46 => 193 | 139 => 265 | 138 => 264 | n => n, fun | 3 => 4 | 4 => 5 | n => n⟩
def Tryz.lays268_ren : Go.Shelf.Ren := ⟨fun | 268 => 228 | 195 => 253 | 197 => 254 | 260 => 269 | n => n, fun | 9 => 9 | 3 => 3 | 31 => 95 | 4 => 4 | 105 => 242 | 21 => 21 | 0 => 0 | 5 => 5 | 119 => 262 | 46 => 193 | 139 => 265 | 138 => 264 | n => n, fun | 3 => 4 | 4 => 5 | n => n⟩
def Tryz.lays260_ren : Go.Shelf.Ren := ⟨fun | 260 => 269 | n => n, fun | 9 => 9 | 21 => 21 | 3 => 3 | 4 => 4 | 5 => 5 | 119 => 262 | 0 => 0 | 46 => 193 | 139 => 265 | 138 => 264 | n => n, fun | 3 => 4 | 4 => 5 | n => n⟩
end Go.Proofs
set_option maxRecDepth 100000
namespace Go.Proofs.YtbladfkakmdigaaGreatDoor
open Go.SX
def KK : Nat → Option KSpec
  | 102 => some kJoin
  | 277 => some kIndexByteString
  | 255 => some kCountString
  | 259 => some kNoEscape
  | _ => none
theorem has102 : Has Tryz.prog 102 := ⟨Tryz.f102, Tryz.func102, by kernel_rfl, by kernel_rfl⟩
theorem KKok (I : World → Prop) : ∀ f sp, KK f = some sp → KOk Tryz.prog I f sp := by
  intro f sp h
  unfold KK at h
  split at h
  · cases h
    exact kJoin_ok has102 (fun a c sep w => Tryz.strings_Join_none a c sep w) fun bk o c xs sep w h1 h2 h3 h4 h5 => Tryz.strings_Join bk o c xs sep w h1 h2 h3 h4 h5
  · cases h
    exact kIndexByteString_ok Tryz.func277 (by kernel_rfl) (by kernel_rfl) (by kernel_rfl) (by kernel_rfl)
  · cases h
    exact kCountString_ok Tryz.func255 (by kernel_rfl) (by kernel_rfl) (by kernel_rfl) (by kernel_rfl)
  · cases h
    exact kNoEscape_ok Tryz.func259 (by kernel_rfl) (by kernel_rfl) (by kernel_rfl) (by kernel_rfl)
  · cases h
def I13 (w : World) : Prop := ∀ g cells, GG g = some cells → ∀ i u, cells[i]? = some u → w.cell? ⟨g, i, none⟩ = some u
theorem I13.mod {w w' : World} (h : I13 w) (hm : Mod w w' fun _ => False) : I13 w' := by
  intro g cells hg i u hu
  have h1 := h g cells hg i u hu
  have h2 := hm.block g (cell_lt h1) id
  simp only [World.cell?] at h1 ⊢
  rw [h2]
  exact h1
theorem wrap8 (x : Int) : 0 ≤ IntKind.u8.wrap x ∧ IntKind.u8.wrap x ≤ 255 := by
  have h2 : IntKind.u8.wrap x = x % 256 := by simp [IntKind.wrap, IntKind.signed, IntKind.bits]
  rw [h2]; omega
end Go.Proofs.YtbladfkakmdigaaGreatDoor
set_option maxRecDepth 100000
namespace Go.Proofs.YtbladfkakmdigaaGreatDoor
open Go.SX
def low (c : Int) : Int := IntKind.u8.wrap (BitVec.ofInt IntKind.u8.bits c ||| BitVec.ofInt IntKind.u8.bits 32).toNat
theorem low_range (c : Int) : 0 ≤ low c ∧ low c ≤ 255 := wrap8 _
theorem lower_ret (c : Int) (w : World) : Ret Tryz.prog 251 [.int .u8 c] w (.int .u8 (low c)) := by
  refine Ret.tj (I := fun _ => True) (fun _ _ => trivial) (TTok 0 _) Tryz.func251 (by kernel_rfl) rfl ?_
  repeat' ((conv => whnf); first | (with_reducible first | refine TJ.seq ?_ | refine TJ.region (TTok _ _) ?_ | refine TJ.drawn (TTok _ _) mixed ?_ | refine TJ.cond rfl ?_ | refine TJ.block ?_ | refine TJ.loop ?_ | refine LJ.step ?_ | refine TJ.ret ?_ | refine TJ.exit ?_ | refine TJ.skip ?_ | refine TJ.scope ?_ | refine TJ.label ?_ | refine Nm.keep ?_))
  all_goals (conv => whnf)
  all_goals rfl
def badV : Value := .tuple #[.int .u64 0, .iface 209 (.int .i64 2)]
def greatV (max : Int) : Value := .tuple #[.int .u64 max, .iface 209 (.int .i64 1)]
def goodV (n : Int) : Value := .tuple #[.int .u64 n, .nilIface]
def dig (c : Int) : Option Int := if 48 ≤ c ∧ c ≤ 57 then some (c - 48) else if 97 ≤ low c ∧ low c ≤ 122 then some (low c - 97 + 10) else none
def puR (base max : Int) : Int → List Int → Value
  | n, [] => goodV n
  | n, c :: r => match dig c with
    | none => badV
    | some d => if base ≤ d then badV else if max < n * base + d then greatV max else puR base max (n * base + d) r
theorem subL_byt (ns : List Int) (q : Nat) (n : Int) (h : ns[q]? = some n) : subL (byt ns) q 1 = some [.v (.int .u8 n)] := by
  induction ns generalizing q with
  | nil => simp at h
  | cons m r ih =>
    cases q with
    | zero =>
      simp only [List.getElem?_cons_zero, Option.some.injEq] at h
      subst h
      cases r <;> rfl
    | succ q =>
      simp only [byt, List.map_cons, subL]
      exact ih q (by simpa using h)
theorem sInts_get (s : ByteArray) (q : Nat) (h : q < s.size) : (sInts s)[q]? = some (bAt s q) := by
  have h' : q < s.data.toList.length := by simpa using h
  simp only [sInts, List.getElem?_map, List.getElem?_eq_getElem h', Option.map_some, bAt, Int.toNat_natCast, List.getD, Option.getD_some]
theorem bAt_range (s : ByteArray) (q : Int) : 0 ≤ bAt s q ∧ bAt s q ≤ 255 := by
  unfold bAt
  have := (s.data.toList.getD q.toNat 0).toNat_lt
  omega
def pbase (v6 : Bool) : Int := if v6 then 16 else 10
def pbits (v6 : Bool) : Int := if v6 then 16 else 8
def pmax (v6 : Bool) : Int := if v6 then 65535 else 255
def puV (v6 : Bool) (s : ByteArray) : Value := if s.size = 0 then badV else puR (pbase v6) (pmax v6) 0 (sInts s)
theorem dig_a {c : Int} (h : 48 ≤ c ∧ c ≤ 57) : dig c = some (c - 48) := by rw [dig, if_pos h]
theorem dig_b {c : Int} (h : ¬ (48 ≤ c ∧ c ≤ 57)) (h2 : 97 ≤ low c ∧ low c ≤ 122) : dig c = some (low c - 97 + 10) := by rw [dig, if_neg h, if_pos h2]
theorem dig_n {c : Int} (h : ¬ (48 ≤ c ∧ c ≤ 57)) (h2 : ¬ (97 ≤ low c ∧ low c ≤ 122)) : dig c = none := by rw [dig, if_neg h, if_neg h2]
theorem puR_bad1 {b m n c : Int} {r : List Int} (h : dig c = none) : puR b m n (c :: r) = badV := by simp only [puR, h]
theorem puR_bad2 {b m n c d : Int} {r : List Int} (h : dig c = some d) (hb : b ≤ d) : puR b m n (c :: r) = badV := by simp only [puR, h, if_pos hb]
theorem puR_great {b m n c d : Int} {r : List Int} (h : dig c = some d) (hb : ¬ b ≤ d) (hm : m < n * b + d) : puR b m n (c :: r) = greatV m := by simp only [puR, h, if_neg hb, if_pos hm]
theorem puR_go {b m n c d : Int} {r : List Int} (h : dig c = some d) (hb : ¬ b ≤ d) (hm : ¬ m < n * b + d) : puR b m n (c :: r) = puR b m (n * b + d) r := by simp only [puR, h, if_neg hb, if_neg hm]
theorem drop_bAt (s : ByteArray) (q : Int) (h0 : 0 ≤ q) (h1 : q < s.size) : (sInts s).drop q.toNat = bAt s q :: (sInts s).drop (q + 1).toNat := by
  have hl : q.toNat < (sInts s).length := by rw [sInts_length]; omega
  have h2 := sInts_get s q.toNat (by omega)
  rw [show ((q.toNat : Nat) : Int) = q by omega, List.getElem?_eq_getElem hl] at h2
  rw [List.drop_eq_getElem_cons hl, Option.some.inj h2, show (q + 1).toNat = q.toNat + 1 by omega]
end Go.Proofs.YtbladfkakmdigaaGreatDoor
set_option maxRecDepth 100000
namespace Go.Proofs.YtbladfkakmdigaaGreatDoor
open Go.SX
set_option maxHeartbeats 4000000 in
theorem pu_ret6 (s : ByteArray) (w : World) (hs : s.size < 4294967281) : Ret Tryz.prog 227 [.string s, .int .i64 16, .int .i64 16] w (if s = ⟨#[]⟩ then badV else puR 16 65535 0 (sInts s)) := by
  have low1 : ∀ c w, Ret Tryz.prog 251 [.int .u8 c] w (.int .u8 (low c)) := fun c w => lower_ret c w
  refine Ret.of (I := fun _ => True) (fun _ _ => trivial) (TTok 0 _) Tryz.func227 (by kernel_rfl) rfl rfl ?_
  repeat' ((conv => whnf); first | (with_reducible first | refine TR.seq ?_ | refine TR.region (TTok _ _) ?_ | refine TR.drawn (TTok _ _) mixed ?_ | refine TR.block ?_ | refine TR.ret ?_ | refine TR.exit ?_ | refine TR.skip ?_ | refine TR.condB rfl ?_ | refine Br.cond_t ?_ | refine Br.cond_f ?_ | refine Br.yes (by first | decide | assumption | (apply decide_eq_true; omega)) ?_ | refine Br.non (by first | decide | assumption | (apply decide_eq_false; omega)) ?_ | refine Br.cond_ff ?_ | refine Br.eqT (by omega) ?_ | refine Br.eqF (by omega) ?_ | refine Br.neT (by omega) ?_ | refine Br.neF (by omega) ?_ | refine Br.dec (fun hc => ?_) (fun hc => ?_) | refine Nm.mk' 65535 (by decide) ?_ | refine Ld.mk' _ rfl ?_ | refine Need.mk (by first | decide | omega | kernel_rfl) ?_ | refine Nm.i64 (by omega) ?_ | refine Nm.u64 (by omega) ?_ | refine Nm.u8 (by omega) ?_ | refine Sh.shrL ?_ | refine Sh.shlL ?_ | refine Nm.fd (by decide) ?_ | refine x_str_bytes (d := 5) (TTok _ _) rfl rfl rfl rfl rfl rfl rfl rfl rfl ?_))
  · (conv => whnf)
    rw [if_pos hc]
    rfl
  rw [if_neg hc]
  have hlen : (sInts s).length = s.size := sInts_length s
  refine TR.loopH (fun x : Int × Int => [(101, .v (.int .i64 x.1)), (13, .v (.int .u64 x.2)), (12, .v (.bool false))]) (fun _ => []) (fun x => 0 ≤ x.1 ∧ x.1 ≤ s.size ∧ 0 ≤ x.2 ∧ x.2 ≤ 65535 ∧ puR 16 65535 x.2 ((sInts s).drop x.1.toNat) = puR 16 65535 0 (sInts s)) (fun x => (s.size - x.1).toNat) (0, 0) ⟨by omega, by omega, by omega, by omega, by simp⟩ ?_ ?_
  · repeat' ((conv => whnf); first | exact trivial | exact Fgt.nil | exact Fgt.mk rfl rfl rfl | refine And.intro rfl ?_ | refine And.intro ?_ ?_)
  · rintro ⟨q, n⟩ ⟨q0, q1, n0, n1, hV⟩
    simp only at q0 q1 n0 n1 hV
    have hb := bAt_range s q
    have hl := low_range (bAt s q)
    repeat' ((conv => whnf); first | (with_reducible first | refine TR.seq ?_ | refine TR.region (TTok _ _) ?_ | refine TR.drawn (TTok _ _) mixed ?_ | refine TR.block ?_ | refine TR.ret ?_ | refine TR.exit ?_ | refine TR.skip ?_ | refine TR.condB rfl ?_ | refine Br.cond_t ?_ | refine Br.cond_f ?_ | refine Br.yes (by first | decide | assumption | (apply decide_eq_true; omega)) ?_ | refine Br.non (by first | decide | assumption | (apply decide_eq_false; omega)) ?_ | refine Br.cond_ff ?_ | refine Br.eqT (by omega) ?_ | refine Br.eqF (by omega) ?_ | refine Br.neT (by omega) ?_ | refine Br.neF (by omega) ?_ | refine Ld.mk' _ rfl ?_ | refine Need.mk (by first | decide | omega | kernel_rfl) ?_ | refine Nm.i64 (by omega) ?_ | refine Nm.u64 (by omega) ?_ | refine Nm.u8 (by omega) ?_ | refine Br.dec (fun hc => ?_) (fun hc => ?_) | refine Br.eq (fun hc => ?_) (fun hc => ?_) | refine Br.ne (fun hc => ?_) (fun hc => ?_) | refine Br.mk (fun hc => ?_) (fun hc => ?_) | refine x_ret (f := 251) rfl rfl (fun w _ => low1 _ w) ?_) | refine Ld.mk' [.v (.int .u8 (bAt s q))] (by have h := subL_byt (sInts s) q.toNat (bAt s q) (by have := sInts_get s q.toNat (by omega); rwa [show ((q.toNat : Nat) : Int) = q by omega] at this); rw [show q.toNat = 0 * 1 + q.toNat * 1 by omega] at h; exact h) ?_)
    all_goals (conv => whnf)
    all_goals dsimp only at *
    all_goals try
      have hd := drop_bAt s q q0 (by omega)
      first
        | (have e := puR_bad1 (b := 16) (m := 65535) (n := n) (r := (sInts s).drop (q + 1).toNat) (dig_n (c := bAt s q) (by omega) (by omega)); rw [← hV, hd, e]; rfl)
        | (have e := puR_bad2 (b := 16) (m := 65535) (n := n) (r := (sInts s).drop (q + 1).toNat) (dig_a (c := bAt s q) (by omega)) (by omega); rw [← hV, hd, e]; rfl)
        | (have e := puR_bad2 (b := 16) (m := 65535) (n := n) (r := (sInts s).drop (q + 1).toNat) (dig_b (c := bAt s q) (by omega) (by omega)) (by omega); rw [← hV, hd, e]; rfl)
        | (have e := puR_great (b := 16) (m := 65535) (n := n) (r := (sInts s).drop (q + 1).toNat) (dig_a (c := bAt s q) (by omega)) (by omega) (by omega); rw [← hV, hd, e]; rfl)
        | (have e := puR_great (b := 16) (m := 65535) (n := n) (r := (sInts s).drop (q + 1).toNat) (dig_b (c := bAt s q) (by omega) (by omega)) (by omega) (by omega); rw [← hV, hd, e]; rfl)
        | (have e := puR_go (b := 16) (m := 65535) (n := n) (r := (sInts s).drop (q + 1).toNat) (dig_a (c := bAt s q) (by omega)) (by omega) (by omega)
           refine ⟨(q + 1, n * 16 + (bAt s q - 48)), ⟨by dsimp only; omega, by dsimp only; omega, by dsimp only; omega, by dsimp only; omega, by dsimp only; rw [← hV, hd, e]⟩, by dsimp only; omega, ?_⟩
           repeat' ((conv => whnf); first | exact trivial | exact Fgt.nil | exact Fgt.mk rfl rfl rfl | refine And.intro rfl ?_ | refine And.intro ?_ ?_))
        | (have e := puR_go (b := 16) (m := 65535) (n := n) (r := (sInts s).drop (q + 1).toNat) (dig_b (c := bAt s q) (by omega) (by omega)) (by omega) (by omega)
           refine ⟨(q + 1, n * 16 + (low (bAt s q) - 97 + 10)), ⟨by dsimp only; omega, by dsimp only; omega, by dsimp only; omega, by dsimp only; omega, by dsimp only; rw [← hV, hd, e]⟩, by dsimp only; omega, ?_⟩
           repeat' ((conv => whnf); first | exact trivial | exact Fgt.nil | exact Fgt.mk rfl rfl rfl | refine And.intro rfl ?_ | refine And.intro ?_ ?_))
    all_goals
      have e : (sInts s).drop q.toNat = [] := List.drop_eq_nil_of_le (by rw [hlen]; omega)
      rw [← hV, e]
      rfl
set_option maxHeartbeats 4000000 in
theorem pu_ret4 (s : ByteArray) (w : World) (hs : s.size < 4294967281) : Ret Tryz.prog 227 [.string s, .int .i64 10, .int .i64 8] w (if s = ⟨#[]⟩ then badV else puR 10 255 0 (sInts s)) := by
  have low1 : ∀ c w, Ret Tryz.prog 251 [.int .u8 c] w (.int .u8 (low c)) := fun c w => lower_ret c w
  refine Ret.of (I := fun _ => True) (fun _ _ => trivial) (TTok 0 _) Tryz.func227 (by kernel_rfl) rfl rfl ?_
  repeat' ((conv => whnf); first | (with_reducible first | refine TR.seq ?_ | refine TR.region (TTok _ _) ?_ | refine TR.drawn (TTok _ _) mixed ?_ | refine TR.block ?_ | refine TR.ret ?_ | refine TR.exit ?_ | refine TR.skip ?_ | refine TR.condB rfl ?_ | refine Br.cond_t ?_ | refine Br.cond_f ?_ | refine Br.yes (by first | decide | assumption | (apply decide_eq_true; omega)) ?_ | refine Br.non (by first | decide | assumption | (apply decide_eq_false; omega)) ?_ | refine Br.cond_ff ?_ | refine Br.eqT (by omega) ?_ | refine Br.eqF (by omega) ?_ | refine Br.neT (by omega) ?_ | refine Br.neF (by omega) ?_ | refine Br.dec (fun hc => ?_) (fun hc => ?_) | refine Nm.mk' 255 (by decide) ?_ | refine Ld.mk' _ rfl ?_ | refine Need.mk (by first | decide | omega | kernel_rfl) ?_ | refine Nm.i64 (by omega) ?_ | refine Nm.u64 (by omega) ?_ | refine Nm.u8 (by omega) ?_ | refine Sh.shrL ?_ | refine Sh.shlL ?_ | refine Nm.fd (by decide) ?_ | refine x_str_bytes (d := 5) (TTok _ _) rfl rfl rfl rfl rfl rfl rfl rfl rfl ?_))
  · (conv => whnf)
    rw [if_pos hc]
    rfl
  rw [if_neg hc]
  have hlen : (sInts s).length = s.size := sInts_length s
  refine TR.loopH (fun x : Int × Int => [(101, .v (.int .i64 x.1)), (13, .v (.int .u64 x.2)), (12, .v (.bool false))]) (fun _ => []) (fun x => 0 ≤ x.1 ∧ x.1 ≤ s.size ∧ 0 ≤ x.2 ∧ x.2 ≤ 255 ∧ puR 10 255 x.2 ((sInts s).drop x.1.toNat) = puR 10 255 0 (sInts s)) (fun x => (s.size - x.1).toNat) (0, 0) ⟨by omega, by omega, by omega, by omega, by simp⟩ ?_ ?_
  · repeat' ((conv => whnf); first | exact trivial | exact Fgt.nil | exact Fgt.mk rfl rfl rfl | refine And.intro rfl ?_ | refine And.intro ?_ ?_)
  · rintro ⟨q, n⟩ ⟨q0, q1, n0, n1, hV⟩
    simp only at q0 q1 n0 n1 hV
    have hb := bAt_range s q
    have hl := low_range (bAt s q)
    repeat' ((conv => whnf); first | (with_reducible first | refine TR.seq ?_ | refine TR.region (TTok _ _) ?_ | refine TR.drawn (TTok _ _) mixed ?_ | refine TR.block ?_ | refine TR.ret ?_ | refine TR.exit ?_ | refine TR.skip ?_ | refine TR.condB rfl ?_ | refine Br.cond_t ?_ | refine Br.cond_f ?_ | refine Br.yes (by first | decide | assumption | (apply decide_eq_true; omega)) ?_ | refine Br.non (by first | decide | assumption | (apply decide_eq_false; omega)) ?_ | refine Br.cond_ff ?_ | refine Br.eqT (by omega) ?_ | refine Br.eqF (by omega) ?_ | refine Br.neT (by omega) ?_ | refine Br.neF (by omega) ?_ | refine Ld.mk' _ rfl ?_ | refine Need.mk (by first | decide | omega | kernel_rfl) ?_ | refine Nm.i64 (by omega) ?_ | refine Nm.u64 (by omega) ?_ | refine Nm.u8 (by omega) ?_ | refine Br.dec (fun hc => ?_) (fun hc => ?_) | refine Br.eq (fun hc => ?_) (fun hc => ?_) | refine Br.ne (fun hc => ?_) (fun hc => ?_) | refine Br.mk (fun hc => ?_) (fun hc => ?_) | refine x_ret (f := 251) rfl rfl (fun w _ => low1 _ w) ?_) | refine Ld.mk' [.v (.int .u8 (bAt s q))] (by have h := subL_byt (sInts s) q.toNat (bAt s q) (by have := sInts_get s q.toNat (by omega); rwa [show ((q.toNat : Nat) : Int) = q by omega] at this); rw [show q.toNat = 0 * 1 + q.toNat * 1 by omega] at h; exact h) ?_)
    all_goals (conv => whnf)
    all_goals dsimp only at *
    all_goals try
      have hd := drop_bAt s q q0 (by omega)
      first
        | (have e := puR_bad1 (b := 10) (m := 255) (n := n) (r := (sInts s).drop (q + 1).toNat) (dig_n (c := bAt s q) (by omega) (by omega)); rw [← hV, hd, e]; rfl)
        | (have e := puR_bad2 (b := 10) (m := 255) (n := n) (r := (sInts s).drop (q + 1).toNat) (dig_a (c := bAt s q) (by omega)) (by omega); rw [← hV, hd, e]; rfl)
        | (have e := puR_bad2 (b := 10) (m := 255) (n := n) (r := (sInts s).drop (q + 1).toNat) (dig_b (c := bAt s q) (by omega) (by omega)) (by omega); rw [← hV, hd, e]; rfl)
        | (have e := puR_great (b := 10) (m := 255) (n := n) (r := (sInts s).drop (q + 1).toNat) (dig_a (c := bAt s q) (by omega)) (by omega) (by omega); rw [← hV, hd, e]; rfl)
        | (have e := puR_great (b := 10) (m := 255) (n := n) (r := (sInts s).drop (q + 1).toNat) (dig_b (c := bAt s q) (by omega) (by omega)) (by omega) (by omega); rw [← hV, hd, e]; rfl)
        | (have e := puR_go (b := 10) (m := 255) (n := n) (r := (sInts s).drop (q + 1).toNat) (dig_a (c := bAt s q) (by omega)) (by omega) (by omega)
           refine ⟨(q + 1, n * 10 + (bAt s q - 48)), ⟨by dsimp only; omega, by dsimp only; omega, by dsimp only; omega, by dsimp only; omega, by dsimp only; rw [← hV, hd, e]⟩, by dsimp only; omega, ?_⟩
           repeat' ((conv => whnf); first | exact trivial | exact Fgt.nil | exact Fgt.mk rfl rfl rfl | refine And.intro rfl ?_ | refine And.intro ?_ ?_))
        | (have e := puR_go (b := 10) (m := 255) (n := n) (r := (sInts s).drop (q + 1).toNat) (dig_b (c := bAt s q) (by omega) (by omega)) (by omega) (by omega)
           refine ⟨(q + 1, n * 10 + (low (bAt s q) - 97 + 10)), ⟨by dsimp only; omega, by dsimp only; omega, by dsimp only; omega, by dsimp only; omega, by dsimp only; rw [← hV, hd, e]⟩, by dsimp only; omega, ?_⟩
           repeat' ((conv => whnf); first | exact trivial | exact Fgt.nil | exact Fgt.mk rfl rfl rfl | refine And.intro rfl ?_ | refine And.intro ?_ ?_))
    all_goals
      have e : (sInts s).drop q.toNat = [] := List.drop_eq_nil_of_le (by rw [hlen]; omega)
      rw [← hV, e]
      rfl
end Go.Proofs.YtbladfkakmdigaaGreatDoor
set_option maxRecDepth 100000
namespace Go.Proofs.YtbladfkakmdigaaGreatDoor
open Go.SX
def GE (u2 : TypeId) (v2 : Value) (u3 : TypeId) (v3 : Value) : Nat → Option (List Value)
  | 0 => some [.iface u2 v2]
  | 1 => some [.iface u3 v3]
  | _ => none
def IE (u2 : TypeId) (v2 : Value) (u3 : TypeId) (v3 : Value) (w : World) : Prop := w.cell? ⟨0, 0, none⟩ = some (.iface u2 v2) ∧ w.cell? ⟨1, 0, none⟩ = some (.iface u3 v3)
theorem GE_ok {u2 v2 u3 v3} : ∀ w, IE u2 v2 u3 v3 w → ∀ g cells, GE u2 v2 u3 v3 g = some cells → ∀ i u, cells[i]? = some u → w.cell? ⟨g, i, none⟩ = some u := by
  intro w hw g cells hg i u hu
  unfold GE at hg
  split at hg
  · cases hg
    cases i with
    | zero => simp at hu; rw [← hu]; exact hw.1
    | succ i => simp at hu
  · cases hg
    cases i with
    | zero => simp at hu; rw [← hu]; exact hw.2
    | succ i => simp at hu
  · cases hg
theorem IE.mod {u2 v2 u3 v3} {w w' : World} (h : IE u2 v2 u3 v3 w) (hm : Mod w w' fun _ => False) : IE u2 v2 u3 v3 w' := by
  obtain ⟨h1, h2⟩ := h
  have k : ∀ g u, w.cell? ⟨g, 0, none⟩ = some u → w'.cell? ⟨g, 0, none⟩ = some u := by
    intro g u hg
    have hb := hm.block g (cell_lt hg) id
    simp only [World.cell?] at hg ⊢
    rw [hb]
    exact hg
  exact ⟨k 0 _ h1, k 1 _ h2⟩
theorem clone_ret (s : ByteArray) (w : World) (hs : s.size < 4294967281) : Ret Tryz.prog 243 [.string s] w (.string s) :=
  Ret.shelf Tryz.func243 (by kernel_rfl) (by kernel_rfl) (Tryz.stringslite_Clone s w (by omega))
def PU : ByteArray := ⟨#[80, 97, 114, 115, 101, 85, 105, 110, 116]⟩
theorem toErr_ret (s : ByteArray) (hs : s.size < 4294967281) (base bits e : Int) (he : e = 1 ∨ e = 2) {u2 v2 u3 v3} (w : World) (hI : IE u2 v2 u3 v3 w) :
    RetA Tryz.prog 114 [.string PU, .string s, .int .i64 base, .int .i64 bits, .iface 209 (.int .i64 e)] w (.ifc 212 .dead) := by
  have cl : ∀ w, Ret Tryz.prog 243 [.string s] w (.string s) := fun w => clone_ret s w hs
  rcases he with rfl | rfl
  all_goals refine RetA.tj (I := IE u2 v2 u3 v3) (fun w' hm => hI.mod hm) (TTok 0 _) Tryz.func114 (by kernel_rfl) rfl ?_
  all_goals repeat' ((conv => whnf); first | (with_reducible first | refine TJ.seq ?_ | refine TJ.region (TTok _ _) ?_ | refine TJ.drawn (TTok _ _) mixed ?_ | refine TJ.cond rfl ?_ | refine TJ.block ?_ | refine TJ.loop ?_ | refine LJ.step ?_ | refine TJ.ret ?_ | refine TJ.exit ?_ | refine TJ.skip ?_ | refine TJ.scope ?_ | refine TJ.label ?_ | refine Br.cond_t ?_ | refine Br.cond_f ?_ | refine Br.yes (by first | decide | assumption | (apply decide_eq_true; omega)) ?_ | refine Br.non (by first | decide | assumption | (apply decide_eq_false; omega)) ?_ | refine Br.cond_ff ?_ | refine Br.eqT (by omega) ?_ | refine Br.eqF (by omega) ?_ | refine Br.neT (by omega) ?_ | refine Br.neF (by omega) ?_ | refine Ld.mk' _ rfl ?_ | refine Need.mk (by first | decide | omega | kernel_rfl) ?_ | refine Nm.i64 (by omega) ?_ | refine Nm.u64 (by omega) ?_ | refine Nm.u8 (by omega) ?_ | refine x_eq_ifc_int (TTok _ _) .eql (.inl rfl) rfl rfl rfl rfl rfl rfl rfl (by kernel_rfl) ?_ | refine x_ret (f := 243) rfl rfl (fun w _ => cl w) ?_ | refine x_call (f := 198) (TTok _ _) rfl rfl Tryz.func198 (by kernel_rfl) rfl ?_ | refine x_call (f := 199) (TTok _ _) rfl rfl Tryz.func199 (by kernel_rfl) rfl ?_) | refine x_exG (G := GE u2 v2 u3 v3) (TTok _ _) GE_ok ?_)
  all_goals (conv => whnf)
  all_goals rfl
theorem pu29_good (s : ByteArray) (B T k : Int) (h40 : ∀ w, Ret Tryz.prog 227 [.string s, .int .i64 B, .int .i64 T] w (goodV k)) (w : World) : Ret Tryz.prog 162 [.string s, .int .i64 B, .int .i64 T] w (goodV k) := by
  refine Ret.tj (I := fun _ => True) (fun _ _ => trivial) (TTok 0 _) Tryz.func162 (by kernel_rfl) rfl ?_
  repeat' ((conv => whnf); first | (with_reducible first | refine TJ.seq ?_ | refine TJ.region (TTok _ _) ?_ | refine TJ.drawn (TTok _ _) mixed ?_ | refine TJ.cond rfl ?_ | refine TJ.block ?_ | refine TJ.loop ?_ | refine LJ.step ?_ | refine TJ.ret ?_ | refine TJ.exit ?_ | refine TJ.skip ?_ | refine TJ.scope ?_ | refine TJ.label ?_ | refine Br.cond_t ?_ | refine Br.cond_f ?_ | refine Br.yes (by first | decide | assumption | (apply decide_eq_true; omega)) ?_ | refine Br.non (by first | decide | assumption | (apply decide_eq_false; omega)) ?_ | refine Br.cond_ff ?_ | refine Br.eqT (by omega) ?_ | refine Br.eqF (by omega) ?_ | refine Br.neT (by omega) ?_ | refine Br.neF (by omega) ?_ | refine Ld.mk' _ rfl ?_ | refine Need.mk (by first | decide | omega | kernel_rfl) ?_ | refine Nm.i64 (by omega) ?_ | refine Nm.u64 (by omega) ?_ | refine Nm.u8 (by omega) ?_ | refine x_ret (f := 227) rfl rfl (fun w _ => h40 w) ?_))
  all_goals (conv => whnf)
  all_goals rfl
theorem pu29_bad (s : ByteArray) (hs : s.size < 4294967281) (B T x e : Int) (he : e = 1 ∨ e = 2) (h40 : ∀ w, Ret Tryz.prog 227 [.string s, .int .i64 B, .int .i64 T] w (.tuple #[.int .u64 x, .iface 209 (.int .i64 e)])) {u2 v2 u3 v3} (w : World) (hI : IE u2 v2 u3 v3 w) :
    RetA Tryz.prog 162 [.string s, .int .i64 B, .int .i64 T] w (.tup [.v (.int .u64 x), .ifc 212 .dead]) := by
  refine RetA.tj (I := IE u2 v2 u3 v3) (fun w' hm => hI.mod hm) (TTok 0 _) Tryz.func162 (by kernel_rfl) rfl ?_
  repeat' ((conv => whnf); first | (with_reducible first | refine TJ.seq ?_ | refine TJ.region (TTok _ _) ?_ | refine TJ.drawn (TTok _ _) mixed ?_ | refine TJ.cond rfl ?_ | refine TJ.block ?_ | refine TJ.loop ?_ | refine LJ.step ?_ | refine TJ.ret ?_ | refine TJ.exit ?_ | refine TJ.skip ?_ | refine TJ.scope ?_ | refine TJ.label ?_ | refine Br.cond_t ?_ | refine Br.cond_f ?_ | refine Br.yes (by first | decide | assumption | (apply decide_eq_true; omega)) ?_ | refine Br.non (by first | decide | assumption | (apply decide_eq_false; omega)) ?_ | refine Br.cond_ff ?_ | refine Br.eqT (by omega) ?_ | refine Br.eqF (by omega) ?_ | refine Br.neT (by omega) ?_ | refine Br.neF (by omega) ?_ | refine Ld.mk' _ rfl ?_ | refine Need.mk (by first | decide | omega | kernel_rfl) ?_ | refine Nm.i64 (by omega) ?_ | refine Nm.u64 (by omega) ?_ | refine Nm.u8 (by omega) ?_ | refine x_ret (f := 227) rfl rfl (fun w _ => h40 w) ?_ | refine x_retA (f := 114) rfl rfl (fun w hw => toErr_ret s hs B T e he w hw) ?_))
  all_goals (conv => whnf)
  all_goals rfl
end Go.Proofs.YtbladfkakmdigaaGreatDoor
set_option maxRecDepth 100000
namespace Go.Proofs.YtbladfkakmdigaaGreatDoor
open Go.SX
def puO (base max : Int) : Int → List Int → Option Int
  | n, [] => some n
  | n, c :: r => match dig c with
    | none => none
    | some d => if base ≤ d then none else if max < n * base + d then none else puO base max (n * base + d) r
def puN (v6 : Bool) (p : ByteArray) : Option Int := if p = ⟨#[]⟩ then none else puO (pbase v6) (pmax v6) 0 (sInts p)
theorem puR_of (base max : Int) (hb : 0 ≤ base) (hm : 0 ≤ max) : ∀ (l : List Int) (n : Int), 0 ≤ n → n ≤ max → (∃ k, puO base max n l = some k ∧ 0 ≤ k ∧ k ≤ max ∧ puR base max n l = goodV k) ∨ (puO base max n l = none ∧ ∃ x e, (e = 1 ∨ e = 2) ∧ puR base max n l = .tuple #[.int .u64 x, .iface 209 (.int .i64 e)])
  | [], n, h0, h1 => .inl ⟨n, rfl, h0, h1, rfl⟩
  | c :: r, n, h0, h1 => by
    simp only [puO, puR]
    cases hd : dig c with
    | none => exact .inr ⟨rfl, 0, 2, .inr rfl, rfl⟩
    | some d =>
      have hd0 : 0 ≤ d := by
        unfold dig at hd
        split at hd
        · cases hd; omega
        · split at hd
          · cases hd; omega
          · cases hd
      simp only
      split
      · exact .inr ⟨rfl, 0, 2, .inr rfl, rfl⟩
      · split
        · exact .inr ⟨rfl, max, 1, .inl rfl, rfl⟩
        · have := Int.mul_nonneg h0 hb
          exact puR_of base max hb hm r (n * base + d) (by omega) (by omega)
theorem part_cases (v6 : Bool) (p : ByteArray) (hp : p.size < 4294967281) :
    (∃ k, puN v6 p = some k ∧ 0 ≤ k ∧ k ≤ pmax v6 ∧ ∀ w, Ret Tryz.prog 162 [.string p, .int .i64 (pbase v6), .int .i64 (pbits v6)] w (goodV k)) ∨
    (puN v6 p = none ∧ ∃ x, ∀ u2 v2 u3 v3 w, IE u2 v2 u3 v3 w → RetA Tryz.prog 162 [.string p, .int .i64 (pbase v6), .int .i64 (pbits v6)] w (.tup [.v (.int .u64 x), .ifc 212 .dead])) := by
  have h40 : ∀ w, Ret Tryz.prog 227 [.string p, .int .i64 (pbase v6), .int .i64 (pbits v6)] w (if p = ⟨#[]⟩ then badV else puR (pbase v6) (pmax v6) 0 (sInts p)) := fun w => by
    cases v6
    · exact pu_ret4 p w hp
    · exact pu_ret6 p w hp
  unfold puN
  by_cases he : p = ⟨#[]⟩
  · simp only [if_pos he] at h40
    rw [if_pos he]
    exact .inr ⟨rfl, 0, fun u2 v2 u3 v3 w hw => pu29_bad p hp _ _ 0 2 (.inr rfl) h40 w hw⟩
  · simp only [if_neg he] at h40
    rw [if_neg he]
    rcases puR_of (pbase v6) (pmax v6) (by cases v6 <;> decide) (by cases v6 <;> decide) (sInts p) 0 (by omega) (by cases v6 <;> decide) with ⟨k, h1, h2, h3, h4⟩ | ⟨h1, x, e, he, h4⟩
    · rw [h4] at h40
      exact .inl ⟨k, h1, h2, h3, fun w => pu29_good p _ _ k h40 w⟩
    · rw [h4] at h40
      exact .inr ⟨h1, x, fun u2 v2 u3 v3 w hw => pu29_bad p hp _ _ x e he h40 w hw⟩
def shlU (d a : Int) : Int := IntKind.u64.wrap (a * d)
def orU (a b : Int) : Int := IntKind.u64.wrap (BitVec.ofInt IntKind.u64.bits a ||| BitVec.ofInt IntKind.u64.bits b).toNat
theorem Nm.shlU {a d : Int} {f : Int → Prop} (k : f (shlU d a)) : Nm (IntKind.u64.wrap (a * d)) f := ⟨_, rfl, k⟩
theorem Nm.orU {a b : Int} {f : Int → Prop} (k : f (orU a b)) : Nm (IntKind.u64.wrap (BitVec.ofInt IntKind.u64.bits a ||| BitVec.ofInt IntKind.u64.bits b).toNat) f := ⟨_, rfl, k⟩
def IM (w : World) : Prop := ∃ m, w.cell? ⟨3, 0, none⟩ = some (.int .i64 m)
theorem IM.mod {w w' : World} (h : IM w) (hm : Mod w w' fun _ => False) : IM w' := by
  obtain ⟨m, h⟩ := h
  refine ⟨m, ?_⟩
  have hb := hm.block 3 (cell_lt h) id
  simp only [World.cell?] at h ⊢
  rw [hb]
  exact h
end Go.Proofs.YtbladfkakmdigaaGreatDoor
set_option maxRecDepth 100000
namespace Go.Proofs.YtbladfkakmdigaaGreatDoor
open Go.SX
theorem quiet249 : Quiet Tryz.prog 249 := by
  refine quiet_take (TTok 0 _) Tryz.func249 (by kernel_rfl) rfl rfl rfl rfl rfl rfl rfl (by decide) rfl ?_
  repeat' ((conv => whnf); first | (with_reducible first | refine TR.seq ?_ | refine TR.region (TTok _ _) ?_ | refine TR.drawn (TTok _ _) mixed ?_ | refine TR.block ?_ | refine TR.ret ?_ | refine TR.exit ?_ | refine TR.skip ?_ | refine TR.condB rfl ?_ | refine Br.cond_t ?_ | refine Br.cond_f ?_ | refine Br.yes (by first | decide | assumption | (apply decide_eq_true; omega)) ?_ | refine Br.non (by first | decide | assumption | (apply decide_eq_false; omega)) ?_ | refine Br.cond_ff ?_ | refine Br.eqT (by omega) ?_ | refine Br.eqF (by omega) ?_ | refine Br.neT (by omega) ?_ | refine Br.neF (by omega) ?_ | refine Ld.mk' _ rfl ?_ | refine Need.mk (by first | decide | omega | kernel_rfl) ?_ | refine Nm.i64 (by omega) ?_ | refine Nm.u64 (by omega) ?_ | refine Nm.u8 (by omega) ?_) | (refine x_exq (TTok _ _) ?_; (conv => whnf); fail_if_success (guard_target =ₛ False)))
  all_goals (conv => whnf)
  all_goals trace_state
def Kd : Nat → Bool
  | 249 => true
  | _ => false
theorem Kd_ok : ∀ f, Kd f = true → Quiet Tryz.prog f := by
  intro f h
  unfold Kd at h
  split at h
  · exact quiet249
  · cases h
def Ka : Nat → List Value → Option AV
  | 162, [.string s, .int .i64 (.ofNat 10), .int .i64 (.ofNat 8)] => match Nat.ble s.data.toList.length 1000 with
    | true => match puN false s with
      | some k => some (.v (.tuple #[.int .u64 k, .nilIface]))
      | none => some (.tup [.dead, .ifc 212 .dead])
    | false => none
  | _, _ => none
theorem Ka_ok {u2 v2 u3 v3} (I : World → Prop) (hI : ∀ w, I w → IE u2 v2 u3 v3 w) : ∀ f vs R, Ka f vs = some R → ∀ w, I w → RetA Tryz.prog f vs w R := by
  intro f vs R h w hw
  unfold Ka at h
  split at h
  · rename_i s
    split at h
    · rename_i hl
      have hs : s.size < 4294967281 := by
        have := Nat.le_of_ble_eq_true hl
        simp at this
        omega
      rcases part_cases false s hs with ⟨k, h1, _, _, h4⟩ | ⟨h1, x, h4⟩
      · rw [h1] at h
        cases h
        exact (h4 w).toA
      · rw [h1] at h
        cases h
        have := h4 _ _ _ _ w (hI w hw)
        refine ⟨this.has, this.run.mono fun e w' ⟨v, e1, e2, e3⟩ => ⟨v, e1, fun vs ez ρ => ?_, e3⟩⟩
        have g := e2 vs ez ρ
        simp only [rel] at g ⊢
        obtain ⟨xs, g1, g2⟩ := g
        refine ⟨xs, g1, ?_⟩
        match hx : xs.toList, g2 with
        | [a, b], g2 =>
          simp only [relL, rel] at g2 ⊢
          exact ⟨trivial, g2.2⟩
    · cases h
  · cases h
end Go.Proofs.YtbladfkakmdigaaGreatDoor
set_option maxRecDepth 100000
namespace Go.Proofs.YtbladfkakmdigaaGreatDoor
open Go.SX
structure IC (u2 : TypeId) (v2 : Value) (u3 : TypeId) (v3 : Value) (w : World) : Prop where
  t : I13 w
  e : IE u2 v2 u3 v3 w
  b : Lib.TabIs Tryz.prog w "internal/strconv.uint64pow10" .u64 Lib.pow10Tab
theorem tab_mod {w w' : World} (h : Lib.TabIs Tryz.prog w "internal/strconv.uint64pow10" .u64 Lib.pow10Tab) (hm : Mod w w' fun _ => False) : Lib.TabIs Tryz.prog w' "internal/strconv.uint64pow10" .u64 Lib.pow10Tab := by
  have hg : Tryz.prog.globalNamed "internal/strconv.uint64pow10" = some 2 := by kernel_rfl
  unfold Lib.TabIs World.var? at h ⊢
  rw [hg] at h ⊢
  simp only [Option.bind_some] at h ⊢
  have hlt : 2 < w.heap.size := by
    rcases Nat.lt_or_ge 2 w.heap.size with h1 | h1
    · exact h1
    · simp [Array.getElem?_eq_none h1] at h
  rw [hm.block 2 hlt id]
  exact h
theorem IC.mod {u2 v2 u3 v3} {w w' : World} (h : IC u2 v2 u3 v3 w) (hm : Mod w w' fun _ => False) : IC u2 v2 u3 v3 w' := ⟨h.t.mod hm, h.e.mod hm, tab_mod h.b hm⟩
theorem examples_run : runFD Kd Ka 248 KK GG (fun f => Tryz.prog.funcs[f]?) TT 1000 14 Tryz.f14 [] (wantB true) = true := by kernel_rfl
theorem examples_ret {u2 v2 u3 v3} {w : World} (h : IC u2 v2 u3 v3 w) : Ret Tryz.prog 14 [] w (.bool true) := by
  have hr := examples_run
  unfold runFD at hr
  split at hr
  · rename_i c hb
    exact Ret.runBD (I := IC u2 v2 u3 v3) (fun w' hm => h.mod hm) (fun f => Tryz.prog.funcs[f]?) GG (fun w hw => hw.t) Kd Kd_ok Ka (Ka_ok _ fun w hw => hw.e) 248 Tryz.underlying248 KK (KKok _) 1000 14 (TTok 0 _) mixed (fun f fn hf => hf) Tryz.func14 (by kernel_rfl) hb hr wantB_eq
  · cases hr
end Go.Proofs.YtbladfkakmdigaaGreatDoor
set_option maxRecDepth 100000
namespace Go.Proofs.YtbladfkakmdigaaGreatDoor
open Go.SX
def itS (n : Int) : ByteArray := ⟨⟨Lib.itoa n⟩⟩
theorem istype_ret (kind : Int) (b : Bool) (hb : b = true ↔ 0 ≤ kind ∧ kind < 65536) (w : World) : Ret Tryz.prog 56 [.int .i64 kind] w (.bool b) := by
  have hc : (kind < 0 ∧ b = false) ∨ (0 ≤ kind ∧ kind < 65536 ∧ b = true) ∨ (0 ≤ kind ∧ 65536 ≤ kind ∧ b = false) := by
    by_cases h : 0 ≤ kind ∧ kind < 65536
    · exact .inr (.inl ⟨h.1, h.2, hb.2 h⟩)
    · have hbf : b = false := by cases b with
        | false => rfl
        | true => exact absurd (hb.1 rfl) h
      rw [hbf]
      rcases (by omega : kind < 0 ∨ (0 ≤ kind ∧ 65536 ≤ kind)) with h | h
      · exact .inl ⟨h, rfl⟩
      · exact .inr (.inr ⟨h.1, h.2, rfl⟩)
  rcases hc with ⟨h1, rfl⟩ | ⟨h1, h2, rfl⟩ | ⟨h0, h1, rfl⟩
  all_goals refine Ret.tj (I := fun _ => True) (fun _ _ => trivial) (TTok 0 _) Tryz.func56 (by kernel_rfl) rfl ?_
  all_goals repeat' ((conv => whnf); first | (with_reducible first | refine TJ.seq ?_ | refine TJ.region (TTok _ _) ?_ | refine TJ.drawn (TTok _ _) mixed ?_ | refine TJ.cond rfl ?_ | refine TJ.block ?_ | refine TJ.loop ?_ | refine LJ.step ?_ | refine TJ.ret ?_ | refine TJ.exit ?_ | refine TJ.skip ?_ | refine TJ.scope ?_ | refine TJ.label ?_ | refine Br.cond_t ?_ | refine Br.cond_f ?_ | refine Br.yes (by first | decide | assumption | (apply decide_eq_true; omega)) ?_ | refine Br.non (by first | decide | assumption | (apply decide_eq_false; omega)) ?_ | refine Br.cond_ff ?_ | refine Br.eqT (by omega) ?_ | refine Br.eqF (by omega) ?_ | refine Br.neT (by omega) ?_ | refine Br.neF (by omega) ?_ | refine Ld.mk' _ rfl ?_ | refine Need.mk (by first | decide | omega | kernel_rfl) ?_ | refine Nm.i64 (by omega) ?_ | refine Nm.u64 (by omega) ?_ | refine Nm.u8 (by omega) ?_) | refine x_exq (TTok _ _) ?_)
  all_goals (conv => whnf)
  all_goals (simp only [val])
  all_goals congr 2
  all_goals (simp; try omega)
def tyT (kind : Int) : Option ByteArray := if kind = 1 then some ⟨#[65]⟩ else if kind = 2 then some ⟨#[78, 83]⟩ else if kind = 5 then some ⟨#[67, 78, 65, 77, 69]⟩ else if kind = 6 then some ⟨#[83, 79, 65]⟩ else if kind = 15 then some ⟨#[77, 88]⟩ else if kind = 16 then some ⟨#[84, 88, 84]⟩ else if kind = 28 then some ⟨#[65, 65, 65, 65]⟩ else if kind = 39 then some ⟨#[68, 78, 65, 77, 69]⟩ else if kind = 41 then some ⟨#[79, 80, 84]⟩ else if kind = 43 then some ⟨#[68, 83]⟩ else if kind = 46 then some ⟨#[82, 82, 83, 73, 71]⟩ else if kind = 47 then some ⟨#[78, 83, 69, 67]⟩ else if kind = 48 then some ⟨#[68, 78, 83, 75, 69, 89]⟩ else if kind = 50 then some ⟨#[78, 83, 69, 67, 51]⟩ else if kind = 255 then some ⟨#[65, 78, 89]⟩ else none
def ttV (kind : Int) : Value := if 0 ≤ kind ∧ kind < 65536 then match tyT kind with
    | some s => .tuple #[.string s, .int .i64 0]
    | none => .tuple #[.string (⟨#[84, 89, 80, 69]⟩ ++ itS kind), .int .i64 0]
  else .tuple #[.string ⟨#[]⟩, .int .i64 1]
end Go.Proofs.YtbladfkakmdigaaGreatDoor
set_option maxRecDepth 100000
namespace Go.Proofs.YtbladfkakmdigaaGreatDoor
open Go.SX
def otherK (kind : Int) : Prop := kind ≠ 1 ∧ kind ≠ 28 ∧ kind ≠ 2 ∧ kind ≠ 5 ∧ kind ≠ 39 ∧ kind ≠ 6 ∧ kind ≠ 15 ∧ kind ≠ 16 ∧ kind ≠ 43 ∧ kind ≠ 46 ∧ kind ≠ 47 ∧ kind ≠ 48 ∧ kind ≠ 50
def formV : Value := .agg #[.func (.func 159) #[] #[], .func (.func 160) #[] #[], .func (.func 161) #[] #[], .nilFunc]
theorem strOf_sInts (d : ByteArray) : strOfNums (sInts d) = d := by
  apply ByteArray.ext
  apply Array.toList_inj.1
  rw [strOfNums_data]
  unfold sInts
  rw [List.map_map]
  conv => rhs; rw [← List.map_id d.data.toList]
  apply List.map_congr_left
  intro b _
  simp
end Go.Proofs.YtbladfkakmdigaaGreatDoor
set_option maxRecDepth 100000
namespace Go.Proofs.YtbladfkakmdigaaGreatDoor
open Go.SX
def numM : Int → List Int → Option Int
  | n, [] => some n
  | n, c :: r => if c < 48 ∨ 57 < c ∨ 65535 < n then none else numM (10 * n + (c - 48)) r
def numV (s : ByteArray) : Int := match numM 0 (sInts s) with
  | none => -1
  | some n => if s = ⟨#[]⟩ ∨ 65535 < n ∨ (1 < s.size ∧ bAt s 0 = 48) then -1 else n
theorem ba_ext {a b : ByteArray} (h : a.data.toList = b.data.toList) : a = b := ByteArray.ext (Array.toList_inj.1 h)
end Go.Proofs.YtbladfkakmdigaaGreatDoor
set_option maxRecDepth 100000
namespace Go.Proofs.YtbladfkakmdigaaGreatDoor
open Go.SX
def D10 : ByteArray := ⟨#[48, 49, 50, 51, 52, 53, 54, 55, 56, 57]⟩
def rttV (kind : Int) : Value := if 0 ≤ kind ∧ kind < 65536 then match tyT kind with
    | some s => .tuple #[.string s, .bool true]
    | none => .tuple #[.string (⟨#[84, 89, 80, 69]⟩ ++ itS kind), .bool true]
  else .tuple #[.string ⟨#[]⟩, .bool false]
end Go.Proofs.YtbladfkakmdigaaGreatDoor
set_option maxRecDepth 100000
set_option linter.unusedVariables false
namespace Go.Proofs.YtbladfkakmdigaaGreatDoor
open Go.SX
def tkT (s : ByteArray) : Option Int :=
  if ⟨#[65]⟩ = s then some 1 else
  if ⟨#[78, 83]⟩ = s then some 2 else
  if ⟨#[67, 78, 65, 77, 69]⟩ = s then some 5 else
  if ⟨#[83, 79, 65]⟩ = s then some 6 else
  if ⟨#[77, 88]⟩ = s then some 15 else
  if ⟨#[84, 88, 84]⟩ = s then some 16 else
  if ⟨#[65, 65, 65, 65]⟩ = s then some 28 else
  if ⟨#[68, 78, 65, 77, 69]⟩ = s then some 39 else
  if ⟨#[79, 80, 84]⟩ = s then some 41 else
  if ⟨#[68, 83]⟩ = s then some 43 else
  if ⟨#[82, 82, 83, 73, 71]⟩ = s then some 46 else
  if ⟨#[78, 83, 69, 67]⟩ = s then some 47 else
  if ⟨#[68, 78, 83, 75, 69, 89]⟩ = s then some 48 else
  if ⟨#[78, 83, 69, 67, 51]⟩ = s then some 50 else
  if ⟨#[65, 78, 89]⟩ = s then some 255 else
  none
def T4 : ByteArray := ⟨#[84, 89, 80, 69]⟩
def tnV (s : ByteArray) : Option Int := if 5 ≤ s.size ∧ s.extract 0 4 = T4 ∧ 0 ≤ numV (s.extract 4 s.size) ∧ tyT (numV (s.extract 4 s.size)) = none then some (numV (s.extract 4 s.size)) else none
end Go.Proofs.YtbladfkakmdigaaGreatDoor
set_option maxRecDepth 100000
set_option linter.unusedVariables false
namespace Go.Proofs.YtbladfkakmdigaaGreatDoor
open Go.SX
def rV (s : ByteArray) : Value := match tkT s with
  | some k => .tuple #[.int .i64 k, .bool true]
  | none => match tnV s with
    | some n => .tuple #[.int .i64 n, .bool true]
    | none => .tuple #[.int .i64 0, .bool false]
end Go.Proofs.YtbladfkakmdigaaGreatDoor
set_option maxRecDepth 100000
set_option linter.unusedVariables false
namespace Go.Proofs.YtbladfkakmdigaaGreatDoor
open Go.SX
def dV (s : ByteArray) : Value := match tkT s with
  | some k => .tuple #[.int .i64 k, .int .i64 0]
  | none => match tnV s with
    | some n => .tuple #[.int .i64 n, .int .i64 0]
    | none => .tuple #[.int .i64 0, .int .i64 7]
end Go.Proofs.YtbladfkakmdigaaGreatDoor
set_option maxRecDepth 100000
set_option linter.unusedVariables false
namespace Go.Proofs.YtbladfkakmdigaaGreatDoor
open Go.SX
def lbOk (s : ByteArray) (p : Int) : Prop := p < s.size ∧ bAt s p ≠ 0 ∧ bAt s p ≤ 63 ∧ p + 1 + bAt s p ≤ s.size
def lbPos (s : ByteArray) : Nat → Int
  | 0 => 0
  | k + 1 => lbPos s k + 1 + bAt s (lbPos s k)
structure LbN (s : ByteArray) (N : Nat) : Prop where
  ok : ∀ k, k < N → lbOk s (lbPos s k)
  stop : ¬ lbOk s (lbPos s N)
theorem lbPos_nn (s : ByteArray) : ∀ k, 0 ≤ lbPos s k
  | 0 => by simp [lbPos]
  | k + 1 => by
    have := lbPos_nn s k
    have := bAt_range s (lbPos s k)
    simp only [lbPos]
    omega
theorem lbN_from (s : ByteArray) : ∀ (f k : Nat), (∀ j, j < k → lbOk s (lbPos s j)) → (s.size - lbPos s k).toNat < f → ∃ N, LbN s N
  | 0, k, _, h => by omega
  | f + 1, k, hk, h => by
    by_cases hc : lbOk s (lbPos s k)
    · refine lbN_from s f (k + 1) (fun j hj => ?_) ?_
      · by_cases e : j = k
        · subst e; exact hc
        · exact hk j (by omega)
      · have := bAt_range s (lbPos s k)
        have h0 := hc.1
        simp only [lbPos]
        omega
    · exact ⟨k, hk, hc⟩
theorem lbN_ex (s : ByteArray) : ∃ N, LbN s N := lbN_from s ((s.size - lbPos s 0).toNat + 1) 0 (fun j hj => by omega) (by omega)
theorem LbN.le {s : ByteArray} {N : Nat} (h : LbN s N) : ∀ k, k ≤ N → lbPos s k ≤ s.size
  | 0, _ => by simp [lbPos]
  | k + 1, hk => by
    have := (h.ok k (by omega)).2.2.2
    simp only [lbPos]
    exact this
def lbS (s : ByteArray) (k : Nat) : ByteArray := s.extract (lbPos s k + 1).toNat (lbPos s k + 1 + bAt s (lbPos s k)).toNat
def lbXs (s : ByteArray) (k : Nat) : List Value := [.int .i64 (lbPos s k), .string (lbS s k)]
theorem yf_box {J : (Nat → Prop) → World → Prop} {B : Nat} {u : Value} (h : ∀ D w, J D w → w.cell? ⟨B, 0, none⟩ = some u ∧ D B) : ∀ bl D w, YF J bl D w → ∀ i x, [u][i]? = some x → w.cell? ⟨B, 0 + i, none⟩ = some x := by
  rintro bl D w ⟨w2, h1, h2⟩ i x hx
  obtain ⟨g1, g2⟩ := h D w2 h1
  match i, hx with
  | 0, hx =>
    cases hx
    rw [← g1]
    simp only [World.cell?, h2 B g2]
set_option maxHeartbeats 4000000 in
theorem labels_it (s : ByteArray) (hs : s.size < 4294967281) (N : Nat) (hN : LbN s N) : IterOk Tryz.prog 237 (.string s) N (lbXs s) := by
  intro W B l J D hK hB hY h0 hD
  refine (iter_of (P := Tryz.prog) (T := TT) (W := W) (f := 237) (args := [.func (.yield l) #[] #[], .pointer (some ⟨B, 0, none⟩)]) (J0 := J 0) (good := fun J' => J' = J N) (D := D) (TTok 0 _) Tryz.func237 rfl h0 hD (fun J' e => e ▸ hK N (Nat.le_refl _)) rfl ?_).mono ?_
  rotate_left
  · rintro e w' ⟨h1, J', D', rfl, h2, h3⟩
    exact ⟨h1, D', h2, h3⟩
  repeat' ((conv => whnf); first | (with_reducible first | refine TR.seq ?_ | refine TR.region (TTok _ _) ?_ | refine TR.drawn (TTok _ _) mixed ?_ | refine TR.block ?_ | refine TR.ret ?_ | refine TR.exit ?_ | refine TR.skip ?_ | refine TR.condB rfl ?_ | refine Br.cond_t ?_ | refine Br.cond_f ?_ | refine Br.yes (by first | decide | assumption | (apply decide_eq_true; omega)) ?_ | refine Br.non (by first | decide | assumption | (apply decide_eq_false; omega)) ?_ | refine Br.cond_ff ?_ | refine Br.eqT (by omega) ?_ | refine Br.eqF (by omega) ?_ | refine Br.neT (by omega) ?_ | refine Br.neF (by omega) ?_ | refine Ld.mk' _ rfl ?_ | refine Need.mk (by first | decide | omega | kernel_rfl) ?_ | refine Nm.i64 (by omega) ?_ | refine Nm.u64 (by omega) ?_ | refine Nm.u8 (by omega) ?_) | (refine x_exq (TTok _ _) ?_; (conv => whnf); fail_if_success (guard_target =ₛ False)))
  refine TR.loopH (fun k : Nat => [(3, .v (.int .i64 (lbPos s k)))]) (fun k => [(0, ⟨.tab (YF (J k)), 0, 0, k, []⟩)]) (fun k => k ≤ N) (fun k => N - k) 0 (Nat.zero_le _) ?_ ?_
  · repeat' ((conv => whnf); first | exact trivial | exact Fgt.nil | exact Fgt.mk rfl rfl rfl | refine And.intro rfl ?_ | refine And.intro ?_ ?_)
  · intro k hk
    have hbx := yf_box (J := J k) (B := B) (u := .string s) fun D w h => hB k D w hk h
    have p0 := lbPos_nn s k
    have p1 := hN.le k hk
    have hb := bAt_range s (lbPos s k)
    have hsb : (s.size : Int) < 4294967281 := by omega
    have hKk := hK k hk
    by_cases hkN : k < N
    · have hok := hN.ok k hkN
      have hy := hY k hkN
      have hnx : lbPos s (k + 1) = lbPos s k + 1 + bAt s (lbPos s k) := rfl
      obtain ⟨lab, hlab⟩ : ∃ lab, lbS s k = lab := ⟨_, rfl⟩
      unfold lbXs at hy
      rw [hlab] at hy
      unfold lbS at hlab
      obtain ⟨o1, o2, o3, o4⟩ := hok
      have n1 := hnx
      generalize lbPos s (k + 1) = pn at n1 hnx
      have hn2 : (fun k : Nat => lbPos s k) (k + 1) = pn := n1 ▸ rfl
      repeat' ((conv => whnf); first | (with_reducible first | refine TR.seq ?_ | refine TR.region (TTok _ _) ?_ | refine TR.drawn (TTok _ _) mixed ?_ | refine TR.block ?_ | refine TR.ret ?_ | refine TR.exit ?_ | refine TR.skip ?_ | refine TR.condB rfl ?_ | refine Br.cond_t ?_ | refine Br.cond_f ?_ | refine Br.yes (by first | decide | assumption | (apply decide_eq_true; omega)) ?_ | refine Br.non (by first | decide | assumption | (apply decide_eq_false; omega)) ?_ | refine Br.cond_ff ?_ | refine Br.eqT (by omega) ?_ | refine Br.eqF (by omega) ?_ | refine Br.neT (by omega) ?_ | refine Br.neF (by omega) ?_ | refine Ld.mk' _ rfl ?_ | refine Need.mk (by first | decide | omega | kernel_rfl) ?_ | refine Nm.i64 (by omega) ?_ | refine Nm.u64 (by omega) ?_ | refine Nm.u8 (by omega) ?_) | refine x_load_tab (TTok _ _) (c := 0) (ck := ⟨.tab (YF (J k)), 0, 0, k, []⟩) (F := YF (J k)) (us := [.string s]) rfl rfl rfl rfl rfl (fun _ => rfl) rfl hbx ?_ | refine x_yield (W := W) (l := l) (c := 0) (ck := ⟨.tab (YF (J k)), 0, 0, k, []⟩) (J := J k) (J' := J (k + 1)) (r := true) rfl rfl rfl (fun w h => h) hKk rfl rfl hy ?_ | refine Nm.mk' lab hlab ?_ | (refine x_exq (TTok _ _) ?_; (conv => whnf); fail_if_success (guard_target =ₛ False)))
      all_goals (conv => whnf)
      refine ⟨k + 1, by omega, by omega, ?_⟩
      repeat' ((conv => whnf); first | exact trivial | exact Fgt.nil | exact Fgt.mk rfl rfl rfl | refine And.intro rfl ?_ | refine And.intro ?_ ?_)
    · obtain rfl : k = N := by omega
      have hst := hN.stop
      generalize hp : lbPos s k = p at p0 p1 hb hst
      by_cases q1 : p < s.size
      · by_cases q2 : bAt s p = 0
        · skip
          repeat' ((conv => whnf); first | (with_reducible first | refine TR.seq ?_ | refine TR.region (TTok _ _) ?_ | refine TR.drawn (TTok _ _) mixed ?_ | refine TR.block ?_ | refine TR.ret ?_ | refine TR.exit ?_ | refine TR.skip ?_ | refine TR.condB rfl ?_ | refine Br.cond_t ?_ | refine Br.cond_f ?_ | refine Br.yes (by first | decide | assumption | (apply decide_eq_true; omega)) ?_ | refine Br.non (by first | decide | assumption | (apply decide_eq_false; omega)) ?_ | refine Br.cond_ff ?_ | refine Br.eqT (by omega) ?_ | refine Br.eqF (by omega) ?_ | refine Br.neT (by omega) ?_ | refine Br.neF (by omega) ?_ | refine Ld.mk' _ rfl ?_ | refine Need.mk (by first | decide | omega | kernel_rfl) ?_ | refine Nm.i64 (by omega) ?_ | refine Nm.u64 (by omega) ?_ | refine Nm.u8 (by omega) ?_) | refine x_load_tab (TTok _ _) (c := 0) (ck := ⟨.tab (YF (J k)), 0, 0, k, []⟩) (F := YF (J k)) (us := [.string s]) rfl rfl rfl rfl rfl (fun _ => rfl) rfl hbx ?_ | refine Br.non (by simp [q2]) ?_ | (refine x_exq (TTok _ _) ?_; (conv => whnf); fail_if_success (guard_target =ₛ False)))
          all_goals (conv => whnf)
          all_goals exact ⟨_, _, rfl, rfl, rfl⟩
        · by_cases q3 : bAt s p ≤ 63
          · have q4 : (s.size : Int) < p + 1 + bAt s p := by
              by_cases h : p + 1 + bAt s p ≤ s.size
              · exact (hst ⟨q1, q2, q3, h⟩).elim
              · omega
            repeat' ((conv => whnf); first | (with_reducible first | refine TR.seq ?_ | refine TR.region (TTok _ _) ?_ | refine TR.drawn (TTok _ _) mixed ?_ | refine TR.block ?_ | refine TR.ret ?_ | refine TR.exit ?_ | refine TR.skip ?_ | refine TR.condB rfl ?_ | refine Br.cond_t ?_ | refine Br.cond_f ?_ | refine Br.yes (by first | decide | assumption | (apply decide_eq_true; omega)) ?_ | refine Br.non (by first | decide | assumption | (apply decide_eq_false; omega)) ?_ | refine Br.cond_ff ?_ | refine Br.eqT (by omega) ?_ | refine Br.eqF (by omega) ?_ | refine Br.neT (by omega) ?_ | refine Br.neF (by omega) ?_ | refine Ld.mk' _ rfl ?_ | refine Need.mk (by first | decide | omega | kernel_rfl) ?_ | refine Nm.i64 (by omega) ?_ | refine Nm.u64 (by omega) ?_ | refine Nm.u8 (by omega) ?_) | refine x_load_tab (TTok _ _) (c := 0) (ck := ⟨.tab (YF (J k)), 0, 0, k, []⟩) (F := YF (J k)) (us := [.string s]) rfl rfl rfl rfl rfl (fun _ => rfl) rfl hbx ?_ | (refine x_exq (TTok _ _) ?_; (conv => whnf); fail_if_success (guard_target =ₛ False)))
            all_goals (conv => whnf)
            all_goals exact ⟨_, _, rfl, rfl, rfl⟩
          · skip
            repeat' ((conv => whnf); first | (with_reducible first | refine TR.seq ?_ | refine TR.region (TTok _ _) ?_ | refine TR.drawn (TTok _ _) mixed ?_ | refine TR.block ?_ | refine TR.ret ?_ | refine TR.exit ?_ | refine TR.skip ?_ | refine TR.condB rfl ?_ | refine Br.cond_t ?_ | refine Br.cond_f ?_ | refine Br.yes (by first | decide | assumption | (apply decide_eq_true; omega)) ?_ | refine Br.non (by first | decide | assumption | (apply decide_eq_false; omega)) ?_ | refine Br.cond_ff ?_ | refine Br.eqT (by omega) ?_ | refine Br.eqF (by omega) ?_ | refine Br.neT (by omega) ?_ | refine Br.neF (by omega) ?_ | refine Ld.mk' _ rfl ?_ | refine Need.mk (by first | decide | omega | kernel_rfl) ?_ | refine Nm.i64 (by omega) ?_ | refine Nm.u64 (by omega) ?_ | refine Nm.u8 (by omega) ?_) | refine x_load_tab (TTok _ _) (c := 0) (ck := ⟨.tab (YF (J k)), 0, 0, k, []⟩) (F := YF (J k)) (us := [.string s]) rfl rfl rfl rfl rfl (fun _ => rfl) rfl hbx ?_ | (refine x_exq (TTok _ _) ?_; (conv => whnf); fail_if_success (guard_target =ₛ False)))
            all_goals (conv => whnf)
            all_goals exact ⟨_, _, rfl, rfl, rfl⟩
      · skip
        repeat' ((conv => whnf); first | (with_reducible first | refine TR.seq ?_ | refine TR.region (TTok _ _) ?_ | refine TR.drawn (TTok _ _) mixed ?_ | refine TR.block ?_ | refine TR.ret ?_ | refine TR.exit ?_ | refine TR.skip ?_ | refine TR.condB rfl ?_ | refine Br.cond_t ?_ | refine Br.cond_f ?_ | refine Br.yes (by first | decide | assumption | (apply decide_eq_true; omega)) ?_ | refine Br.non (by first | decide | assumption | (apply decide_eq_false; omega)) ?_ | refine Br.cond_ff ?_ | refine Br.eqT (by omega) ?_ | refine Br.eqF (by omega) ?_ | refine Br.neT (by omega) ?_ | refine Br.neF (by omega) ?_ | refine Ld.mk' _ rfl ?_ | refine Need.mk (by first | decide | omega | kernel_rfl) ?_ | refine Nm.i64 (by omega) ?_ | refine Nm.u64 (by omega) ?_ | refine Nm.u8 (by omega) ?_) | refine x_load_tab (TTok _ _) (c := 0) (ck := ⟨.tab (YF (J k)), 0, 0, k, []⟩) (F := YF (J k)) (us := [.string s]) rfl rfl rfl rfl rfl (fun _ => rfl) rfl hbx ?_ | (refine x_exq (TTok _ _) ?_; (conv => whnf); fail_if_success (guard_target =ₛ False)))
        all_goals (conv => whnf)
        all_goals exact ⟨_, _, rfl, rfl, rfl⟩
end Go.Proofs.YtbladfkakmdigaaGreatDoor
set_option maxRecDepth 100000
set_option linter.unusedVariables false
namespace Go.Proofs.YtbladfkakmdigaaGreatDoor
open Go.SX
def rtB (s : ByteArray) (N : Nat) : Bool := decide (0 < s.size ∧ s.size ≤ 255 ∧ lbPos s N = s.size - 1 ∧ bAt s (lbPos s N) = 0)
def rtC (s : ByteArray) (z : Int) : List (Option Chunk) := [none, none, none, some ⟨.own, 3, 1, 0, [.v (.int .i64 z)]⟩, some ⟨.own, 9, 1, 0, [.v (.string s)]⟩]
set_option maxHeartbeats 4000000 in
theorem nright_ret (s : ByteArray) (hs : s.size < 4294967281) (N : Nat) (hN : LbN s N) (w : World) : Ret Tryz.prog 115 [.string s] w (.bool (rtB s N)) := by
  refine Ret.ofW (I := fun _ => True) (T := TT) (fun _ _ => trivial) Tryz.func115 (by kernel_rfl) rfl rfl ?_
  by_cases z0 : s.size = 0
  · have hb : rtB s N = false := decide_eq_false (by omega)
    rw [hb]
    repeat' ((conv => whnf); first | (with_reducible first | refine TR.seq ?_ | refine TR.region (TTok _ _) ?_ | refine TR.drawn (TTok _ _) mixed ?_ | refine TR.block ?_ | refine TR.ret ?_ | refine TR.exit ?_ | refine TR.skip ?_ | refine TR.condB rfl ?_ | refine Br.cond_t ?_ | refine Br.cond_f ?_ | refine Br.yes (by first | decide | assumption | (apply decide_eq_true; omega)) ?_ | refine Br.non (by first | decide | assumption | (apply decide_eq_false; omega)) ?_ | refine Br.cond_ff ?_ | refine Br.eqT (by omega) ?_ | refine Br.eqF (by omega) ?_ | refine Br.neT (by omega) ?_ | refine Br.neF (by omega) ?_ | refine Ld.mk' _ rfl ?_ | refine Need.mk (by first | decide | omega | kernel_rfl) ?_ | refine Nm.i64 (by omega) ?_ | refine Nm.u64 (by omega) ?_ | refine Nm.u8 (by omega) ?_ | refine TW.seq (TTok _ _) ?_) | (refine x_exq (TTok _ _) ?_; (conv => whnf); fail_if_success (guard_target =ₛ False)))
    all_goals (conv => whnf)
    all_goals rfl
  · by_cases z1 : 255 < s.size
    · have hb : rtB s N = false := decide_eq_false (by omega)
      rw [hb]
      repeat' ((conv => whnf); first | (with_reducible first | refine TR.seq ?_ | refine TR.region (TTok _ _) ?_ | refine TR.drawn (TTok _ _) mixed ?_ | refine TR.block ?_ | refine TR.ret ?_ | refine TR.exit ?_ | refine TR.skip ?_ | refine TR.condB rfl ?_ | refine Br.cond_t ?_ | refine Br.cond_f ?_ | refine Br.yes (by first | decide | assumption | (apply decide_eq_true; omega)) ?_ | refine Br.non (by first | decide | assumption | (apply decide_eq_false; omega)) ?_ | refine Br.cond_ff ?_ | refine Br.eqT (by omega) ?_ | refine Br.eqF (by omega) ?_ | refine Br.neT (by omega) ?_ | refine Br.neF (by omega) ?_ | refine Ld.mk' _ rfl ?_ | refine Need.mk (by first | decide | omega | kernel_rfl) ?_ | refine Nm.i64 (by omega) ?_ | refine Nm.u64 (by omega) ?_ | refine Nm.u8 (by omega) ?_ | refine TW.seq (TTok _ _) ?_) | (refine x_exq (TTok _ _) ?_; (conv => whnf); fail_if_success (guard_target =ₛ False)))
      all_goals (conv => whnf)
      all_goals rfl
    · conv => whnf
      refine TW.seq (TTok _ _) ?_
      repeat' ((conv => whnf); first | (with_reducible first | refine TR.seq ?_ | refine TR.region (TTok _ _) ?_ | refine TR.drawn (TTok _ _) mixed ?_ | refine TR.block ?_ | refine TR.ret ?_ | refine TR.exit ?_ | refine TR.skip ?_ | refine TR.condB rfl ?_ | refine Br.cond_t ?_ | refine Br.cond_f ?_ | refine Br.yes (by first | decide | assumption | (apply decide_eq_true; omega)) ?_ | refine Br.non (by first | decide | assumption | (apply decide_eq_false; omega)) ?_ | refine Br.cond_ff ?_ | refine Br.eqT (by omega) ?_ | refine Br.eqF (by omega) ?_ | refine Br.neT (by omega) ?_ | refine Br.neF (by omega) ?_ | refine Ld.mk' _ rfl ?_ | refine Need.mk (by first | decide | omega | kernel_rfl) ?_ | refine Nm.i64 (by omega) ?_ | refine Nm.u64 (by omega) ?_ | refine Nm.u8 (by omega) ?_) | (refine x_exq (TTok _ _) ?_; (conv => whnf); fail_if_success (guard_target =ₛ False)))
      refine TW.seq (TTok _ _) ?_
      repeat' ((conv => whnf); first | (with_reducible first | refine TR.seq ?_ | refine TR.region (TTok _ _) ?_ | refine TR.drawn (TTok _ _) mixed ?_ | refine TR.block ?_ | refine TR.ret ?_ | refine TR.exit ?_ | refine TR.skip ?_ | refine TR.condB rfl ?_ | refine Br.cond_t ?_ | refine Br.cond_f ?_ | refine Br.yes (by first | decide | assumption | (apply decide_eq_true; omega)) ?_ | refine Br.non (by first | decide | assumption | (apply decide_eq_false; omega)) ?_ | refine Br.cond_ff ?_ | refine Br.eqT (by omega) ?_ | refine Br.eqF (by omega) ?_ | refine Br.neT (by omega) ?_ | refine Br.neF (by omega) ?_ | refine Ld.mk' _ rfl ?_ | refine Need.mk (by first | decide | omega | kernel_rfl) ?_ | refine Nm.i64 (by omega) ?_ | refine Nm.u64 (by omega) ?_ | refine Nm.u8 (by omega) ?_) | (refine x_exq (TTok _ _) ?_; (conv => whnf); fail_if_success (guard_target =ₛ False)))
      refine TW.seq (TTok _ _) ?_
      repeat' ((conv => whnf); first | (with_reducible first | refine TR.seq ?_ | refine TR.region (TTok _ _) ?_ | refine TR.drawn (TTok _ _) mixed ?_ | refine TR.block ?_ | refine TR.ret ?_ | refine TR.exit ?_ | refine TR.skip ?_ | refine TR.condB rfl ?_ | refine Br.cond_t ?_ | refine Br.cond_f ?_ | refine Br.yes (by first | decide | assumption | (apply decide_eq_true; omega)) ?_ | refine Br.non (by first | decide | assumption | (apply decide_eq_false; omega)) ?_ | refine Br.cond_ff ?_ | refine Br.eqT (by omega) ?_ | refine Br.eqF (by omega) ?_ | refine Br.neT (by omega) ?_ | refine Br.neF (by omega) ?_ | refine Ld.mk' _ rfl ?_ | refine Need.mk (by first | decide | omega | kernel_rfl) ?_ | refine Nm.i64 (by omega) ?_ | refine Nm.u64 (by omega) ?_ | refine Nm.u8 (by omega) ?_) | (refine x_exq (TTok _ _) ?_; (conv => whnf); fail_if_success (guard_target =ₛ False)))
      refine TW.seq2 (TWK.seq (TTok _ _) ?_)
      repeat' ((conv => whnf); first | (with_reducible first | refine TR.seq ?_ | refine TR.region (TTok _ _) ?_ | refine TR.drawn (TTok _ _) mixed ?_ | refine TR.block ?_ | refine TR.ret ?_ | refine TR.exit ?_ | refine TR.skip ?_ | refine TR.condB rfl ?_ | refine TJ.seq ?_ | refine TJ.region (TTok _ _) ?_ | refine TJ.drawn (TTok _ _) mixed ?_ | refine TJ.cond rfl ?_ | refine TJ.block ?_ | refine TJ.loop ?_ | refine LJ.step ?_ | refine TJ.ret ?_ | refine TJ.exit ?_ | refine TJ.skip ?_ | refine TJ.scope ?_ | refine TJ.label ?_ | refine Br.cond_t ?_ | refine Br.cond_f ?_ | refine Br.yes (by first | decide | assumption | (apply decide_eq_true; omega)) ?_ | refine Br.non (by first | decide | assumption | (apply decide_eq_false; omega)) ?_ | refine Br.cond_ff ?_ | refine Br.eqT (by omega) ?_ | refine Br.eqF (by omega) ?_ | refine Br.neT (by omega) ?_ | refine Br.neF (by omega) ?_ | refine Ld.mk' _ rfl ?_ | refine Need.mk (by first | decide | omega | kernel_rfl) ?_ | refine Nm.i64 (by omega) ?_ | refine Nm.u64 (by omega) ?_ | refine Nm.u8 (by omega) ?_) | refine x_call (f := 188) (TTok _ _) rfl rfl Tryz.func188 (by kernel_rfl) rfl ?_ | (refine x_exq (TTok _ _) ?_; (conv => whnf); fail_if_success (guard_target =ₛ False)))
      refine TWK.range (TTok _ _) (gf := 237) (c0 := 4) (v0 := 0) (ty := 9) (u := .string s) (N := N) (n := 8) (xs := lbXs s) (C := (fun k => rtC s (lbPos s k))) rfl (fun k _ => ⟨1, rfl⟩) rfl (fun k _ => own_all rfl (Nat.le_of_ble_eq_true rfl)) ⟨Tryz.f237, Tryz.func237, by kernel_rfl, by kernel_rfl⟩ (labels_it s hs N hN) (fun k _ => rfl) (res_one (t := 2) (by kernel_rfl)) (fun k hk => ?_) ?_
      · have p0 := lbPos_nn s k
        have p1 := hN.le k (by omega)
        obtain ⟨o1, o2, o3, o4⟩ := hN.ok k hk
        have hb := bAt_range s (lbPos s k)
        have hsb : (s.size : Int) < 4294967281 := by omega
        have hlz : ((lbS s k).size : Int) = bAt s (lbPos s k) := by
          unfold lbS
          rw [ByteArray.size_extract]
          omega
        have hpn : lbPos s k + 1 + ((lbS s k).size : Int) = lbPos s (k + 1) := by
          rw [hlz]
          rfl
        unfold lbXs
        generalize lbS s k = lab at hlz hpn
        repeat' ((conv => whnf); first | (with_reducible first | refine TR.seq ?_ | refine TR.region (TTok _ _) ?_ | refine TR.drawn (TTok _ _) mixed ?_ | refine TR.block ?_ | refine TR.ret ?_ | refine TR.exit ?_ | refine TR.skip ?_ | refine TR.condB rfl ?_ | refine Br.cond_t ?_ | refine Br.cond_f ?_ | refine Br.yes (by first | decide | assumption | (apply decide_eq_true; omega)) ?_ | refine Br.non (by first | decide | assumption | (apply decide_eq_false; omega)) ?_ | refine Br.cond_ff ?_ | refine Br.eqT (by omega) ?_ | refine Br.eqF (by omega) ?_ | refine Br.neT (by omega) ?_ | refine Br.neF (by omega) ?_ | refine Ld.mk' _ rfl ?_ | refine Need.mk (by first | decide | omega | kernel_rfl) ?_ | refine Nm.i64 (by omega) ?_ | refine Nm.u64 (by omega) ?_ | refine Nm.u8 (by omega) ?_) | refine And.intro rfl ?_ | (refine x_exq (TTok _ _) ?_; (conv => whnf); fail_if_success (guard_target =ₛ False)))
        all_goals (conv => whnf)
        all_goals exact congrArg (rtC s) hpn
      · have p0 := lbPos_nn s N
        have p1 := hN.le N (by omega)
        have hb := bAt_range s (lbPos s N)
        by_cases q1 : lbPos s N = s.size - 1
        · by_cases q2 : bAt s (lbPos s N) = 0
          · have hr : rtB s N = true := decide_eq_true ⟨by omega, by omega, q1, q2⟩
            rw [hr]
            generalize lbPos s N = p at p0 p1 hb q1 q2
            repeat' ((conv => whnf); first | (with_reducible first | refine TR.seq ?_ | refine TR.region (TTok _ _) ?_ | refine TR.drawn (TTok _ _) mixed ?_ | refine TR.block ?_ | refine TR.ret ?_ | refine TR.exit ?_ | refine TR.skip ?_ | refine TR.condB rfl ?_ | refine Br.cond_t ?_ | refine Br.cond_f ?_ | refine Br.yes (by first | decide | assumption | (apply decide_eq_true; omega)) ?_ | refine Br.non (by first | decide | assumption | (apply decide_eq_false; omega)) ?_ | refine Br.cond_ff ?_ | refine Br.eqT (by omega) ?_ | refine Br.eqF (by omega) ?_ | refine Br.neT (by omega) ?_ | refine Br.neF (by omega) ?_ | refine Ld.mk' _ rfl ?_ | refine Need.mk (by first | decide | omega | kernel_rfl) ?_ | refine Nm.i64 (by omega) ?_ | refine Nm.u64 (by omega) ?_ | refine Nm.u8 (by omega) ?_) | refine Br.yes (by simp [q2]) ?_ | (refine x_exq (TTok _ _) ?_; (conv => whnf); fail_if_success (guard_target =ₛ False)))
            all_goals (conv => whnf)
            all_goals first | rfl | simp [val, q2]
          · have hr : rtB s N = false := decide_eq_false fun h => q2 h.2.2.2
            rw [hr]
            generalize lbPos s N = p at p0 p1 hb q1 q2
            repeat' ((conv => whnf); first | (with_reducible first | refine TR.seq ?_ | refine TR.region (TTok _ _) ?_ | refine TR.drawn (TTok _ _) mixed ?_ | refine TR.block ?_ | refine TR.ret ?_ | refine TR.exit ?_ | refine TR.skip ?_ | refine TR.condB rfl ?_ | refine Br.cond_t ?_ | refine Br.cond_f ?_ | refine Br.yes (by first | decide | assumption | (apply decide_eq_true; omega)) ?_ | refine Br.non (by first | decide | assumption | (apply decide_eq_false; omega)) ?_ | refine Br.cond_ff ?_ | refine Br.eqT (by omega) ?_ | refine Br.eqF (by omega) ?_ | refine Br.neT (by omega) ?_ | refine Br.neF (by omega) ?_ | refine Ld.mk' _ rfl ?_ | refine Need.mk (by first | decide | omega | kernel_rfl) ?_ | refine Nm.i64 (by omega) ?_ | refine Nm.u64 (by omega) ?_ | refine Nm.u8 (by omega) ?_) | (refine x_exq (TTok _ _) ?_; (conv => whnf); fail_if_success (guard_target =ₛ False)))
            all_goals (conv => whnf)
            all_goals first | rfl | simp [val, q2]
        · have hr : rtB s N = false := decide_eq_false fun h => q1 h.2.2.1
          rw [hr]
          generalize lbPos s N = p at p0 p1 hb q1
          repeat' ((conv => whnf); first | (with_reducible first | refine TR.seq ?_ | refine TR.region (TTok _ _) ?_ | refine TR.drawn (TTok _ _) mixed ?_ | refine TR.block ?_ | refine TR.ret ?_ | refine TR.exit ?_ | refine TR.skip ?_ | refine TR.condB rfl ?_ | refine Br.cond_t ?_ | refine Br.cond_f ?_ | refine Br.yes (by first | decide | assumption | (apply decide_eq_true; omega)) ?_ | refine Br.non (by first | decide | assumption | (apply decide_eq_false; omega)) ?_ | refine Br.cond_ff ?_ | refine Br.eqT (by omega) ?_ | refine Br.eqF (by omega) ?_ | refine Br.neT (by omega) ?_ | refine Br.neF (by omega) ?_ | refine Ld.mk' _ rfl ?_ | refine Need.mk (by first | decide | omega | kernel_rfl) ?_ | refine Nm.i64 (by omega) ?_ | refine Nm.u64 (by omega) ?_ | refine Nm.u8 (by omega) ?_) | (refine x_exq (TTok _ _) ?_; (conv => whnf); fail_if_success (guard_target =ₛ False)))
          all_goals (conv => whnf)
          all_goals rfl
end Go.Proofs.YtbladfkakmdigaaGreatDoor
set_option maxRecDepth 100000
set_option linter.unusedVariables false
namespace Go.Proofs.YtbladfkakmdigaaGreatDoor
open Go.SX
def tuQ (b : Bool) (v : Value) : Prop := ∃ x, v = .tuple #[x, .bool b]
def spA (c : Nat) : Option (Nat × Nat × List ByteArray) → AV
  | none => .v (.slice none 0 0)
  | some y => .sl c y.1 0 y.2.1
def spC (c : Nat) : Option (Nat × Nat × List ByteArray) → List (Nat × Chunk)
  | none => []
  | some y => [(c, ⟨.row, 9, 1, y.1, (y.2.2.map Value.string).map .v⟩)]
def spN (k : Nat) : Option (Nat × Nat × List ByteArray) → Prop
  | none => True
  | some y => y.2.1 = y.2.2.length ∧ y.2.1 ≤ k
end Go.Proofs.YtbladfkakmdigaaGreatDoor
set_option maxRecDepth 100000
set_option linter.unusedVariables false
namespace Go.Proofs.YtbladfkakmdigaaGreatDoor
open Go.SX
def by8 (v d : Int) : Int := IntKind.u8.wrap (v / d)
def be1 (v : Int) : List Int := [by8 v 1]
def be2 (v : Int) : List Int := [by8 v 256, by8 v 1]
def be4 (v : Int) : List Int := [by8 v 16777216, by8 v 65536, by8 v 256, by8 v 1]
def fit (v m : Int) : Bool := decide (0 ≤ v ∧ v < m)
def shV (s : ByteArray) (ok : Bool) : Value := if ok = true ∧ s.size ≤ 2000 then .tuple #[.string s, .bool true] else .tuple #[.string ⟨#[]⟩, .bool false]
end Go.Proofs.YtbladfkakmdigaaGreatDoor
set_option maxRecDepth 100000
set_option linter.unusedVariables false
set_option linter.unusedSimpArgs false
namespace Go.Proofs.YtbladfkakmdigaaGreatDoor
open Go.SX
theorem sz_nums (l : List Int) : (strOfNums l).size = l.length := by
  unfold strOfNums
  simp [ByteArray.size]
def kdB (a b c : Int) (s : ByteArray) : Bool := fit a 65536 && fit b 256 && fit c 256 && decide (0 < s.size)
def kdS (a b c : Int) (s : ByteArray) : ByteArray := strOfNums (be2 a) ++ strOfNums (be1 b) ++ strOfNums (be1 c) ++ s
def dsV (s : ByteArray) (ok : Bool) : Value := if ok = true ∧ s.size ≤ 2000 then .tuple #[.string s, .int .i64 0] else .tuple #[.string ⟨#[]⟩, .int .i64 6]
end Go.Proofs.YtbladfkakmdigaaGreatDoor
set_option maxRecDepth 100000
set_option linter.unusedVariables false
set_option linter.unusedSimpArgs false
namespace Go.Proofs.YtbladfkakmdigaaGreatDoor
open Go.SX
def skH (l : List Int) (wr : Bool) (v : Nat) (s : Nat → Nat) : List (Option Chunk) := [some ⟨.own, 141, 2, 0, [.sl (s 1) v 0 l.length, .v (.bool wr)]⟩, some ⟨.row, 5, 1, v, byt l⟩]
theorem skH_cl (l : List Int) (wr : Bool) (v : Nat) : refsInC (skH l wr v id) (skH l wr v id) = true := by
  simp [skH, refsInC, refsInL, refsIn, hasO, refsInL_byt]
theorem skH_nat (l : List Int) (wr : Bool) (v : Nat) (σ : List Nat) : mapR σ (skH l wr v id) = skH l wr v (getN σ) := by
  simp [skH, mapR, renK, renL, renA, renL_byt]
theorem skH_end (l l' : List Int) (wr wr' : Bool) (v v' : Nat) {r : AV} (hr : refsIn (skH l' wr' v' id) r = true) : CEnd (skH l wr v id) (skH l' wr' v' id) r :=
  CEnd.of rfl hr (skH_cl _ _ _)
abbrev SkCon (f : FuncId) (args : List Value) (l l' : List Int) (wr wr' : Bool) (v v' : Nat) : Prop :=
  Con Tryz.prog (fun _ => True) f (fun s => .ref (s 0) 0 0 :: args.map .v) (skH l wr v) (fun _ : Unit => True) (fun _ _ => .tup []) (fun _ => skH l' wr' v') (fun _ => False)
noncomputable def rgN (s : ByteArray) : Nat := (lbN_ex s).choose
theorem rgN_ok (s : ByteArray) : LbN s (rgN s) := (lbN_ex s).choose_spec
noncomputable def rgt (s : ByteArray) : Bool := rtB s (rgN s)
theorem nright (s : ByteArray) (hs : s.size < 4294967281) (w : World) : Ret Tryz.prog 115 [.string s] w (.bool (rgt s)) := nright_ret s hs _ (rgN_ok s) w
theorem bytes_con (l : List Int) (wr : Bool) (v : Nat) (p : ByteArray) (least : Int) (hl : l.length < 4398046511104) (hp : p.size < 4294967281) : SkCon 97 [.string p, .int .i64 least] l (l ++ sInts p) wr (wr || decide ((p.size : Int) < least)) v (v + 1) := by
  refine Con.of (TTok _ _) Tryz.func97 (by kernel_rfl) rfl (skH_cl _ _ _) rfl (fun σ => rfl) (skH_nat _ _ _) (fun _ _ _ => rfl) (fun _ σ _ => skH_nat _ _ _ σ) (fun _ _ => skH_end _ _ _ _ _ _ rfl) ?_
  have hm1 : l.length + p.size ≤ maxLen := by unfold maxLen; omega
  have hm2 : (l.length + p.size) * 1 ≤ 140737488355328 := by omega
  cases wr
  all_goals repeat' ((conv => whnf); first | (with_reducible first | refine TR.seq ?_ | refine TR.regionL ?_ | refine TR.drawn (TTok _ _) mixed ?_ | refine TR.block ?_ | refine TR.ret ?_ | refine TR.exit ?_ | refine TR.skip ?_ | refine TR.condB rfl ?_ | refine TRL.nil ?_ | refine TRL.step (TTok _ _) ?_ | refine Br.cond_t ?_ | refine Br.cond_f ?_ | refine Br.yes (by first | decide | assumption | (apply decide_eq_true; omega)) ?_ | refine Br.non (by first | decide | assumption | (apply decide_eq_false; omega)) ?_ | refine Br.cond_ff ?_ | refine Br.eqT (by omega) ?_ | refine Br.eqF (by omega) ?_ | refine Br.neT (by omega) ?_ | refine Br.neF (by omega) ?_ | refine Ld.mk' _ rfl ?_ | refine Need.mk (by first | decide | omega | kernel_rfl) ?_ | refine Nm.i64 (by omega) ?_ | refine Nm.u64 (by omega) ?_ | refine Nm.u8 (by omega) ?_) | refine x_append_str (TTok _ _) (c := 1) (kv := v) (n := l.length) (m := p.size) (u := p) (t := 139) (e := 5) rfl rfl rfl rfl rfl rfl rfl rfl rfl rfl (Nat.zero_lt_succ 0) rfl (by simp [byt]) rfl rfl rfl rfl rfl rfl rfl hm1 hm2 ?_ | (refine x_exq (TTok _ _) ?_; (conv => whnf); fail_if_success (guard_target =ₛ False)))
  all_goals (conv => whnf)
  all_goals (refine ⟨(), trivial, rfl, ?_⟩; simp [skH, subC, byt, sInts_length])
theorem name_con (l : List Int) (wr : Bool) (v : Nat) (p : ByteArray) (hl : l.length < 4398046511104) (hp : p.size < 4294967281) : SkCon 91 [.string p] l (l ++ sInts p) wr (wr || !rgt p) v (v + 1) := by
  refine Con.of (TTok _ _) Tryz.func91 (by kernel_rfl) rfl (skH_cl _ _ _) rfl (fun σ => rfl) (skH_nat _ _ _) (fun _ _ _ => rfl) (fun _ σ _ => skH_nat _ _ _ σ) (fun _ _ => skH_end _ _ _ _ _ _ rfl) ?_
  have hm1 : l.length + p.size ≤ maxLen := by unfold maxLen; omega
  have hm2 : (l.length + p.size) * 1 ≤ 140737488355328 := by omega
  have h115 := fun w => nright p hp w
  generalize rgt p = b at h115
  cases wr
  all_goals repeat' ((conv => whnf); first | (with_reducible first | refine TR.seq ?_ | refine TR.regionL ?_ | refine TR.drawn (TTok _ _) mixed ?_ | refine TR.block ?_ | refine TR.ret ?_ | refine TR.exit ?_ | refine TR.skip ?_ | refine TR.condB rfl ?_ | refine TRL.nil ?_ | refine TRL.step (TTok _ _) ?_ | refine Br.cond_t ?_ | refine Br.cond_f ?_ | refine Br.yes (by first | decide | assumption | (apply decide_eq_true; omega)) ?_ | refine Br.non (by first | decide | assumption | (apply decide_eq_false; omega)) ?_ | refine Br.cond_ff ?_ | refine Br.eqT (by omega) ?_ | refine Br.eqF (by omega) ?_ | refine Br.neT (by omega) ?_ | refine Br.neF (by omega) ?_ | refine Ld.mk' _ rfl ?_ | refine Need.mk (by first | decide | omega | kernel_rfl) ?_ | refine Nm.i64 (by omega) ?_ | refine Nm.u64 (by omega) ?_ | refine Nm.u8 (by omega) ?_ | refine x_ret (f := 115) rfl rfl (fun w _ => h115 w) ?_) | refine x_append_str (TTok _ _) (c := 1) (kv := v) (n := l.length) (m := p.size) (u := p) (t := 139) (e := 5) rfl rfl rfl rfl rfl rfl rfl rfl rfl rfl (Nat.zero_lt_succ 0) rfl (by simp [byt]) rfl rfl rfl rfl rfl rfl rfl hm1 hm2 ?_ | (refine x_exq (TTok _ _) ?_; (conv => whnf); fail_if_success (guard_target =ₛ False)))
  all_goals (conv => whnf)
  all_goals (refine ⟨(), trivial, rfl, ?_⟩; simp [skH, subC, byt, sInts_length])
def beP (n : Nat) (a : Int) : Nat → List Int
  | 0 => []
  | j + 1 => beP n a j ++ [by8 a (2 ^ (8 * (n - 1 - j)))]
theorem number1_con (l : List Int) (wr : Bool) (v : Nat) (a : Int) (hl : l.length < 4398046511104) : SkCon 92 [.int .i64 a, .int .i64 1] l (l ++ be1 a) wr (wr || !fit a 256) v (v + 1) := by
  refine Con.of (TTok _ _) Tryz.func92 (by kernel_rfl) rfl (skH_cl _ _ _) rfl (fun σ => rfl) (skH_nat _ _ _) (fun _ _ _ => rfl) (fun _ σ _ => skH_nat _ _ _ σ) (fun _ _ => skH_end _ _ _ _ _ _ rfl) ?_
  refine TJ.tr ?_
  have hs0 : (!fit a 256) = (decide (a < 0) || decide (a / 256 ≠ 0)) := by
    unfold fit
    by_cases h0 : a < 0
    · have : ¬ (0 ≤ a ∧ a < 256) := by omega
      simp [h0, this]
    · by_cases h1 : a < 256
      · have h2 : 0 ≤ a ∧ a < 256 := by omega
        have h3 : a / 256 = 0 := by omega
        have h4 : ¬ a < 0 := by omega
        simp [h2, h3, h4]
      · have h2 : ¬ (0 ≤ a ∧ a < 256) := by omega
        have h3 : a / 256 ≠ 0 := by omega
        simp [h2, h3]
  rw [hs0]
  have hm1 : l.length + 1 ≤ maxLen := by unfold maxLen; omega
  by_cases h0 : a < 0 <;> cases wr
  all_goals repeat' ((conv => whnf); first | (with_reducible first | refine TJ.seq ?_ | refine TJ.region (TTok _ _) ?_ | refine TJ.drawn (TTok _ _) mixed ?_ | refine TJ.cond rfl ?_ | refine TJ.block ?_ | refine TJ.loop ?_ | refine LJ.step ?_ | refine TJ.ret ?_ | refine TJ.exit ?_ | refine TJ.skip ?_ | refine TJ.scope ?_ | refine TJ.label ?_ | refine Br.cond_t ?_ | refine Br.cond_f ?_ | refine Br.yes (by first | decide | assumption | (apply decide_eq_true; omega)) ?_ | refine Br.non (by first | decide | assumption | (apply decide_eq_false; omega)) ?_ | refine Br.cond_ff ?_ | refine Br.eqT (by omega) ?_ | refine Br.eqF (by omega) ?_ | refine Br.neT (by omega) ?_ | refine Br.neF (by omega) ?_ | refine Ld.mk' _ rfl ?_ | refine Need.mk (by first | decide | omega | kernel_rfl) ?_ | refine Nm.i64 (by omega) ?_ | refine Nm.u64 (by omega) ?_ | refine Nm.u8 (by omega) ?_ | refine Sh.shrL ?_ | refine Sh.shlL ?_ | refine Nm.fd (by decide) ?_) | refine x_app (TTok _ _) (c := 1) 1 rfl rfl rfl rfl rfl rfl rfl rfl rfl rfl (Nat.zero_lt_succ 0) rfl rfl rfl rfl rfl rfl rfl rfl rfl (by simp [byt]) (by unfold maxLen; omega) (by omega) ?_ | refine Nm.keep ?_ | (refine x_exq (TTok _ _) ?_; (conv => whnf); fail_if_success (guard_target =ₛ False)))
  all_goals (conv => whnf)
  all_goals (refine ⟨(), trivial, rfl, ?_⟩; simp [skH, subC, byt, h0, be1, by8] <;> (by_cases h1 : a / 256 = 0 <;> simp [h1]))
theorem number2_con (l : List Int) (wr : Bool) (v : Nat) (a : Int) (hl : l.length < 4398046511104) : SkCon 92 [.int .i64 a, .int .i64 2] l (l ++ be2 a) wr (wr || !fit a 65536) v (v + 2) := by
  refine Con.of (TTok _ _) Tryz.func92 (by kernel_rfl) rfl (skH_cl _ _ _) rfl (fun σ => rfl) (skH_nat _ _ _) (fun _ _ _ => rfl) (fun _ σ _ => skH_nat _ _ _ σ) (fun _ _ => skH_end _ _ _ _ _ _ rfl) ?_
  refine TJ.tr ?_
  have hs0 : (!fit a 65536) = (decide (a < 0) || decide (a / 65536 ≠ 0)) := by
    unfold fit
    by_cases h0 : a < 0
    · have : ¬ (0 ≤ a ∧ a < 65536) := by omega
      simp [h0, this]
    · by_cases h1 : a < 65536
      · have h2 : 0 ≤ a ∧ a < 65536 := by omega
        have h3 : a / 65536 = 0 := by omega
        have h4 : ¬ a < 0 := by omega
        simp [h2, h3, h4]
      · have h2 : ¬ (0 ≤ a ∧ a < 65536) := by omega
        have h3 : a / 65536 ≠ 0 := by omega
        simp [h2, h3]
  rw [hs0]
  have hm1 : l.length + 2 ≤ maxLen := by unfold maxLen; omega
  by_cases h0 : a < 0 <;> cases wr
  all_goals repeat' ((conv => whnf); first | (with_reducible first | refine TJ.seq ?_ | refine TJ.region (TTok _ _) ?_ | refine TJ.drawn (TTok _ _) mixed ?_ | refine TJ.cond rfl ?_ | refine TJ.block ?_ | refine TJ.loop ?_ | refine LJ.step ?_ | refine TJ.ret ?_ | refine TJ.exit ?_ | refine TJ.skip ?_ | refine TJ.scope ?_ | refine TJ.label ?_ | refine Br.cond_t ?_ | refine Br.cond_f ?_ | refine Br.yes (by first | decide | assumption | (apply decide_eq_true; omega)) ?_ | refine Br.non (by first | decide | assumption | (apply decide_eq_false; omega)) ?_ | refine Br.cond_ff ?_ | refine Br.eqT (by omega) ?_ | refine Br.eqF (by omega) ?_ | refine Br.neT (by omega) ?_ | refine Br.neF (by omega) ?_ | refine Ld.mk' _ rfl ?_ | refine Need.mk (by first | decide | omega | kernel_rfl) ?_ | refine Nm.i64 (by omega) ?_ | refine Nm.u64 (by omega) ?_ | refine Nm.u8 (by omega) ?_ | refine Sh.shrL ?_ | refine Sh.shlL ?_ | refine Nm.fd (by decide) ?_) | refine x_app (TTok _ _) (c := 1) 1 rfl rfl rfl rfl rfl rfl rfl rfl rfl rfl (Nat.zero_lt_succ 0) rfl rfl rfl rfl rfl rfl rfl rfl rfl (by simp [byt]) (by unfold maxLen; omega) (by omega) ?_ | refine Nm.keep ?_ | (refine x_exq (TTok _ _) ?_; (conv => whnf); fail_if_success (guard_target =ₛ False)))
  all_goals (conv => whnf)
  all_goals (refine ⟨(), trivial, rfl, ?_⟩; simp [skH, subC, byt, h0, be2, by8] <;> (by_cases h1 : a / 65536 = 0 <;> simp [h1]))
theorem subL_byt_all (l : List Int) : subL (byt l) 0 l.length = some (byt l) := by
  have := subL_all' (byt l)
  simpa [byt] using this
def dnV (l : List Int) (wr : Bool) : ByteArray × Int := if wr = true ∨ 2000 < l.length then (⟨#[]⟩, 6) else (strOfNums l, 0)
theorem done_con (l : List Int) (wr : Bool) (v : Nat) (hl : l.length < 4398046511104) : Con Tryz.prog (fun _ => True) 93 (fun s => [.ref (s 0) 0 0]) (skH l wr v) (fun _ : Unit => True) (fun _ _ => .tup [.v (.string (dnV l wr).1), .v (.int .i64 (dnV l wr).2)]) (fun _ => skH l wr v) (fun _ => False) := by
  refine Con.of (TTok _ _) Tryz.func93 (by kernel_rfl) rfl (skH_cl _ _ _) rfl (fun σ => rfl) (skH_nat _ _ _) (fun _ _ _ => rfl) (fun _ σ _ => skH_nat _ _ _ σ) (fun _ _ => skH_end _ _ _ _ _ _ rfl) ?_
  have hsub := subL_byt_all l
  cases wr
  · by_cases h1 : 2000 < l.length
    · have e : dnV l false = (⟨#[]⟩, 6) := by simp [dnV, h1]
      rw [e]
      repeat' ((conv => whnf); first | (with_reducible first | refine TR.seq ?_ | refine TR.regionL ?_ | refine TR.drawn (TTok _ _) mixed ?_ | refine TR.block ?_ | refine TR.ret ?_ | refine TR.exit ?_ | refine TR.skip ?_ | refine TR.condB rfl ?_ | refine TRL.nil ?_ | refine TRL.step (TTok _ _) ?_ | refine Br.cond_t ?_ | refine Br.cond_f ?_ | refine Br.yes (by first | decide | assumption | (apply decide_eq_true; omega)) ?_ | refine Br.non (by first | decide | assumption | (apply decide_eq_false; omega)) ?_ | refine Br.cond_ff ?_ | refine Br.eqT (by omega) ?_ | refine Br.eqF (by omega) ?_ | refine Br.neT (by omega) ?_ | refine Br.neF (by omega) ?_ | refine Ld.mk' _ rfl ?_ | refine Need.mk (by first | decide | omega | kernel_rfl) ?_ | refine Nm.i64 (by omega) ?_ | refine Nm.u64 (by omega) ?_ | refine Nm.u8 (by omega) ?_) | refine x_bytes_str (TTok _ _) (c := 1) (lo := 0) (n := l.length) (s := 139) (t := 9) (e := 5) (ns := l) rfl rfl rfl rfl rfl rfl rfl rfl rfl rfl rfl rfl hsub ?_ | refine Nm.keep ?_ | (refine x_exq (TTok _ _) ?_; (conv => whnf); fail_if_success (guard_target =ₛ False)))
      all_goals (conv => whnf)
      all_goals (refine ⟨(), trivial, rfl, ?_⟩; simp [skH, subC])
    · have e : dnV l false = (strOfNums l, 0) := by simp [dnV, h1]
      rw [e]
      repeat' ((conv => whnf); first | (with_reducible first | refine TR.seq ?_ | refine TR.regionL ?_ | refine TR.drawn (TTok _ _) mixed ?_ | refine TR.block ?_ | refine TR.ret ?_ | refine TR.exit ?_ | refine TR.skip ?_ | refine TR.condB rfl ?_ | refine TRL.nil ?_ | refine TRL.step (TTok _ _) ?_ | refine Br.cond_t ?_ | refine Br.cond_f ?_ | refine Br.yes (by first | decide | assumption | (apply decide_eq_true; omega)) ?_ | refine Br.non (by first | decide | assumption | (apply decide_eq_false; omega)) ?_ | refine Br.cond_ff ?_ | refine Br.eqT (by omega) ?_ | refine Br.eqF (by omega) ?_ | refine Br.neT (by omega) ?_ | refine Br.neF (by omega) ?_ | refine Ld.mk' _ rfl ?_ | refine Need.mk (by first | decide | omega | kernel_rfl) ?_ | refine Nm.i64 (by omega) ?_ | refine Nm.u64 (by omega) ?_ | refine Nm.u8 (by omega) ?_) | refine x_bytes_str (TTok _ _) (c := 1) (lo := 0) (n := l.length) (s := 139) (t := 9) (e := 5) (ns := l) rfl rfl rfl rfl rfl rfl rfl rfl rfl rfl rfl rfl hsub ?_ | refine Nm.keep ?_ | (refine x_exq (TTok _ _) ?_; (conv => whnf); fail_if_success (guard_target =ₛ False)))
      all_goals (conv => whnf)
      all_goals (refine ⟨(), trivial, rfl, ?_⟩; simp [skH, subC])
  · have e : dnV l true = (⟨#[]⟩, 6) := by simp [dnV]
    rw [e]
    repeat' ((conv => whnf); first | (with_reducible first | refine TR.seq ?_ | refine TR.regionL ?_ | refine TR.drawn (TTok _ _) mixed ?_ | refine TR.block ?_ | refine TR.ret ?_ | refine TR.exit ?_ | refine TR.skip ?_ | refine TR.condB rfl ?_ | refine TRL.nil ?_ | refine TRL.step (TTok _ _) ?_ | refine Br.cond_t ?_ | refine Br.cond_f ?_ | refine Br.yes (by first | decide | assumption | (apply decide_eq_true; omega)) ?_ | refine Br.non (by first | decide | assumption | (apply decide_eq_false; omega)) ?_ | refine Br.cond_ff ?_ | refine Br.eqT (by omega) ?_ | refine Br.eqF (by omega) ?_ | refine Br.neT (by omega) ?_ | refine Br.neF (by omega) ?_ | refine Ld.mk' _ rfl ?_ | refine Need.mk (by first | decide | omega | kernel_rfl) ?_ | refine Nm.i64 (by omega) ?_ | refine Nm.u64 (by omega) ?_ | refine Nm.u8 (by omega) ?_) | (refine x_exq (TTok _ _) ?_; (conv => whnf); fail_if_success (guard_target =ₛ False)))
    all_goals (conv => whnf)
    all_goals (refine ⟨(), trivial, rfl, ?_⟩; simp [skH, subC])
theorem short_con (l : List Int) (wr : Bool) (v : Nat) (p : ByteArray) (least : Int) (hl : l.length < 2199023255552) (hp : p.size < 4294967281) : SkCon 101 [.string p, .int .i64 least] l (l ++ be1 p.size ++ sInts p) wr ((wr || !fit p.size 256) || decide ((p.size : Int) < least)) v (v + 1 + 1) := by
  refine Con.of (TTok _ _) Tryz.func101 (by kernel_rfl) rfl (skH_cl _ _ _) rfl (fun σ => rfl) (skH_nat _ _ _) (fun _ _ _ => rfl) (fun _ σ _ => skH_nat _ _ _ σ) (fun _ _ => skH_end _ _ _ _ _ _ rfl) ?_
  have c1 := number1_con l wr v p.size (by omega)
  have c2 := bytes_con (l ++ be1 p.size) (wr || !fit p.size 256) (v + 1) p least (by simp [be1]; omega) hp
  generalize (wr || !fit p.size 256) = wr1 at c1 c2
  repeat' ((conv => whnf); first | (with_reducible first | refine TR.seq ?_ | refine TR.regionL ?_ | refine TR.drawn (TTok _ _) mixed ?_ | refine TR.block ?_ | refine TR.ret ?_ | refine TR.exit ?_ | refine TR.skip ?_ | refine TR.condB rfl ?_ | refine TRL.nil ?_ | refine Br.cond_t ?_ | refine Br.cond_f ?_ | refine Br.yes (by first | decide | assumption | (apply decide_eq_true; omega)) ?_ | refine Br.non (by first | decide | assumption | (apply decide_eq_false; omega)) ?_ | refine Br.cond_ff ?_ | refine Br.eqT (by omega) ?_ | refine Br.eqF (by omega) ?_ | refine Br.neT (by omega) ?_ | refine Br.neF (by omega) ?_ | refine Ld.mk' _ rfl ?_ | refine Need.mk (by first | decide | omega | kernel_rfl) ?_ | refine Nm.i64 (by omega) ?_ | refine Nm.u64 (by omega) ?_ | refine Nm.u8 (by omega) ?_) | refine TRL.con [0, 1] [0, 1] c1 rfl rfl rfl rfl ⟨rfl, rfl, trivial⟩ rfl rfl (fun _ _ => ⟨trivial, ?_⟩) (fun _ h => h.elim) | refine TRL.con [0, 1] [0, 1] c2 rfl rfl rfl rfl ⟨rfl, rfl, trivial⟩ rfl rfl (fun _ _ => ⟨trivial, ?_⟩) (fun _ h => h.elim) | refine TRL.step (TTok _ _) ?_ | (refine x_exq (TTok _ _) ?_; (conv => whnf); fail_if_success (guard_target =ₛ False)))
  all_goals (conv => whnf)
  all_goals (refine ⟨(), trivial, rfl, ?_⟩; simp [skH, subC, getN])
end Go.Proofs.YtbladfkakmdigaaGreatDoor
set_option maxRecDepth 100000
set_option linter.unusedVariables false
set_option linter.unusedSimpArgs false
namespace Go.Proofs.YtbladfkakmdigaaGreatDoor
open Go.SX
def tkO (n : Nat) (s : ByteArray) : Option (ByteArray × ByteArray) := if n ≤ s.size then some (s.extract 0 n, s.extract n s.size) else none
def numL (l : List Int) : Int := l.foldl (fun v x => v * 256 + x) 0
def numO (n : Nat) (s : ByteArray) : Option (Int × ByteArray) := (tkO n s).map fun p => (numL (sInts p.1), p.2)
noncomputable def nmP (s : ByteArray) : Int := lbPos s (rgN s)
noncomputable def nameO (s : ByteArray) : Option (ByteArray × ByteArray) :=
  if nmP s < s.size ∧ bAt s (nmP s) = 0 ∧ nmP s + 1 ≤ 255 then some (s.extract 0 (nmP s + 1).toNat, s.extract (nmP s + 1).toNat s.size) else none
def restO (s : ByteArray) : Option (ByteArray × ByteArray) := if s.size = 0 then none else some (s, ⟨#[]⟩)
theorem bAt_ext (s : ByteArray) (m : Nat) (p : Int) (h0 : 0 ≤ p) (h1 : p < m) (hm : m ≤ s.size) : bAt (s.extract 0 m) p = bAt s p := by
  have e1 := sInts_get (s.extract 0 m) p.toNat (by rw [ByteArray.size_extract]; omega)
  have e2 := sInts_get s p.toNat (by omega)
  have e3 : sInts (s.extract 0 m) = (sInts s).take m := by
    unfold sInts
    rw [ByteArray.data_extract]
    simp [List.map_take]
  rw [e3, List.getElem?_take_of_lt (by omega), e2] at e1
  rw [show ((p.toNat : Nat) : Int) = p by omega] at e1
  exact (Option.some.inj e1).symm
theorem lbN_uniq {s : ByteArray} {N M : Nat} (h : LbN s N) (k : LbN s M) : N = M := by
  rcases Nat.lt_trichotomy N M with h1 | h1 | h1
  · exact (h.stop (k.ok N h1)).elim
  · exact h1
  · exact (k.stop (h.ok M h1)).elim
theorem rgt_of {s : ByteArray} {N : Nat} (h : LbN s N) : rgt s = rtB s N := by
  unfold rgt
  rw [lbN_uniq (rgN_ok s) h]
theorem lbPos_mono {s : ByteArray} : ∀ (j k : Nat), j ≤ k → lbPos s j ≤ lbPos s k
  | j, 0, h => by
    obtain rfl : j = 0 := by omega
    exact Int.le_refl _
  | j, k + 1, h => by
    by_cases e : j = k + 1
    · subst e; exact Int.le_refl _
    · have h1 := lbPos_mono (s := s) j k (by omega)
      have h2 := bAt_range s (lbPos s k)
      simp only [lbPos]
      omega
theorem lbPos_ext {s : ByteArray} {N m : Nat} (h : LbN s N) (hP : lbPos s N < m) (hm : m ≤ s.size) : ∀ k, k ≤ N → lbPos (s.extract 0 m) k = lbPos s k
  | 0, _ => rfl
  | k + 1, hk => by
    have ih := lbPos_ext h hP hm k (by omega)
    have h1 := lbPos_mono (s := s) (k + 1) N hk
    have h2 := lbPos_mono (s := s) k N (by omega)
    have h0 := lbPos_nn s k
    simp only [lbPos, ih]
    rw [bAt_ext s m _ h0 (by omega) hm]
theorem lbN_ext {s : ByteArray} {N m : Nat} (h : LbN s N) (hP : lbPos s N < m) (hm : m ≤ s.size) : LbN (s.extract 0 m) N := by
  have hz : (s.extract 0 m).size = m := by rw [ByteArray.size_extract]; omega
  refine ⟨fun k hk => ?_, fun hx => ?_⟩
  · obtain ⟨o1, o2, o3, o4⟩ := h.ok k hk
    have h1 := lbPos_mono (s := s) (k + 1) N hk
    have h0 := lbPos_nn s k
    rw [lbPos_ext h hP hm k (by omega)]
    have e : lbPos s (k + 1) = lbPos s k + 1 + bAt s (lbPos s k) := rfl
    have hg := bAt_range s (lbPos s k)
    refine ⟨by omega, ?_, ?_, ?_⟩
    · rwa [bAt_ext s m _ h0 (by have := bAt_range s (lbPos s k); omega) hm]
    · rwa [bAt_ext s m _ h0 (by have := bAt_range s (lbPos s k); omega) hm]
    · rw [bAt_ext s m _ h0 (by have := bAt_range s (lbPos s k); omega) hm]; omega
  · rw [lbPos_ext h hP hm N (Nat.le_refl _)] at hx
    obtain ⟨o1, o2, o3, o4⟩ := hx
    have h0 := lbPos_nn s N
    rw [bAt_ext s m _ h0 hP hm] at o2 o3 o4
    exact h.stop ⟨by omega, o2, o3, by omega⟩
theorem rgt_ext {s : ByteArray} {m : Nat} (hP : nmP s < m) (hm : m ≤ s.size) : rgt (s.extract 0 m) = decide (m ≤ 255 ∧ nmP s = m - 1 ∧ bAt s (nmP s) = 0) := by
  have h := rgN_ok s
  have hN := lbN_ext h hP hm
  have hz : (s.extract 0 m).size = m := by rw [ByteArray.size_extract]; omega
  have h0 : 0 ≤ nmP s := lbPos_nn s _
  rw [rgt_of hN]
  unfold rtB
  rw [lbPos_ext h hP hm _ (Nat.le_refl _)]
  have hb : bAt (s.extract 0 m) (lbPos s (rgN s)) = bAt s (lbPos s (rgN s)) := bAt_ext s m _ h0 hP hm
  rw [hz, hb]
  unfold nmP at *
  congr 1
  apply propext
  constructor
  · rintro ⟨h1, h2, h3, h4⟩; exact ⟨h2, h3, h4⟩
  · rintro ⟨h1, h2, h3⟩; exact ⟨by omega, h1, h2, h3⟩
theorem nmP_le (s : ByteArray) : nmP s ≤ s.size := (rgN_ok s).le _ (Nat.le_refl _)
theorem nmP_nn (s : ByteArray) : 0 ≤ nmP s := lbPos_nn s _
theorem nameO_some {s b r : ByteArray} (h : nameO s = some (b, r)) : nmP s < s.size ∧ bAt s (nmP s) = 0 ∧ nmP s + 1 ≤ 255 ∧ b = s.extract 0 (nmP s + 1).toNat ∧ r = s.extract (nmP s + 1).toNat s.size := by
  unfold nameO at h
  split at h
  · rename_i hc
    simp only [Option.some.injEq, Prod.mk.injEq] at h
    exact ⟨hc.1, hc.2.1, hc.2.2, h.1.symm, h.2.symm⟩
  · cases h
theorem numO_size {n : Nat} {s r : ByteArray} {v : Int} (h : numO n s = some (v, r)) : r.size ≤ s.size := by
  unfold numO tkO at h
  split at h
  · simp at h
    rw [← h.2, ByteArray.size_extract]; omega
  · cases h
theorem tkO_size {n : Nat} {s b r : ByteArray} (h : tkO n s = some (b, r)) : b.size = n ∧ r.size + n = s.size := by
  unfold tkO at h
  split at h
  · simp at h
    rw [← h.1, ← h.2, ByteArray.size_extract, ByteArray.size_extract]; omega
  · cases h
theorem nameO_size {s b r : ByteArray} (h : nameO s = some (b, r)) : b.size ≤ s.size ∧ r.size ≤ s.size := by
  obtain ⟨_, _, _, rfl, rfl⟩ := nameO_some h
  rw [ByteArray.size_extract, ByteArray.size_extract]; omega
theorem numL_app (l : List Int) (x : Int) : numL (l ++ [x]) = numL l * 256 + x := by simp [numL]
theorem numL_take (l : List Int) (k : Nat) (x : Int) (h : l[k]? = some x) : numL (l.take (k + 1)) = numL (l.take k) * 256 + x := by
  have : l.take (k + 1) = l.take k ++ [x] := by
    rw [List.take_add_one, h]; rfl
  rw [this, numL_app]
theorem numL_range : ∀ (k : Nat) (l : List Int), (∀ x, x ∈ l → 0 ≤ x ∧ x ≤ 255) → 0 ≤ numL (l.take k) ∧ numL (l.take k) < 256 ^ k
  | 0, l, _ => by simp [numL]
  | k + 1, l, h => by
    have ih := numL_range k l h
    cases hx : l[k]? with
    | none =>
      have : l.take (k + 1) = l.take k := by
        rw [List.take_add_one, hx]; simp
      rw [this]
      have : (256 : Int) ^ (k + 1) = 256 ^ k * 256 := Int.pow_succ ..
      omega
    | some x =>
      have hx' := h x (List.mem_of_getElem? hx)
      rw [numL_take l k x hx]
      have : (256 : Int) ^ (k + 1) = 256 ^ k * 256 := Int.pow_succ ..
      omega
end Go.Proofs.YtbladfkakmdigaaGreatDoor
set_option maxRecDepth 100000
set_option linter.unusedVariables false
set_option linter.unusedSimpArgs false
namespace Go.Proofs.YtbladfkakmdigaaGreatDoor
open Go.SX
theorem sInts_range (s : ByteArray) (n : Int) (h : n ∈ sInts s) : 0 ≤ n ∧ n ≤ 255 := by
  unfold sInts at h
  rw [List.mem_map] at h
  obtain ⟨b, _, rfl⟩ := h
  have := b.toNat_lt
  omega
def stopC : List PanicEntry := [{ v := .iface 189 (.agg #[]), recovered := false }]
abbrev SoM (f : FuncId) (s : ByteArray) (args : List Value) {α : Type} (q : Option α) (g : α → ByteArray) (r : α → Value) : Prop :=
  MetO Tryz.prog (fun _ => True) f 192 [.string s] args q (fun p => [.string (g p)]) r stopC
theorem must_met (s : ByteArray) (ok : Bool) : SoM 89 s [.bool ok] (cond ok (some ()) none) (fun _ => s) (fun _ => .tuple #[]) := by
  refine MetO.of (TTok _ _) Tryz.func89 (by kernel_rfl) rfl (fun _ _ => rfl) rfl ?_
  cases ok
  all_goals repeat' ((conv => whnf); first | (with_reducible first | refine TR.seq ?_ | refine TR.regionL ?_ | refine TR.drawn (TTok _ _) mixed ?_ | refine TR.block ?_ | refine TR.ret ?_ | refine TR.exit ?_ | refine TR.skip ?_ | refine TR.condB rfl ?_ | refine TRL.nil ?_ | refine Br.cond_t ?_ | refine Br.cond_f ?_ | refine Br.yes (by first | decide | assumption | (apply decide_eq_true; omega)) ?_ | refine Br.non (by first | decide | assumption | (apply decide_eq_false; omega)) ?_ | refine Br.cond_ff ?_ | refine Br.eqT (by omega) ?_ | refine Br.eqF (by omega) ?_ | refine Br.neT (by omega) ?_ | refine Br.neF (by omega) ?_ | refine Ld.mk' _ rfl ?_ | refine Need.mk (by first | decide | omega | kernel_rfl) ?_ | refine Nm.i64 (by omega) ?_ | refine Nm.u64 (by omega) ?_ | refine Nm.u8 (by omega) ?_) | refine TRL.panic rfl rfl rfl rfl ?_ | refine TRL.step (TTok _ _) ?_ | (refine x_exq (TTok _ _) ?_; (conv => whnf); fail_if_success (guard_target =ₛ False)))
  all_goals (conv => whnf)
  all_goals first | exact ⟨rfl, rfl⟩ | exact ⟨(), rfl, rfl, rfl⟩
theorem bytes_met (s : ByteArray) (n : Nat) (hs : s.size < 4294967281) : SoM 88 s [.int .i64 n] (tkO n s) (fun p => p.2) (fun p => .string p.1) := by
  refine MetO.of (TTok _ _) Tryz.func88 (by kernel_rfl) rfl (fun _ _ => rfl) rfl ?_
  by_cases h : n ≤ s.size
  · have e : tkO n s = some (s.extract 0 n, s.extract n s.size) := by unfold tkO; rw [if_pos h]
    rw [e]
    have hb : decide ((n : Int) ≤ s.size) = true := by simp; omega
    repeat' ((conv => whnf); first | (with_reducible first | refine TR.seq ?_ | refine TR.regionL ?_ | refine TR.drawn (TTok _ _) mixed ?_ | refine TR.block ?_ | refine TR.ret ?_ | refine TR.exit ?_ | refine TR.skip ?_ | refine TR.condB rfl ?_ | refine TRL.nil ?_ | refine Br.cond_t ?_ | refine Br.cond_f ?_ | refine Br.yes (by first | decide | assumption | (apply decide_eq_true; omega)) ?_ | refine Br.non (by first | decide | assumption | (apply decide_eq_false; omega)) ?_ | refine Br.cond_ff ?_ | refine Br.eqT (by omega) ?_ | refine Br.eqF (by omega) ?_ | refine Br.neT (by omega) ?_ | refine Br.neF (by omega) ?_ | refine Nm.keep ?_ | refine Need.mk (by dsimp only; omega) ?_ | refine Ld.mk' _ rfl ?_ | refine Need.mk (by first | decide | omega | kernel_rfl) ?_ | refine Nm.i64 (by omega) ?_ | refine Nm.u64 (by omega) ?_ | refine Nm.u8 (by omega) ?_) | refine TRL.met rfl rfl rfl rfl rfl rfl rfl rfl rfl (must_met _ _) ?_ | (refine optK.some (by rw [hb]; rfl) ?_; dsimp only) | refine Nm.keep ?_ | refine TRL.step (TTok _ _) ?_ | (refine x_exq (TTok _ _) ?_; (conv => whnf); fail_if_success (guard_target =ₛ False)))
    all_goals (conv => whnf)
    all_goals exact ⟨_, rfl, rfl, rfl⟩
  · have e : tkO n s = none := by unfold tkO; rw [if_neg h]
    rw [e]
    have hb : decide ((n : Int) ≤ s.size) = false := by simp; omega
    repeat' ((conv => whnf); first | (with_reducible first | refine TR.seq ?_ | refine TR.regionL ?_ | refine TR.drawn (TTok _ _) mixed ?_ | refine TR.block ?_ | refine TR.ret ?_ | refine TR.exit ?_ | refine TR.skip ?_ | refine TR.condB rfl ?_ | refine TRL.nil ?_ | refine Br.cond_t ?_ | refine Br.cond_f ?_ | refine Br.yes (by first | decide | assumption | (apply decide_eq_true; omega)) ?_ | refine Br.non (by first | decide | assumption | (apply decide_eq_false; omega)) ?_ | refine Br.cond_ff ?_ | refine Br.eqT (by omega) ?_ | refine Br.eqF (by omega) ?_ | refine Br.neT (by omega) ?_ | refine Br.neF (by omega) ?_ | refine Nm.keep ?_ | refine Need.mk (by dsimp only; omega) ?_ | refine Ld.mk' _ rfl ?_ | refine Need.mk (by first | decide | omega | kernel_rfl) ?_ | refine Nm.i64 (by omega) ?_ | refine Nm.u64 (by omega) ?_ | refine Nm.u8 (by omega) ?_) | refine TRL.met rfl rfl rfl rfl rfl rfl rfl rfl rfl (must_met _ _) ?_ | refine optK.none (by rw [hb]; rfl) ?_ | refine TRL.step (TTok _ _) ?_ | (refine x_exq (TTok _ _) ?_; (conv => whnf); fail_if_success (guard_target =ₛ False)))
    all_goals (conv => whnf)
    all_goals exact ⟨rfl, rfl⟩
theorem or_byte (a b : Int) (ha : 0 ≤ a ∧ a < 1099511627776) (hb : 0 ≤ b ∧ b ≤ 255) : IntKind.i64.wrap (BitVec.ofInt IntKind.i64.bits (a * 256) ||| BitVec.ofInt IntKind.i64.bits b).toNat = a * 256 + b := by
  obtain ⟨m, rfl⟩ : ∃ m : Nat, a = m := ⟨a.toNat, by omega⟩
  obtain ⟨n, rfl⟩ : ∃ n : Nat, b = n := ⟨b.toNat, by omega⟩
  have e2 : (BitVec.ofInt IntKind.i64.bits ((m : Int) * 256) ||| BitVec.ofInt IntKind.i64.bits (n : Int)).toNat = m * 256 + n := by
    show (BitVec.ofInt 64 ((m : Int) * 256) ||| BitVec.ofInt 64 (n : Int)).toNat = m * 256 + n
    rw [show (m : Int) * 256 = ((m * 256 : Nat) : Int) by simp]
    rw [BitVec.toNat_or, BitVec.ofInt_natCast, BitVec.ofInt_natCast, BitVec.toNat_ofNat, BitVec.toNat_ofNat, Nat.mod_eq_of_lt (by omega), Nat.mod_eq_of_lt (by omega)]
    have := Nat.shiftLeft_add_eq_or_of_lt (a := m) (b := n) (i := 8) (by omega)
    rw [Nat.shiftLeft_eq] at this
    exact this.symm
  rw [e2, wrap_i64 (by omega)]
  simp
theorem number_met (s : ByteArray) (n : Nat) (hn : n ≤ 4) (hs : s.size < 4294967281) : SoM 71 s [.int .i64 n] (numO n s) (fun p => p.2) (fun p => .int .i64 p.1) := by
  refine MetO.of (TTok _ _) Tryz.func71 (by kernel_rfl) rfl (fun _ _ => rfl) rfl ?_
  unfold numO
  cases ht : tkO n s with
  | none =>
    repeat' ((conv => whnf); first | (with_reducible first | refine TR.seq ?_ | refine TR.regionL ?_ | refine TR.drawn (TTok _ _) mixed ?_ | refine TR.block ?_ | refine TR.ret ?_ | refine TR.exit ?_ | refine TR.skip ?_ | refine TR.condB rfl ?_ | refine TRL.nil ?_ | refine Br.cond_t ?_ | refine Br.cond_f ?_ | refine Br.yes (by first | decide | assumption | (apply decide_eq_true; omega)) ?_ | refine Br.non (by first | decide | assumption | (apply decide_eq_false; omega)) ?_ | refine Br.cond_ff ?_ | refine Br.eqT (by omega) ?_ | refine Br.eqF (by omega) ?_ | refine Br.neT (by omega) ?_ | refine Br.neF (by omega) ?_ | refine Nm.keep ?_ | refine Need.mk (by dsimp only; omega) ?_ | refine Ld.mk' _ rfl ?_ | refine Need.mk (by first | decide | omega | kernel_rfl) ?_ | refine Nm.i64 (by omega) ?_ | refine Nm.u64 (by omega) ?_ | refine Nm.u8 (by omega) ?_) | refine TRL.met rfl rfl rfl rfl rfl rfl rfl rfl rfl (bytes_met _ n hs) ?_ | refine optK.none ht ?_ | refine TRL.step (TTok _ _) ?_ | (refine x_exq (TTok _ _) ?_; (conv => whnf); fail_if_success (guard_target =ₛ False)))
    all_goals (conv => whnf)
    all_goals exact ⟨rfl, rfl⟩
  | some q =>
    obtain ⟨b, r⟩ := q
    obtain ⟨hb1, hb2⟩ := tkO_size ht
    have hl : (sInts b).length = n := by rw [sInts_length, hb1]
    repeat' ((conv => whnf); first | (with_reducible first | refine TR.seq ?_ | refine TR.regionL ?_ | refine TR.drawn (TTok _ _) mixed ?_ | refine TR.block ?_ | refine TR.ret ?_ | refine TR.exit ?_ | refine TR.skip ?_ | refine TR.condB rfl ?_ | refine TRL.nil ?_ | refine Br.cond_t ?_ | refine Br.cond_f ?_ | refine Br.yes (by first | decide | assumption | (apply decide_eq_true; omega)) ?_ | refine Br.non (by first | decide | assumption | (apply decide_eq_false; omega)) ?_ | refine Br.cond_ff ?_ | refine Br.eqT (by omega) ?_ | refine Br.eqF (by omega) ?_ | refine Br.neT (by omega) ?_ | refine Br.neF (by omega) ?_ | refine Nm.keep ?_ | refine Need.mk (by dsimp only; omega) ?_ | refine Ld.mk' _ rfl ?_ | refine Need.mk (by first | decide | omega | kernel_rfl) ?_ | refine Nm.i64 (by omega) ?_ | refine Nm.u64 (by omega) ?_ | refine Nm.u8 (by omega) ?_) | refine TRL.met rfl rfl rfl rfl rfl rfl rfl rfl rfl (bytes_met _ n hs) ?_ | (refine optK.some ht ?_; dsimp only) | refine sIntsK.mk ?_ | refine TRL.step (TTok _ _) ?_ | (refine x_exq (TTok _ _) ?_; (conv => whnf); fail_if_success (guard_target =ₛ False)))
    refine TR.loopH (fun k : Nat => [(5, .v (.int .i64 (numL ((sInts b).take k)))), (13, .v (.int .i64 k))]) (fun _ => []) (fun k => k ≤ n) (fun k => n - k) 0 (Nat.zero_le _) ?_ ?_
    · repeat' ((conv => whnf); first | exact trivial | exact Fgt.nil | exact Fgt.mk rfl rfl rfl | refine And.intro rfl ?_ | refine And.intro ?_ ?_)
    · intro k hk
      by_cases hkn : k < n
      · have hg := sInts_get b k (by omega)
        have hld := subL_byt (sInts b) k _ hg
        have hx := bAt_range b k
        have hnx := numL_take (sInts b) k _ hg
        have hr := numL_range k (sInts b) (sInts_range b)
        have hp : (256 : Int) ^ k ≤ 4294967296 := by
          have : k = 0 ∨ k = 1 ∨ k = 2 ∨ k = 3 := by omega
          rcases this with rfl | rfl | rfl | rfl <;> decide
        generalize bAt b k = x at hld hx hnx
        have hld2 : subL (byt (sInts b)) (0 * 1 + ((k : Int)).toNat * 1) 1 = some [AV.v (Value.int IntKind.u8 x)] := by simpa using hld
        have hor := or_byte (numL ((sInts b).take k)) x (by omega) (by omega)
        rw [← hnx] at hor
        repeat' ((conv => whnf); first | (with_reducible first | refine TR.seq ?_ | refine TR.regionL ?_ | refine TR.drawn (TTok _ _) mixed ?_ | refine TR.block ?_ | refine TR.ret ?_ | refine TR.exit ?_ | refine TR.skip ?_ | refine TR.condB rfl ?_ | refine TRL.nil ?_ | refine Br.cond_t ?_ | refine Br.cond_f ?_ | refine Br.yes (by first | decide | assumption | (apply decide_eq_true; omega)) ?_ | refine Br.non (by first | decide | assumption | (apply decide_eq_false; omega)) ?_ | refine Br.cond_ff ?_ | refine Br.eqT (by omega) ?_ | refine Br.eqF (by omega) ?_ | refine Br.neT (by omega) ?_ | refine Br.neF (by omega) ?_ | refine Ld.mk' _ rfl ?_ | refine Need.mk (by first | decide | omega | kernel_rfl) ?_ | refine Nm.i64 (by omega) ?_ | refine Nm.u64 (by omega) ?_ | refine Nm.u8 (by omega) ?_) | refine Nm.mk' _ hor ?_ | refine Ld.mk' _ hld2 ?_ | refine Sh.shrL ?_ | refine Sh.shlL ?_ | refine Nm.fd (by decide) ?_ | refine Nm.keep ?_ | refine Need.mk (by dsimp only; omega) ?_ | refine TRL.step (TTok _ _) ?_ | (refine x_exq (TTok _ _) ?_; (conv => whnf); fail_if_success (guard_target =ₛ False)))
        all_goals (conv => whnf)
        refine ⟨k + 1, by omega, by omega, ?_⟩
        repeat' ((conv => whnf); first | exact trivial | exact Fgt.nil | exact Fgt.mk rfl rfl rfl | refine And.intro rfl ?_ | refine And.intro ?_ ?_)
        all_goals exact congrArg (fun z => AV.v (Value.int IntKind.i64 z)) hor
      · obtain rfl : k = n := by omega
        repeat' ((conv => whnf); first | (with_reducible first | refine TR.seq ?_ | refine TR.regionL ?_ | refine TR.drawn (TTok _ _) mixed ?_ | refine TR.block ?_ | refine TR.ret ?_ | refine TR.exit ?_ | refine TR.skip ?_ | refine TR.condB rfl ?_ | refine TRL.nil ?_ | refine Br.cond_t ?_ | refine Br.cond_f ?_ | refine Br.yes (by first | decide | assumption | (apply decide_eq_true; omega)) ?_ | refine Br.non (by first | decide | assumption | (apply decide_eq_false; omega)) ?_ | refine Br.cond_ff ?_ | refine Br.eqT (by omega) ?_ | refine Br.eqF (by omega) ?_ | refine Br.neT (by omega) ?_ | refine Br.neF (by omega) ?_ | refine Ld.mk' _ rfl ?_ | refine Need.mk (by first | decide | omega | kernel_rfl) ?_ | refine Nm.i64 (by omega) ?_ | refine Nm.u64 (by omega) ?_ | refine Nm.u8 (by omega) ?_) | refine Ld.mk' _ hld ?_ | refine Nm.keep ?_ | refine Need.mk (by dsimp only; omega) ?_ | refine TRL.step (TTok _ _) ?_ | (refine x_exq (TTok _ _) ?_; (conv => whnf); fail_if_success (guard_target =ₛ False)))
        all_goals (conv => whnf)
        all_goals exact ⟨_, rfl, by rw [List.take_of_length_le (by omega)]; rfl, rfl⟩
theorem bytes_metI (s : ByteArray) (z : Int) (n : Nat) (hz : z = n) (hs : s.size < 4294967281) : SoM 88 s [.int .i64 z] (tkO n s) (fun p => p.2) (fun p => .string p.1) := by
  subst hz
  exact bytes_met s n hs
theorem ba_nil {s : ByteArray} (h : s.size = 0) : s = ⟨#[]⟩ := by
  apply ba_ext
  have h2 : s.data.size = 0 := h
  rw [Array.eq_empty_of_size_eq_zero h2]
set_option maxHeartbeats 4000000 in
theorem name_met (s : ByteArray) (hs : s.size < 4294967281) : SoM 70 s [] (nameO s) (fun p => p.2) (fun p => .string p.1) := by
  refine MetO.of (TTok _ _) Tryz.func70 (by kernel_rfl) rfl (fun _ _ => rfl) rfl ?_
  have hN := rgN_ok s
  obtain ⟨N, hNe⟩ : ∃ N, rgN s = N := ⟨_, rfl⟩
  rw [hNe] at hN
  have hP : nmP s = lbPos s N := by unfold nmP; rw [hNe]
  have hPn := nmP_nn s
  have hPl := nmP_le s
  conv => whnf
  repeat' ((conv => whnf); first | (with_reducible first | refine TR.seq ?_ | refine TR.regionL ?_ | refine TR.drawn (TTok _ _) mixed ?_ | refine TR.block ?_ | refine TR.ret ?_ | refine TR.exit ?_ | refine TR.skip ?_ | refine TR.condB rfl ?_ | refine TRL.nil ?_ | refine Br.cond_t ?_ | refine Br.cond_f ?_ | refine Br.yes (by first | decide | assumption | (apply decide_eq_true; omega)) ?_ | refine Br.non (by first | decide | assumption | (apply decide_eq_false; omega)) ?_ | refine Br.cond_ff ?_ | refine Br.eqT (by omega) ?_ | refine Br.eqF (by omega) ?_ | refine Br.neT (by omega) ?_ | refine Br.neF (by omega) ?_ | refine Nm.keep ?_ | refine Need.mk (by dsimp only; omega) ?_ | refine Ld.mk' _ rfl ?_ | refine Need.mk (by first | decide | omega | kernel_rfl) ?_ | refine Nm.i64 (by omega) ?_ | refine Nm.u64 (by omega) ?_ | refine Nm.u8 (by omega) ?_) | refine TRL.step (TTok _ _) ?_ | (refine x_exq (TTok _ _) ?_; (conv => whnf); fail_if_success (guard_target =ₛ False)))
  refine TR.loopH (fun n : Nat => [(3, .v (.int .i64 n))]) (fun _ => []) (fun n => (∃ k, k ≤ N ∧ (n : Int) = lbPos s k) ∨ (nmP s < n ∧ ¬ (nmP s < s.size ∧ bAt s (nmP s) = 0) ∧ n < 4294967281 + 300)) (fun n => s.size + 1000 - n) 0 (.inl ⟨0, Nat.zero_le _, rfl⟩) ?_ ?_
  · repeat' ((conv => whnf); first | exact trivial | exact Fgt.nil | exact Fgt.mk rfl rfl rfl | refine And.intro rfl ?_ | refine And.intro ?_ ?_)
  · intro n hn
    have hx := bAt_range s n
    have hnb : n < 4294967281 + 300 := by
      rcases hn with ⟨k, hk, e⟩ | h
      · have := hN.le k hk
        omega
      · omega
    by_cases c1 : (n : Int) < s.size ∧ bAt s n ≠ 0
    · obtain ⟨c1, c2⟩ := c1
      have nxt : ((∃ k, k ≤ N ∧ ((n + (1 + (bAt s n).toNat) : Nat) : Int) = lbPos s k) ∨ (nmP s < (n + (1 + (bAt s n).toNat) : Nat) ∧ ¬ (nmP s < s.size ∧ bAt s (nmP s) = 0) ∧ (n + (1 + (bAt s n).toNat) : Nat) < 4294967281 + 300)) := by
        rcases hn with ⟨k, hk, e⟩ | ⟨q1, q2, q3⟩
        · by_cases hkN : k < N
          · refine .inl ⟨k + 1, hkN, ?_⟩
            simp only [lbPos, ← e]
            omega
          · obtain rfl : k = N := by omega
            right
            rw [hP, ← e]
            refine ⟨by omega, fun hh => c2 hh.2, by omega⟩
        · exact .inr ⟨by omega, q2, by omega⟩
      have hcast : ((n + (1 + (bAt s n).toNat) : Nat) : Int) = (n : Int) + (1 + bAt s n) := by omega
      repeat' ((conv => whnf); first | (with_reducible first | refine TR.seq ?_ | refine TR.regionL ?_ | refine TR.drawn (TTok _ _) mixed ?_ | refine TR.block ?_ | refine TR.ret ?_ | refine TR.exit ?_ | refine TR.skip ?_ | refine TR.condB rfl ?_ | refine TRL.nil ?_ | refine Br.cond_t ?_ | refine Br.cond_f ?_ | refine Br.yes (by first | decide | assumption | (apply decide_eq_true; omega)) ?_ | refine Br.non (by first | decide | assumption | (apply decide_eq_false; omega)) ?_ | refine Br.cond_ff ?_ | refine Br.eqT (by omega) ?_ | refine Br.eqF (by omega) ?_ | refine Br.neT (by omega) ?_ | refine Br.neF (by omega) ?_ | refine Ld.mk' _ rfl ?_ | refine Need.mk (by first | decide | omega | kernel_rfl) ?_ | refine Nm.i64 (by omega) ?_ | refine Nm.u64 (by omega) ?_ | refine Nm.u8 (by omega) ?_) | refine Br.non (by simpa using c2) ?_ | refine Br.yes (by simp; omega) ?_ | refine Nm.keep ?_ | refine Need.mk (by dsimp only; omega) ?_ | refine TRL.step (TTok _ _) ?_ | (refine x_exq (TTok _ _) ?_; (conv => whnf); fail_if_success (guard_target =ₛ False)))
      all_goals (conv => whnf)
      refine ⟨n + (1 + (bAt s n).toNat), nxt, by omega, ?_⟩
      repeat' ((conv => whnf); first | exact trivial | exact Fgt.nil | exact Fgt.mk rfl rfl rfl | refine And.intro rfl ?_ | refine And.intro ?_ ?_)
      all_goals exact congrArg (fun z => AV.v (Value.int IntKind.i64 z)) hcast.symm
    · have hst : ∀ b r, tkO (n + 1) s = some (b, r) → rgt b = true → nameO s = some (b, r) := by
        intro b r ht hb
        unfold tkO at ht
        split at ht
        · rename_i hle
          simp only [Option.some.injEq, Prod.mk.injEq] at ht
          obtain ⟨rfl, rfl⟩ := ht
          have hnm : nmP s ≤ n := by
            rcases hn with ⟨k, hk, e⟩ | ⟨q1, q2, q3⟩
            · by_cases hkN : k < N
              · have := hN.ok k hkN
                rw [← e] at this
                exact (c1 ⟨this.1, this.2.1⟩).elim
              · obtain rfl : k = N := by omega
                omega
            · omega
          rw [rgt_ext (by omega) hle, decide_eq_true_eq] at hb
          unfold nameO
          rw [if_pos ⟨by omega, hb.2.2, by omega⟩, show (nmP s + 1).toNat = n + 1 by omega]
        · cases ht
      have hno : ∀ b r, nameO s = some (b, r) → tkO (n + 1) s = some (b, r) ∧ rgt b = true := by
        intro b r h
        obtain ⟨h1, h2, h3, rfl, rfl⟩ := nameO_some h
        have hnm : nmP s = n := by
          rcases hn with ⟨k, hk, e⟩ | ⟨q1, q2, q3⟩
          · by_cases hkN : k < N
            · have := hN.ok k hkN
              rw [← e] at this
              exact (c1 ⟨this.1, this.2.1⟩).elim
            · obtain rfl : k = N := by omega
              omega
          · exact (q2 ⟨h1, h2⟩).elim
        have e : (nmP s + 1).toNat = n + 1 := by omega
        rw [e]
        refine ⟨by unfold tkO; rw [if_pos (by omega)], ?_⟩
        rw [rgt_ext (by omega) (by omega)]
        exact decide_eq_true ⟨by omega, by omega, h2⟩
      cases ht : tkO (n + 1) s with
      | none =>
        have e : nameO s = none := by
          cases h : nameO s with
          | none => rfl
          | some q => have := (hno q.1 q.2 h).1; rw [ht] at this; cases this
        rw [e]
        by_cases c2 : (n : Int) < s.size
        · have c3 : bAt s n = 0 := by
            by_cases h : bAt s n = 0
            · exact h
            · exact (c1 ⟨c2, h⟩).elim
          repeat' ((conv => whnf); first | (with_reducible first | refine TR.seq ?_ | refine TR.regionL ?_ | refine TR.drawn (TTok _ _) mixed ?_ | refine TR.block ?_ | refine TR.ret ?_ | refine TR.exit ?_ | refine TR.skip ?_ | refine TR.condB rfl ?_ | refine TRL.nil ?_ | refine Br.cond_t ?_ | refine Br.cond_f ?_ | refine Br.yes (by first | decide | assumption | (apply decide_eq_true; omega)) ?_ | refine Br.non (by first | decide | assumption | (apply decide_eq_false; omega)) ?_ | refine Br.cond_ff ?_ | refine Br.eqT (by omega) ?_ | refine Br.eqF (by omega) ?_ | refine Br.neT (by omega) ?_ | refine Br.neF (by omega) ?_ | refine Ld.mk' _ rfl ?_ | refine Need.mk (by first | decide | omega | kernel_rfl) ?_ | refine Nm.i64 (by omega) ?_ | refine Nm.u64 (by omega) ?_ | refine Nm.u8 (by omega) ?_) | refine Br.non (by rw [c3]; rfl) ?_ | refine TRL.met rfl rfl rfl rfl rfl rfl rfl rfl rfl (bytes_metI _ _ (n + 1) (by omega) hs) ?_ | refine optK.none ht ?_ | refine Nm.keep ?_ | refine Need.mk (by dsimp only; omega) ?_ | refine TRL.step (TTok _ _) ?_ | (refine x_exq (TTok _ _) ?_; (conv => whnf); fail_if_success (guard_target =ₛ False)))
          all_goals (conv => whnf)
          all_goals exact ⟨rfl, rfl⟩
        · skip
          repeat' ((conv => whnf); first | (with_reducible first | refine TR.seq ?_ | refine TR.regionL ?_ | refine TR.drawn (TTok _ _) mixed ?_ | refine TR.block ?_ | refine TR.ret ?_ | refine TR.exit ?_ | refine TR.skip ?_ | refine TR.condB rfl ?_ | refine TRL.nil ?_ | refine Br.cond_t ?_ | refine Br.cond_f ?_ | refine Br.yes (by first | decide | assumption | (apply decide_eq_true; omega)) ?_ | refine Br.non (by first | decide | assumption | (apply decide_eq_false; omega)) ?_ | refine Br.cond_ff ?_ | refine Br.eqT (by omega) ?_ | refine Br.eqF (by omega) ?_ | refine Br.neT (by omega) ?_ | refine Br.neF (by omega) ?_ | refine Ld.mk' _ rfl ?_ | refine Need.mk (by first | decide | omega | kernel_rfl) ?_ | refine Nm.i64 (by omega) ?_ | refine Nm.u64 (by omega) ?_ | refine Nm.u8 (by omega) ?_) | refine TRL.met rfl rfl rfl rfl rfl rfl rfl rfl rfl (bytes_metI _ _ (n + 1) (by omega) hs) ?_ | refine optK.none ht ?_ | refine Nm.keep ?_ | refine Need.mk (by dsimp only; omega) ?_ | refine TRL.step (TTok _ _) ?_ | (refine x_exq (TTok _ _) ?_; (conv => whnf); fail_if_success (guard_target =ₛ False)))
          all_goals (conv => whnf)
          all_goals exact ⟨rfl, rfl⟩
      | some q =>
        obtain ⟨b, r⟩ := q
        have hsz := tkO_size ht
        have c2 : (n : Int) < s.size := by omega
        have c3 : bAt s n = 0 := by
          by_cases h : bAt s n = 0
          · exact h
          · exact (c1 ⟨c2, h⟩).elim
        have h115 := fun w => nright b (by omega) w
        cases hrb : rgt b with
        | true =>
          rw [hrb] at h115
          rw [hst b r ht hrb]
          repeat' ((conv => whnf); first | (with_reducible first | refine TR.seq ?_ | refine TR.regionL ?_ | refine TR.drawn (TTok _ _) mixed ?_ | refine TR.block ?_ | refine TR.ret ?_ | refine TR.exit ?_ | refine TR.skip ?_ | refine TR.condB rfl ?_ | refine TRL.nil ?_ | refine Br.cond_t ?_ | refine Br.cond_f ?_ | refine Br.yes (by first | decide | assumption | (apply decide_eq_true; omega)) ?_ | refine Br.non (by first | decide | assumption | (apply decide_eq_false; omega)) ?_ | refine Br.cond_ff ?_ | refine Br.eqT (by omega) ?_ | refine Br.eqF (by omega) ?_ | refine Br.neT (by omega) ?_ | refine Br.neF (by omega) ?_ | refine Ld.mk' _ rfl ?_ | refine Need.mk (by first | decide | omega | kernel_rfl) ?_ | refine Nm.i64 (by omega) ?_ | refine Nm.u64 (by omega) ?_ | refine Nm.u8 (by omega) ?_ | refine x_ret (f := 115) rfl rfl (fun w _ => h115 w) ?_) | refine Br.non (by rw [c3]; rfl) ?_ | refine TRL.met rfl rfl rfl rfl rfl rfl rfl rfl rfl (bytes_metI _ _ (n + 1) (by omega) hs) ?_ | (refine optK.some ht ?_; dsimp only) | refine TRL.met rfl rfl rfl rfl rfl rfl rfl rfl rfl (must_met _ _) ?_ | (refine optK.some (p := ()) rfl ?_; dsimp only) | refine Nm.keep ?_ | refine Need.mk (by dsimp only; omega) ?_ | refine TRL.step (TTok _ _) ?_ | (refine x_exq (TTok _ _) ?_; (conv => whnf); fail_if_success (guard_target =ₛ False)))
          all_goals (conv => whnf)
          all_goals exact ⟨_, rfl, rfl, rfl⟩
        | false =>
          rw [hrb] at h115
          have e : nameO s = none := by
            cases h : nameO s with
            | none => rfl
            | some q =>
              obtain ⟨e1, e2⟩ := hno q.1 q.2 h
              rw [ht] at e1
              cases e1
              rw [hrb] at e2
              cases e2
          rw [e]
          repeat' ((conv => whnf); first | (with_reducible first | refine TR.seq ?_ | refine TR.regionL ?_ | refine TR.drawn (TTok _ _) mixed ?_ | refine TR.block ?_ | refine TR.ret ?_ | refine TR.exit ?_ | refine TR.skip ?_ | refine TR.condB rfl ?_ | refine TRL.nil ?_ | refine Br.cond_t ?_ | refine Br.cond_f ?_ | refine Br.yes (by first | decide | assumption | (apply decide_eq_true; omega)) ?_ | refine Br.non (by first | decide | assumption | (apply decide_eq_false; omega)) ?_ | refine Br.cond_ff ?_ | refine Br.eqT (by omega) ?_ | refine Br.eqF (by omega) ?_ | refine Br.neT (by omega) ?_ | refine Br.neF (by omega) ?_ | refine Ld.mk' _ rfl ?_ | refine Need.mk (by first | decide | omega | kernel_rfl) ?_ | refine Nm.i64 (by omega) ?_ | refine Nm.u64 (by omega) ?_ | refine Nm.u8 (by omega) ?_ | refine x_ret (f := 115) rfl rfl (fun w _ => h115 w) ?_) | refine Br.non (by rw [c3]; rfl) ?_ | refine TRL.met rfl rfl rfl rfl rfl rfl rfl rfl rfl (bytes_metI _ _ (n + 1) (by omega) hs) ?_ | (refine optK.some ht ?_; dsimp only) | refine TRL.met rfl rfl rfl rfl rfl rfl rfl rfl rfl (must_met _ _) ?_ | refine optK.none rfl ?_ | refine Nm.keep ?_ | refine Need.mk (by dsimp only; omega) ?_ | refine TRL.step (TTok _ _) ?_ | (refine x_exq (TTok _ _) ?_; (conv => whnf); fail_if_success (guard_target =ₛ False)))
          all_goals (conv => whnf)
          all_goals exact ⟨rfl, rfl⟩
end Go.Proofs.YtbladfkakmdigaaGreatDoor
set_option maxRecDepth 100000
set_option linter.unusedVariables false
set_option linter.unusedSimpArgs false
namespace Go.Proofs.YtbladfkakmdigaaGreatDoor
open Go.SX
def its (l : List Int) : List AV := l.map fun z => .v (.int .i64 z)
theorem its_app (l r : List Int) : its (l ++ r) = its l ++ its r := by simp [its]
theorem its_one (z : Int) : its [z] = [.v (.int .i64 z)] := rfl
theorem its_vals (l : List Int) : its l = (l.map (Value.int .i64)).map .v := by simp [its]
theorem renL_its (σ : List Nat) (l : List Int) : renL σ (its l) = its l := by rw [its_vals, renL_vals]
theorem refsInL_its (ch : List (Option Chunk)) (l : List Int) : refsInL ch (its l) = true := by rw [its_vals, refsInL_vals]
theorem nr_its (ms : List Nat) (l : List Int) : noRefL ms (its l) = true := by rw [its_vals, nr_map]
theorem subL_its (l : List Int) (k : Nat) (z : Int) (h : l[k]? = some z) : subL (its l) k 1 = some [.v (.int .i64 z)] := by
  have : ∀ (l : List Int) (k : Nat), l[k]? = some z → subL (its l) k 1 = some [.v (.int .i64 z)] := by
    intro l
    induction l with
    | nil => intro k h; simp at h
    | cons x l ih =>
      intro k h
      cases k with
      | zero =>
        simp at h
        subst h
        cases l <;> rfl
      | succ k => exact ih k (by simpa using h)
  exact this l k h
theorem Con.inI {P : Program} {I : World → Prop} {f : FuncId} {A : (Nat → Nat) → List AV} {H : (Nat → Nat) → List (Option Chunk)} {α : Type} {Q : α → Prop} {R : α → (Nat → Nat) → AV} {C : α → (Nat → Nat) → List (Option Chunk)} {B : List PanicEntry → Prop} (h : Con P (fun _ => True) f A H Q R C B) : Con P I f A H Q R C B :=
  ⟨h.has, h.cl, h.ca, h.nA, h.nH, h.nR, h.nC, h.fin, fun w ρ xs _ h2 h3 => h.run w ρ xs (fun _ _ => trivial) h2 h3⟩
def bitsAt (w x i : Int) : Nat → List Int
  | 0 => []
  | k + 1 => bitsAt w x i k ++ (if x / 2 ^ (7 - k) % 2 = 1 then [256 * w + 8 * i + k] else [])
def bitsTo (w : Int) (b : ByteArray) : Nat → List Int
  | 0 => []
  | i + 1 => bitsTo w b i ++ bitsAt w (bAt b i) i 8
theorem bitsAt_len (w x i : Int) : ∀ k, (bitsAt w x i k).length ≤ k
  | 0 => by simp [bitsAt]
  | k + 1 => by
    have := bitsAt_len w x i k
    simp only [bitsAt, List.length_append]
    split <;> simp <;> omega
theorem bitsTo_len (w : Int) (b : ByteArray) : ∀ i, (bitsTo w b i).length ≤ 8 * i
  | 0 => by simp [bitsTo]
  | i + 1 => by
    have := bitsTo_len w b i
    have := bitsAt_len w (bAt b i) i 8
    simp only [bitsTo, List.length_append]
    omega
def tyStep (s : ByteArray) (last : Int) : Option (Int × ByteArray × ByteArray) :=
  (numO 1 s).bind fun (w, s1) => (numO 1 s1).bind fun (n, s2) => (tkO n.toNat s2).bind fun (b, s3) =>
    if last < w ∧ 0 < b.size ∧ b.size ≤ 32 ∧ bAt b (b.size - 1) ≠ 0 then some (w, b, s3) else none
def typesO : Nat → ByteArray → Int → List Int → Option (List Int)
  | 0, _, _, _ => none
  | f + 1, s, last, out => if s.size = 0 then some out else (tyStep s last).bind fun (w, b, s') => typesO f s' w (out ++ bitsTo w b b.size)
theorem num1_range {s r : ByteArray} {v : Int} (h : numO 1 s = some (v, r)) : 0 ≤ v ∧ v ≤ 255 ∧ r.size + 1 = s.size := by
  unfold numO at h
  cases ht : tkO 1 s with
  | none => rw [ht] at h; cases h
  | some q =>
    obtain ⟨b, r'⟩ := q
    rw [ht] at h
    simp only [Option.map_some, Option.some.injEq, Prod.mk.injEq] at h
    have hz := tkO_size ht
    have hr := numL_range 1 (sInts b) (sInts_range b)
    rw [List.take_of_length_le (by rw [sInts_length]; omega)] at hr
    rw [← h.1, ← h.2]
    omega
theorem or_low (c a b : Int) (j : Nat) (ha : a = c * 2 ^ j) (hc : 0 ≤ c) (hb : 0 ≤ b ∧ b < 2 ^ j) (hj : a + b < 9223372036854775808) : IntKind.i64.wrap (BitVec.ofInt IntKind.i64.bits a ||| BitVec.ofInt IntKind.i64.bits b).toNat = a + b := by
  subst ha
  obtain ⟨m, rfl⟩ : ∃ m : Nat, c = m := ⟨c.toNat, by omega⟩
  obtain ⟨n, rfl⟩ : ∃ n : Nat, b = n := ⟨b.toNat, by omega⟩
  have e0 : (m : Int) * 2 ^ j = ((m * 2 ^ j : Nat) : Int) := by simp
  have hn : n < 2 ^ j := by have := hb.2; have e : ((2 : Int) ^ j) = ((2 ^ j : Nat) : Int) := by simp
                            rw [e] at this; omega
  rw [e0] at hj ⊢
  have e2 : (BitVec.ofInt IntKind.i64.bits ((m * 2 ^ j : Nat) : Int) ||| BitVec.ofInt IntKind.i64.bits (n : Int)).toNat = m * 2 ^ j + n := by
    show (BitVec.ofInt 64 ((m * 2 ^ j : Nat) : Int) ||| BitVec.ofInt 64 (n : Int)).toNat = m * 2 ^ j + n
    rw [BitVec.toNat_or, BitVec.ofInt_natCast, BitVec.ofInt_natCast, BitVec.toNat_ofNat, BitVec.toNat_ofNat, Nat.mod_eq_of_lt (by omega), Nat.mod_eq_of_lt (by omega)]
    have := Nat.shiftLeft_add_eq_or_of_lt (a := m) (b := n) (i := j) hn
    rw [Nat.shiftLeft_eq] at this
    exact this.symm
  rw [e2, wrap_i64 (by omega)]
  simp
theorem and1_u8 (a : Int) (h : 0 ≤ a ∧ a ≤ 255) : IntKind.u8.wrap (BitVec.ofInt IntKind.u8.bits a &&& BitVec.ofInt IntKind.u8.bits 1).toNat = a % 2 := by
  obtain ⟨m, rfl⟩ : ∃ m : Nat, a = m := ⟨a.toNat, by omega⟩
  have e2 : (BitVec.ofInt IntKind.u8.bits (m : Int) &&& BitVec.ofInt IntKind.u8.bits 1).toNat = m % 2 := by
    show (BitVec.ofInt 8 (m : Int) &&& BitVec.ofInt 8 ((1 : Nat) : Int)).toNat = m % 2
    rw [BitVec.toNat_and, BitVec.ofInt_natCast, BitVec.ofInt_natCast, BitVec.toNat_ofNat, BitVec.toNat_ofNat, Nat.mod_eq_of_lt (by omega), Nat.mod_eq_of_lt (by omega)]
    exact Nat.and_two_pow_sub_one_eq_mod (n := 1) m
  rw [e2, wrap_u8 (by omega)]
  simp
end Go.Proofs.YtbladfkakmdigaaGreatDoor
set_option maxRecDepth 100000
namespace Go.Proofs.YtbladfkakmdigaaGreatDoor
open Go.SX
def tab0 : List Int := [1, 10, 100, 1000, 10000, 100000, 1000000, 10000000, 100000000, 1000000000, 10000000000, 100000000000, 1000000000000, 10000000000000, 100000000000000, 1000000000000000, 10000000000000000, 100000000000000000, 1000000000000000000, 10000000000000000000]
def tab5 : List Int := [0, 1, 56, 2, 57, 49, 28, 3, 61, 58, 42, 50, 38, 29, 17, 4, 62, 47, 59, 36, 45, 43, 51, 22, 53, 39, 33, 30, 24, 18, 12, 5, 63, 55, 48, 27, 60, 41, 37, 16, 46, 35, 44, 21, 52, 32, 23, 11, 54, 26, 40, 15, 34, 20, 31, 10, 25, 14, 19, 9, 13, 8, 7, 6]
theorem I13_of {l : List (String × DataW Unit)} {W : World} (h : laidMet Tryz.prog l W) (hm : ("internal/strconv.uint64pow10", Lib.tabData .u64 tab0) ∈ l) (hm5 : ("math/bits.deBruijn64tab", Lib.tabData .u8 tab5) ∈ l) : I13 W := by
  intro g cells hg
  unfold GG at hg
  split at hg
  · cases hg
    exact laid_tab h hm (t := 253) (e := 179) (n := 20) (by kernel_rfl) (by kernel_rfl) Tryz.underlying253 Tryz.underlying179 (by kernel_rfl) (by kernel_rfl)
  · cases hg
    exact laid_tab h hm5 (t := 268) (e := 5) (n := 64) (by kernel_rfl) (by kernel_rfl) Tryz.underlying268 Tryz.underlying5 (by kernel_rfl) (by kernel_rfl)
  · cases hg
theorem laid_ifc {P : Program} {l : List (String × DataW Unit)} {W : World} {name n : String} {d : DataW Unit} {g : Nat} {t : TypeId} {ms : Array (String × TypeId)} (h : laidMet P l W) (hm : (name, DataW.iface n d) ∈ l)
    (hg : P.globalNamed name = some g) (hty : (P.globals[g]?).map (·.type) = some t) (ht : P.underlying t = some (.interface ms)) : ∃ u v, W.cell? ⟨g, 0, none⟩ = some (.iface u v) := by
  obtain ⟨ps, hl, _⟩ := h
  obtain ⟨g', t', cs, fuel, p, hg', ht', hvar, hd⟩ := laidVars_mem hl _ _ hm
  obtain rfl := Option.some.inj (hg.symm.trans hg')
  obtain rfl := Option.some.inj (hty.symm.trans ht')
  have hc : ∃ u v, cs.toList = [.iface u v] := by
    cases fuel with
    | zero => simp [DataW.trod] at hd
    | succ m =>
      unfold DataW.trod at hd
      rw [ht] at hd
      split at hd <;> simp_all
  obtain ⟨u, v, hc⟩ := hc
  refine ⟨u, v, ?_⟩
  have := World.var?_cell hg hvar 0
  rw [this]
  have e : cs[0]? = cs.toList[0]? := by simp
  rw [e, hc]
  rfl
theorem laid_tabIs {P : Program} {l : List (String × DataW Unit)} {W : World} {name : String} {k : IntKind} {zs : List Int} {g : Nat} {t e : TypeId} {n : Nat} (h : laidMet P l W) (hm : (name, Lib.tabData k zs) ∈ l)
    (hg : P.globalNamed name = some g) (hty : (P.globals[g]?).map (·.type) = some t) (ht : P.underlying t = some (.array n e)) (he : P.underlying e = some (.int k)) (hce : P.cellsOf e = 1) (hct : P.cellsOf t = n) : Lib.TabIs P W name k zs := by
  obtain ⟨ps, hl, _⟩ := h
  obtain ⟨g', t', cs, fuel, p, hg', ht', hvar, hd⟩ := laidVars_mem hl _ _ hm
  obtain rfl := Option.some.inj (hg.symm.trans hg')
  obtain rfl := Option.some.inj (hty.symm.trans ht')
  have hcs := Lib.cells_of_tab ht he hce hct hd
  unfold Lib.TabIs
  rw [hvar, ← hcs]
theorem tab0_pow : tab0 = Lib.pow10Tab := by decide
theorem ic_of {l : List (String × DataW Unit)} {W : World} (h : laidMet Tryz.prog l W) (hm : ("internal/strconv.uint64pow10", Lib.tabData .u64 tab0) ∈ l) (hm5 : ("math/bits.deBruijn64tab", Lib.tabData .u8 tab5) ∈ l)
    {n2 n3 : String} {d2 d3 : DataW Unit} (h2 : ("strconv.ErrSyntax", DataW.iface n2 d2) ∈ l) (h3 : ("strconv.ErrRange", DataW.iface n3 d3) ∈ l) : ∃ u2 v2 u3 v3, IC u2 v2 u3 v3 W := by
  obtain ⟨u2, v2, q2⟩ := laid_ifc h h2 (by kernel_rfl) (by kernel_rfl) Tryz.underlying105
  obtain ⟨u3, v3, q3⟩ := laid_ifc h h3 (by kernel_rfl) (by kernel_rfl) Tryz.underlying105
  refine ⟨u2, v2, u3, v3, I13_of h hm hm5, ⟨q2, q3⟩, ?_⟩
  rw [← tab0_pow]
  exact laid_tabIs h hm (g := 2) (t := 253) (e := 179) (n := 20) (by kernel_rfl) (by kernel_rfl) Tryz.underlying253 Tryz.underlying179 (by kernel_rfl) (by kernel_rfl)
end Go.Proofs.YtbladfkakmdigaaGreatDoor
