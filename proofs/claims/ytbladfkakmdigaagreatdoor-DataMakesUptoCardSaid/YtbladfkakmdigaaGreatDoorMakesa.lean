/-
  Put together by the program and by the document, SOA, RRSIG, DNSKEY and DS are the same or refused alike, for arguments of at most 1048576 in all.
-/
import Derived.Test.YtbladfkakmdigaaGreatDoorProg
import Derived.Test.YtbladfkakmdigaaGreatDoorSxb
import Derived.Shelf.Strings.Builder1
import Derived.Shelf.Strings.Builder2
import Derived.Shelf.Strings.OnBuilder
import Derived.Shelf.Small.Strs
import Derived.Shelf.Small.Wraps
import Derived.Shelf.Strings.BuilderF
import Derived.Shelf.Strings.BuilderK
import Derived.Shelf.Utf8.RuneCount
import Derived.Shelf.Strconv.Atoi
import Derived.Shelf.Strconv.Itoa0
import Derived.Shelf.Strconv.Itoa1
import Derived.Shelf.LaysM
import Derived.Shelf.Strconv.Itoa2
import Derived.Shelf.Strconv.Itoa3
import Derived.Shelf.Strconv.AtoiErrFast
import Derived.Shelf.Strconv.ParseIntEmpty
import Derived.Shelf.Strconv.AtoiFail
import Derived.Shelf.Strconv.Clone
import Derived.Shelf.Strconv.SyntaxError
import Derived.Shelf.LaysC
import Derived.Shelf.Strconv.ToError
import Derived.Shelf.Strconv.AtoiErr
import Derived.Shelf.Strconv.ErrVar
import Derived.Shelf.Strconv.Lower
import Derived.Shelf.Strconv.ParseUint10
import Derived.Shelf.Strconv.ParseUint10Empty
import Derived.Shelf.Strconv.ParseUint10Any
import Derived.Shelf.Strconv.ParseInt10
import Derived.Shelf.Strconv.AtoiLong
import Derived.Shelf.Strconv.AtoiInnerAll
import Derived.Shelf.Strconv.RangeError
import Derived.Shelf.Strconv.ToErrorRange
import Derived.Shelf.Strconv.AtoiAll
import Derived.Shelf.Strconv.ErrVarAll
import Derived.Shelf.Strconv.ParseUintEmpty
import Derived.Shelf.Strings.Search1
import Derived.Shelf.Strings.Search2
import Derived.Shelf.Strings.Search3
import Derived.Shelf.Strings.Count
import Derived.Shelf.Strings.Shaped
import Derived.Shelf.Strings.Prefix
import Derived.Shelf.Strings.Split
import Derived.Shelf.Strings.SplitShaped
import Derived.Shelf.Unicode.Decode
import Derived.Shelf.Strings.RuneCount
import Derived.Shelf.Strings.Explode
import Derived.Shelf.Unicode.DecodeSlow
import Derived.Shelf.Unicode.DecodeAny
import Derived.Test.YtbladfkakmdigaaGreatDoorSxc
set_option linter.unusedVariables false
set_option linter.unusedSimpArgs false
set_option linter.unnecessarySimpa false
namespace Go.Proofs.YtbladfkakmdigaaGreatDoor
open Go.SX
def TT : List (Option Ty) := [
  none,
  some ⟨.fn, 1, 8, [.nilFunc], false⟩,
  some ⟨(.int .i64), 1, 8, [.int .i64 0], false⟩,
  some ⟨(.int .i64), 1, 8, [.int .i64 0], false⟩,
  some ⟨.bool, 1, 1, [.bool false], false⟩,
  some ⟨(.int .u8), 1, 1, [.int .u8 0], false⟩,
  some ⟨(.int .u8), 1, 1, [.int .u8 0], false⟩,
  some ⟨(.st [(0, 2), (1, 3), (2, 4), (3, 6)]), 4, 24, [.int .i64 0, .int .i64 0, .bool false, .int .u8 0], true⟩,
  some ⟨(.st [(0, 2), (1, 3), (2, 4), (3, 6)]), 4, 24, [.int .i64 0, .int .i64 0, .bool false, .int .u8 0], true⟩,
  some ⟨.str, 1, 16, [.string ⟨#[]⟩], false⟩,
  some ⟨.str, 1, 16, [.string ⟨#[]⟩], false⟩,
  some ⟨.str, 1, 16, [.string ⟨#[]⟩], false⟩,
  some ⟨(.int .u64), 1, 8, [.int .u64 0], false⟩,
  some ⟨(.st [(0, 9), (1, 12)]), 2, 24, [.string ⟨#[]⟩, .int .u64 0], false⟩,
  some ⟨(.st [(0, 9), (1, 12)]), 2, 24, [.string ⟨#[]⟩, .int .u64 0], false⟩,
  some ⟨(.ptr 270), 1, 8, [.pointer none], false⟩,
  some ⟨(.ptr 273), 1, 8, [.pointer none], false⟩,
  some ⟨(.ptr 280), 1, 8, [.pointer none], false⟩,
  some ⟨(.st [(0, 17)]), 1, 8, [.pointer none], false⟩,
  some ⟨(.st [(0, 17)]), 1, 8, [.pointer none], false⟩,
  some ⟨.ifc, 1, 16, [.nilIface], false⟩,
  some ⟨(.int .i32), 1, 4, [.int .i32 0], false⟩,
  some ⟨.fn, 1, 8, [.nilFunc], false⟩,
  some ⟨(.int .i64), 1, 8, [.int .i64 0], false⟩,
  none,
  some ⟨.fn, 1, 8, [.nilFunc], false⟩,
  none,
  some ⟨.fn, 1, 8, [.nilFunc], false⟩,
  none,
  some ⟨.fn, 1, 8, [.nilFunc], false⟩,
  none,
  some ⟨.fn, 1, 8, [.nilFunc], false⟩,
  some ⟨.fn, 1, 8, [.nilFunc], false⟩,
  some ⟨.fn, 1, 8, [.nilFunc], false⟩,
  none,
  some ⟨.fn, 1, 8, [.nilFunc], false⟩,
  some ⟨(.st [(0, 9), (1, 9), (2, 3), (3, 3), (4, 3), (5, 3), (6, 3)]), 7, 72, [.string ⟨#[]⟩, .string ⟨#[]⟩, .int .i64 0, .int .i64 0, .int .i64 0, .int .i64 0, .int .i64 0], true⟩,
  some ⟨(.st [(0, 9), (1, 9), (2, 3), (3, 3), (4, 3), (5, 3), (6, 3)]), 7, 72, [.string ⟨#[]⟩, .string ⟨#[]⟩, .int .i64 0, .int .i64 0, .int .i64 0, .int .i64 0, .int .i64 0], true⟩,
  none,
  some ⟨.fn, 1, 8, [.nilFunc], false⟩,
  none,
  some ⟨.fn, 1, 8, [.nilFunc], false⟩,
  some ⟨(.st [(0, 3), (1, 3), (2, 3), (3, 3), (4, 3), (5, 3), (6, 3), (7, 9), (8, 9)]), 9, 88, [.int .i64 0, .int .i64 0, .int .i64 0, .int .i64 0, .int .i64 0, .int .i64 0, .int .i64 0, .string ⟨#[]⟩, .string ⟨#[]⟩], true⟩,
  some ⟨(.st [(0, 3), (1, 3), (2, 3), (3, 3), (4, 3), (5, 3), (6, 3), (7, 9), (8, 9)]), 9, 88, [.int .i64 0, .int .i64 0, .int .i64 0, .int .i64 0, .int .i64 0, .int .i64 0, .int .i64 0, .string ⟨#[]⟩, .string ⟨#[]⟩], true⟩,
  none,
  some ⟨.fn, 1, 8, [.nilFunc], false⟩,
  none,
  some ⟨.fn, 1, 8, [.nilFunc], false⟩,
  some ⟨(.st [(0, 3), (1, 3), (2, 3), (3, 9)]), 4, 40, [.int .i64 0, .int .i64 0, .int .i64 0, .string ⟨#[]⟩], true⟩,
  some ⟨(.st [(0, 3), (1, 3), (2, 3), (3, 9)]), 4, 40, [.int .i64 0, .int .i64 0, .int .i64 0, .string ⟨#[]⟩], true⟩,
  none,
  some ⟨.fn, 1, 8, [.nilFunc], false⟩,
  none,
  some ⟨.fn, 1, 8, [.nilFunc], false⟩,
  some ⟨(.st [(0, 3), (1, 3), (2, 3), (3, 9)]), 4, 40, [.int .i64 0, .int .i64 0, .int .i64 0, .string ⟨#[]⟩], true⟩,
  some ⟨(.st [(0, 3), (1, 3), (2, 3), (3, 9)]), 4, 40, [.int .i64 0, .int .i64 0, .int .i64 0, .string ⟨#[]⟩], true⟩,
  none,
  some ⟨.fn, 1, 8, [.nilFunc], false⟩,
  none,
  some ⟨.fn, 1, 8, [.nilFunc], false⟩,
  some ⟨(.sl 3), 1, 24, [.slice none 0 0], false⟩,
  some ⟨(.st [(0, 9), (1, 60)]), 2, 40, [.string ⟨#[]⟩, .slice none 0 0], true⟩,
  some ⟨(.st [(0, 9), (1, 60)]), 2, 40, [.string ⟨#[]⟩, .slice none 0 0], true⟩,
  none,
  some ⟨.fn, 1, 8, [.nilFunc], false⟩,
  none,
  some ⟨.fn, 1, 8, [.nilFunc], false⟩,
  some ⟨(.st [(0, 3), (1, 3), (2, 3), (3, 9), (4, 9), (5, 60)]), 6, 80, [.int .i64 0, .int .i64 0, .int .i64 0, .string ⟨#[]⟩, .string ⟨#[]⟩, .slice none 0 0], true⟩,
  some ⟨(.st [(0, 3), (1, 3), (2, 3), (3, 9), (4, 9), (5, 60)]), 6, 80, [.int .i64 0, .int .i64 0, .int .i64 0, .string ⟨#[]⟩, .string ⟨#[]⟩, .slice none 0 0], true⟩,
  none,
  some ⟨.fn, 1, 8, [.nilFunc], false⟩,
  none,
  some ⟨.fn, 1, 8, [.nilFunc], false⟩,
  some ⟨(.sl 23), 1, 24, [.slice none 0 0], false⟩,
  some ⟨(.sl 4), 1, 24, [.slice none 0 0], false⟩,
  some ⟨.fn, 1, 8, [.nilFunc], false⟩,
  some ⟨.fn, 1, 8, [.nilFunc], false⟩,
  some ⟨.fn, 1, 8, [.nilFunc], false⟩,
  some ⟨.fn, 1, 8, [.nilFunc], false⟩,
  some ⟨.fn, 1, 8, [.nilFunc], false⟩,
  some ⟨.fn, 1, 8, [.nilFunc], false⟩,
  some ⟨.fn, 1, 8, [.nilFunc], false⟩,
  some ⟨.fn, 1, 8, [.nilFunc], false⟩,
  some ⟨.fn, 1, 8, [.nilFunc], false⟩,
  some ⟨.fn, 1, 8, [.nilFunc], false⟩,
  some ⟨.fn, 1, 8, [.nilFunc], false⟩,
  some ⟨.fn, 1, 8, [.nilFunc], false⟩,
  some ⟨.fn, 1, 8, [.nilFunc], false⟩,
  some ⟨.fn, 1, 8, [.nilFunc], false⟩,
  some ⟨.fn, 1, 8, [.nilFunc], false⟩,
  some ⟨.fn, 1, 8, [.nilFunc], false⟩,
  some ⟨.fn, 1, 8, [.nilFunc], false⟩,
  some ⟨.fn, 1, 8, [.nilFunc], false⟩,
  some ⟨.fn, 1, 8, [.nilFunc], false⟩,
  some ⟨.fn, 1, 8, [.nilFunc], false⟩,
  some ⟨(.sl 9), 1, 24, [.slice none 0 0], false⟩,
  some ⟨.fn, 1, 8, [.nilFunc], false⟩,
  some ⟨.fn, 1, 8, [.nilFunc], false⟩,
  some ⟨.fn, 1, 8, [.nilFunc], false⟩,
  some ⟨(.sl 101), 1, 24, [.slice none 0 0], false⟩,
  some ⟨.fn, 1, 8, [.nilFunc], false⟩,
  some ⟨(.st [(0, 3), (1, 9)]), 2, 24, [.int .i64 0, .string ⟨#[]⟩], true⟩,
  some ⟨.fn, 1, 8, [.nilFunc], false⟩,
  some ⟨.fn, 1, 8, [.nilFunc], false⟩,
  some ⟨.ifc, 1, 16, [.nilIface], false⟩,
  some ⟨.ifc, 1, 16, [.nilIface], false⟩,
  none,
  some ⟨.fn, 1, 8, [.nilFunc], false⟩,
  some ⟨.fn, 1, 8, [.nilFunc], false⟩,
  some ⟨.fn, 1, 8, [.nilFunc], false⟩,
  some ⟨.fn, 1, 8, [.nilFunc], false⟩,
  some ⟨(.st [(0, 76), (1, 109), (2, 110), (3, 109)]), 4, 32, [.nilFunc, .nilFunc, .nilFunc, .nilFunc], true⟩,
  some ⟨(.st [(0, 76), (1, 109), (2, 110), (3, 109)]), 4, 32, [.nilFunc, .nilFunc, .nilFunc, .nilFunc], true⟩,
  some ⟨.fn, 1, 8, [.nilFunc], false⟩,
  some ⟨.fn, 1, 8, [.nilFunc], false⟩,
  some ⟨.fn, 1, 8, [.nilFunc], false⟩,
  some ⟨.fn, 1, 8, [.nilFunc], false⟩,
  some ⟨(.ptr 192), 1, 8, [.pointer none], false⟩,
  some ⟨.fn, 1, 8, [.nilFunc], false⟩,
  some ⟨(.ptr 3), 1, 8, [.pointer none], false⟩,
  some ⟨(.sl 119), 1, 24, [.slice none 0 0], false⟩,
  some ⟨.fn, 1, 8, [.nilFunc], false⟩,
  some ⟨.fn, 1, 8, [.nilFunc], false⟩,
  some ⟨(.ptr 125), 1, 8, [.pointer none], false⟩,
  some ⟨(.st [(0, 9), (1, 4)]), 2, 24, [.string ⟨#[]⟩, .bool false], true⟩,
  some ⟨(.st [(0, 9), (1, 4)]), 2, 24, [.string ⟨#[]⟩, .bool false], true⟩,
  some ⟨.fn, 1, 8, [.nilFunc], false⟩,
  some ⟨.fn, 1, 8, [.nilFunc], false⟩,
  some ⟨.fn, 1, 8, [.nilFunc], false⟩,
  some ⟨.fn, 1, 8, [.nilFunc], false⟩,
  some ⟨.fn, 1, 8, [.nilFunc], false⟩,
  some ⟨.fn, 1, 8, [.nilFunc], false⟩,
  some ⟨.fn, 1, 8, [.nilFunc], false⟩,
  some ⟨.fn, 1, 8, [.nilFunc], false⟩,
  some ⟨.fn, 1, 8, [.nilFunc], false⟩,
  some ⟨.fn, 1, 8, [.nilFunc], false⟩,
  some ⟨.fn, 1, 8, [.nilFunc], false⟩,
  some ⟨.fn, 1, 8, [.nilFunc], false⟩,
  some ⟨(.ptr 141), 1, 8, [.pointer none], false⟩,
  some ⟨(.sl 5), 1, 24, [.slice none 0 0], false⟩,
  some ⟨(.st [(0, 139), (1, 4)]), 2, 32, [.slice none 0 0, .bool false], true⟩,
  some ⟨(.st [(0, 139), (1, 4)]), 2, 32, [.slice none 0 0, .bool false], true⟩,
  some ⟨.fn, 1, 8, [.nilFunc], false⟩,
  some ⟨.fn, 1, 8, [.nilFunc], false⟩,
  some ⟨.fn, 1, 8, [.nilFunc], false⟩,
  some ⟨.fn, 1, 8, [.nilFunc], false⟩,
  some ⟨.fn, 1, 8, [.nilFunc], false⟩,
  some ⟨(.arr 2 3), 2, 16, [.int .i64 0, .int .i64 0], false⟩,
  some ⟨(.sl 147), 1, 24, [.slice none 0 0], false⟩,
  some ⟨.fn, 1, 8, [.nilFunc], false⟩,
  some ⟨.fn, 1, 8, [.nilFunc], false⟩,
  some ⟨.fn, 1, 8, [.nilFunc], false⟩,
  some ⟨.fn, 1, 8, [.nilFunc], false⟩,
  some ⟨.fn, 1, 8, [.nilFunc], false⟩,
  some ⟨.fn, 1, 8, [.nilFunc], false⟩,
  none,
  some ⟨.fn, 1, 8, [.nilFunc], false⟩,
  none,
  some ⟨.fn, 1, 8, [.nilFunc], false⟩,
  some ⟨.fn, 1, 8, [.nilFunc], false⟩,
  some ⟨.fn, 1, 8, [.nilFunc], false⟩,
  some ⟨(.ptr 163), 1, 8, [.pointer none], false⟩,
  some ⟨(.st [(0, 95), (1, 4)]), 2, 32, [.slice none 0 0, .bool false], true⟩,
  some ⟨(.st [(0, 95), (1, 4)]), 2, 32, [.slice none 0 0, .bool false], true⟩,
  some ⟨.fn, 1, 8, [.nilFunc], false⟩,
  some ⟨.fn, 1, 8, [.nilFunc], false⟩,
  some ⟨.fn, 1, 8, [.nilFunc], false⟩,
  some ⟨(.st [(0, 3), (1, 9)]), 2, 24, [.int .i64 0, .string ⟨#[]⟩], true⟩,
  some ⟨(.st [(0, 3), (1, 9)]), 2, 24, [.int .i64 0, .string ⟨#[]⟩], true⟩,
  some ⟨.fn, 1, 8, [.nilFunc], false⟩,
  none,
  some ⟨.fn, 1, 8, [.nilFunc], false⟩,
  some ⟨.fn, 1, 8, [.nilFunc], false⟩,
  some ⟨.fn, 1, 8, [.nilFunc], false⟩,
  some ⟨.fn, 1, 8, [.nilFunc], false⟩,
  some ⟨.fn, 1, 8, [.nilFunc], false⟩,
  some ⟨.fn, 1, 8, [.nilFunc], false⟩,
  some ⟨.fn, 1, 8, [.nilFunc], false⟩,
  some ⟨.fn, 1, 8, [.nilFunc], false⟩,
  some ⟨(.int .u64), 1, 8, [.int .u64 0], false⟩,
  none,
  some ⟨.fn, 1, 8, [.nilFunc], false⟩,
  some ⟨.fn, 1, 8, [.nilFunc], false⟩,
  some ⟨.fn, 1, 8, [.nilFunc], false⟩,
  some ⟨(.st [(0, 95)]), 1, 24, [.slice none 0 0], true⟩,
  some ⟨(.st [(0, 95)]), 1, 24, [.slice none 0 0], true⟩,
  some ⟨.fn, 1, 8, [.nilFunc], false⟩,
  some ⟨.fn, 1, 8, [.nilFunc], false⟩,
  some ⟨(.st []), 0, 0, [], true⟩,
  some ⟨(.st []), 0, 0, [], true⟩,
  none,
  some ⟨(.st [(0, 9)]), 1, 16, [.string ⟨#[]⟩], true⟩,
  some ⟨(.st [(0, 9)]), 1, 16, [.string ⟨#[]⟩], true⟩,
  some ⟨(.int .u64), 1, 8, [.int .u64 0], false⟩,
  some ⟨(.arr 32 5), 32, 32, [.int .u8 0, .int .u8 0, .int .u8 0, .int .u8 0, .int .u8 0, .int .u8 0, .int .u8 0, .int .u8 0, .int .u8 0, .int .u8 0, .int .u8 0, .int .u8 0, .int .u8 0, .int .u8 0, .int .u8 0, .int .u8 0, .int .u8 0, .int .u8 0, .int .u8 0, .int .u8 0, .int .u8 0, .int .u8 0, .int .u8 0, .int .u8 0, .int .u8 0, .int .u8 0, .int .u8 0, .int .u8 0, .int .u8 0, .int .u8 0, .int .u8 0, .int .u8 0], false⟩,
  some ⟨(.ptr 197), 1, 8, [.pointer none], false⟩,
  some ⟨(.st [(0, 195), (1, 139)]), 2, 32, [.pointer none, .slice none 0 0], true⟩,
  some ⟨(.st [(0, 195), (1, 139)]), 2, 32, [.pointer none, .slice none 0 0], true⟩,
  some ⟨.fn, 1, 8, [.nilFunc], false⟩,
  some ⟨.fn, 1, 8, [.nilFunc], false⟩,
  some ⟨.fn, 1, 8, [.nilFunc], false⟩,
  some ⟨.fn, 1, 8, [.nilFunc], false⟩,
  some ⟨.fn, 1, 8, [.nilFunc], false⟩,
  some ⟨.fn, 1, 8, [.nilFunc], false⟩,
  some ⟨.fn, 1, 8, [.nilFunc], false⟩,
  some ⟨.fn, 1, 8, [.nilFunc], false⟩,
  some ⟨.fn, 1, 8, [.nilFunc], false⟩,
  some ⟨.fn, 1, 8, [.nilFunc], false⟩,
  some ⟨.fn, 1, 8, [.nilFunc], false⟩,
  some ⟨(.int .i64), 1, 8, [.int .i64 0], false⟩,
  none,
  some ⟨.fn, 1, 8, [.nilFunc], false⟩,
  some ⟨(.ptr 236), 1, 8, [.pointer none], false⟩,
  some ⟨.fn, 1, 8, [.nilFunc], false⟩,
  some ⟨.fn, 1, 8, [.nilFunc], false⟩,
  some ⟨.fn, 1, 8, [.nilFunc], false⟩,
  some ⟨.fn, 1, 8, [.nilFunc], false⟩,
  some ⟨.fn, 1, 8, [.nilFunc], false⟩,
  some ⟨.fn, 1, 8, [.nilFunc], false⟩,
  none,
  some ⟨.fn, 1, 8, [.nilFunc], false⟩,
  some ⟨.fn, 1, 8, [.nilFunc], false⟩,
  some ⟨.fn, 1, 8, [.nilFunc], false⟩,
  some ⟨.fn, 1, 8, [.nilFunc], false⟩,
  some ⟨.fn, 1, 8, [.nilFunc], false⟩,
  some ⟨.fn, 1, 8, [.nilFunc], false⟩,
  some ⟨.fn, 1, 8, [.nilFunc], false⟩,
  some ⟨.fn, 1, 8, [.nilFunc], false⟩,
  some ⟨.fn, 1, 8, [.nilFunc], false⟩,
  some ⟨(.ptr 5), 1, 8, [.pointer none], false⟩,
  some ⟨(.arr 24 5), 24, 24, [.int .u8 0, .int .u8 0, .int .u8 0, .int .u8 0, .int .u8 0, .int .u8 0, .int .u8 0, .int .u8 0, .int .u8 0, .int .u8 0, .int .u8 0, .int .u8 0, .int .u8 0, .int .u8 0, .int .u8 0, .int .u8 0, .int .u8 0, .int .u8 0, .int .u8 0, .int .u8 0, .int .u8 0, .int .u8 0, .int .u8 0, .int .u8 0], false⟩,
  some ⟨.fn, 1, 8, [.nilFunc], false⟩,
  some ⟨.fn, 1, 8, [.nilFunc], false⟩,
  none,
  some ⟨.fn, 1, 8, [.nilFunc], false⟩,
  some ⟨(.st [(0, 9), (1, 9), (2, 105)]), 3, 48, [.string ⟨#[]⟩, .string ⟨#[]⟩, .nilIface], false⟩,
  some ⟨(.st [(0, 9), (1, 9), (2, 105)]), 3, 48, [.string ⟨#[]⟩, .string ⟨#[]⟩, .nilIface], false⟩,
  some ⟨.fn, 1, 8, [.nilFunc], false⟩,
  none,
  some ⟨.fn, 1, 8, [.nilFunc], false⟩,
  some ⟨.fn, 1, 8, [.nilFunc], false⟩,
  some ⟨.fn, 1, 8, [.nilFunc], false⟩,
  none,
  some ⟨.fn, 1, 8, [.nilFunc], false⟩,
  some ⟨.fn, 1, 8, [.nilFunc], false⟩,
  none,
  some ⟨.fn, 1, 8, [.nilFunc], false⟩,
  some ⟨.fn, 1, 8, [.nilFunc], false⟩,
  some ⟨.oth, 1, 8, [.pointer none], false⟩,
  some ⟨.fn, 1, 8, [.nilFunc], false⟩,
  some ⟨.fn, 1, 8, [.nilFunc], false⟩,
  some ⟨.fn, 1, 8, [.nilFunc], false⟩,
  some ⟨.fn, 1, 8, [.nilFunc], false⟩,
  some ⟨(.arr 20 179), 20, 160, [.int .u64 0, .int .u64 0, .int .u64 0, .int .u64 0, .int .u64 0, .int .u64 0, .int .u64 0, .int .u64 0, .int .u64 0, .int .u64 0, .int .u64 0, .int .u64 0, .int .u64 0, .int .u64 0, .int .u64 0, .int .u64 0, .int .u64 0, .int .u64 0, .int .u64 0, .int .u64 0], false⟩,
  some ⟨(.int .u32), 1, 4, [.int .u32 0], false⟩,
  some ⟨(.arr 65 5), 65, 65, [.int .u8 0, .int .u8 0, .int .u8 0, .int .u8 0, .int .u8 0, .int .u8 0, .int .u8 0, .int .u8 0, .int .u8 0, .int .u8 0, .int .u8 0, .int .u8 0, .int .u8 0, .int .u8 0, .int .u8 0, .int .u8 0, .int .u8 0, .int .u8 0, .int .u8 0, .int .u8 0, .int .u8 0, .int .u8 0, .int .u8 0, .int .u8 0, .int .u8 0, .int .u8 0, .int .u8 0, .int .u8 0, .int .u8 0, .int .u8 0, .int .u8 0, .int .u8 0, .int .u8 0, .int .u8 0, .int .u8 0, .int .u8 0, .int .u8 0, .int .u8 0, .int .u8 0, .int .u8 0, .int .u8 0, .int .u8 0, .int .u8 0, .int .u8 0, .int .u8 0, .int .u8 0, .int .u8 0, .int .u8 0, .int .u8 0, .int .u8 0, .int .u8 0, .int .u8 0, .int .u8 0, .int .u8 0, .int .u8 0, .int .u8 0, .int .u8 0, .int .u8 0, .int .u8 0, .int .u8 0, .int .u8 0, .int .u8 0, .int .u8 0, .int .u8 0, .int .u8 0], false⟩,
  some ⟨.fn, 1, 8, [.nilFunc], false⟩,
  some ⟨(.ptr 259), 1, 8, [.pointer none], false⟩,
  some ⟨(.st [(0, 9)]), 1, 16, [.string ⟨#[]⟩], true⟩,
  some ⟨(.st [(0, 9)]), 1, 16, [.string ⟨#[]⟩], true⟩,
  some ⟨.fn, 1, 8, [.nilFunc], false⟩,
  some ⟨.fn, 1, 8, [.nilFunc], false⟩,
  some ⟨(.arr 256 5), 256, 256, [.int .u8 0, .int .u8 0, .int .u8 0, .int .u8 0, .int .u8 0, .int .u8 0, .int .u8 0, .int .u8 0, .int .u8 0, .int .u8 0, .int .u8 0, .int .u8 0, .int .u8 0, .int .u8 0, .int .u8 0, .int .u8 0, .int .u8 0, .int .u8 0, .int .u8 0, .int .u8 0, .int .u8 0, .int .u8 0, .int .u8 0, .int .u8 0, .int .u8 0, .int .u8 0, .int .u8 0, .int .u8 0, .int .u8 0, .int .u8 0, .int .u8 0, .int .u8 0, .int .u8 0, .int .u8 0, .int .u8 0, .int .u8 0, .int .u8 0, .int .u8 0, .int .u8 0, .int .u8 0, .int .u8 0, .int .u8 0, .int .u8 0, .int .u8 0, .int .u8 0, .int .u8 0, .int .u8 0, .int .u8 0, .int .u8 0, .int .u8 0, .int .u8 0, .int .u8 0, .int .u8 0, .int .u8 0, .int .u8 0, .int .u8 0, .int .u8 0, .int .u8 0, .int .u8 0, .int .u8 0, .int .u8 0, .int .u8 0, .int .u8 0, .int .u8 0, .int .u8 0, .int .u8 0, .int .u8 0, .int .u8 0, .int .u8 0, .int .u8 0, .int .u8 0, .int .u8 0, .int .u8 0, .int .u8 0, .int .u8 0, .int .u8 0, .int .u8 0, .int .u8 0, .int .u8 0, .int .u8 0, .int .u8 0, .int .u8 0, .int .u8 0, .int .u8 0, .int .u8 0, .int .u8 0, .int .u8 0, .int .u8 0, .int .u8 0, .int .u8 0, .int .u8 0, .int .u8 0, .int .u8 0, .int .u8 0, .int .u8 0, .int .u8 0, .int .u8 0, .int .u8 0, .int .u8 0, .int .u8 0, .int .u8 0, .int .u8 0, .int .u8 0, .int .u8 0, .int .u8 0, .int .u8 0, .int .u8 0, .int .u8 0, .int .u8 0, .int .u8 0, .int .u8 0, .int .u8 0, .int .u8 0, .int .u8 0, .int .u8 0, .int .u8 0, .int .u8 0, .int .u8 0, .int .u8 0, .int .u8 0, .int .u8 0, .int .u8 0, .int .u8 0, .int .u8 0, .int .u8 0, .int .u8 0, .int .u8 0, .int .u8 0, .int .u8 0, .int .u8 0, .int .u8 0, .int .u8 0, .int .u8 0, .int .u8 0, .int .u8 0, .int .u8 0, .int .u8 0, .int .u8 0, .int .u8 0, .int .u8 0, .int .u8 0, .int .u8 0, .int .u8 0, .int .u8 0, .int .u8 0, .int .u8 0, .int .u8 0, .int .u8 0, .int .u8 0, .int .u8 0, .int .u8 0, .int .u8 0, .int .u8 0, .int .u8 0, .int .u8 0, .int .u8 0, .int .u8 0, .int .u8 0, .int .u8 0, .int .u8 0, .int .u8 0, .int .u8 0, .int .u8 0, .int .u8 0, .int .u8 0, .int .u8 0, .int .u8 0, .int .u8 0, .int .u8 0, .int .u8 0, .int .u8 0, .int .u8 0, .int .u8 0, .int .u8 0, .int .u8 0, .int .u8 0, .int .u8 0, .int .u8 0, .int .u8 0, .int .u8 0, .int .u8 0, .int .u8 0, .int .u8 0, .int .u8 0, .int .u8 0, .int .u8 0, .int .u8 0, .int .u8 0, .int .u8 0, .int .u8 0, .int .u8 0, .int .u8 0, .int .u8 0, .int .u8 0, .int .u8 0, .int .u8 0, .int .u8 0, .int .u8 0, .int .u8 0, .int .u8 0, .int .u8 0, .int .u8 0, .int .u8 0, .int .u8 0, .int .u8 0, .int .u8 0, .int .u8 0, .int .u8 0, .int .u8 0, .int .u8 0, .int .u8 0, .int .u8 0, .int .u8 0, .int .u8 0, .int .u8 0, .int .u8 0, .int .u8 0, .int .u8 0, .int .u8 0, .int .u8 0, .int .u8 0, .int .u8 0, .int .u8 0, .int .u8 0, .int .u8 0, .int .u8 0, .int .u8 0, .int .u8 0, .int .u8 0, .int .u8 0, .int .u8 0, .int .u8 0, .int .u8 0, .int .u8 0, .int .u8 0, .int .u8 0, .int .u8 0, .int .u8 0, .int .u8 0, .int .u8 0, .int .u8 0, .int .u8 0, .int .u8 0, .int .u8 0, .int .u8 0, .int .u8 0, .int .u8 0, .int .u8 0, .int .u8 0, .int .u8 0, .int .u8 0, .int .u8 0, .int .u8 0, .int .u8 0, .int .u8 0, .int .u8 0], false⟩,
  some ⟨(.st [(0, 5), (1, 5)]), 2, 2, [.int .u8 0, .int .u8 0], true⟩,
  some ⟨(.st [(0, 5), (1, 5)]), 2, 2, [.int .u8 0, .int .u8 0], true⟩,
  some ⟨(.arr 16 264), 32, 32, [.int .u8 0, .int .u8 0, .int .u8 0, .int .u8 0, .int .u8 0, .int .u8 0, .int .u8 0, .int .u8 0, .int .u8 0, .int .u8 0, .int .u8 0, .int .u8 0, .int .u8 0, .int .u8 0, .int .u8 0, .int .u8 0, .int .u8 0, .int .u8 0, .int .u8 0, .int .u8 0, .int .u8 0, .int .u8 0, .int .u8 0, .int .u8 0, .int .u8 0, .int .u8 0, .int .u8 0, .int .u8 0, .int .u8 0, .int .u8 0, .int .u8 0, .int .u8 0], false⟩,
  none,
  some ⟨.fn, 1, 8, [.nilFunc], false⟩,
  some ⟨(.arr 64 5), 64, 64, [.int .u8 0, .int .u8 0, .int .u8 0, .int .u8 0, .int .u8 0, .int .u8 0, .int .u8 0, .int .u8 0, .int .u8 0, .int .u8 0, .int .u8 0, .int .u8 0, .int .u8 0, .int .u8 0, .int .u8 0, .int .u8 0, .int .u8 0, .int .u8 0, .int .u8 0, .int .u8 0, .int .u8 0, .int .u8 0, .int .u8 0, .int .u8 0, .int .u8 0, .int .u8 0, .int .u8 0, .int .u8 0, .int .u8 0, .int .u8 0, .int .u8 0, .int .u8 0, .int .u8 0, .int .u8 0, .int .u8 0, .int .u8 0, .int .u8 0, .int .u8 0, .int .u8 0, .int .u8 0, .int .u8 0, .int .u8 0, .int .u8 0, .int .u8 0, .int .u8 0, .int .u8 0, .int .u8 0, .int .u8 0, .int .u8 0, .int .u8 0, .int .u8 0, .int .u8 0, .int .u8 0, .int .u8 0, .int .u8 0, .int .u8 0, .int .u8 0, .int .u8 0, .int .u8 0, .int .u8 0, .int .u8 0, .int .u8 0, .int .u8 0, .int .u8 0], false⟩,
  some ⟨(.st [(0, 17), (1, 17), (2, 17), (3, 9)]), 4, 40, [.pointer none, .pointer none, .pointer none, .string ⟨#[]⟩], false⟩,
  some ⟨(.st [(0, 17), (1, 17), (2, 17), (3, 9)]), 4, 40, [.pointer none, .pointer none, .pointer none, .string ⟨#[]⟩], false⟩,
  some ⟨(.arr 0 16), 0, 0, [], false⟩,
  some ⟨(.st [(0, 271)]), 0, 0, [], false⟩,
  some ⟨(.st [(0, 271)]), 0, 0, [], false⟩,
  some ⟨(.int .u8), 1, 1, [.int .u8 0], false⟩,
  some ⟨(.int .u8), 1, 1, [.int .u8 0], false⟩,
  some ⟨.fn, 1, 8, [.nilFunc], false⟩,
  some ⟨(.int .i32), 1, 4, [.int .i32 0], false⟩,
  some ⟨(.int .i32), 1, 4, [.int .i32 0], false⟩,
  some ⟨(.st [(0, 12), (1, 12), (2, 254), (3, 274), (4, 5), (5, 5), (6, 275), (7, 276), (8, 229), (9, 277), (10, 278)]), 11, 48, [.int .u64 0, .int .u64 0, .int .u32 0, .int .u8 0, .int .u8 0, .int .u8 0, .int .u8 0, .nilFunc, .pointer none, .int .i32 0, .int .i32 0], false⟩,
  some ⟨(.st [(0, 12), (1, 12), (2, 254), (3, 274), (4, 5), (5, 5), (6, 275), (7, 276), (8, 229), (9, 277), (10, 278)]), 11, 48, [.int .u64 0, .int .u64 0, .int .u32 0, .int .u8 0, .int .u8 0, .int .u8 0, .int .u8 0, .nilFunc, .pointer none, .int .i32 0, .int .i32 0], false⟩]

theorem TTok (n : Nat) (I : World → Prop) : Ctx.ok ⟨Tryz.prog, TT, n, I⟩ := Ctx.ok_of (by kernel_rfl) n I
theorem mixed : Tryz.prog.follows .mixedOrders = true := by kernel_rfl
end Go.Proofs.YtbladfkakmdigaaGreatDoor
namespace Go.Proofs.YtbladfkakmdigaaGreatDoor
open Go.SX
def GG : Nat → Option (List Value)
  | 2 => some [.int .u64 1, .int .u64 10, .int .u64 100, .int .u64 1000, .int .u64 10000, .int .u64 100000, .int .u64 1000000, .int .u64 10000000, .int .u64 100000000, .int .u64 1000000000, .int .u64 10000000000, .int .u64 100000000000, .int .u64 1000000000000, .int .u64 10000000000000, .int .u64 100000000000000, .int .u64 1000000000000000, .int .u64 10000000000000000, .int .u64 100000000000000000, .int .u64 1000000000000000000, .int .u64 10000000000000000000]
  | 7 => some [.int .u8 0, .int .u8 1, .int .u8 56, .int .u8 2, .int .u8 57, .int .u8 49, .int .u8 28, .int .u8 3, .int .u8 61, .int .u8 58, .int .u8 42, .int .u8 50, .int .u8 38, .int .u8 29, .int .u8 17, .int .u8 4, .int .u8 62, .int .u8 47, .int .u8 59, .int .u8 36, .int .u8 45, .int .u8 43, .int .u8 51, .int .u8 22, .int .u8 53, .int .u8 39, .int .u8 33, .int .u8 30, .int .u8 24, .int .u8 18, .int .u8 12, .int .u8 5, .int .u8 63, .int .u8 55, .int .u8 48, .int .u8 27, .int .u8 60, .int .u8 41, .int .u8 37, .int .u8 16, .int .u8 46, .int .u8 35, .int .u8 44, .int .u8 21, .int .u8 52, .int .u8 32, .int .u8 23, .int .u8 11, .int .u8 54, .int .u8 26, .int .u8 40, .int .u8 15, .int .u8 34, .int .u8 20, .int .u8 31, .int .u8 10, .int .u8 25, .int .u8 14, .int .u8 19, .int .u8 9, .int .u8 13, .int .u8 8, .int .u8 7, .int .u8 6]
  | _ => none
end Go.Proofs.YtbladfkakmdigaaGreatDoor
/-
  DERIVED: THE SHELF's CONTRACTS AT THIS DUMP, IN PLAIN WORDS (tools/lay-plain.mjs out of 'TryzShelf.lean', which tools/lay-shelf.mjs wrote): THE SAME DECLARATIONS UNDER THE SAME NAMES: 'import', 'namespace', 'open', 'def', 'theorem' AND NOTHING ELSE: no command of the shelf's: FOR A HAND-IN. Each laying: the table of numbers ('.._ren') and one theorem, a field a fact of the dump's own or the kernel's comparison; each contract: ONE APPLICATION.
-/
namespace Go.Proofs
open Go.Shelf
def Tryz.lays169_ren : Go.Shelf.Ren := ⟨fun | 169 => 181 | n => n, fun | 70 => 195 | 9 => 9 | 0 => 0 | 72 => 197 | 37 => 139 | 127 => 229 | 3 => 3 | 5 => 5 | n => n, fun | n => n⟩
theorem Tryz.lays169 : Go.Proofs.Lays.n169 Tryz.prog Tryz.lays169_ren := {
  mixed := by kernel_rfl
  f169 := Tryz.func181.trans (congrArg some (by kernel_rfl))
  t0 := Tryz.underlying0
  a0 := Tryz.isAgg0
  z0 := Tryz.sizeOf0
  v0 := Tryz.zeroValue0
  t3 := Tryz.underlying3
  a3 := Tryz.isAgg3
  z3 := Tryz.sizeOf3
  v3 := Tryz.zeroValue3
  t9 := Tryz.underlying9
  a9 := Tryz.isAgg9
  z9 := Tryz.sizeOf9
  v9 := Tryz.zeroValue9
  t37 := Tryz.underlying139
  a37 := Tryz.isAgg139
  z37 := Tryz.sizeOf139
  v37 := Tryz.zeroValue139
  t70 := Tryz.underlying195
  a70 := Tryz.isAgg195
  z70 := Tryz.sizeOf195
  v70 := Tryz.zeroValue195
  t72 := Tryz.underlying197
  a72 := Tryz.isAgg197
  z72 := Tryz.sizeOf197
  v72 := Tryz.zeroValue197
  t127 := Tryz.underlying229
  a127 := Tryz.isAgg229
  z127 := Tryz.sizeOf229
  v127 := Tryz.zeroValue229 }
theorem Tryz.Builder_Extra_169 : Builder.Extra Tryz.prog Tryz.lays169_ren := {
  sizeBuilder := by kernel_rfl
  liesBuilder := by kernel_rfl
  t5 := Tryz.underlying5
  a5 := Tryz.isAgg5
  z5 := Tryz.sizeOf5
  v5 := Tryz.zeroValue5
  infoByte := by kernel_rfl
  cellsByte := by kernel_rfl
  sizeByte := by kernel_rfl
  neB5 := by decide }
open Go.RowKit in
/-- (*strings.Builder).String: "String returns the accumulated string.": OF A BUILDER THAT HOLDS AT LEAST ONE BYTE. ✋ THE MODEL FREEZES THOSE BYTES IN THE BUFFER (unsafe.String): a later write INTO them ends the model's run without an answer; a later append BEHIND them goes on. The statement's order of evaluation is drawn: one draw. (LAID: no walk: one application.) -/
theorem Tryz.Builder_String (B b : Nat) (l : List UInt8) (w : World) (h : Lib.IsBuilder 197 5 B b (Lib.byteCells l) w) (h0 : l ≠ []) :
    Calls Tryz.prog 181 #[.pointer (some ⟨b, 0, none⟩)] w fun e w' => e = .returned (.string ⟨l.toArray⟩) ∧ Below B w w' := Any.Builder_String Tryz.lays169 Tryz.Builder_Extra_169 B b l w h h0
open Go.RowKit in
/-- (*strings.Builder).String OF A BUILDER THAT HOLDS NO BYTE: the empty string. (Its buffer is nil, or a row of which it has taken nothing yet; where that row has NO capacity the model lays one new block for unsafe.SliceData's 'some address'.) One draw. (LAID: no walk: one application.) -/
theorem Tryz.Builder_String_empty (B b : Nat) (w : World) (h : Lib.IsBuilder 197 5 B b [] w) (hBw : B ≤ w.heap.size) :
    Calls Tryz.prog 181 #[.pointer (some ⟨b, 0, none⟩)] w fun e w' => e = .returned (.string ⟨#[]⟩) ∧ Below B w w' := Any.Builder_String_empty Tryz.lays169 Tryz.Builder_Extra_169 B b w h hBw
open Go.RowKit in
/-- (*strings.Builder).String: "String returns the accumulated string.": WHATEVER THE BUILDER HOLDS. (LAID: no walk: one application.) -/
theorem Tryz.Builder_String_any (B b : Nat) (l : List UInt8) (w : World) (h : Lib.IsBuilder 197 5 B b (Lib.byteCells l) w) (hBw : B ≤ w.heap.size) :
    Calls Tryz.prog 181 #[.pointer (some ⟨b, 0, none⟩)] w fun e w' => e = .returned (.string ⟨l.toArray⟩) ∧ Below B w w' := Any.Builder_String_any Tryz.lays169 Tryz.Builder_Extra_169 B b l w h hBw
def Tryz.lays241_ren : Go.Shelf.Ren := ⟨fun | 241 => 235 | 277 => 260 | n => n, fun | 70 => 195 | 3 => 3 | 0 => 0 | 72 => 197 | 37 => 139 | 5 => 5 | n => n, fun | n => n⟩
theorem Tryz.lays241 : Go.Proofs.Lays.n241 Tryz.prog Tryz.lays241_ren := {
  mixed := by kernel_rfl
  f241 := Tryz.func235.trans (congrArg some (by kernel_rfl))
  f277 := Tryz.func260.trans (congrArg some (by kernel_rfl))
  t0 := Tryz.underlying0
  a0 := Tryz.isAgg0
  z0 := Tryz.sizeOf0
  v0 := Tryz.zeroValue0
  t3 := Tryz.underlying3
  a3 := Tryz.isAgg3
  z3 := Tryz.sizeOf3
  v3 := Tryz.zeroValue3
  t37 := Tryz.underlying139
  a37 := Tryz.isAgg139
  z37 := Tryz.sizeOf139
  v37 := Tryz.zeroValue139
  t70 := Tryz.underlying195
  a70 := Tryz.isAgg195
  z70 := Tryz.sizeOf195
  v70 := Tryz.zeroValue195
  t72 := Tryz.underlying197
  a72 := Tryz.isAgg197
  z72 := Tryz.sizeOf197
  v72 := Tryz.zeroValue197 }
theorem Tryz.Builder_Extra_241 : Builder.Extra Tryz.prog Tryz.lays241_ren := {
  sizeBuilder := by kernel_rfl
  liesBuilder := by kernel_rfl
  t5 := Tryz.underlying5
  a5 := Tryz.isAgg5
  z5 := Tryz.sizeOf5
  v5 := Tryz.zeroValue5
  infoByte := by kernel_rfl
  cellsByte := by kernel_rfl
  sizeByte := by kernel_rfl
  neB5 := by decide }
open Go.RowKit in
/-- (*strings.Builder).grow (no doc but "grow copies the buffer to a new, larger buffer so that there are at least n bytes of capacity beyond len(b.buf)."): AT A BUILDER WITHOUT A BUFFER: a new row of whatever bytes for its buffer, none of them its own yet. Three draws. (LAID: no walk: one application.) -/
theorem Tryz.Builder_grow_fresh (B b n : Nat) (w : World) (hB : B ≤ b) (hbk : w.heap[b]? = some (.cells #[.pointer (some ⟨b, 0, none⟩), .slice none 0 0] 197 (0, 0))) (hBw : B ≤ w.heap.size) (hn : n ≤ 281474976710656) :
    Calls Tryz.prog 235 #[.pointer (some ⟨b, 0, none⟩), .int .i64 n] w fun e w' => e = .returned (.tuple #[]) ∧ (Lib.BuilderAt 197 5 B b (.pointer (some ⟨b, 0, none⟩)) [] w' ∧ Below B w w') := Any.Builder_grow_fresh Tryz.lays241 Tryz.Builder_Extra_241 B b n w hB hbk hBw hn
def Tryz.lays165_ren : Go.Shelf.Ren := ⟨fun | 165 => 179 | 240 => 234 | 241 => 235 | 276 => 259 | 277 => 260 | n => n, fun | 70 => 195 | 3 => 3 | 0 => 0 | 4 => 4 | 9 => 9 | 20 => 20 | 72 => 197 | 37 => 139 | 164 => 248 | 5 => 5 | n => n, fun | n => n⟩
theorem Tryz.lays165 : Go.Proofs.Lays.n165 Tryz.prog Tryz.lays165_ren := {
  mixed := by kernel_rfl
  f165 := Tryz.func179.trans (congrArg some (by kernel_rfl))
  f240 := Tryz.func234.trans (congrArg some (by kernel_rfl))
  f241 := Tryz.func235.trans (congrArg some (by kernel_rfl))
  f276 := Tryz.func259.trans (congrArg some (by kernel_rfl))
  f277 := Tryz.func260.trans (congrArg some (by kernel_rfl))
  t0 := Tryz.underlying0
  a0 := Tryz.isAgg0
  z0 := Tryz.sizeOf0
  v0 := Tryz.zeroValue0
  t3 := Tryz.underlying3
  a3 := Tryz.isAgg3
  z3 := Tryz.sizeOf3
  v3 := Tryz.zeroValue3
  t4 := Tryz.underlying4
  a4 := Tryz.isAgg4
  z4 := Tryz.sizeOf4
  v4 := Tryz.zeroValue4
  t9 := Tryz.underlying9
  a9 := Tryz.isAgg9
  z9 := Tryz.sizeOf9
  v9 := Tryz.zeroValue9
  t20 := Tryz.underlying20
  a20 := Tryz.isAgg20
  z20 := Tryz.sizeOf20
  v20 := Tryz.zeroValue20
  t37 := Tryz.underlying139
  a37 := Tryz.isAgg139
  z37 := Tryz.sizeOf139
  v37 := Tryz.zeroValue139
  t70 := Tryz.underlying195
  a70 := Tryz.isAgg195
  z70 := Tryz.sizeOf195
  v70 := Tryz.zeroValue195
  t72 := Tryz.underlying197
  a72 := Tryz.isAgg197
  z72 := Tryz.sizeOf197
  v72 := Tryz.zeroValue197
  t164 := Tryz.underlying248
  a164 := Tryz.isAgg248
  z164 := Tryz.sizeOf248
  v164 := Tryz.zeroValue248 }
theorem Tryz.Builder_Extra_165 : Builder.Extra Tryz.prog Tryz.lays165_ren := {
  sizeBuilder := by kernel_rfl
  liesBuilder := by kernel_rfl
  t5 := Tryz.underlying5
  a5 := Tryz.isAgg5
  z5 := Tryz.sizeOf5
  v5 := Tryz.zeroValue5
  infoByte := by kernel_rfl
  cellsByte := by kernel_rfl
  sizeByte := by kernel_rfl
  neB5 := by decide }
open Go.RowKit in
/-- (*strings.Builder).Grow AT A BUILDER THAT HAS NOT BEEN WRITTEN ('var b strings.Builder; b.Grow(n)'): "Grow grows b's capacity, if necessary, to guarantee space for another n bytes.": it holds no byte behind it as before it. (LAID: no walk: one application.) -/
theorem Tryz.Builder_Grow_fresh (B b n : Nat) (w : World) (hB : B ≤ b) (hbk : w.heap[b]? = some (.cells #[.pointer none, .slice none 0 0] 197 (0, 0))) (hBw : B ≤ w.heap.size) (hn : n ≤ 281474976710656) :
    Calls Tryz.prog 179 #[.pointer (some ⟨b, 0, none⟩), .int .i64 n] w fun e w' => e = .returned (.tuple #[]) ∧ (Lib.BuilderAt 197 5 B b (.pointer (some ⟨b, 0, none⟩)) [] w' ∧ Below B w w') := Any.Builder_Grow_fresh Tryz.lays165 Tryz.Builder_Extra_165 B b n w hB hbk hBw hn
def Tryz.lays156_ren : Go.Shelf.Ren := ⟨fun | 156 => 102 | 165 => 179 | 166 => 180 | 169 => 181 | 240 => 234 | 241 => 235 | 276 => 259 | 277 => 260 | n => n, fun | 31 => 95 | 9 => 9 | 3 => 3 | 4 => 4 | 0 => 0 | 20 => 20 | 72 => 197 | 76 => 106 | 70 => 195 | 37 => 139 | 75 => 105 | 127 => 229 | 164 => 248 | 5 => 5 | 80 => 118 | n => n, fun | n => n⟩
theorem Tryz.lays156 : Go.Proofs.Lays.n156 Tryz.prog Tryz.lays156_ren := {
  mixed := by kernel_rfl
  f156 := Tryz.func102.trans (congrArg some (by kernel_rfl))
  f165 := Tryz.func179.trans (congrArg some (by kernel_rfl))
  f166 := Tryz.func180.trans (congrArg some (by kernel_rfl))
  f169 := Tryz.func181.trans (congrArg some (by kernel_rfl))
  f240 := Tryz.func234.trans (congrArg some (by kernel_rfl))
  f241 := Tryz.func235.trans (congrArg some (by kernel_rfl))
  f276 := Tryz.func259.trans (congrArg some (by kernel_rfl))
  f277 := Tryz.func260.trans (congrArg some (by kernel_rfl))
  t0 := Tryz.underlying0
  a0 := Tryz.isAgg0
  z0 := Tryz.sizeOf0
  v0 := Tryz.zeroValue0
  t3 := Tryz.underlying3
  a3 := Tryz.isAgg3
  z3 := Tryz.sizeOf3
  v3 := Tryz.zeroValue3
  t4 := Tryz.underlying4
  a4 := Tryz.isAgg4
  z4 := Tryz.sizeOf4
  v4 := Tryz.zeroValue4
  t9 := Tryz.underlying9
  a9 := Tryz.isAgg9
  z9 := Tryz.sizeOf9
  v9 := Tryz.zeroValue9
  t20 := Tryz.underlying20
  a20 := Tryz.isAgg20
  z20 := Tryz.sizeOf20
  v20 := Tryz.zeroValue20
  t31 := Tryz.underlying95
  a31 := Tryz.isAgg95
  z31 := Tryz.sizeOf95
  v31 := Tryz.zeroValue95
  t37 := Tryz.underlying139
  a37 := Tryz.isAgg139
  z37 := Tryz.sizeOf139
  v37 := Tryz.zeroValue139
  t70 := Tryz.underlying195
  a70 := Tryz.isAgg195
  z70 := Tryz.sizeOf195
  v70 := Tryz.zeroValue195
  t72 := Tryz.underlying197
  a72 := Tryz.isAgg197
  z72 := Tryz.sizeOf197
  v72 := Tryz.zeroValue197
  t75 := Tryz.underlying105
  a75 := Tryz.isAgg105
  z75 := Tryz.sizeOf105
  v75 := Tryz.zeroValue105
  t76 := Tryz.underlying106
  a76 := Tryz.isAgg106
  z76 := Tryz.sizeOf106
  v76 := Tryz.zeroValue106
  t127 := Tryz.underlying229
  a127 := Tryz.isAgg229
  z127 := Tryz.sizeOf229
  v127 := Tryz.zeroValue229
  t164 := Tryz.underlying248
  a164 := Tryz.isAgg248
  z164 := Tryz.sizeOf248
  v164 := Tryz.zeroValue248 }
theorem Tryz.Builder_Extra_156 : Builder.Extra Tryz.prog Tryz.lays156_ren := {
  sizeBuilder := by kernel_rfl
  liesBuilder := by kernel_rfl
  t5 := Tryz.underlying5
  a5 := Tryz.isAgg5
  z5 := Tryz.sizeOf5
  v5 := Tryz.zeroValue5
  infoByte := by kernel_rfl
  cellsByte := by kernel_rfl
  sizeByte := by kernel_rfl
  neB5 := by decide }
open Go.RowKit in
/-- No element: the empty string; the world is as it was. (Whatever the slice's address and capacity: a nil slice too.) (LAID: no walk: one application.) -/
theorem Tryz.strings_Join_none (a : Option Addr) (c : Nat) (sep : ByteArray) (w : World) :
    Calls Tryz.prog 102 #[.slice a 0 c, .string sep] w fun e w' => e = .returned (.string ⟨#[]⟩) ∧ w' = w := Any.strings_Join_none Tryz.lays156 Tryz.Builder_Extra_156 a c sep w
open Go.RowKit in
/-- strings.Join: "Join concatenates the elements of its first argument to create a single string. The separator string sep is placed between elements in the resulting string.": HOWEVER MANY ELEMENTS. Below the heap's end the world is as it was. (LAID: no walk: one application.) -/
theorem Tryz.strings_Join (bk o c : Nat) (xs : List ByteArray) (sep : ByteArray) (w : World) (hcells : ∀ (j : Nat) x, xs[j]? = some x → w.cell? ⟨bk, o + j, none⟩ = some (.string x)) (hbk : bk < w.heap.size) (hN : xs.length ≤ 140737488355328) (hcap : xs.length ≤ c) (hlen : (Lib.join (xs.map (·.data.toList)) sep.data.toList).length ≤ 140737488355328) :
    Calls Tryz.prog 102 #[.slice (some ⟨bk, o, none⟩) xs.length c, .string sep] w fun e w' => e = .returned (.string ⟨(Lib.join (xs.map (·.data.toList)) sep.data.toList).toArray⟩) ∧ Below w.heap.size w w' := Any.strings_Join Tryz.lays156 Tryz.Builder_Extra_156 bk o c xs sep w hcells hbk hN hcap hlen
def Tryz.lays137_ren : Go.Shelf.Ren := ⟨fun | 137 => 268 | 217 => 270 | 266 => 277 | n => n, fun | 9 => 9 | 5 => 5 | 3 => 3 | n => n, fun | n => n⟩
theorem Tryz.lays137 : Go.Proofs.Lays.n137 Tryz.prog Tryz.lays137_ren := {
  mixed := by kernel_rfl
  f137 := Tryz.func268.trans (congrArg some (by kernel_rfl))
  f217 := Tryz.func270.trans (congrArg some (by kernel_rfl))
  f266 := Tryz.func277.trans (congrArg some (by kernel_rfl))
  t3 := Tryz.underlying3
  a3 := Tryz.isAgg3
  z3 := Tryz.sizeOf3
  v3 := Tryz.zeroValue3
  t5 := Tryz.underlying5
  a5 := Tryz.isAgg5
  z5 := Tryz.sizeOf5
  v5 := Tryz.zeroValue5
  t9 := Tryz.underlying9
  a9 := Tryz.isAgg9
  z9 := Tryz.sizeOf9
  v9 := Tryz.zeroValue9 }
open Go.RowKit in
/-- strings.IndexByte: "IndexByte returns the index of the first instance of c in s, or -1 if c is not present in s.": IT RETURNS 'Lib.indexByte s c'; the world is as it was. (LAID: no walk: one application.) -/
theorem Tryz.strings_IndexByte (s : ByteArray) (c : Int) (w : World) :
    Calls Tryz.prog 268 #[.string s, .int .u8 c] w fun e w' => e = .returned (.int .i64 (Lib.indexByte s.data.toList c.toNat.toUInt8)) ∧ w' = w := Any.strings_IndexByte Tryz.lays137 s c w
def Tryz.lays210_ren : Go.Shelf.Ren := ⟨fun | 210 => 112 | 206 => 196 | n => n, fun | 9 => 9 | 4 => 4 | 3 => 3 | n => n, fun | n => n⟩
theorem Tryz.lays210 : Go.Proofs.Lays.n210 Tryz.prog Tryz.lays210_ren := {
  mixed := by kernel_rfl
  f206 := Tryz.func196.trans (congrArg some (by kernel_rfl))
  f210 := Tryz.func112.trans (congrArg some (by kernel_rfl))
  t3 := Tryz.underlying3
  a3 := Tryz.isAgg3
  z3 := Tryz.sizeOf3
  v3 := Tryz.zeroValue3
  t4 := Tryz.underlying4
  a4 := Tryz.isAgg4
  z4 := Tryz.sizeOf4
  v4 := Tryz.zeroValue4
  t9 := Tryz.underlying9
  a9 := Tryz.isAgg9
  z9 := Tryz.sizeOf9
  v9 := Tryz.zeroValue9 }
open Go.RowKit in
/-- internal/stringslite.CutPrefix (what strings.CutPrefix calls). (LAID: no walk: one application.) -/
theorem Tryz.stringslite_CutPrefix (s p : ByteArray) (w : World) :
    Calls Tryz.prog 112 #[.string s, .string p] w fun e w' => e = .returned (.tuple #[.string ⟨(Lib.trimPrefix s.data.toList p.data.toList).toArray⟩, .bool (Lib.hasPrefix s.data.toList p.data.toList)]) ∧ w' = w := Any.stringslite_CutPrefix Tryz.lays210 s p w
def Tryz.lays103_ren : Go.Shelf.Ren := ⟨fun | 103 => 61 | 210 => 112 | 206 => 196 | n => n, fun | 9 => 9 | 4 => 4 | 24 => 26 | 3 => 3 | n => n, fun | n => n⟩
theorem Tryz.lays103 : Go.Proofs.Lays.n103 Tryz.prog Tryz.lays103_ren := {
  mixed := by kernel_rfl
  f103 := Tryz.func61.trans (congrArg some (by kernel_rfl))
  f206 := Tryz.func196.trans (congrArg some (by kernel_rfl))
  f210 := Tryz.func112.trans (congrArg some (by kernel_rfl))
  t3 := Tryz.underlying3
  a3 := Tryz.isAgg3
  z3 := Tryz.sizeOf3
  v3 := Tryz.zeroValue3
  t4 := Tryz.underlying4
  a4 := Tryz.isAgg4
  z4 := Tryz.sizeOf4
  v4 := Tryz.zeroValue4
  t9 := Tryz.underlying9
  a9 := Tryz.isAgg9
  z9 := Tryz.sizeOf9
  v9 := Tryz.zeroValue9
  t24 := Tryz.underlying26
  a24 := Tryz.isAgg26
  z24 := Tryz.sizeOf26
  v24 := Tryz.zeroValue26 }
open Go.RowKit in
/-- strings.CutPrefix: "CutPrefix returns s without the provided leading prefix string and reports whether it found the prefix. If s doesn't start with prefix, CutPrefix returns s, false. If prefix is the empty string, CutPrefix returns s, true.": IT RETURNS '(Lib.trimPrefix s p, Lib.hasPrefix s p)'; the world is as it was. (LAID: no walk: one application.) -/
theorem Tryz.strings_CutPrefix (s p : ByteArray) (w : World) :
    Calls Tryz.prog 61 #[.string s, .string p] w fun e w' => e = .returned (.tuple #[.string ⟨(Lib.trimPrefix s.data.toList p.data.toList).toArray⟩, .bool (Lib.hasPrefix s.data.toList p.data.toList)]) ∧ w' = w := Any.strings_CutPrefix Tryz.lays103 s p w
open Go.RowKit in
/-- (*strings.Builder).String: "String returns the accumulated string.": OF A BUILDER THAT HOLDS AT LEAST ONE BYTE. ✋ THE MODEL FREEZES THOSE BYTES IN THE BUFFER (unsafe.String): a later write INTO them ends the model's run without an answer; a later append BEHIND them goes on. The statement's order of evaluation is drawn: one draw. THE FORM '_f': IT SAYS BESIDES THAT THE BUILDER IS A BUILDER STILL ('Lib.IsBuilderF', the same bytes): SO IT CAN BE WRITTEN ON: 'b.WriteString(b.String()[:k])'. (LAID: no walk: one application.) -/
theorem Tryz.Builder_String_f (B b : Nat) (l : List UInt8) (w : World) (h : Lib.IsBuilderF 197 5 B b (Lib.byteCells l) w) (h0 : l ≠ []) :
    Calls Tryz.prog 181 #[.pointer (some ⟨b, 0, none⟩)] w fun e w' => e = .returned (.string ⟨l.toArray⟩) ∧ (Lib.IsBuilderF 197 5 B b (Lib.byteCells l) w' ∧ Below B w w') := Any.Builder_String_f Tryz.lays169 Tryz.Builder_Extra_169 B b l w h h0
open Go.RowKit in
/-- (*strings.Builder).String OF A BUILDER THAT HOLDS NO BYTE: the empty string; THE FORM '_f': a builder still. (LAID: no walk: one application.) -/
theorem Tryz.Builder_String_empty_f (B b : Nat) (w : World) (h : Lib.IsBuilderF 197 5 B b [] w) (hBw : B ≤ w.heap.size) :
    Calls Tryz.prog 181 #[.pointer (some ⟨b, 0, none⟩)] w fun e w' => e = .returned (.string ⟨#[]⟩) ∧ (Lib.IsBuilderF 197 5 B b [] w' ∧ Below B w w') := Any.Builder_String_empty_f Tryz.lays169 Tryz.Builder_Extra_169 B b w h hBw
open Go.RowKit in
/-- (*strings.Builder).String: "String returns the accumulated string.": WHATEVER THE BUILDER HOLDS; THE FORM '_f': OF A BUILDER THAT MAY HAVE BEEN READ BEFORE; AND IT IS A BUILDER STILL, holding the same bytes: it can be written on. (LAID: no walk: one application.) -/
theorem Tryz.Builder_String_any_f (B b : Nat) (l : List UInt8) (w : World) (h : Lib.IsBuilderF 197 5 B b (Lib.byteCells l) w) (hBw : B ≤ w.heap.size) :
    Calls Tryz.prog 181 #[.pointer (some ⟨b, 0, none⟩)] w fun e w' => e = .returned (.string ⟨l.toArray⟩) ∧ (Lib.IsBuilderF 197 5 B b (Lib.byteCells l) w' ∧ Below B w w') := Any.Builder_String_any_f Tryz.lays169 Tryz.Builder_Extra_169 B b l w h hBw
open Go.RowKit in
/-- (*strings.Builder).String: "String returns the accumulated string.": OF A BUILDER THAT HOLDS AT LEAST ONE BYTE. ✋ THE MODEL FREEZES THOSE BYTES IN THE BUFFER (unsafe.String): a later write INTO them ends the model's run without an answer; a later append BEHIND them goes on. The statement's order of evaluation is drawn: one draw. THE FORM '_k': OVER 'Lib.IsBuilderF' (a builder that 'String()' may have read), AND WITH THE FRAME THAT REACHES ABOVE THE BUILDER: 'Lib.OthersKept': every block that is not b and is no row of uint8's stands as it stood: the iterator of a range among them. (LAID: no walk: one application.) -/
theorem Tryz.Builder_String_k (B b : Nat) (l : List UInt8) (w : World) (h : Lib.IsBuilderF 197 5 B b (Lib.byteCells l) w) (h0 : l ≠ []) :
    Calls Tryz.prog 181 #[.pointer (some ⟨b, 0, none⟩)] w fun e w' => e = .returned (.string ⟨l.toArray⟩) ∧ (Lib.IsBuilderF 197 5 B b (Lib.byteCells l) w' ∧ Below B w w' ∧ Lib.OthersKept 5 (some b) w w') := Any.Builder_String_k Tryz.lays169 Tryz.Builder_Extra_169 B b l w h h0
open Go.RowKit in
/-- (*strings.Builder).String OF A BUILDER THAT HOLDS NO BYTE: the empty string; THE FORM '_k': OVER 'Lib.IsBuilderF' (a builder that 'String()' may have read), AND WITH THE FRAME THAT REACHES ABOVE THE BUILDER: 'Lib.OthersKept': every block that is not b and is no row of uint8's stands as it stood: the iterator of a range among them. (LAID: no walk: one application.) -/
theorem Tryz.Builder_String_empty_k (B b : Nat) (w : World) (h : Lib.IsBuilderF 197 5 B b [] w) (hBw : B ≤ w.heap.size) :
    Calls Tryz.prog 181 #[.pointer (some ⟨b, 0, none⟩)] w fun e w' => e = .returned (.string ⟨#[]⟩) ∧ (Lib.IsBuilderF 197 5 B b [] w' ∧ Below B w w' ∧ Lib.OthersKept 5 (some b) w w') := Any.Builder_String_empty_k Tryz.lays169 Tryz.Builder_Extra_169 B b w h hBw
open Go.RowKit in
/-- (*strings.Builder).String: "String returns the accumulated string.": WHATEVER THE BUILDER HOLDS; THE FORM '_k': OVER 'Lib.IsBuilderF' (a builder that 'String()' may have read), AND WITH THE FRAME THAT REACHES ABOVE THE BUILDER: 'Lib.OthersKept': every block that is not b and is no row of uint8's stands as it stood: the iterator of a range among them. (LAID: no walk: one application.) -/
theorem Tryz.Builder_String_any_k (B b : Nat) (l : List UInt8) (w : World) (h : Lib.IsBuilderF 197 5 B b (Lib.byteCells l) w) (hBw : B ≤ w.heap.size) :
    Calls Tryz.prog 181 #[.pointer (some ⟨b, 0, none⟩)] w fun e w' => e = .returned (.string ⟨l.toArray⟩) ∧ (Lib.IsBuilderF 197 5 B b (Lib.byteCells l) w' ∧ Below B w w' ∧ Lib.OthersKept 5 (some b) w w') := Any.Builder_String_any_k Tryz.lays169 Tryz.Builder_Extra_169 B b l w h hBw
def Tryz.lays195_ren : Go.Shelf.Ren := ⟨fun | 195 => 253 | n => n, fun | 9 => 9 | 3 => 3 | 0 => 0 | 4 => 4 | n => n, fun | n => n⟩
theorem Tryz.lays195 : Go.Proofs.Lays.n195 Tryz.prog Tryz.lays195_ren := {
  mixed := by kernel_rfl
  f195 := Tryz.func253.trans (congrArg some (by kernel_rfl))
  t0 := Tryz.underlying0
  a0 := Tryz.isAgg0
  z0 := Tryz.sizeOf0
  v0 := Tryz.zeroValue0
  t3 := Tryz.underlying3
  a3 := Tryz.isAgg3
  z3 := Tryz.sizeOf3
  v3 := Tryz.zeroValue3
  t4 := Tryz.underlying4
  a4 := Tryz.isAgg4
  z4 := Tryz.sizeOf4
  v4 := Tryz.zeroValue4
  t9 := Tryz.underlying9
  a9 := Tryz.isAgg9
  z9 := Tryz.sizeOf9
  v9 := Tryz.zeroValue9 }
open Go.RowKit in
/-- unicode/utf8.RuneCountInString: "RuneCountInString is like RuneCount but its input is a string." ("RuneCount returns the number of runes in p. Erroneous and short encodings are treated as single runes of width 1 byte."): EVERY STRING, valid UTF-8 or not: 'Lib.runeCount s' (plain Lean over the model's own 'Utf8.decode'; 'Lib.runeCount_le': at most len(s); 'Lib.runeCount_ascii': on ASCII: len(s)). THE ONE CONDITION: len(s) below 2^63 - 1 (the counter does not wrap): the form's reach pays it. THE WORLD BEHIND THE CALL: ONE BLOCK MORE: the model's iterator over s, at its end: all else as it was. (LAID: no walk: one application.) -/
theorem Tryz.utf8_RuneCountInString (s : ByteArray) (w : World) (hs : s.size < 9223372036854775807) :
    Calls Tryz.prog 253 #[.string s] w fun e w' => e = .returned (.int .i64 (Lib.runeCount s)) ∧ ∃ pos, w' = w.iter s pos := Any.utf8_RuneCountInString Tryz.lays195 s w hs
def Tryz.lays244_ren : Go.Shelf.Ren := ⟨fun | 244 => 113 | 247 => 197 | 287 => 227 | 321 => 251 | 322 => 252 | n => n, fun | 9 => 9 | 3 => 3 | 75 => 105 | 4 => 4 | 5 => 5 | 167 => 209 | 37 => 139 | 0 => 0 | 85 => 210 | 2 => 2 | 53 => 179 | 175 => 180 | 46 => 193 | 21 => 21 | 80 => 118 | n => n, fun | n => n⟩
theorem Tryz.lays244 : Go.Proofs.Lays.n244 Tryz.prog Tryz.lays244_ren := {
  mixed := by kernel_rfl
  f244 := Tryz.func113.trans (congrArg some (by kernel_rfl))
  f247 := Tryz.func197.trans (congrArg some (by kernel_rfl))
  f287 := Tryz.func227.trans (congrArg some (by kernel_rfl))
  f321 := Tryz.func251.trans (congrArg some (by kernel_rfl))
  f322 := Tryz.func252.trans (congrArg some (by kernel_rfl))
  t0 := Tryz.underlying0
  a0 := Tryz.isAgg0
  z0 := Tryz.sizeOf0
  v0 := Tryz.zeroValue0
  t2 := Tryz.underlying2
  a2 := Tryz.isAgg2
  z2 := Tryz.sizeOf2
  v2 := Tryz.zeroValue2
  t3 := Tryz.underlying3
  a3 := Tryz.isAgg3
  z3 := Tryz.sizeOf3
  v3 := Tryz.zeroValue3
  t4 := Tryz.underlying4
  a4 := Tryz.isAgg4
  z4 := Tryz.sizeOf4
  v4 := Tryz.zeroValue4
  t5 := Tryz.underlying5
  a5 := Tryz.isAgg5
  z5 := Tryz.sizeOf5
  v5 := Tryz.zeroValue5
  t9 := Tryz.underlying9
  a9 := Tryz.isAgg9
  z9 := Tryz.sizeOf9
  v9 := Tryz.zeroValue9
  t21 := Tryz.underlying21
  a21 := Tryz.isAgg21
  z21 := Tryz.sizeOf21
  v21 := Tryz.zeroValue21
  t37 := Tryz.underlying139
  a37 := Tryz.isAgg139
  z37 := Tryz.sizeOf139
  v37 := Tryz.zeroValue139
  t46 := Tryz.underlying193
  a46 := Tryz.isAgg193
  z46 := Tryz.sizeOf193
  v46 := Tryz.zeroValue193
  t53 := Tryz.underlying179
  a53 := Tryz.isAgg179
  z53 := Tryz.sizeOf179
  v53 := Tryz.zeroValue179
  t75 := Tryz.underlying105
  a75 := Tryz.isAgg105
  z75 := Tryz.sizeOf105
  v75 := Tryz.zeroValue105
  t85 := Tryz.underlying210
  a85 := Tryz.isAgg210
  z85 := Tryz.sizeOf210
  v85 := Tryz.zeroValue210
  t167 := Tryz.underlying209
  a167 := Tryz.isAgg209
  z167 := Tryz.sizeOf209
  v167 := Tryz.zeroValue209
  t175 := Tryz.underlying180
  a175 := Tryz.isAgg180
  z175 := Tryz.sizeOf180
  v175 := Tryz.zeroValue180 }
open Go.RowKit in
/-- internal/strconv.Atoi, at a decimal numeral of at most 18 bytes: ITS VALUE, AND NO ERROR. The world behind the call: the one new row that '[]byte(s)' lays. (LAID: no walk: one application.) -/
theorem Tryz.internal_strconv_Atoi (s : ByteArray) (n : Int) (hl : s.size ≤ 18) (h : Lib.atoi s.data.toList = some n) (w : World) :
    Calls Tryz.prog 113 #[.string s] w fun e w' => e = .returned (.tuple #[.int .i64 n, .nilIface]) ∧ ∃ t, w' = Lib.bytesWorld w 5 t := Any.internal_strconv_Atoi Tryz.lays244 s n hl h w
def Tryz.lays172_ren : Go.Shelf.Ren := ⟨fun | 172 => 62 | 244 => 113 | 245 => 114 | 247 => 197 | 279 => 198 | 280 => 199 | 281 => 200 | 282 => 201 | 287 => 227 | 316 => 243 | 171 => 58 | 205 => 244 | 321 => 251 | 322 => 252 | 243 => 111 | 246 => 195 | 283 => 239 | 284 => 240 | 285 => 241 | 286 => 242 | 129 => 264 | 317 => 263 | 318 => 265 | 319 => 266 | 320 => 267 | 337 => 275 | 338 => 276 | n => n, fun | 9 => 9 | 3 => 3 | 75 => 105 | 76 => 106 | 4 => 4 | 5 => 5 | 167 => 209 | 37 => 139 | 0 => 0 | 85 => 210 | 2 => 2 | 168 => 212 | 53 => 179 | 175 => 180 | 46 => 193 | 210 => 236 | 127 => 229 | 145 => 259 | 143 => 257 | 21 => 21 | 171 => 230 | 173 => 233 | 212 => 253 | 51 => 254 | 20 => 20 | 213 => 255 | 232 => 194 | 233 => 268 | 80 => 118 | n => n, fun | 15 => 0 | 16 => 1 | 17 => 2 | 18 => 6 | 19 => 7 | n => n⟩
theorem Tryz.lays172 : Go.Proofs.Lays.n172 Tryz.prog Tryz.lays172_ren := {
  mixed := by kernel_rfl
  f129 := Tryz.func264.trans (congrArg some (by kernel_rfl))
  f171 := Tryz.func58.trans (congrArg some (by kernel_rfl))
  f172 := Tryz.func62.trans (congrArg some (by kernel_rfl))
  f205 := Tryz.func244.trans (congrArg some (by kernel_rfl))
  f243 := Tryz.func111.trans (congrArg some (by kernel_rfl))
  f244 := Tryz.func113.trans (congrArg some (by kernel_rfl))
  f245 := Tryz.func114.trans (congrArg some (by kernel_rfl))
  f246 := Tryz.func195.trans (congrArg some (by kernel_rfl))
  f247 := Tryz.func197.trans (congrArg some (by kernel_rfl))
  f279 := Tryz.func198.trans (congrArg some (by kernel_rfl))
  f280 := Tryz.func199.trans (congrArg some (by kernel_rfl))
  f281 := Tryz.func200.trans (congrArg some (by kernel_rfl))
  f282 := Tryz.func201.trans (congrArg some (by kernel_rfl))
  f283 := Tryz.func239.trans (congrArg some (by kernel_rfl))
  f284 := Tryz.func240.trans (congrArg some (by kernel_rfl))
  f285 := Tryz.func241.trans (congrArg some (by kernel_rfl))
  f286 := Tryz.func242.trans (congrArg some (by kernel_rfl))
  f287 := Tryz.func227.trans (congrArg some (by kernel_rfl))
  f316 := Tryz.func243.trans (congrArg some (by kernel_rfl))
  f317 := Tryz.func263.trans (congrArg some (by kernel_rfl))
  f318 := Tryz.func265.trans (congrArg some (by kernel_rfl))
  f319 := Tryz.func266.trans (congrArg some (by kernel_rfl))
  f320 := Tryz.func267.trans (congrArg some (by kernel_rfl))
  f321 := Tryz.func251.trans (congrArg some (by kernel_rfl))
  f322 := Tryz.func252.trans (congrArg some (by kernel_rfl))
  f337 := Tryz.func275.trans (congrArg some (by kernel_rfl))
  f338 := Tryz.func276.trans (congrArg some (by kernel_rfl))
  t0 := Tryz.underlying0
  a0 := Tryz.isAgg0
  z0 := Tryz.sizeOf0
  v0 := Tryz.zeroValue0
  t2 := Tryz.underlying2
  a2 := Tryz.isAgg2
  z2 := Tryz.sizeOf2
  v2 := Tryz.zeroValue2
  t3 := Tryz.underlying3
  a3 := Tryz.isAgg3
  z3 := Tryz.sizeOf3
  v3 := Tryz.zeroValue3
  t4 := Tryz.underlying4
  a4 := Tryz.isAgg4
  z4 := Tryz.sizeOf4
  v4 := Tryz.zeroValue4
  t5 := Tryz.underlying5
  a5 := Tryz.isAgg5
  z5 := Tryz.sizeOf5
  v5 := Tryz.zeroValue5
  t9 := Tryz.underlying9
  a9 := Tryz.isAgg9
  z9 := Tryz.sizeOf9
  v9 := Tryz.zeroValue9
  t20 := Tryz.underlying20
  a20 := Tryz.isAgg20
  z20 := Tryz.sizeOf20
  v20 := Tryz.zeroValue20
  t21 := Tryz.underlying21
  a21 := Tryz.isAgg21
  z21 := Tryz.sizeOf21
  v21 := Tryz.zeroValue21
  t37 := Tryz.underlying139
  a37 := Tryz.isAgg139
  z37 := Tryz.sizeOf139
  v37 := Tryz.zeroValue139
  t46 := Tryz.underlying193
  a46 := Tryz.isAgg193
  z46 := Tryz.sizeOf193
  v46 := Tryz.zeroValue193
  t51 := Tryz.underlying254
  a51 := Tryz.isAgg254
  z51 := Tryz.sizeOf254
  v51 := Tryz.zeroValue254
  t53 := Tryz.underlying179
  a53 := Tryz.isAgg179
  z53 := Tryz.sizeOf179
  v53 := Tryz.zeroValue179
  t75 := Tryz.underlying105
  a75 := Tryz.isAgg105
  z75 := Tryz.sizeOf105
  v75 := Tryz.zeroValue105
  t76 := Tryz.underlying106
  a76 := Tryz.isAgg106
  z76 := Tryz.sizeOf106
  v76 := Tryz.zeroValue106
  t85 := Tryz.underlying210
  a85 := Tryz.isAgg210
  z85 := Tryz.sizeOf210
  v85 := Tryz.zeroValue210
  t127 := Tryz.underlying229
  a127 := Tryz.isAgg229
  z127 := Tryz.sizeOf229
  v127 := Tryz.zeroValue229
  t143 := Tryz.underlying257
  a143 := Tryz.isAgg257
  z143 := Tryz.sizeOf257
  v143 := Tryz.zeroValue257
  t145 := Tryz.underlying259
  a145 := Tryz.isAgg259
  z145 := Tryz.sizeOf259
  v145 := Tryz.zeroValue259
  t167 := Tryz.underlying209
  a167 := Tryz.isAgg209
  z167 := Tryz.sizeOf209
  v167 := Tryz.zeroValue209
  t168 := Tryz.underlying212
  a168 := Tryz.isAgg212
  z168 := Tryz.sizeOf212
  v168 := Tryz.zeroValue212
  t171 := Tryz.underlying230
  a171 := Tryz.isAgg230
  z171 := Tryz.sizeOf230
  v171 := Tryz.zeroValue230
  t173 := Tryz.underlying233
  a173 := Tryz.isAgg233
  z173 := Tryz.sizeOf233
  v173 := Tryz.zeroValue233
  t175 := Tryz.underlying180
  a175 := Tryz.isAgg180
  z175 := Tryz.sizeOf180
  v175 := Tryz.zeroValue180
  t210 := Tryz.underlying236
  a210 := Tryz.isAgg236
  z210 := Tryz.sizeOf236
  v210 := Tryz.zeroValue236
  t212 := Tryz.underlying253
  a212 := Tryz.isAgg253
  z212 := Tryz.sizeOf253
  v212 := Tryz.zeroValue253
  t213 := Tryz.underlying255
  a213 := Tryz.isAgg255
  z213 := Tryz.sizeOf255
  t232 := Tryz.underlying194
  a232 := Tryz.isAgg194
  z232 := Tryz.sizeOf194
  v232 := Tryz.zeroValue194
  t233 := Tryz.underlying268
  a233 := Tryz.isAgg268
  z233 := Tryz.sizeOf268
  v233 := Tryz.zeroValue268
  g15 := by kernel_rfl
  g16 := by kernel_rfl
  g17 := by kernel_rfl
  g18 := by kernel_rfl
  g19 := by kernel_rfl }
open Go.RowKit in
/-- strconv.Atoi: "Atoi is equivalent to ParseInt(s, 10, 0), converted to type int.": AT A DECIMAL NUMERAL OF AT MOST 18 BYTES: its value, and a nil error. The world behind the call: the one new row that the library's '[]byte(s)' lays. (LAID: no walk: one application.) -/
theorem Tryz.strconv_Atoi (s : ByteArray) (n : Int) (hl : s.size ≤ 18) (h : Lib.atoi s.data.toList = some n) (w : World) :
    Calls Tryz.prog 62 #[.string s] w fun e w' => e = .returned (.tuple #[.int .i64 n, .nilIface]) ∧ ∃ t, w' = Lib.bytesWorld w 5 t := Any.strconv_Atoi Tryz.lays172 s n hl h w
def Tryz.lays129_ren : Go.Shelf.Ren := ⟨fun | 129 => 264 | n => n, fun | 53 => 179 | 3 => 3 | 4 => 4 | 46 => 193 | 5 => 5 | 9 => 9 | n => n, fun | n => n⟩
theorem Tryz.lays129 : Go.Proofs.Lays.n129 Tryz.prog Tryz.lays129_ren := {
  mixed := by kernel_rfl
  f129 := Tryz.func264.trans (congrArg some (by kernel_rfl))
  t3 := Tryz.underlying3
  a3 := Tryz.isAgg3
  z3 := Tryz.sizeOf3
  v3 := Tryz.zeroValue3
  t4 := Tryz.underlying4
  a4 := Tryz.isAgg4
  z4 := Tryz.sizeOf4
  v4 := Tryz.zeroValue4
  t5 := Tryz.underlying5
  a5 := Tryz.isAgg5
  z5 := Tryz.sizeOf5
  v5 := Tryz.zeroValue5
  t9 := Tryz.underlying9
  a9 := Tryz.isAgg9
  z9 := Tryz.sizeOf9
  v9 := Tryz.zeroValue9
  t46 := Tryz.underlying193
  a46 := Tryz.isAgg193
  z46 := Tryz.sizeOf193
  v46 := Tryz.zeroValue193
  t53 := Tryz.underlying179
  a53 := Tryz.isAgg179
  z53 := Tryz.sizeOf179
  v53 := Tryz.zeroValue179 }
/-- bits.Len64: "Len64 returns the minimum number of bits required to represent x; the result is 0 for x == 0.": IT RETURNS 'Lib.bitLen x'; the world is as it was. ('h0', 'h1': x is a uint64.) (LAID: no walk: one application.) -/
theorem Tryz.bits_Len64 (x : Int) (w : World) (h0 : 0 ≤ x) (h1 : x ≤ 18446744073709551615) :
    Calls Tryz.prog 264 #[.int .u64 x] w fun e w' => e = .returned (.int .i64 (Lib.bitLen x.toNat)) ∧ w' = w := Any.bits_Len64 Tryz.lays129 x w h0 h1
def Tryz.lays317_ren : Go.Shelf.Ren := ⟨fun | 317 => 263 | n => n, fun | 3 => 3 | 46 => 193 | n => n, fun | n => n⟩
theorem Tryz.lays317 : Go.Proofs.Lays.n317 Tryz.prog Tryz.lays317_ren := {
  mixed := by kernel_rfl
  f317 := Tryz.func263.trans (congrArg some (by kernel_rfl))
  t3 := Tryz.underlying3
  a3 := Tryz.isAgg3
  z3 := Tryz.sizeOf3
  v3 := Tryz.zeroValue3
  t46 := Tryz.underlying193
  a46 := Tryz.isAgg193
  z46 := Tryz.sizeOf193
  v46 := Tryz.zeroValue193 }
open Go.Lib in
/-- internal/strconv.log10Pow2: "log10Pow2(x) returns ⌊log₁₀ 2**x⌋ = ⌊x * log₁₀ 2⌋.": '(x * 78913) >> 18', at an x up to 64 (a length in bits). The world is as it was. (LAID: no walk: one application.) -/
theorem Tryz.internal_strconv_log10Pow2 (x : Nat) (h : x ≤ 64) (w : World) :
    Calls Tryz.prog 263 #[.int .i64 x] w fun e w' => e = .returned (.int .i64 (Lib.l10 x)) ∧ w' = w := Any.internal_strconv_log10Pow2 Tryz.lays317 x h w
def Tryz.lays318_ren : Go.Shelf.Ren := ⟨fun | 318 => 265 | n => n, fun | 3 => 3 | 4 => 4 | n => n, fun | n => n⟩
theorem Tryz.lays318 : Go.Proofs.Lays.n318 Tryz.prog Tryz.lays318_ren := {
  mixed := by kernel_rfl
  f318 := Tryz.func265.trans (congrArg some (by kernel_rfl))
  t3 := Tryz.underlying3
  a3 := Tryz.isAgg3
  z3 := Tryz.sizeOf3
  v3 := Tryz.zeroValue3
  t4 := Tryz.underlying4
  a4 := Tryz.isAgg4
  z4 := Tryz.sizeOf4
  v4 := Tryz.zeroValue4 }
open Go.Lib in
/-- internal/strconv.bool2: "bool2 converts b to an integer: 1 for true, 0 for false." The world is as it was. (LAID: no walk: one application.) -/
theorem Tryz.internal_strconv_bool2_int (b : Bool) (w : World) :
    Calls Tryz.prog 265 #[.bool b] w fun e w' => e = .returned (.int .i64 (if b then 1 else 0)) ∧ w' = w := Any.internal_strconv_bool2_int Tryz.lays318 b w
def Tryz.lays283_ren : Go.Shelf.Ren := ⟨fun | 283 => 239 | n => n, fun | 3 => 3 | 9 => 9 | 4 => 4 | n => n, fun | n => n⟩
theorem Tryz.lays283 : Go.Proofs.Lays.n283 Tryz.prog Tryz.lays283_ren := {
  mixed := by kernel_rfl
  f283 := Tryz.func239.trans (congrArg some (by kernel_rfl))
  t3 := Tryz.underlying3
  a3 := Tryz.isAgg3
  z3 := Tryz.sizeOf3
  v3 := Tryz.zeroValue3
  t4 := Tryz.underlying4
  a4 := Tryz.isAgg4
  z4 := Tryz.sizeOf4
  v4 := Tryz.zeroValue4
  t9 := Tryz.underlying9
  a9 := Tryz.isAgg9
  z9 := Tryz.sizeOf9
  v9 := Tryz.zeroValue9 }
open Go.Lib in
/-- internal/strconv.small: "small returns the string for an i with 0 <= i < nSmalls.": i's decimal numeral. The world is as it was. (LAID: no walk: one application.) -/
theorem Tryz.internal_strconv_small (i : Nat) (h : i < 100) (w : World) :
    Calls Tryz.prog 239 #[.int .i64 i] w fun e w' => e = .returned (.string ⟨(Lib.decDigits i).toArray⟩) ∧ w' = w := Any.internal_strconv_small Tryz.lays283 i h w
def Tryz.laysM284_ren : Go.Shelf.Ren := ⟨fun | 284 => 240 | 129 => 264 | 317 => 263 | 318 => 265 | n => n, fun | 53 => 179 | 3 => 3 | 212 => 253 | 0 => 0 | 4 => 4 | 46 => 193 | 5 => 5 | 9 => 9 | n => n, fun | 17 => 2 | n => n⟩
theorem Tryz.laysM284 : Go.Proofs.LaysM.n284 Tryz.prog Tryz.laysM284_ren := {
  mixed := by kernel_rfl
  f129 := Tryz.func264.trans (congrArg some (by kernel_rfl))
  f284 := Tryz.func240.trans (congrArg some (by kernel_rfl))
  f317 := Tryz.func263.trans (congrArg some (by kernel_rfl))
  f318 := Tryz.func265.trans (congrArg some (by kernel_rfl))
  t0 := Tryz.underlying0
  a0 := Tryz.isAgg0
  z0 := Tryz.sizeOf0
  v0 := Tryz.zeroValue0
  t3 := Tryz.underlying3
  a3 := Tryz.isAgg3
  z3 := Tryz.sizeOf3
  v3 := Tryz.zeroValue3
  t4 := Tryz.underlying4
  a4 := Tryz.isAgg4
  z4 := Tryz.sizeOf4
  v4 := Tryz.zeroValue4
  t5 := Tryz.underlying5
  a5 := Tryz.isAgg5
  z5 := Tryz.sizeOf5
  v5 := Tryz.zeroValue5
  t9 := Tryz.underlying9
  a9 := Tryz.isAgg9
  z9 := Tryz.sizeOf9
  v9 := Tryz.zeroValue9
  t46 := Tryz.underlying193
  a46 := Tryz.isAgg193
  z46 := Tryz.sizeOf193
  v46 := Tryz.zeroValue193
  t53 := Tryz.underlying179
  a53 := Tryz.isAgg179
  z53 := Tryz.sizeOf179
  v53 := Tryz.zeroValue179
  t212 := Tryz.underlying253
  a212 := Tryz.isAgg253
  z212 := Tryz.sizeOf253
  v212 := Tryz.zeroValue253
  g17 := by kernel_rfl
  i0 := by kernel_rfl
  i3 := by kernel_rfl
  i4 := by kernel_rfl
  i5 := by kernel_rfl
  i9 := by kernel_rfl
  i46 := by kernel_rfl
  i53 := by kernel_rfl
  i212 := by kernel_rfl
  m17 := by kernel_rfl }
open Go.Lib in
/-- internal/strconv.numDigits, at a d that is not 0: THE NUMBER OF d's DECIMAL DIGITS. The world is as it was. (LAID: no walk: one application.) -/
theorem Tryz.internal_strconv_numDigits (u : Nat) (h1 : 1 ≤ u) (h2 : u < 18446744073709551616) (w : World) (htab : Lib.TabIs Tryz.prog w "internal/strconv.uint64pow10" .u64 Lib.pow10Tab) :
    Calls Tryz.prog 240 #[.int .u64 u] w fun e w' => e = .returned (.int .i64 (Lib.nDigits u)) ∧ w' = w := Any.internal_strconv_numDigits Tryz.laysM284 u h1 h2 w htab
def Tryz.lays285_ren : Go.Shelf.Ren := ⟨fun | 285 => 241 | n => n, fun | 37 => 139 | 53 => 179 | 3 => 3 | 4 => 4 | 51 => 254 | 9 => 9 | 5 => 5 | 0 => 0 | n => n, fun | n => n⟩
theorem Tryz.lays285 : Go.Proofs.Lays.n285 Tryz.prog Tryz.lays285_ren := {
  mixed := by kernel_rfl
  f285 := Tryz.func241.trans (congrArg some (by kernel_rfl))
  t0 := Tryz.underlying0
  a0 := Tryz.isAgg0
  z0 := Tryz.sizeOf0
  v0 := Tryz.zeroValue0
  t3 := Tryz.underlying3
  a3 := Tryz.isAgg3
  z3 := Tryz.sizeOf3
  v3 := Tryz.zeroValue3
  t4 := Tryz.underlying4
  a4 := Tryz.isAgg4
  z4 := Tryz.sizeOf4
  v4 := Tryz.zeroValue4
  t5 := Tryz.underlying5
  a5 := Tryz.isAgg5
  z5 := Tryz.sizeOf5
  v5 := Tryz.zeroValue5
  t9 := Tryz.underlying9
  a9 := Tryz.isAgg9
  z9 := Tryz.sizeOf9
  v9 := Tryz.zeroValue9
  t37 := Tryz.underlying139
  a37 := Tryz.isAgg139
  z37 := Tryz.sizeOf139
  v37 := Tryz.zeroValue139
  t51 := Tryz.underlying254
  a51 := Tryz.isAgg254
  z51 := Tryz.sizeOf254
  v51 := Tryz.zeroValue254
  t53 := Tryz.underlying179
  a53 := Tryz.isAgg179
  z53 := Tryz.sizeOf179
  v53 := Tryz.zeroValue179 }
open Go.RowKit Go.Sort Go.Lib in
/-- internal/strconv.formatBase10: "formatBase10 formats the decimal representation of u into a. The caller is responsible for ensuring that a is big enough to hold u. If a is too big, leading zeros will be filled in as needed.": THE ROW HOLDS u's DIGITS ('FmtInv .. 0 ..': every place t holds 'dg u (len - 1 - t)'); all else is as it was but for the count of draws. (LAID: no walk: one application.) -/
theorem Tryz.internal_strconv_formatBase10 (blk off cap : Nat) (u : Nat) (d : Array UInt8) (w : World) (hH : Holds (fun (b : UInt8) => Value.int .u8 (b.toNat : Int)) w blk off d) (hu : u < 10 ^ d.size) (hu64 : u < 18446744073709551616) (hsz : d.size < 4611686018427387904) :
    Calls Tryz.prog 241 #[.slice (some ⟨blk, off, none⟩) d.size cap, .int .u64 u] w fun e w' =>
      e = .returned (.tuple #[]) ∧ ∃ (n v' : Nat) (dk : Array UInt8), w' = (putRow (fun (b : UInt8) => Value.int .u8 (b.toNat : Int)) w blk off dk).drewN n ∧ FmtInv d.size u 0 v' dk := Any.internal_strconv_formatBase10 Tryz.lays285 blk off cap u d w hH hu hu64 hsz
def Tryz.laysM246_ren : Go.Shelf.Ren := ⟨fun | 246 => 195 | 283 => 239 | 284 => 240 | 285 => 241 | 286 => 242 | 129 => 264 | 317 => 263 | 318 => 265 | 319 => 266 | 320 => 267 | 337 => 275 | 338 => 276 | n => n, fun | 2 => 2 | 3 => 3 | 9 => 9 | 4 => 4 | 171 => 230 | 0 => 0 | 53 => 179 | 37 => 139 | 5 => 5 | 173 => 233 | 212 => 253 | 51 => 254 | 20 => 20 | 213 => 255 | 46 => 193 | 232 => 194 | 233 => 268 | n => n, fun | 17 => 2 | 18 => 6 | 19 => 7 | n => n⟩
theorem Tryz.laysM246 : Go.Proofs.LaysM.n246 Tryz.prog Tryz.laysM246_ren := {
  mixed := by kernel_rfl
  f129 := Tryz.func264.trans (congrArg some (by kernel_rfl))
  f246 := Tryz.func195.trans (congrArg some (by kernel_rfl))
  f283 := Tryz.func239.trans (congrArg some (by kernel_rfl))
  f284 := Tryz.func240.trans (congrArg some (by kernel_rfl))
  f285 := Tryz.func241.trans (congrArg some (by kernel_rfl))
  f286 := Tryz.func242.trans (congrArg some (by kernel_rfl))
  f317 := Tryz.func263.trans (congrArg some (by kernel_rfl))
  f318 := Tryz.func265.trans (congrArg some (by kernel_rfl))
  f319 := Tryz.func266.trans (congrArg some (by kernel_rfl))
  f320 := Tryz.func267.trans (congrArg some (by kernel_rfl))
  f337 := Tryz.func275.trans (congrArg some (by kernel_rfl))
  f338 := Tryz.func276.trans (congrArg some (by kernel_rfl))
  t0 := Tryz.underlying0
  a0 := Tryz.isAgg0
  z0 := Tryz.sizeOf0
  v0 := Tryz.zeroValue0
  t2 := Tryz.underlying2
  a2 := Tryz.isAgg2
  z2 := Tryz.sizeOf2
  v2 := Tryz.zeroValue2
  t3 := Tryz.underlying3
  a3 := Tryz.isAgg3
  z3 := Tryz.sizeOf3
  v3 := Tryz.zeroValue3
  t4 := Tryz.underlying4
  a4 := Tryz.isAgg4
  z4 := Tryz.sizeOf4
  v4 := Tryz.zeroValue4
  t5 := Tryz.underlying5
  a5 := Tryz.isAgg5
  z5 := Tryz.sizeOf5
  v5 := Tryz.zeroValue5
  t9 := Tryz.underlying9
  a9 := Tryz.isAgg9
  z9 := Tryz.sizeOf9
  v9 := Tryz.zeroValue9
  t20 := Tryz.underlying20
  a20 := Tryz.isAgg20
  z20 := Tryz.sizeOf20
  v20 := Tryz.zeroValue20
  t37 := Tryz.underlying139
  a37 := Tryz.isAgg139
  z37 := Tryz.sizeOf139
  v37 := Tryz.zeroValue139
  t46 := Tryz.underlying193
  a46 := Tryz.isAgg193
  z46 := Tryz.sizeOf193
  v46 := Tryz.zeroValue193
  t51 := Tryz.underlying254
  a51 := Tryz.isAgg254
  z51 := Tryz.sizeOf254
  v51 := Tryz.zeroValue254
  t53 := Tryz.underlying179
  a53 := Tryz.isAgg179
  z53 := Tryz.sizeOf179
  v53 := Tryz.zeroValue179
  t171 := Tryz.underlying230
  a171 := Tryz.isAgg230
  z171 := Tryz.sizeOf230
  v171 := Tryz.zeroValue230
  t173 := Tryz.underlying233
  a173 := Tryz.isAgg233
  z173 := Tryz.sizeOf233
  v173 := Tryz.zeroValue233
  t212 := Tryz.underlying253
  a212 := Tryz.isAgg253
  z212 := Tryz.sizeOf253
  v212 := Tryz.zeroValue253
  t213 := Tryz.underlying255
  a213 := Tryz.isAgg255
  z213 := Tryz.sizeOf255
  t232 := Tryz.underlying194
  a232 := Tryz.isAgg194
  z232 := Tryz.sizeOf194
  v232 := Tryz.zeroValue194
  t233 := Tryz.underlying268
  a233 := Tryz.isAgg268
  z233 := Tryz.sizeOf268
  v233 := Tryz.zeroValue268
  g17 := by kernel_rfl
  g18 := by kernel_rfl
  g19 := by kernel_rfl
  i0 := by kernel_rfl
  i2 := by kernel_rfl
  i3 := by kernel_rfl
  i4 := by kernel_rfl
  i5 := by kernel_rfl
  i9 := by kernel_rfl
  i20 := by kernel_rfl
  i37 := by kernel_rfl
  i46 := by kernel_rfl
  i51 := by kernel_rfl
  i53 := by kernel_rfl
  i171 := by kernel_rfl
  i173 := by kernel_rfl
  i212 := by kernel_rfl
  i232 := by kernel_rfl
  i233 := by kernel_rfl
  m17 := by kernel_rfl
  m18 := by kernel_rfl
  m19 := by kernel_rfl }
open Go.RowKit Go.Sort Go.Lib in
/-- internal/strconv.FormatInt: "FormatInt returns the string representation of i in the given base": AT BASE 10: i's decimal numeral, for every int64. The world behind the call: the world before it, new blocks behind the heap, draws. (LAID: no walk: one application.) -/
theorem Tryz.internal_strconv_FormatInt_10 (n : Int) (h0 : -9223372036854775808 ≤ n) (h1 : n ≤ 9223372036854775807) (w : World) (htab : Lib.TabIs Tryz.prog w "internal/strconv.uint64pow10" .u64 Lib.pow10Tab) :
    Calls Tryz.prog 195 #[.int .i64 n, .int .i64 10] w fun e w' => e = .returned (.string ⟨(Lib.itoa n).toArray⟩) ∧ ∃ k os, w' = grow (w.drewN k) os := Any.internal_strconv_FormatInt_10 Tryz.laysM246 n h0 h1 w htab
def Tryz.lays246_ren : Go.Shelf.Ren := ⟨fun | 246 => 195 | 283 => 239 | 284 => 240 | 285 => 241 | 286 => 242 | 129 => 264 | 317 => 263 | 318 => 265 | 319 => 266 | 320 => 267 | 337 => 275 | 338 => 276 | n => n, fun | 2 => 2 | 3 => 3 | 9 => 9 | 4 => 4 | 171 => 230 | 0 => 0 | 53 => 179 | 37 => 139 | 5 => 5 | 173 => 233 | 212 => 253 | 51 => 254 | 20 => 20 | 213 => 255 | 46 => 193 | 232 => 194 | 233 => 268 | n => n, fun | 17 => 2 | 18 => 6 | 19 => 7 | n => n⟩
theorem Tryz.lays246 : Go.Proofs.Lays.n246 Tryz.prog Tryz.lays246_ren := {
  mixed := by kernel_rfl
  f129 := Tryz.func264.trans (congrArg some (by kernel_rfl))
  f246 := Tryz.func195.trans (congrArg some (by kernel_rfl))
  f283 := Tryz.func239.trans (congrArg some (by kernel_rfl))
  f284 := Tryz.func240.trans (congrArg some (by kernel_rfl))
  f285 := Tryz.func241.trans (congrArg some (by kernel_rfl))
  f286 := Tryz.func242.trans (congrArg some (by kernel_rfl))
  f317 := Tryz.func263.trans (congrArg some (by kernel_rfl))
  f318 := Tryz.func265.trans (congrArg some (by kernel_rfl))
  f319 := Tryz.func266.trans (congrArg some (by kernel_rfl))
  f320 := Tryz.func267.trans (congrArg some (by kernel_rfl))
  f337 := Tryz.func275.trans (congrArg some (by kernel_rfl))
  f338 := Tryz.func276.trans (congrArg some (by kernel_rfl))
  t0 := Tryz.underlying0
  a0 := Tryz.isAgg0
  z0 := Tryz.sizeOf0
  v0 := Tryz.zeroValue0
  t2 := Tryz.underlying2
  a2 := Tryz.isAgg2
  z2 := Tryz.sizeOf2
  v2 := Tryz.zeroValue2
  t3 := Tryz.underlying3
  a3 := Tryz.isAgg3
  z3 := Tryz.sizeOf3
  v3 := Tryz.zeroValue3
  t4 := Tryz.underlying4
  a4 := Tryz.isAgg4
  z4 := Tryz.sizeOf4
  v4 := Tryz.zeroValue4
  t5 := Tryz.underlying5
  a5 := Tryz.isAgg5
  z5 := Tryz.sizeOf5
  v5 := Tryz.zeroValue5
  t9 := Tryz.underlying9
  a9 := Tryz.isAgg9
  z9 := Tryz.sizeOf9
  v9 := Tryz.zeroValue9
  t20 := Tryz.underlying20
  a20 := Tryz.isAgg20
  z20 := Tryz.sizeOf20
  v20 := Tryz.zeroValue20
  t37 := Tryz.underlying139
  a37 := Tryz.isAgg139
  z37 := Tryz.sizeOf139
  v37 := Tryz.zeroValue139
  t46 := Tryz.underlying193
  a46 := Tryz.isAgg193
  z46 := Tryz.sizeOf193
  v46 := Tryz.zeroValue193
  t51 := Tryz.underlying254
  a51 := Tryz.isAgg254
  z51 := Tryz.sizeOf254
  v51 := Tryz.zeroValue254
  t53 := Tryz.underlying179
  a53 := Tryz.isAgg179
  z53 := Tryz.sizeOf179
  v53 := Tryz.zeroValue179
  t171 := Tryz.underlying230
  a171 := Tryz.isAgg230
  z171 := Tryz.sizeOf230
  v171 := Tryz.zeroValue230
  t173 := Tryz.underlying233
  a173 := Tryz.isAgg233
  z173 := Tryz.sizeOf233
  v173 := Tryz.zeroValue233
  t212 := Tryz.underlying253
  a212 := Tryz.isAgg253
  z212 := Tryz.sizeOf253
  v212 := Tryz.zeroValue253
  t213 := Tryz.underlying255
  a213 := Tryz.isAgg255
  z213 := Tryz.sizeOf255
  t232 := Tryz.underlying194
  a232 := Tryz.isAgg194
  z232 := Tryz.sizeOf194
  v232 := Tryz.zeroValue194
  t233 := Tryz.underlying268
  a233 := Tryz.isAgg268
  z233 := Tryz.sizeOf268
  v233 := Tryz.zeroValue268
  g17 := by kernel_rfl
  g18 := by kernel_rfl
  g19 := by kernel_rfl }
open Go.RowKit Go.Sort Go.Lib in
/-- THE ROAD WITHOUT THE TABLE: 0 <= i < 100: two constants are read, nothing is laid: no premise on the world, and the world is as it was. (LAID: no walk: one application.) -/
theorem Tryz.internal_strconv_FormatInt_10_small (i : Nat) (hi : i < 100) (w : World) :
    Calls Tryz.prog 195 #[.int .i64 i, .int .i64 10] w fun e w' => e = .returned (.string ⟨(Lib.decDigits i).toArray⟩) ∧ w' = w := Any.internal_strconv_FormatInt_10_small Tryz.lays246 i hi w
def Tryz.laysM243_ren : Go.Shelf.Ren := ⟨fun | 243 => 111 | 246 => 195 | 283 => 239 | 284 => 240 | 285 => 241 | 286 => 242 | 129 => 264 | 317 => 263 | 318 => 265 | 319 => 266 | 320 => 267 | 337 => 275 | 338 => 276 | n => n, fun | 3 => 3 | 9 => 9 | 2 => 2 | 4 => 4 | 171 => 230 | 0 => 0 | 53 => 179 | 37 => 139 | 5 => 5 | 173 => 233 | 212 => 253 | 51 => 254 | 20 => 20 | 213 => 255 | 46 => 193 | 232 => 194 | 233 => 268 | n => n, fun | 17 => 2 | 18 => 6 | 19 => 7 | n => n⟩
theorem Tryz.laysM243 : Go.Proofs.LaysM.n243 Tryz.prog Tryz.laysM243_ren := {
  mixed := by kernel_rfl
  f129 := Tryz.func264.trans (congrArg some (by kernel_rfl))
  f243 := Tryz.func111.trans (congrArg some (by kernel_rfl))
  f246 := Tryz.func195.trans (congrArg some (by kernel_rfl))
  f283 := Tryz.func239.trans (congrArg some (by kernel_rfl))
  f284 := Tryz.func240.trans (congrArg some (by kernel_rfl))
  f285 := Tryz.func241.trans (congrArg some (by kernel_rfl))
  f286 := Tryz.func242.trans (congrArg some (by kernel_rfl))
  f317 := Tryz.func263.trans (congrArg some (by kernel_rfl))
  f318 := Tryz.func265.trans (congrArg some (by kernel_rfl))
  f319 := Tryz.func266.trans (congrArg some (by kernel_rfl))
  f320 := Tryz.func267.trans (congrArg some (by kernel_rfl))
  f337 := Tryz.func275.trans (congrArg some (by kernel_rfl))
  f338 := Tryz.func276.trans (congrArg some (by kernel_rfl))
  t0 := Tryz.underlying0
  a0 := Tryz.isAgg0
  z0 := Tryz.sizeOf0
  v0 := Tryz.zeroValue0
  t2 := Tryz.underlying2
  a2 := Tryz.isAgg2
  z2 := Tryz.sizeOf2
  v2 := Tryz.zeroValue2
  t3 := Tryz.underlying3
  a3 := Tryz.isAgg3
  z3 := Tryz.sizeOf3
  v3 := Tryz.zeroValue3
  t4 := Tryz.underlying4
  a4 := Tryz.isAgg4
  z4 := Tryz.sizeOf4
  v4 := Tryz.zeroValue4
  t5 := Tryz.underlying5
  a5 := Tryz.isAgg5
  z5 := Tryz.sizeOf5
  v5 := Tryz.zeroValue5
  t9 := Tryz.underlying9
  a9 := Tryz.isAgg9
  z9 := Tryz.sizeOf9
  v9 := Tryz.zeroValue9
  t20 := Tryz.underlying20
  a20 := Tryz.isAgg20
  z20 := Tryz.sizeOf20
  v20 := Tryz.zeroValue20
  t37 := Tryz.underlying139
  a37 := Tryz.isAgg139
  z37 := Tryz.sizeOf139
  v37 := Tryz.zeroValue139
  t46 := Tryz.underlying193
  a46 := Tryz.isAgg193
  z46 := Tryz.sizeOf193
  v46 := Tryz.zeroValue193
  t51 := Tryz.underlying254
  a51 := Tryz.isAgg254
  z51 := Tryz.sizeOf254
  v51 := Tryz.zeroValue254
  t53 := Tryz.underlying179
  a53 := Tryz.isAgg179
  z53 := Tryz.sizeOf179
  v53 := Tryz.zeroValue179
  t171 := Tryz.underlying230
  a171 := Tryz.isAgg230
  z171 := Tryz.sizeOf230
  v171 := Tryz.zeroValue230
  t173 := Tryz.underlying233
  a173 := Tryz.isAgg233
  z173 := Tryz.sizeOf233
  v173 := Tryz.zeroValue233
  t212 := Tryz.underlying253
  a212 := Tryz.isAgg253
  z212 := Tryz.sizeOf253
  v212 := Tryz.zeroValue253
  t213 := Tryz.underlying255
  a213 := Tryz.isAgg255
  z213 := Tryz.sizeOf255
  t232 := Tryz.underlying194
  a232 := Tryz.isAgg194
  z232 := Tryz.sizeOf194
  v232 := Tryz.zeroValue194
  t233 := Tryz.underlying268
  a233 := Tryz.isAgg268
  z233 := Tryz.sizeOf268
  v233 := Tryz.zeroValue268
  g17 := by kernel_rfl
  g18 := by kernel_rfl
  g19 := by kernel_rfl
  i0 := by kernel_rfl
  i2 := by kernel_rfl
  i3 := by kernel_rfl
  i4 := by kernel_rfl
  i5 := by kernel_rfl
  i9 := by kernel_rfl
  i20 := by kernel_rfl
  i37 := by kernel_rfl
  i46 := by kernel_rfl
  i51 := by kernel_rfl
  i53 := by kernel_rfl
  i171 := by kernel_rfl
  i173 := by kernel_rfl
  i212 := by kernel_rfl
  i232 := by kernel_rfl
  i233 := by kernel_rfl
  m17 := by kernel_rfl
  m18 := by kernel_rfl
  m19 := by kernel_rfl }
open Go.RowKit Go.Sort Go.Lib in
/-- internal/strconv.Itoa: "Itoa is equivalent to FormatInt(int64(i), 10).": i's decimal numeral, for every int. (LAID: no walk: one application.) -/
theorem Tryz.internal_strconv_Itoa (n : Int) (h0 : -9223372036854775808 ≤ n) (h1 : n ≤ 9223372036854775807) (w : World) (htab : Lib.TabIs Tryz.prog w "internal/strconv.uint64pow10" .u64 Lib.pow10Tab) :
    Calls Tryz.prog 111 #[.int .i64 n] w fun e w' => e = .returned (.string ⟨(Lib.itoa n).toArray⟩) ∧ ∃ k os, w' = grow (w.drewN k) os := Any.internal_strconv_Itoa Tryz.laysM243 n h0 h1 w htab
def Tryz.lays243_ren : Go.Shelf.Ren := ⟨fun | 243 => 111 | 246 => 195 | 283 => 239 | 284 => 240 | 285 => 241 | 286 => 242 | 129 => 264 | 317 => 263 | 318 => 265 | 319 => 266 | 320 => 267 | 337 => 275 | 338 => 276 | n => n, fun | 3 => 3 | 9 => 9 | 2 => 2 | 4 => 4 | 171 => 230 | 0 => 0 | 53 => 179 | 37 => 139 | 5 => 5 | 173 => 233 | 212 => 253 | 51 => 254 | 20 => 20 | 213 => 255 | 46 => 193 | 232 => 194 | 233 => 268 | n => n, fun | 17 => 2 | 18 => 6 | 19 => 7 | n => n⟩
theorem Tryz.lays243 : Go.Proofs.Lays.n243 Tryz.prog Tryz.lays243_ren := {
  mixed := by kernel_rfl
  f129 := Tryz.func264.trans (congrArg some (by kernel_rfl))
  f243 := Tryz.func111.trans (congrArg some (by kernel_rfl))
  f246 := Tryz.func195.trans (congrArg some (by kernel_rfl))
  f283 := Tryz.func239.trans (congrArg some (by kernel_rfl))
  f284 := Tryz.func240.trans (congrArg some (by kernel_rfl))
  f285 := Tryz.func241.trans (congrArg some (by kernel_rfl))
  f286 := Tryz.func242.trans (congrArg some (by kernel_rfl))
  f317 := Tryz.func263.trans (congrArg some (by kernel_rfl))
  f318 := Tryz.func265.trans (congrArg some (by kernel_rfl))
  f319 := Tryz.func266.trans (congrArg some (by kernel_rfl))
  f320 := Tryz.func267.trans (congrArg some (by kernel_rfl))
  f337 := Tryz.func275.trans (congrArg some (by kernel_rfl))
  f338 := Tryz.func276.trans (congrArg some (by kernel_rfl))
  t0 := Tryz.underlying0
  a0 := Tryz.isAgg0
  z0 := Tryz.sizeOf0
  v0 := Tryz.zeroValue0
  t2 := Tryz.underlying2
  a2 := Tryz.isAgg2
  z2 := Tryz.sizeOf2
  v2 := Tryz.zeroValue2
  t3 := Tryz.underlying3
  a3 := Tryz.isAgg3
  z3 := Tryz.sizeOf3
  v3 := Tryz.zeroValue3
  t4 := Tryz.underlying4
  a4 := Tryz.isAgg4
  z4 := Tryz.sizeOf4
  v4 := Tryz.zeroValue4
  t5 := Tryz.underlying5
  a5 := Tryz.isAgg5
  z5 := Tryz.sizeOf5
  v5 := Tryz.zeroValue5
  t9 := Tryz.underlying9
  a9 := Tryz.isAgg9
  z9 := Tryz.sizeOf9
  v9 := Tryz.zeroValue9
  t20 := Tryz.underlying20
  a20 := Tryz.isAgg20
  z20 := Tryz.sizeOf20
  v20 := Tryz.zeroValue20
  t37 := Tryz.underlying139
  a37 := Tryz.isAgg139
  z37 := Tryz.sizeOf139
  v37 := Tryz.zeroValue139
  t46 := Tryz.underlying193
  a46 := Tryz.isAgg193
  z46 := Tryz.sizeOf193
  v46 := Tryz.zeroValue193
  t51 := Tryz.underlying254
  a51 := Tryz.isAgg254
  z51 := Tryz.sizeOf254
  v51 := Tryz.zeroValue254
  t53 := Tryz.underlying179
  a53 := Tryz.isAgg179
  z53 := Tryz.sizeOf179
  v53 := Tryz.zeroValue179
  t171 := Tryz.underlying230
  a171 := Tryz.isAgg230
  z171 := Tryz.sizeOf230
  v171 := Tryz.zeroValue230
  t173 := Tryz.underlying233
  a173 := Tryz.isAgg233
  z173 := Tryz.sizeOf233
  v173 := Tryz.zeroValue233
  t212 := Tryz.underlying253
  a212 := Tryz.isAgg253
  z212 := Tryz.sizeOf253
  v212 := Tryz.zeroValue253
  t213 := Tryz.underlying255
  a213 := Tryz.isAgg255
  z213 := Tryz.sizeOf255
  t232 := Tryz.underlying194
  a232 := Tryz.isAgg194
  z232 := Tryz.sizeOf194
  v232 := Tryz.zeroValue194
  t233 := Tryz.underlying268
  a233 := Tryz.isAgg268
  z233 := Tryz.sizeOf268
  v233 := Tryz.zeroValue268
  g17 := by kernel_rfl
  g18 := by kernel_rfl
  g19 := by kernel_rfl }
open Go.RowKit Go.Sort Go.Lib in
/-- THE ROAD WITHOUT THE TABLE: 0 <= i < 100. (LAID: no walk: one application.) -/
theorem Tryz.internal_strconv_Itoa_small (i : Nat) (hi : i < 100) (w : World) :
    Calls Tryz.prog 111 #[.int .i64 i] w fun e w' => e = .returned (.string ⟨(Lib.decDigits i).toArray⟩) ∧ w' = w := Any.internal_strconv_Itoa_small Tryz.lays243 i hi w
def Tryz.laysM171_ren : Go.Shelf.Ren := ⟨fun | 171 => 58 | 243 => 111 | 246 => 195 | 283 => 239 | 284 => 240 | 285 => 241 | 286 => 242 | 129 => 264 | 317 => 263 | 318 => 265 | 319 => 266 | 320 => 267 | 337 => 275 | 338 => 276 | n => n, fun | 3 => 3 | 9 => 9 | 2 => 2 | 4 => 4 | 171 => 230 | 0 => 0 | 53 => 179 | 37 => 139 | 5 => 5 | 173 => 233 | 212 => 253 | 51 => 254 | 20 => 20 | 213 => 255 | 46 => 193 | 232 => 194 | 233 => 268 | n => n, fun | 17 => 2 | 18 => 6 | 19 => 7 | n => n⟩
theorem Tryz.laysM171 : Go.Proofs.LaysM.n171 Tryz.prog Tryz.laysM171_ren := {
  mixed := by kernel_rfl
  f129 := Tryz.func264.trans (congrArg some (by kernel_rfl))
  f171 := Tryz.func58.trans (congrArg some (by kernel_rfl))
  f243 := Tryz.func111.trans (congrArg some (by kernel_rfl))
  f246 := Tryz.func195.trans (congrArg some (by kernel_rfl))
  f283 := Tryz.func239.trans (congrArg some (by kernel_rfl))
  f284 := Tryz.func240.trans (congrArg some (by kernel_rfl))
  f285 := Tryz.func241.trans (congrArg some (by kernel_rfl))
  f286 := Tryz.func242.trans (congrArg some (by kernel_rfl))
  f317 := Tryz.func263.trans (congrArg some (by kernel_rfl))
  f318 := Tryz.func265.trans (congrArg some (by kernel_rfl))
  f319 := Tryz.func266.trans (congrArg some (by kernel_rfl))
  f320 := Tryz.func267.trans (congrArg some (by kernel_rfl))
  f337 := Tryz.func275.trans (congrArg some (by kernel_rfl))
  f338 := Tryz.func276.trans (congrArg some (by kernel_rfl))
  t0 := Tryz.underlying0
  a0 := Tryz.isAgg0
  z0 := Tryz.sizeOf0
  v0 := Tryz.zeroValue0
  t2 := Tryz.underlying2
  a2 := Tryz.isAgg2
  z2 := Tryz.sizeOf2
  v2 := Tryz.zeroValue2
  t3 := Tryz.underlying3
  a3 := Tryz.isAgg3
  z3 := Tryz.sizeOf3
  v3 := Tryz.zeroValue3
  t4 := Tryz.underlying4
  a4 := Tryz.isAgg4
  z4 := Tryz.sizeOf4
  v4 := Tryz.zeroValue4
  t5 := Tryz.underlying5
  a5 := Tryz.isAgg5
  z5 := Tryz.sizeOf5
  v5 := Tryz.zeroValue5
  t9 := Tryz.underlying9
  a9 := Tryz.isAgg9
  z9 := Tryz.sizeOf9
  v9 := Tryz.zeroValue9
  t20 := Tryz.underlying20
  a20 := Tryz.isAgg20
  z20 := Tryz.sizeOf20
  v20 := Tryz.zeroValue20
  t37 := Tryz.underlying139
  a37 := Tryz.isAgg139
  z37 := Tryz.sizeOf139
  v37 := Tryz.zeroValue139
  t46 := Tryz.underlying193
  a46 := Tryz.isAgg193
  z46 := Tryz.sizeOf193
  v46 := Tryz.zeroValue193
  t51 := Tryz.underlying254
  a51 := Tryz.isAgg254
  z51 := Tryz.sizeOf254
  v51 := Tryz.zeroValue254
  t53 := Tryz.underlying179
  a53 := Tryz.isAgg179
  z53 := Tryz.sizeOf179
  v53 := Tryz.zeroValue179
  t171 := Tryz.underlying230
  a171 := Tryz.isAgg230
  z171 := Tryz.sizeOf230
  v171 := Tryz.zeroValue230
  t173 := Tryz.underlying233
  a173 := Tryz.isAgg233
  z173 := Tryz.sizeOf233
  v173 := Tryz.zeroValue233
  t212 := Tryz.underlying253
  a212 := Tryz.isAgg253
  z212 := Tryz.sizeOf253
  v212 := Tryz.zeroValue253
  t213 := Tryz.underlying255
  a213 := Tryz.isAgg255
  z213 := Tryz.sizeOf255
  t232 := Tryz.underlying194
  a232 := Tryz.isAgg194
  z232 := Tryz.sizeOf194
  v232 := Tryz.zeroValue194
  t233 := Tryz.underlying268
  a233 := Tryz.isAgg268
  z233 := Tryz.sizeOf268
  v233 := Tryz.zeroValue268
  g17 := by kernel_rfl
  g18 := by kernel_rfl
  g19 := by kernel_rfl
  i0 := by kernel_rfl
  i2 := by kernel_rfl
  i3 := by kernel_rfl
  i4 := by kernel_rfl
  i5 := by kernel_rfl
  i9 := by kernel_rfl
  i20 := by kernel_rfl
  i37 := by kernel_rfl
  i46 := by kernel_rfl
  i51 := by kernel_rfl
  i53 := by kernel_rfl
  i171 := by kernel_rfl
  i173 := by kernel_rfl
  i212 := by kernel_rfl
  i232 := by kernel_rfl
  i233 := by kernel_rfl
  m17 := by kernel_rfl
  m18 := by kernel_rfl
  m19 := by kernel_rfl }
open Go.RowKit Go.Sort Go.Lib in
/-- strconv.Itoa: "Itoa is equivalent to FormatInt(int64(i), 10).": i's DECIMAL NUMERAL ('Lib.itoa': a '-' where i is negative, then the digits), FOR EVERY int. The world behind the call: the world before it, new blocks behind the heap (the library's 'var a [24]byte'), draws. (LAID: no walk: one application.) -/
theorem Tryz.strconv_Itoa (n : Int) (h0 : -9223372036854775808 ≤ n) (h1 : n ≤ 9223372036854775807) (w : World) (htab : Lib.TabIs Tryz.prog w "internal/strconv.uint64pow10" .u64 Lib.pow10Tab) :
    Calls Tryz.prog 58 #[.int .i64 n] w fun e w' => e = .returned (.string ⟨(Lib.itoa n).toArray⟩) ∧ ∃ k os, w' = grow (w.drewN k) os := Any.strconv_Itoa Tryz.laysM171 n h0 h1 w htab
def Tryz.lays171_ren : Go.Shelf.Ren := ⟨fun | 171 => 58 | 243 => 111 | 246 => 195 | 283 => 239 | 284 => 240 | 285 => 241 | 286 => 242 | 129 => 264 | 317 => 263 | 318 => 265 | 319 => 266 | 320 => 267 | 337 => 275 | 338 => 276 | n => n, fun | 3 => 3 | 9 => 9 | 2 => 2 | 4 => 4 | 171 => 230 | 0 => 0 | 53 => 179 | 37 => 139 | 5 => 5 | 173 => 233 | 212 => 253 | 51 => 254 | 20 => 20 | 213 => 255 | 46 => 193 | 232 => 194 | 233 => 268 | n => n, fun | 17 => 2 | 18 => 6 | 19 => 7 | n => n⟩
theorem Tryz.lays171 : Go.Proofs.Lays.n171 Tryz.prog Tryz.lays171_ren := {
  mixed := by kernel_rfl
  f129 := Tryz.func264.trans (congrArg some (by kernel_rfl))
  f171 := Tryz.func58.trans (congrArg some (by kernel_rfl))
  f243 := Tryz.func111.trans (congrArg some (by kernel_rfl))
  f246 := Tryz.func195.trans (congrArg some (by kernel_rfl))
  f283 := Tryz.func239.trans (congrArg some (by kernel_rfl))
  f284 := Tryz.func240.trans (congrArg some (by kernel_rfl))
  f285 := Tryz.func241.trans (congrArg some (by kernel_rfl))
  f286 := Tryz.func242.trans (congrArg some (by kernel_rfl))
  f317 := Tryz.func263.trans (congrArg some (by kernel_rfl))
  f318 := Tryz.func265.trans (congrArg some (by kernel_rfl))
  f319 := Tryz.func266.trans (congrArg some (by kernel_rfl))
  f320 := Tryz.func267.trans (congrArg some (by kernel_rfl))
  f337 := Tryz.func275.trans (congrArg some (by kernel_rfl))
  f338 := Tryz.func276.trans (congrArg some (by kernel_rfl))
  t0 := Tryz.underlying0
  a0 := Tryz.isAgg0
  z0 := Tryz.sizeOf0
  v0 := Tryz.zeroValue0
  t2 := Tryz.underlying2
  a2 := Tryz.isAgg2
  z2 := Tryz.sizeOf2
  v2 := Tryz.zeroValue2
  t3 := Tryz.underlying3
  a3 := Tryz.isAgg3
  z3 := Tryz.sizeOf3
  v3 := Tryz.zeroValue3
  t4 := Tryz.underlying4
  a4 := Tryz.isAgg4
  z4 := Tryz.sizeOf4
  v4 := Tryz.zeroValue4
  t5 := Tryz.underlying5
  a5 := Tryz.isAgg5
  z5 := Tryz.sizeOf5
  v5 := Tryz.zeroValue5
  t9 := Tryz.underlying9
  a9 := Tryz.isAgg9
  z9 := Tryz.sizeOf9
  v9 := Tryz.zeroValue9
  t20 := Tryz.underlying20
  a20 := Tryz.isAgg20
  z20 := Tryz.sizeOf20
  v20 := Tryz.zeroValue20
  t37 := Tryz.underlying139
  a37 := Tryz.isAgg139
  z37 := Tryz.sizeOf139
  v37 := Tryz.zeroValue139
  t46 := Tryz.underlying193
  a46 := Tryz.isAgg193
  z46 := Tryz.sizeOf193
  v46 := Tryz.zeroValue193
  t51 := Tryz.underlying254
  a51 := Tryz.isAgg254
  z51 := Tryz.sizeOf254
  v51 := Tryz.zeroValue254
  t53 := Tryz.underlying179
  a53 := Tryz.isAgg179
  z53 := Tryz.sizeOf179
  v53 := Tryz.zeroValue179
  t171 := Tryz.underlying230
  a171 := Tryz.isAgg230
  z171 := Tryz.sizeOf230
  v171 := Tryz.zeroValue230
  t173 := Tryz.underlying233
  a173 := Tryz.isAgg233
  z173 := Tryz.sizeOf233
  v173 := Tryz.zeroValue233
  t212 := Tryz.underlying253
  a212 := Tryz.isAgg253
  z212 := Tryz.sizeOf253
  v212 := Tryz.zeroValue253
  t213 := Tryz.underlying255
  a213 := Tryz.isAgg255
  z213 := Tryz.sizeOf255
  t232 := Tryz.underlying194
  a232 := Tryz.isAgg194
  z232 := Tryz.sizeOf194
  v232 := Tryz.zeroValue194
  t233 := Tryz.underlying268
  a233 := Tryz.isAgg268
  z233 := Tryz.sizeOf268
  v233 := Tryz.zeroValue268
  g17 := by kernel_rfl
  g18 := by kernel_rfl
  g19 := by kernel_rfl }
open Go.RowKit Go.Sort Go.Lib in
/-- THE ROAD WITHOUT THE TABLE: 0 <= i < 100: NO PREMISE ON THE WORLD, AND THE WORLD IS AS IT WAS: a row that keeps its argument in that range need list no table ('laid = []'). (LAID: no walk: one application.) -/
theorem Tryz.strconv_Itoa_small (i : Nat) (hi : i < 100) (w : World) :
    Calls Tryz.prog 58 #[.int .i64 i] w fun e w' => e = .returned (.string ⟨(Lib.decDigits i).toArray⟩) ∧ w' = w := Any.strconv_Itoa_small Tryz.lays171 i hi w
open Go.RowKit in
/-- internal/strconv.Atoi, at a string of 1 to 18 bytes THAT IS NO DECIMAL NUMERAL: 0, AND ErrSyntax (the package's own error number 2). The world behind the call: as it was, or with the one new row that '[]byte(s)' lays. (LAID: no walk: one application.) -/
theorem Tryz.internal_strconv_Atoi_err (s : ByteArray) (hl0 : 1 ≤ s.size) (hl : s.size ≤ 18) (h : Lib.atoi s.data.toList = none) (w : World) :
    Calls Tryz.prog 113 #[.string s] w fun e w' => e = .returned (.tuple #[.int .i64 0, (.iface 209 (.int .i64 2))]) ∧ (w' = w ∨ ∃ t, w' = Lib.bytesWorld w 5 t) := Any.internal_strconv_Atoi_err Tryz.lays244 s hl0 hl h w
def Tryz.lays247_ren : Go.Shelf.Ren := ⟨fun | 247 => 197 | 287 => 227 | 321 => 251 | 322 => 252 | n => n, fun | 9 => 9 | 3 => 3 | 2 => 2 | 75 => 105 | 4 => 4 | 167 => 209 | 5 => 5 | 53 => 179 | 175 => 180 | 46 => 193 | 37 => 139 | 0 => 0 | 21 => 21 | 80 => 118 | n => n, fun | n => n⟩
theorem Tryz.lays247 : Go.Proofs.Lays.n247 Tryz.prog Tryz.lays247_ren := {
  mixed := by kernel_rfl
  f247 := Tryz.func197.trans (congrArg some (by kernel_rfl))
  f287 := Tryz.func227.trans (congrArg some (by kernel_rfl))
  f321 := Tryz.func251.trans (congrArg some (by kernel_rfl))
  f322 := Tryz.func252.trans (congrArg some (by kernel_rfl))
  t0 := Tryz.underlying0
  a0 := Tryz.isAgg0
  z0 := Tryz.sizeOf0
  v0 := Tryz.zeroValue0
  t2 := Tryz.underlying2
  a2 := Tryz.isAgg2
  z2 := Tryz.sizeOf2
  v2 := Tryz.zeroValue2
  t3 := Tryz.underlying3
  a3 := Tryz.isAgg3
  z3 := Tryz.sizeOf3
  v3 := Tryz.zeroValue3
  t4 := Tryz.underlying4
  a4 := Tryz.isAgg4
  z4 := Tryz.sizeOf4
  v4 := Tryz.zeroValue4
  t5 := Tryz.underlying5
  a5 := Tryz.isAgg5
  z5 := Tryz.sizeOf5
  v5 := Tryz.zeroValue5
  t9 := Tryz.underlying9
  a9 := Tryz.isAgg9
  z9 := Tryz.sizeOf9
  v9 := Tryz.zeroValue9
  t21 := Tryz.underlying21
  a21 := Tryz.isAgg21
  z21 := Tryz.sizeOf21
  v21 := Tryz.zeroValue21
  t37 := Tryz.underlying139
  a37 := Tryz.isAgg139
  z37 := Tryz.sizeOf139
  v37 := Tryz.zeroValue139
  t46 := Tryz.underlying193
  a46 := Tryz.isAgg193
  z46 := Tryz.sizeOf193
  v46 := Tryz.zeroValue193
  t53 := Tryz.underlying179
  a53 := Tryz.isAgg179
  z53 := Tryz.sizeOf179
  v53 := Tryz.zeroValue179
  t75 := Tryz.underlying105
  a75 := Tryz.isAgg105
  z75 := Tryz.sizeOf105
  v75 := Tryz.zeroValue105
  t167 := Tryz.underlying209
  a167 := Tryz.isAgg209
  z167 := Tryz.sizeOf209
  v167 := Tryz.zeroValue209
  t175 := Tryz.underlying180
  a175 := Tryz.isAgg180
  z175 := Tryz.sizeOf180
  v175 := Tryz.zeroValue180 }
open Go.RowKit in
/-- internal/strconv.ParseInt at "": 'if s == "" { return 0, ErrSyntax }'. The world is as it was. (LAID: no walk: one application.) -/
theorem Tryz.internal_strconv_ParseInt_empty (base bits : Int) (w : World) :
    Calls Tryz.prog 197 #[.string ⟨#[]⟩, .int .i64 base, .int .i64 bits] w fun e w' => e = .returned (.tuple #[.int .i64 0, (.iface 209 (.int .i64 2))]) ∧ w' = w := Any.internal_strconv_ParseInt_empty Tryz.lays247 base bits w
open Go.RowKit in
/-- internal/strconv.Atoi at "". (LAID: no walk: one application.) -/
theorem Tryz.internal_strconv_Atoi_empty (w : World) :
    Calls Tryz.prog 113 #[.string ⟨#[]⟩] w fun e w' => e = .returned (.tuple #[.int .i64 0, (.iface 209 (.int .i64 2))]) ∧ w' = w := Any.internal_strconv_Atoi_empty Tryz.lays244 w
open Go.RowKit in
/-- internal/strconv.Atoi, AT EVERY STRING OF AT MOST 18 BYTES THAT IS NO DECIMAL NUMERAL: 0, and ErrSyntax. (LAID: no walk: one application.) -/
theorem Tryz.internal_strconv_Atoi_fail (s : ByteArray) (hl : s.size ≤ 18) (h : Lib.atoi s.data.toList = none) (w : World) :
    Calls Tryz.prog 113 #[.string s] w fun e w' => e = .returned (.tuple #[.int .i64 0, (.iface 209 (.int .i64 2))]) ∧ (w' = w ∨ ∃ t, w' = Lib.bytesWorld w 5 t) := Any.internal_strconv_Atoi_fail Tryz.lays244 s hl h w
def Tryz.laysM316_ren : Go.Shelf.Ren := ⟨fun | 316 => 243 | n => n, fun | 9 => 9 | 3 => 3 | 4 => 4 | 37 => 139 | 0 => 0 | 127 => 229 | 5 => 5 | n => n, fun | n => n⟩
theorem Tryz.laysM316 : Go.Proofs.LaysM.n316 Tryz.prog Tryz.laysM316_ren := {
  mixed := by kernel_rfl
  f316 := Tryz.func243.trans (congrArg some (by kernel_rfl))
  t0 := Tryz.underlying0
  a0 := Tryz.isAgg0
  z0 := Tryz.sizeOf0
  v0 := Tryz.zeroValue0
  t3 := Tryz.underlying3
  a3 := Tryz.isAgg3
  z3 := Tryz.sizeOf3
  v3 := Tryz.zeroValue3
  t4 := Tryz.underlying4
  a4 := Tryz.isAgg4
  z4 := Tryz.sizeOf4
  v4 := Tryz.zeroValue4
  t9 := Tryz.underlying9
  a9 := Tryz.isAgg9
  z9 := Tryz.sizeOf9
  v9 := Tryz.zeroValue9
  t37 := Tryz.underlying139
  a37 := Tryz.isAgg139
  z37 := Tryz.sizeOf139
  v37 := Tryz.zeroValue139
  t127 := Tryz.underlying229
  a127 := Tryz.isAgg229
  z127 := Tryz.sizeOf229
  v127 := Tryz.zeroValue229
  t5 := Tryz.underlying5
  a5 := Tryz.isAgg5
  z5 := Tryz.sizeOf5
  v5 := Tryz.zeroValue5
  i0 := by kernel_rfl
  i3 := by kernel_rfl
  i4 := by kernel_rfl
  i5 := by kernel_rfl
  i9 := by kernel_rfl
  i37 := by kernel_rfl
  i127 := by kernel_rfl }
open Go.RowKit in
/-- internal/stringslite.Clone (what strings.Clone calls): "Clone returns a fresh copy of s.": THE SAME BYTES. Of what was there nothing has turned (a new row is laid, and frozen, where s is not empty). (LAID: no walk: one application.) -/
theorem Tryz.stringslite_Clone (s : ByteArray) (w : World) (hlim : s.size ≤ 281474976710656) :
    Calls Tryz.prog 243 #[.string s] w fun e w' => e = .returned (.string s) ∧ Below w.heap.size w w' := Any.stringslite_Clone Tryz.laysM316 s w hlim
def Tryz.laysM279_ren : Go.Shelf.Ren := ⟨fun | 279 => 198 | 316 => 243 | n => n, fun | 9 => 9 | 168 => 212 | 75 => 105 | 210 => 236 | 3 => 3 | 4 => 4 | 37 => 139 | 0 => 0 | 127 => 229 | 80 => 118 | 5 => 5 | n => n, fun | 15 => 0 | n => n⟩
theorem Tryz.laysM279 : Go.Proofs.LaysM.n279 Tryz.prog Tryz.laysM279_ren := {
  mixed := by kernel_rfl
  f279 := Tryz.func198.trans (congrArg some (by kernel_rfl))
  f316 := Tryz.func243.trans (congrArg some (by kernel_rfl))
  t0 := Tryz.underlying0
  a0 := Tryz.isAgg0
  z0 := Tryz.sizeOf0
  v0 := Tryz.zeroValue0
  t3 := Tryz.underlying3
  a3 := Tryz.isAgg3
  z3 := Tryz.sizeOf3
  v3 := Tryz.zeroValue3
  t4 := Tryz.underlying4
  a4 := Tryz.isAgg4
  z4 := Tryz.sizeOf4
  v4 := Tryz.zeroValue4
  t9 := Tryz.underlying9
  a9 := Tryz.isAgg9
  z9 := Tryz.sizeOf9
  v9 := Tryz.zeroValue9
  t37 := Tryz.underlying139
  a37 := Tryz.isAgg139
  z37 := Tryz.sizeOf139
  v37 := Tryz.zeroValue139
  t75 := Tryz.underlying105
  a75 := Tryz.isAgg105
  z75 := Tryz.sizeOf105
  v75 := Tryz.zeroValue105
  t127 := Tryz.underlying229
  a127 := Tryz.isAgg229
  z127 := Tryz.sizeOf229
  v127 := Tryz.zeroValue229
  t168 := Tryz.underlying212
  a168 := Tryz.isAgg212
  z168 := Tryz.sizeOf212
  v168 := Tryz.zeroValue212
  t210 := Tryz.underlying236
  a210 := Tryz.isAgg236
  z210 := Tryz.sizeOf236
  v210 := Tryz.zeroValue236
  g15 := by kernel_rfl
  t5 := Tryz.underlying5
  a5 := Tryz.isAgg5
  z5 := Tryz.sizeOf5
  v5 := Tryz.zeroValue5
  t80 := Tryz.underlying118
  a80 := Tryz.isAgg118
  z80 := Tryz.sizeOf118
  v80 := Tryz.zeroValue118
  i0 := by kernel_rfl
  i3 := by kernel_rfl
  i4 := by kernel_rfl
  i5 := by kernel_rfl
  i9 := by kernel_rfl
  i37 := by kernel_rfl
  i75 := by kernel_rfl
  i80 := by kernel_rfl
  i127 := by kernel_rfl
  i168 := by kernel_rfl
  i210 := by kernel_rfl
  m15 := by kernel_rfl }
open Go.RowKit in
/-- strconv.syntaxError: '&NumError{fn, stringslite.Clone(str), ErrSyntax}': A POINTER TO A NEW BLOCK that holds fn, str's bytes, and what the variable ErrSyntax holds. Of what was there nothing has turned. (LAID: no walk: one application.) -/
theorem Tryz.strconv_syntaxError (fn s : ByteArray) (ev : Value) (w : World) (hlim : s.size ≤ 281474976710656) (hv : w.cell? ⟨0, 0, none⟩ = some ev) (hev : ev = .nilIface ∨ ∃ te pe, ev = .iface te pe) :
    Calls Tryz.prog 198 #[.string fn, .string s] w fun e w' => ∃ N, e = .returned (.pointer (some ⟨N, 0, none⟩)) ∧ w.heap.size ≤ N ∧ w'.heap[N]? = some (.cells #[.string fn, .string s, ev] 236 (0, 0)) ∧ Below w.heap.size w w' := Any.strconv_syntaxError Tryz.laysM279 fn s ev w hlim hv hev
def Tryz.laysC245_ren : Go.Shelf.Ren := ⟨fun | 245 => 114 | 279 => 198 | 280 => 199 | 281 => 200 | 282 => 201 | 316 => 243 | 171 => 58 | 205 => 244 | 243 => 111 | 246 => 195 | 283 => 239 | 284 => 240 | 285 => 241 | 286 => 242 | 129 => 264 | 317 => 263 | 318 => 265 | 319 => 266 | 320 => 267 | 337 => 275 | 338 => 276 | n => n, fun | 9 => 9 | 3 => 3 | 75 => 105 | 167 => 209 | 4 => 4 | 168 => 212 | 210 => 236 | 37 => 139 | 0 => 0 | 127 => 229 | 145 => 259 | 143 => 257 | 2 => 2 | 171 => 230 | 53 => 179 | 5 => 5 | 173 => 233 | 212 => 253 | 51 => 254 | 20 => 20 | 213 => 255 | 46 => 193 | 232 => 194 | 233 => 268 | 80 => 118 | n => n, fun | 15 => 0 | 16 => 1 | 17 => 2 | 18 => 6 | 19 => 7 | n => n⟩
theorem Tryz.laysC245 : Go.Proofs.LaysC.n245 Tryz.prog Tryz.laysC245_ren := {
  mixed := by kernel_rfl
  f129 := Tryz.func264.trans (congrArg some (by kernel_rfl))
  f171 := Tryz.func58.trans (congrArg some (by kernel_rfl))
  f205 := Tryz.func244.trans (congrArg some (by kernel_rfl))
  f243 := Tryz.func111.trans (congrArg some (by kernel_rfl))
  f245 := Tryz.func114.trans (congrArg some (by kernel_rfl))
  f246 := Tryz.func195.trans (congrArg some (by kernel_rfl))
  f279 := Tryz.func198.trans (congrArg some (by kernel_rfl))
  f280 := Tryz.func199.trans (congrArg some (by kernel_rfl))
  f281 := Tryz.func200.trans (congrArg some (by kernel_rfl))
  f282 := Tryz.func201.trans (congrArg some (by kernel_rfl))
  f283 := Tryz.func239.trans (congrArg some (by kernel_rfl))
  f284 := Tryz.func240.trans (congrArg some (by kernel_rfl))
  f285 := Tryz.func241.trans (congrArg some (by kernel_rfl))
  f286 := Tryz.func242.trans (congrArg some (by kernel_rfl))
  f316 := Tryz.func243.trans (congrArg some (by kernel_rfl))
  f317 := Tryz.func263.trans (congrArg some (by kernel_rfl))
  f318 := Tryz.func265.trans (congrArg some (by kernel_rfl))
  f319 := Tryz.func266.trans (congrArg some (by kernel_rfl))
  f320 := Tryz.func267.trans (congrArg some (by kernel_rfl))
  f337 := Tryz.func275.trans (congrArg some (by kernel_rfl))
  f338 := Tryz.func276.trans (congrArg some (by kernel_rfl))
  t0 := Tryz.underlying0
  a0 := Tryz.isAgg0
  z0 := Tryz.sizeOf0
  v0 := Tryz.zeroValue0
  t2 := Tryz.underlying2
  a2 := Tryz.isAgg2
  z2 := Tryz.sizeOf2
  v2 := Tryz.zeroValue2
  t3 := Tryz.underlying3
  a3 := Tryz.isAgg3
  z3 := Tryz.sizeOf3
  v3 := Tryz.zeroValue3
  t4 := Tryz.underlying4
  a4 := Tryz.isAgg4
  z4 := Tryz.sizeOf4
  v4 := Tryz.zeroValue4
  t5 := Tryz.underlying5
  a5 := Tryz.isAgg5
  z5 := Tryz.sizeOf5
  v5 := Tryz.zeroValue5
  t9 := Tryz.underlying9
  a9 := Tryz.isAgg9
  z9 := Tryz.sizeOf9
  v9 := Tryz.zeroValue9
  t20 := Tryz.underlying20
  a20 := Tryz.isAgg20
  z20 := Tryz.sizeOf20
  v20 := Tryz.zeroValue20
  t37 := Tryz.underlying139
  a37 := Tryz.isAgg139
  z37 := Tryz.sizeOf139
  v37 := Tryz.zeroValue139
  t46 := Tryz.underlying193
  a46 := Tryz.isAgg193
  z46 := Tryz.sizeOf193
  v46 := Tryz.zeroValue193
  t51 := Tryz.underlying254
  a51 := Tryz.isAgg254
  z51 := Tryz.sizeOf254
  v51 := Tryz.zeroValue254
  t53 := Tryz.underlying179
  a53 := Tryz.isAgg179
  z53 := Tryz.sizeOf179
  v53 := Tryz.zeroValue179
  t75 := Tryz.underlying105
  a75 := Tryz.isAgg105
  z75 := Tryz.sizeOf105
  v75 := Tryz.zeroValue105
  t127 := Tryz.underlying229
  a127 := Tryz.isAgg229
  z127 := Tryz.sizeOf229
  v127 := Tryz.zeroValue229
  t143 := Tryz.underlying257
  a143 := Tryz.isAgg257
  z143 := Tryz.sizeOf257
  v143 := Tryz.zeroValue257
  t145 := Tryz.underlying259
  a145 := Tryz.isAgg259
  z145 := Tryz.sizeOf259
  v145 := Tryz.zeroValue259
  t167 := Tryz.underlying209
  a167 := Tryz.isAgg209
  z167 := Tryz.sizeOf209
  v167 := Tryz.zeroValue209
  t168 := Tryz.underlying212
  a168 := Tryz.isAgg212
  z168 := Tryz.sizeOf212
  v168 := Tryz.zeroValue212
  t171 := Tryz.underlying230
  a171 := Tryz.isAgg230
  z171 := Tryz.sizeOf230
  v171 := Tryz.zeroValue230
  t173 := Tryz.underlying233
  a173 := Tryz.isAgg233
  z173 := Tryz.sizeOf233
  v173 := Tryz.zeroValue233
  t210 := Tryz.underlying236
  a210 := Tryz.isAgg236
  z210 := Tryz.sizeOf236
  v210 := Tryz.zeroValue236
  t212 := Tryz.underlying253
  a212 := Tryz.isAgg253
  z212 := Tryz.sizeOf253
  v212 := Tryz.zeroValue253
  t213 := Tryz.underlying255
  a213 := Tryz.isAgg255
  z213 := Tryz.sizeOf255
  t232 := Tryz.underlying194
  a232 := Tryz.isAgg194
  z232 := Tryz.sizeOf194
  v232 := Tryz.zeroValue194
  t233 := Tryz.underlying268
  a233 := Tryz.isAgg268
  z233 := Tryz.sizeOf268
  v233 := Tryz.zeroValue268
  g15 := by kernel_rfl
  g16 := by kernel_rfl
  g17 := by kernel_rfl
  g18 := by kernel_rfl
  g19 := by kernel_rfl
  t80 := Tryz.underlying118
  a80 := Tryz.isAgg118
  z80 := Tryz.sizeOf118
  v80 := Tryz.zeroValue118
  i0 := by kernel_rfl
  i2 := by kernel_rfl
  i3 := by kernel_rfl
  i4 := by kernel_rfl
  i5 := by kernel_rfl
  i9 := by kernel_rfl
  i20 := by kernel_rfl
  i37 := by kernel_rfl
  i46 := by kernel_rfl
  i51 := by kernel_rfl
  i53 := by kernel_rfl
  i75 := by kernel_rfl
  i80 := by kernel_rfl
  i127 := by kernel_rfl
  i143 := by kernel_rfl
  i145 := by kernel_rfl
  i167 := by kernel_rfl
  i168 := by kernel_rfl
  i171 := by kernel_rfl
  i173 := by kernel_rfl
  i210 := by kernel_rfl
  i212 := by kernel_rfl
  i232 := by kernel_rfl
  i233 := by kernel_rfl
  m15 := by kernel_rfl
  m16 := by kernel_rfl
  m17 := by kernel_rfl
  m18 := by kernel_rfl
  m19 := by kernel_rfl
  c0 := by kernel_rfl
  c2 := by kernel_rfl
  c3 := by kernel_rfl
  c4 := by kernel_rfl
  c5 := by kernel_rfl
  c9 := by kernel_rfl
  c20 := by kernel_rfl
  c37 := by kernel_rfl
  c46 := by kernel_rfl
  c51 := by kernel_rfl
  c53 := by kernel_rfl
  c75 := by kernel_rfl
  c80 := by kernel_rfl
  c127 := by kernel_rfl
  c143 := by kernel_rfl
  c145 := by kernel_rfl
  c167 := by kernel_rfl
  c168 := by kernel_rfl
  c171 := by kernel_rfl
  c173 := by kernel_rfl
  c210 := by kernel_rfl
  c212 := by kernel_rfl
  c213 := by kernel_rfl
  c232 := by kernel_rfl
  c233 := by kernel_rfl }
open Go.RowKit in
/-- strconv.toError, at the inner package's ErrSyntax: 'syntaxError(fn, s)' as an error: A *NumError IN A NEW BLOCK. (LAID: no walk: one application.) -/
theorem Tryz.strconv_toError_syntax (fn s : ByteArray) (base bits : Int) (ev : Value) (w : World) (hlim : s.size ≤ 281474976710656) (hv : w.cell? ⟨0, 0, none⟩ = some ev) (hev : ev = .nilIface ∨ ∃ te pe, ev = .iface te pe) :
    Calls Tryz.prog 114 #[.string fn, .string s, .int .i64 base, .int .i64 bits, .iface 209 (.int .i64 2)] w fun e w' => ∃ N, e = .returned (.iface 212 (.pointer (some ⟨N, 0, none⟩))) ∧ w.heap.size ≤ N ∧ w'.heap[N]? = some (.cells #[.string fn, .string s, ev] 236 (0, 0)) ∧ Below w.heap.size w w' := Any.strconv_toError_syntax Tryz.laysC245 fn s base bits ev w hlim hv hev
def Tryz.laysC172_ren : Go.Shelf.Ren := ⟨fun | 172 => 62 | 244 => 113 | 245 => 114 | 247 => 197 | 279 => 198 | 280 => 199 | 281 => 200 | 282 => 201 | 287 => 227 | 316 => 243 | 171 => 58 | 205 => 244 | 321 => 251 | 322 => 252 | 243 => 111 | 246 => 195 | 283 => 239 | 284 => 240 | 285 => 241 | 286 => 242 | 129 => 264 | 317 => 263 | 318 => 265 | 319 => 266 | 320 => 267 | 337 => 275 | 338 => 276 | n => n, fun | 9 => 9 | 3 => 3 | 75 => 105 | 76 => 106 | 4 => 4 | 5 => 5 | 167 => 209 | 37 => 139 | 0 => 0 | 85 => 210 | 2 => 2 | 168 => 212 | 53 => 179 | 175 => 180 | 46 => 193 | 210 => 236 | 127 => 229 | 145 => 259 | 143 => 257 | 21 => 21 | 171 => 230 | 173 => 233 | 212 => 253 | 51 => 254 | 20 => 20 | 213 => 255 | 232 => 194 | 233 => 268 | 80 => 118 | n => n, fun | 15 => 0 | 16 => 1 | 17 => 2 | 18 => 6 | 19 => 7 | n => n⟩
theorem Tryz.laysC172 : Go.Proofs.LaysC.n172 Tryz.prog Tryz.laysC172_ren := {
  mixed := by kernel_rfl
  f129 := Tryz.func264.trans (congrArg some (by kernel_rfl))
  f171 := Tryz.func58.trans (congrArg some (by kernel_rfl))
  f172 := Tryz.func62.trans (congrArg some (by kernel_rfl))
  f205 := Tryz.func244.trans (congrArg some (by kernel_rfl))
  f243 := Tryz.func111.trans (congrArg some (by kernel_rfl))
  f244 := Tryz.func113.trans (congrArg some (by kernel_rfl))
  f245 := Tryz.func114.trans (congrArg some (by kernel_rfl))
  f246 := Tryz.func195.trans (congrArg some (by kernel_rfl))
  f247 := Tryz.func197.trans (congrArg some (by kernel_rfl))
  f279 := Tryz.func198.trans (congrArg some (by kernel_rfl))
  f280 := Tryz.func199.trans (congrArg some (by kernel_rfl))
  f281 := Tryz.func200.trans (congrArg some (by kernel_rfl))
  f282 := Tryz.func201.trans (congrArg some (by kernel_rfl))
  f283 := Tryz.func239.trans (congrArg some (by kernel_rfl))
  f284 := Tryz.func240.trans (congrArg some (by kernel_rfl))
  f285 := Tryz.func241.trans (congrArg some (by kernel_rfl))
  f286 := Tryz.func242.trans (congrArg some (by kernel_rfl))
  f287 := Tryz.func227.trans (congrArg some (by kernel_rfl))
  f316 := Tryz.func243.trans (congrArg some (by kernel_rfl))
  f317 := Tryz.func263.trans (congrArg some (by kernel_rfl))
  f318 := Tryz.func265.trans (congrArg some (by kernel_rfl))
  f319 := Tryz.func266.trans (congrArg some (by kernel_rfl))
  f320 := Tryz.func267.trans (congrArg some (by kernel_rfl))
  f321 := Tryz.func251.trans (congrArg some (by kernel_rfl))
  f322 := Tryz.func252.trans (congrArg some (by kernel_rfl))
  f337 := Tryz.func275.trans (congrArg some (by kernel_rfl))
  f338 := Tryz.func276.trans (congrArg some (by kernel_rfl))
  t0 := Tryz.underlying0
  a0 := Tryz.isAgg0
  z0 := Tryz.sizeOf0
  v0 := Tryz.zeroValue0
  t2 := Tryz.underlying2
  a2 := Tryz.isAgg2
  z2 := Tryz.sizeOf2
  v2 := Tryz.zeroValue2
  t3 := Tryz.underlying3
  a3 := Tryz.isAgg3
  z3 := Tryz.sizeOf3
  v3 := Tryz.zeroValue3
  t4 := Tryz.underlying4
  a4 := Tryz.isAgg4
  z4 := Tryz.sizeOf4
  v4 := Tryz.zeroValue4
  t5 := Tryz.underlying5
  a5 := Tryz.isAgg5
  z5 := Tryz.sizeOf5
  v5 := Tryz.zeroValue5
  t9 := Tryz.underlying9
  a9 := Tryz.isAgg9
  z9 := Tryz.sizeOf9
  v9 := Tryz.zeroValue9
  t20 := Tryz.underlying20
  a20 := Tryz.isAgg20
  z20 := Tryz.sizeOf20
  v20 := Tryz.zeroValue20
  t21 := Tryz.underlying21
  a21 := Tryz.isAgg21
  z21 := Tryz.sizeOf21
  v21 := Tryz.zeroValue21
  t37 := Tryz.underlying139
  a37 := Tryz.isAgg139
  z37 := Tryz.sizeOf139
  v37 := Tryz.zeroValue139
  t46 := Tryz.underlying193
  a46 := Tryz.isAgg193
  z46 := Tryz.sizeOf193
  v46 := Tryz.zeroValue193
  t51 := Tryz.underlying254
  a51 := Tryz.isAgg254
  z51 := Tryz.sizeOf254
  v51 := Tryz.zeroValue254
  t53 := Tryz.underlying179
  a53 := Tryz.isAgg179
  z53 := Tryz.sizeOf179
  v53 := Tryz.zeroValue179
  t75 := Tryz.underlying105
  a75 := Tryz.isAgg105
  z75 := Tryz.sizeOf105
  v75 := Tryz.zeroValue105
  t76 := Tryz.underlying106
  a76 := Tryz.isAgg106
  z76 := Tryz.sizeOf106
  v76 := Tryz.zeroValue106
  t85 := Tryz.underlying210
  a85 := Tryz.isAgg210
  z85 := Tryz.sizeOf210
  v85 := Tryz.zeroValue210
  t127 := Tryz.underlying229
  a127 := Tryz.isAgg229
  z127 := Tryz.sizeOf229
  v127 := Tryz.zeroValue229
  t143 := Tryz.underlying257
  a143 := Tryz.isAgg257
  z143 := Tryz.sizeOf257
  v143 := Tryz.zeroValue257
  t145 := Tryz.underlying259
  a145 := Tryz.isAgg259
  z145 := Tryz.sizeOf259
  v145 := Tryz.zeroValue259
  t167 := Tryz.underlying209
  a167 := Tryz.isAgg209
  z167 := Tryz.sizeOf209
  v167 := Tryz.zeroValue209
  t168 := Tryz.underlying212
  a168 := Tryz.isAgg212
  z168 := Tryz.sizeOf212
  v168 := Tryz.zeroValue212
  t171 := Tryz.underlying230
  a171 := Tryz.isAgg230
  z171 := Tryz.sizeOf230
  v171 := Tryz.zeroValue230
  t173 := Tryz.underlying233
  a173 := Tryz.isAgg233
  z173 := Tryz.sizeOf233
  v173 := Tryz.zeroValue233
  t175 := Tryz.underlying180
  a175 := Tryz.isAgg180
  z175 := Tryz.sizeOf180
  v175 := Tryz.zeroValue180
  t210 := Tryz.underlying236
  a210 := Tryz.isAgg236
  z210 := Tryz.sizeOf236
  v210 := Tryz.zeroValue236
  t212 := Tryz.underlying253
  a212 := Tryz.isAgg253
  z212 := Tryz.sizeOf253
  v212 := Tryz.zeroValue253
  t213 := Tryz.underlying255
  a213 := Tryz.isAgg255
  z213 := Tryz.sizeOf255
  t232 := Tryz.underlying194
  a232 := Tryz.isAgg194
  z232 := Tryz.sizeOf194
  v232 := Tryz.zeroValue194
  t233 := Tryz.underlying268
  a233 := Tryz.isAgg268
  z233 := Tryz.sizeOf268
  v233 := Tryz.zeroValue268
  g15 := by kernel_rfl
  g16 := by kernel_rfl
  g17 := by kernel_rfl
  g18 := by kernel_rfl
  g19 := by kernel_rfl
  t80 := Tryz.underlying118
  a80 := Tryz.isAgg118
  z80 := Tryz.sizeOf118
  v80 := Tryz.zeroValue118
  i0 := by kernel_rfl
  i2 := by kernel_rfl
  i3 := by kernel_rfl
  i4 := by kernel_rfl
  i5 := by kernel_rfl
  i9 := by kernel_rfl
  i20 := by kernel_rfl
  i21 := by kernel_rfl
  i37 := by kernel_rfl
  i46 := by kernel_rfl
  i51 := by kernel_rfl
  i53 := by kernel_rfl
  i75 := by kernel_rfl
  i76 := by kernel_rfl
  i80 := by kernel_rfl
  i85 := by kernel_rfl
  i127 := by kernel_rfl
  i143 := by kernel_rfl
  i145 := by kernel_rfl
  i167 := by kernel_rfl
  i168 := by kernel_rfl
  i171 := by kernel_rfl
  i173 := by kernel_rfl
  i175 := by kernel_rfl
  i210 := by kernel_rfl
  i212 := by kernel_rfl
  i232 := by kernel_rfl
  i233 := by kernel_rfl
  m15 := by kernel_rfl
  m16 := by kernel_rfl
  m17 := by kernel_rfl
  m18 := by kernel_rfl
  m19 := by kernel_rfl
  c0 := by kernel_rfl
  c2 := by kernel_rfl
  c3 := by kernel_rfl
  c4 := by kernel_rfl
  c5 := by kernel_rfl
  c9 := by kernel_rfl
  c20 := by kernel_rfl
  c21 := by kernel_rfl
  c37 := by kernel_rfl
  c46 := by kernel_rfl
  c51 := by kernel_rfl
  c53 := by kernel_rfl
  c75 := by kernel_rfl
  c76 := by kernel_rfl
  c80 := by kernel_rfl
  c85 := by kernel_rfl
  c127 := by kernel_rfl
  c143 := by kernel_rfl
  c145 := by kernel_rfl
  c167 := by kernel_rfl
  c168 := by kernel_rfl
  c171 := by kernel_rfl
  c173 := by kernel_rfl
  c175 := by kernel_rfl
  c210 := by kernel_rfl
  c212 := by kernel_rfl
  c213 := by kernel_rfl
  c232 := by kernel_rfl
  c233 := by kernel_rfl }
open Go.RowKit in
/-- strconv.Atoi, AT EVERY STRING OF AT MOST 18 BYTES THAT IS NO DECIMAL NUMERAL (the empty one too): 0, AND AN ERROR THAT IS NOT nil: a *NumError in a new block N: {Func: "Atoi", Num: s's bytes, Err: what the variable ErrSyntax holds}. Of what was there nothing has turned. (LAID: no walk: one application.) -/
theorem Tryz.strconv_Atoi_err (s : ByteArray) (hl : s.size ≤ 18) (h : Lib.atoi s.data.toList = none) (ev : Value) (w : World) (hv : w.cell? ⟨0, 0, none⟩ = some ev) (hev : ev = .nilIface ∨ ∃ te pe, ev = .iface te pe) :
    Calls Tryz.prog 62 #[.string s] w fun e w' => ∃ N, e = .returned (.tuple #[.int .i64 0, .iface 212 (.pointer (some ⟨N, 0, none⟩))]) ∧ w.heap.size ≤ N ∧ w'.heap[N]? = some (.cells #[.string ⟨#[65, 116, 111, 105]⟩, .string s, ev] 236 (0, 0)) ∧ Below w.heap.size w w' := Any.strconv_Atoi_err Tryz.laysC172 s hl h ev w hv hev
open Go.RowKit in
theorem Tryz.strconv_Atoi_err_var (s : ByteArray) (hl : s.size ≤ 18) (h : Lib.atoi s.data.toList = none) (tp : TypeId) (p : Value) (w : World) (hvar : w.var? Tryz.prog "strconv.ErrSyntax" = some #[.iface tp p]) :
    Calls Tryz.prog 62 #[.string s] w fun e w' => ∃ N, e = .returned (.tuple #[.int .i64 0, .iface 212 (.pointer (some ⟨N, 0, none⟩))]) ∧ w.heap.size ≤ N ∧ w'.heap[N]? = some (.cells #[.string ⟨#[65, 116, 111, 105]⟩, .string s, .iface tp p] 236 (0, 0)) ∧ Below w.heap.size w w' := Any.strconv_Atoi_err_var Tryz.laysC172 s hl h tp p w hvar
def Tryz.lays321_ren : Go.Shelf.Ren := ⟨fun | 321 => 251 | n => n, fun | 5 => 5 | n => n, fun | n => n⟩
theorem Tryz.lays321 : Go.Proofs.Lays.n321 Tryz.prog Tryz.lays321_ren := {
  mixed := by kernel_rfl
  f321 := Tryz.func251.trans (congrArg some (by kernel_rfl))
  t5 := Tryz.underlying5
  a5 := Tryz.isAgg5
  z5 := Tryz.sizeOf5
  v5 := Tryz.zeroValue5 }
open Go.RowKit in
/-- internal/strconv.lower: 'c | ('x' - 'X')': the bit 32 set. The world is as it was. (LAID: no walk: one application.) -/
theorem Tryz.internal_strconv_lower (c : Int) (w : World) :
    Calls Tryz.prog 251 #[.int .u8 c] w fun e w' => e = .returned (.int .u8 (bits .or .u8 c 32)) ∧ w' = w := Any.internal_strconv_lower Tryz.lays321 c w
def Tryz.lays287_ren : Go.Shelf.Ren := ⟨fun | 287 => 227 | 321 => 251 | 322 => 252 | n => n, fun | 9 => 9 | 3 => 3 | 53 => 179 | 75 => 105 | 4 => 4 | 167 => 209 | 5 => 5 | 46 => 193 | 37 => 139 | 0 => 0 | 21 => 21 | 80 => 118 | n => n, fun | n => n⟩
theorem Tryz.lays287 : Go.Proofs.Lays.n287 Tryz.prog Tryz.lays287_ren := {
  mixed := by kernel_rfl
  f287 := Tryz.func227.trans (congrArg some (by kernel_rfl))
  f321 := Tryz.func251.trans (congrArg some (by kernel_rfl))
  f322 := Tryz.func252.trans (congrArg some (by kernel_rfl))
  t0 := Tryz.underlying0
  a0 := Tryz.isAgg0
  z0 := Tryz.sizeOf0
  v0 := Tryz.zeroValue0
  t3 := Tryz.underlying3
  a3 := Tryz.isAgg3
  z3 := Tryz.sizeOf3
  v3 := Tryz.zeroValue3
  t4 := Tryz.underlying4
  a4 := Tryz.isAgg4
  z4 := Tryz.sizeOf4
  v4 := Tryz.zeroValue4
  t5 := Tryz.underlying5
  a5 := Tryz.isAgg5
  z5 := Tryz.sizeOf5
  v5 := Tryz.zeroValue5
  t9 := Tryz.underlying9
  a9 := Tryz.isAgg9
  z9 := Tryz.sizeOf9
  v9 := Tryz.zeroValue9
  t21 := Tryz.underlying21
  a21 := Tryz.isAgg21
  z21 := Tryz.sizeOf21
  v21 := Tryz.zeroValue21
  t37 := Tryz.underlying139
  a37 := Tryz.isAgg139
  z37 := Tryz.sizeOf139
  v37 := Tryz.zeroValue139
  t46 := Tryz.underlying193
  a46 := Tryz.isAgg193
  z46 := Tryz.sizeOf193
  v46 := Tryz.zeroValue193
  t53 := Tryz.underlying179
  a53 := Tryz.isAgg179
  z53 := Tryz.sizeOf179
  v53 := Tryz.zeroValue179
  t75 := Tryz.underlying105
  a75 := Tryz.isAgg105
  z75 := Tryz.sizeOf105
  v75 := Tryz.zeroValue105
  t167 := Tryz.underlying209
  a167 := Tryz.isAgg209
  z167 := Tryz.sizeOf209
  v167 := Tryz.zeroValue209 }
open Go.RowKit in
/-- internal/strconv.ParseUint(s, 10, 0), s NOT EMPTY: 'Lib.parseUint10 0' OF ITS BYTES: the number; or (0, ErrSyntax); or (the greatest uint64, ErrRange). The world behind the call: the one new row that '[]byte(s)' lays. (LAID: no walk: one application.) -/
theorem Tryz.internal_strconv_ParseUint_10 (t : ByteArray) (hne : t.size ≠ 0) (hmax : t.size ≤ 9223372036854775806) (w : World) :
    Calls Tryz.prog 227 #[.string t, .int .i64 10, .int .i64 0] w fun e w' => e = .returned (Lib.uintTuple 209 (Lib.parseUint10 0 t.data.toList)) ∧ w' = Lib.bytesWorld w 5 t := Any.internal_strconv_ParseUint_10 Tryz.lays287 t hne hmax w
open Go.RowKit in
/-- internal/strconv.ParseUint(s, 10, 0): 'Lib.parseMag' OF ITS BYTES. The world: as it was (the empty string), or with the one new row that '[]byte(s)' lays. (LAID: no walk: one application.) -/
theorem Tryz.internal_strconv_ParseUint_10_any (t : ByteArray) (hmax : t.size ≤ 9223372036854775806) (w : World) :
    Calls Tryz.prog 227 #[.string t, .int .i64 10, .int .i64 0] w fun e w' => e = .returned (Lib.uintTuple 209 (Lib.parseMag t.data.toList)) ∧ (w' = w ∨ w' = Lib.bytesWorld w 5 t) := Any.internal_strconv_ParseUint_10_any Tryz.lays287 t hmax w
def Tryz.laysC247_ren : Go.Shelf.Ren := ⟨fun | 247 => 197 | 287 => 227 | 321 => 251 | 322 => 252 | n => n, fun | 9 => 9 | 3 => 3 | 2 => 2 | 75 => 105 | 4 => 4 | 167 => 209 | 5 => 5 | 53 => 179 | 175 => 180 | 46 => 193 | 37 => 139 | 0 => 0 | 21 => 21 | 80 => 118 | n => n, fun | n => n⟩
theorem Tryz.laysC247 : Go.Proofs.LaysC.n247 Tryz.prog Tryz.laysC247_ren := {
  mixed := by kernel_rfl
  f247 := Tryz.func197.trans (congrArg some (by kernel_rfl))
  f287 := Tryz.func227.trans (congrArg some (by kernel_rfl))
  f321 := Tryz.func251.trans (congrArg some (by kernel_rfl))
  f322 := Tryz.func252.trans (congrArg some (by kernel_rfl))
  t0 := Tryz.underlying0
  a0 := Tryz.isAgg0
  z0 := Tryz.sizeOf0
  v0 := Tryz.zeroValue0
  t2 := Tryz.underlying2
  a2 := Tryz.isAgg2
  z2 := Tryz.sizeOf2
  v2 := Tryz.zeroValue2
  t3 := Tryz.underlying3
  a3 := Tryz.isAgg3
  z3 := Tryz.sizeOf3
  v3 := Tryz.zeroValue3
  t4 := Tryz.underlying4
  a4 := Tryz.isAgg4
  z4 := Tryz.sizeOf4
  v4 := Tryz.zeroValue4
  t5 := Tryz.underlying5
  a5 := Tryz.isAgg5
  z5 := Tryz.sizeOf5
  v5 := Tryz.zeroValue5
  t9 := Tryz.underlying9
  a9 := Tryz.isAgg9
  z9 := Tryz.sizeOf9
  v9 := Tryz.zeroValue9
  t21 := Tryz.underlying21
  a21 := Tryz.isAgg21
  z21 := Tryz.sizeOf21
  v21 := Tryz.zeroValue21
  t37 := Tryz.underlying139
  a37 := Tryz.isAgg139
  z37 := Tryz.sizeOf139
  v37 := Tryz.zeroValue139
  t46 := Tryz.underlying193
  a46 := Tryz.isAgg193
  z46 := Tryz.sizeOf193
  v46 := Tryz.zeroValue193
  t53 := Tryz.underlying179
  a53 := Tryz.isAgg179
  z53 := Tryz.sizeOf179
  v53 := Tryz.zeroValue179
  t75 := Tryz.underlying105
  a75 := Tryz.isAgg105
  z75 := Tryz.sizeOf105
  v75 := Tryz.zeroValue105
  t167 := Tryz.underlying209
  a167 := Tryz.isAgg209
  z167 := Tryz.sizeOf209
  v167 := Tryz.zeroValue209
  t175 := Tryz.underlying180
  a175 := Tryz.isAgg180
  z175 := Tryz.sizeOf180
  v175 := Tryz.zeroValue180
  t80 := Tryz.underlying118
  a80 := Tryz.isAgg118
  z80 := Tryz.sizeOf118
  v80 := Tryz.zeroValue118
  i0 := by kernel_rfl
  i2 := by kernel_rfl
  i3 := by kernel_rfl
  i4 := by kernel_rfl
  i5 := by kernel_rfl
  i9 := by kernel_rfl
  i21 := by kernel_rfl
  i37 := by kernel_rfl
  i46 := by kernel_rfl
  i53 := by kernel_rfl
  i75 := by kernel_rfl
  i80 := by kernel_rfl
  i167 := by kernel_rfl
  i175 := by kernel_rfl
  c0 := by kernel_rfl
  c2 := by kernel_rfl
  c3 := by kernel_rfl
  c4 := by kernel_rfl
  c5 := by kernel_rfl
  c9 := by kernel_rfl
  c21 := by kernel_rfl
  c37 := by kernel_rfl
  c46 := by kernel_rfl
  c53 := by kernel_rfl
  c75 := by kernel_rfl
  c80 := by kernel_rfl
  c167 := by kernel_rfl
  c175 := by kernel_rfl }
open Go.RowKit in
/-- internal/strconv.ParseInt(s, 10, 0), s NOT EMPTY: 'Lib.atoiAll' OF ITS BYTES: (the number, nil); (0, ErrSyntax); (the greatest or the least int64 by the sign, ErrRange). The world: as it was, or with the one new row that '[]byte(..)' lays. (LAID: no walk: one application.) -/
theorem Tryz.internal_strconv_ParseInt_10 (s : ByteArray) (hne : s.size ≠ 0) (hmax : s.size ≤ 9223372036854775806) (w : World) :
    Calls Tryz.prog 197 #[.string s, .int .i64 10, .int .i64 0] w fun e w' => e = .returned (Lib.intTuple 209 (Lib.atoiSat s.data.toList) (Lib.atoiAll s.data.toList)) ∧ (w' = w ∨ ∃ t, w' = Lib.bytesWorld w 5 t) := Any.internal_strconv_ParseInt_10 Tryz.laysC247 s hne hmax w
def Tryz.laysC244_ren : Go.Shelf.Ren := ⟨fun | 244 => 113 | 247 => 197 | 287 => 227 | 321 => 251 | 322 => 252 | n => n, fun | 9 => 9 | 3 => 3 | 75 => 105 | 4 => 4 | 5 => 5 | 167 => 209 | 37 => 139 | 0 => 0 | 85 => 210 | 2 => 2 | 53 => 179 | 175 => 180 | 46 => 193 | 21 => 21 | 80 => 118 | n => n, fun | n => n⟩
theorem Tryz.laysC244 : Go.Proofs.LaysC.n244 Tryz.prog Tryz.laysC244_ren := {
  mixed := by kernel_rfl
  f244 := Tryz.func113.trans (congrArg some (by kernel_rfl))
  f247 := Tryz.func197.trans (congrArg some (by kernel_rfl))
  f287 := Tryz.func227.trans (congrArg some (by kernel_rfl))
  f321 := Tryz.func251.trans (congrArg some (by kernel_rfl))
  f322 := Tryz.func252.trans (congrArg some (by kernel_rfl))
  t0 := Tryz.underlying0
  a0 := Tryz.isAgg0
  z0 := Tryz.sizeOf0
  v0 := Tryz.zeroValue0
  t2 := Tryz.underlying2
  a2 := Tryz.isAgg2
  z2 := Tryz.sizeOf2
  v2 := Tryz.zeroValue2
  t3 := Tryz.underlying3
  a3 := Tryz.isAgg3
  z3 := Tryz.sizeOf3
  v3 := Tryz.zeroValue3
  t4 := Tryz.underlying4
  a4 := Tryz.isAgg4
  z4 := Tryz.sizeOf4
  v4 := Tryz.zeroValue4
  t5 := Tryz.underlying5
  a5 := Tryz.isAgg5
  z5 := Tryz.sizeOf5
  v5 := Tryz.zeroValue5
  t9 := Tryz.underlying9
  a9 := Tryz.isAgg9
  z9 := Tryz.sizeOf9
  v9 := Tryz.zeroValue9
  t21 := Tryz.underlying21
  a21 := Tryz.isAgg21
  z21 := Tryz.sizeOf21
  v21 := Tryz.zeroValue21
  t37 := Tryz.underlying139
  a37 := Tryz.isAgg139
  z37 := Tryz.sizeOf139
  v37 := Tryz.zeroValue139
  t46 := Tryz.underlying193
  a46 := Tryz.isAgg193
  z46 := Tryz.sizeOf193
  v46 := Tryz.zeroValue193
  t53 := Tryz.underlying179
  a53 := Tryz.isAgg179
  z53 := Tryz.sizeOf179
  v53 := Tryz.zeroValue179
  t75 := Tryz.underlying105
  a75 := Tryz.isAgg105
  z75 := Tryz.sizeOf105
  v75 := Tryz.zeroValue105
  t85 := Tryz.underlying210
  a85 := Tryz.isAgg210
  z85 := Tryz.sizeOf210
  v85 := Tryz.zeroValue210
  t167 := Tryz.underlying209
  a167 := Tryz.isAgg209
  z167 := Tryz.sizeOf209
  v167 := Tryz.zeroValue209
  t175 := Tryz.underlying180
  a175 := Tryz.isAgg180
  z175 := Tryz.sizeOf180
  v175 := Tryz.zeroValue180
  t80 := Tryz.underlying118
  a80 := Tryz.isAgg118
  z80 := Tryz.sizeOf118
  v80 := Tryz.zeroValue118
  i0 := by kernel_rfl
  i2 := by kernel_rfl
  i3 := by kernel_rfl
  i4 := by kernel_rfl
  i5 := by kernel_rfl
  i9 := by kernel_rfl
  i21 := by kernel_rfl
  i37 := by kernel_rfl
  i46 := by kernel_rfl
  i53 := by kernel_rfl
  i75 := by kernel_rfl
  i80 := by kernel_rfl
  i85 := by kernel_rfl
  i167 := by kernel_rfl
  i175 := by kernel_rfl
  c0 := by kernel_rfl
  c2 := by kernel_rfl
  c3 := by kernel_rfl
  c4 := by kernel_rfl
  c5 := by kernel_rfl
  c9 := by kernel_rfl
  c21 := by kernel_rfl
  c37 := by kernel_rfl
  c46 := by kernel_rfl
  c53 := by kernel_rfl
  c75 := by kernel_rfl
  c80 := by kernel_rfl
  c85 := by kernel_rfl
  c167 := by kernel_rfl
  c175 := by kernel_rfl }
open Go.RowKit in
/-- internal/strconv.Atoi, AT EVERY STRING OF 19 BYTES OR MORE: 'Lib.atoiAll' OF ITS BYTES: (the number, nil); (0, ErrSyntax); (the greatest or the least int by the sign, ErrRange). (LAID: no walk: one application.) -/
theorem Tryz.internal_strconv_Atoi_long (s : ByteArray) (h19 : 19 ≤ s.size) (hmax : s.size ≤ 9223372036854775806) (w : World) :
    Calls Tryz.prog 113 #[.string s] w fun e w' => e = .returned (Lib.intTuple 209 (Lib.atoiSat s.data.toList) (Lib.atoiAll s.data.toList)) ∧ (w' = w ∨ ∃ t, w' = Lib.bytesWorld w 5 t) := Any.internal_strconv_Atoi_long Tryz.laysC244 s h19 hmax w
open Go.RowKit in
/-- internal/strconv.Atoi, AT EVERY STRING: 'Lib.atoiAll' OF ITS BYTES: (the number, nil); (0, ErrSyntax); (the greatest or the least int by the sign, ErrRange). The world: as it was, or with the one new row that '[]byte(..)' lays. (LAID: no walk: one application.) -/
theorem Tryz.internal_strconv_Atoi_all (s : ByteArray) (hmax : s.size ≤ 9223372036854775806) (w : World) :
    Calls Tryz.prog 113 #[.string s] w fun e w' => e = .returned (Lib.intTuple 209 (Lib.atoiSat s.data.toList) (Lib.atoiAll s.data.toList)) ∧ (w' = w ∨ ∃ t, w' = Lib.bytesWorld w 5 t) := Any.internal_strconv_Atoi_all Tryz.laysC244 s hmax w
def Tryz.laysM280_ren : Go.Shelf.Ren := ⟨fun | 280 => 199 | 316 => 243 | n => n, fun | 9 => 9 | 168 => 212 | 75 => 105 | 210 => 236 | 3 => 3 | 4 => 4 | 37 => 139 | 0 => 0 | 127 => 229 | 80 => 118 | 5 => 5 | n => n, fun | 16 => 1 | n => n⟩
theorem Tryz.laysM280 : Go.Proofs.LaysM.n280 Tryz.prog Tryz.laysM280_ren := {
  mixed := by kernel_rfl
  f280 := Tryz.func199.trans (congrArg some (by kernel_rfl))
  f316 := Tryz.func243.trans (congrArg some (by kernel_rfl))
  t0 := Tryz.underlying0
  a0 := Tryz.isAgg0
  z0 := Tryz.sizeOf0
  v0 := Tryz.zeroValue0
  t3 := Tryz.underlying3
  a3 := Tryz.isAgg3
  z3 := Tryz.sizeOf3
  v3 := Tryz.zeroValue3
  t4 := Tryz.underlying4
  a4 := Tryz.isAgg4
  z4 := Tryz.sizeOf4
  v4 := Tryz.zeroValue4
  t9 := Tryz.underlying9
  a9 := Tryz.isAgg9
  z9 := Tryz.sizeOf9
  v9 := Tryz.zeroValue9
  t37 := Tryz.underlying139
  a37 := Tryz.isAgg139
  z37 := Tryz.sizeOf139
  v37 := Tryz.zeroValue139
  t75 := Tryz.underlying105
  a75 := Tryz.isAgg105
  z75 := Tryz.sizeOf105
  v75 := Tryz.zeroValue105
  t127 := Tryz.underlying229
  a127 := Tryz.isAgg229
  z127 := Tryz.sizeOf229
  v127 := Tryz.zeroValue229
  t168 := Tryz.underlying212
  a168 := Tryz.isAgg212
  z168 := Tryz.sizeOf212
  v168 := Tryz.zeroValue212
  t210 := Tryz.underlying236
  a210 := Tryz.isAgg236
  z210 := Tryz.sizeOf236
  v210 := Tryz.zeroValue236
  g16 := by kernel_rfl
  t5 := Tryz.underlying5
  a5 := Tryz.isAgg5
  z5 := Tryz.sizeOf5
  v5 := Tryz.zeroValue5
  t80 := Tryz.underlying118
  a80 := Tryz.isAgg118
  z80 := Tryz.sizeOf118
  v80 := Tryz.zeroValue118
  i0 := by kernel_rfl
  i3 := by kernel_rfl
  i4 := by kernel_rfl
  i5 := by kernel_rfl
  i9 := by kernel_rfl
  i37 := by kernel_rfl
  i75 := by kernel_rfl
  i80 := by kernel_rfl
  i127 := by kernel_rfl
  i168 := by kernel_rfl
  i210 := by kernel_rfl
  m16 := by kernel_rfl }
open Go.RowKit in
/-- strconv.rangeError: '&NumError{fn, stringslite.Clone(str), ErrRange}': A POINTER TO A NEW BLOCK that holds fn, str's bytes, and what the variable ErrRange holds. Of what was there nothing has turned. (LAID: no walk: one application.) -/
theorem Tryz.strconv_rangeError (fn s : ByteArray) (ev : Value) (w : World) (hlim : s.size ≤ 281474976710656) (hv : w.cell? ⟨1, 0, none⟩ = some ev) (hev : ev = .nilIface ∨ ∃ te pe, ev = .iface te pe) :
    Calls Tryz.prog 199 #[.string fn, .string s] w fun e w' => ∃ N, e = .returned (.pointer (some ⟨N, 0, none⟩)) ∧ w.heap.size ≤ N ∧ w'.heap[N]? = some (.cells #[.string fn, .string s, ev] 236 (0, 0)) ∧ Below w.heap.size w w' := Any.strconv_rangeError Tryz.laysM280 fn s ev w hlim hv hev
open Go.RowKit in
/-- strconv.toError, at the inner package's ErrRange: 'rangeError(fn, s)' as an error: A *NumError IN A NEW BLOCK. (LAID: no walk: one application.) -/
theorem Tryz.strconv_toError_range (fn s : ByteArray) (base bits : Int) (ev : Value) (w : World) (hlim : s.size ≤ 281474976710656) (hv : w.cell? ⟨1, 0, none⟩ = some ev) (hev : ev = .nilIface ∨ ∃ te pe, ev = .iface te pe) :
    Calls Tryz.prog 114 #[.string fn, .string s, .int .i64 base, .int .i64 bits, .iface 209 (.int .i64 1)] w fun e w' => ∃ N, e = .returned (.iface 212 (.pointer (some ⟨N, 0, none⟩))) ∧ w.heap.size ≤ N ∧ w'.heap[N]? = some (.cells #[.string fn, .string s, ev] 236 (0, 0)) ∧ Below w.heap.size w w' := Any.strconv_toError_range Tryz.laysC245 fn s base bits ev w hlim hv hev
open Go.RowKit in
/-- strconv.Atoi, AT EVERY STRING THAT SPELLS AN int ('Lib.atoiAll .. = .ok v'; of whatever length: leading zeros count): v, AND NO ERROR. The world: as it was, or with the one new row that '[]byte(..)' lays. (LAID: no walk: one application.) -/
theorem Tryz.strconv_Atoi_ok (s : ByteArray) (hmax : s.size ≤ 9223372036854775806) (v : Int) (h : Lib.atoiAll s.data.toList = .ok v) (w : World) :
    Calls Tryz.prog 62 #[.string s] w fun e w' => e = .returned (.tuple #[.int .i64 v, .nilIface]) ∧ (w' = w ∨ ∃ t, w' = Lib.bytesWorld w 5 t) := Any.strconv_Atoi_ok Tryz.laysC172 s hmax v h w
open Go.RowKit in
/-- strconv.Atoi, AT EVERY NUMERAL THAT NO int HOLDS ('.range'): THE GREATEST OR THE LEAST int, BY THE SIGN ('Lib.atoiSat'), AND AN ERROR THAT IS NOT nil: a *NumError in a new block N: {Func: "Atoi", Num: s's bytes, Err: what the variable ErrRange holds}. Of what was there nothing has turned. (LAID: no walk: one application.) -/
theorem Tryz.strconv_Atoi_range (s : ByteArray) (hlim : s.size ≤ 281474976710656) (h : Lib.atoiAll s.data.toList = .range) (ev : Value) (w : World) (hv : w.cell? ⟨1, 0, none⟩ = some ev) (hev : ev = .nilIface ∨ ∃ te pe, ev = .iface te pe) :
    Calls Tryz.prog 62 #[.string s] w fun e w' => ∃ N, e = .returned (.tuple #[.int .i64 (Lib.atoiSat s.data.toList), .iface 212 (.pointer (some ⟨N, 0, none⟩))]) ∧ w.heap.size ≤ N ∧ w'.heap[N]? = some (.cells #[.string ⟨#[65, 116, 111, 105]⟩, .string s, ev] 236 (0, 0)) ∧ Below w.heap.size w w' := Any.strconv_Atoi_range Tryz.laysC172 s hlim h ev w hv hev
open Go.RowKit in
theorem Tryz.strconv_Atoi_range_var (s : ByteArray) (hlim : s.size ≤ 281474976710656) (h : Lib.atoiAll s.data.toList = .range) (tp : TypeId) (p : Value) (w : World) (hvar : w.var? Tryz.prog "strconv.ErrRange" = some #[.iface tp p]) :
    Calls Tryz.prog 62 #[.string s] w fun e w' => ∃ N, e = .returned (.tuple #[.int .i64 (Lib.atoiSat s.data.toList), .iface 212 (.pointer (some ⟨N, 0, none⟩))]) ∧ w.heap.size ≤ N ∧ w'.heap[N]? = some (.cells #[.string ⟨#[65, 116, 111, 105]⟩, .string s, .iface tp p] 236 (0, 0)) ∧ Below w.heap.size w w' := Any.strconv_Atoi_range_var Tryz.laysC172 s hlim h tp p w hvar
open Go.RowKit in
/-- internal/strconv.ParseUint("", base, bitSize): (0, ErrSyntax): the first test of the text. The world is as it was. (LAID: no walk: one application.) -/
theorem Tryz.internal_strconv_ParseUint_empty (base bits : Int) (w : World) :
    Calls Tryz.prog 227 #[.string ⟨#[]⟩, .int .i64 base, .int .i64 bits] w fun e w' => e = .returned (.tuple #[.int .u64 0, .iface 209 (.int .i64 2)]) ∧ w' = w := Any.internal_strconv_ParseUint_empty Tryz.lays287 base bits w
def Tryz.lays217_ren : Go.Shelf.Ren := ⟨fun | 217 => 270 | 266 => 277 | n => n, fun | 9 => 9 | 5 => 5 | 3 => 3 | n => n, fun | n => n⟩
theorem Tryz.lays217 : Go.Proofs.Lays.n217 Tryz.prog Tryz.lays217_ren := {
  mixed := by kernel_rfl
  f217 := Tryz.func270.trans (congrArg some (by kernel_rfl))
  f266 := Tryz.func277.trans (congrArg some (by kernel_rfl))
  t3 := Tryz.underlying3
  a3 := Tryz.isAgg3
  z3 := Tryz.sizeOf3
  v3 := Tryz.zeroValue3
  t5 := Tryz.underlying5
  a5 := Tryz.isAgg5
  z5 := Tryz.sizeOf5
  v5 := Tryz.zeroValue5
  t9 := Tryz.underlying9
  a9 := Tryz.isAgg9
  z9 := Tryz.sizeOf9
  v9 := Tryz.zeroValue9 }
open Go.RowKit Go.Lib in
/-- internal/stringslite.IndexByte (what strings.IndexByte calls): IT RETURNS 'Lib.indexByte s c'; the world is as it was. (LAID: no walk: one application.) -/
theorem Tryz.stringslite_IndexByte (s : ByteArray) (c : Int) (w : World) :
    Calls Tryz.prog 270 #[.string s, .int .u8 c] w fun e w' => e = .returned (.int .i64 (Lib.indexByte s.data.toList c.toNat.toUInt8)) ∧ w' = w := Any.stringslite_IndexByte Tryz.lays217 s c w
def Tryz.lays224_ren : Go.Shelf.Ren := ⟨fun | 224 => 272 | n => n, fun | 3 => 3 | n => n, fun | n => n⟩
theorem Tryz.lays224 : Go.Proofs.Lays.n224 Tryz.prog Tryz.lays224_ren := {
  mixed := by kernel_rfl
  f224 := Tryz.func272.trans (congrArg some (by kernel_rfl))
  t3 := Tryz.underlying3
  a3 := Tryz.isAgg3
  z3 := Tryz.sizeOf3
  v3 := Tryz.zeroValue3 }
open Go.RowKit Go.Lib in
/-- internal/bytealg.Cutover: "Cutover reports the number of failures of IndexByte we should tolerate before switching over to Index. n is the number of bytes processed so far.": on amd64: (n + 16) / 8. (LAID: no walk: one application.) -/
theorem Tryz.bytealg_Cutover (n : Int) (h0 : 0 ≤ n) (h1 : n < 4611686018427387904) (w : World) :
    Calls Tryz.prog 272 #[.int .i64 n] w fun e w' => e = .returned (.int .i64 ((n + 16) / 8)) ∧ w' = w := Any.bytealg_Cutover Tryz.lays224 n h0 h1 w
def Tryz.lays314_ren : Go.Shelf.Ren := ⟨fun | 314 => 278 | n => n, fun | 9 => 9 | 51 => 254 | 3 => 3 | 4 => 4 | 5 => 5 | 46 => 193 | n => n, fun | n => n⟩
theorem Tryz.lays314 : Go.Proofs.Lays.n314 Tryz.prog Tryz.lays314_ren := {
  mixed := by kernel_rfl
  f314 := Tryz.func278.trans (congrArg some (by kernel_rfl))
  t3 := Tryz.underlying3
  a3 := Tryz.isAgg3
  z3 := Tryz.sizeOf3
  v3 := Tryz.zeroValue3
  t4 := Tryz.underlying4
  a4 := Tryz.isAgg4
  z4 := Tryz.sizeOf4
  v4 := Tryz.zeroValue4
  t5 := Tryz.underlying5
  a5 := Tryz.isAgg5
  z5 := Tryz.sizeOf5
  v5 := Tryz.zeroValue5
  t9 := Tryz.underlying9
  a9 := Tryz.isAgg9
  z9 := Tryz.sizeOf9
  v9 := Tryz.zeroValue9
  t46 := Tryz.underlying193
  a46 := Tryz.isAgg193
  z46 := Tryz.sizeOf193
  v46 := Tryz.zeroValue193
  t51 := Tryz.underlying254
  a51 := Tryz.isAgg254
  z51 := Tryz.sizeOf254
  v51 := Tryz.zeroValue254 }
open Go.RowKit Go.Lib in
/-- hashStr: "returns the hash and the appropriate multiplicative factor for use in Rabin-Karp algorithm": THE HASH OF ALL OF sep, AND 16777619 ^ len(sep), both in uint32. (LAID: no walk: one application.) -/
theorem Tryz.bytealg_hashStr (sep : ByteArray) (hs : sep.size < 4294967281) (w : World) :
    Calls Tryz.prog 278 #[.string sep] w fun e w' => e = .returned (.tuple #[.int .u32 (RK.H sep.data.toList % 4294967296), .int .u32 (16777619 ^ sep.size % 4294967296)]) ∧ w' = w := Any.bytealg_hashStr Tryz.lays314 sep hs w
def Tryz.lays267_ren : Go.Shelf.Ren := ⟨fun | 267 => 273 | 314 => 278 | n => n, fun | 9 => 9 | 3 => 3 | 146 => 266 | 51 => 254 | 4 => 4 | 5 => 5 | 46 => 193 | n => n, fun | n => n⟩
theorem Tryz.lays267 : Go.Proofs.Lays.n267 Tryz.prog Tryz.lays267_ren := {
  mixed := by kernel_rfl
  f267 := Tryz.func273.trans (congrArg some (by kernel_rfl))
  f314 := Tryz.func278.trans (congrArg some (by kernel_rfl))
  t3 := Tryz.underlying3
  a3 := Tryz.isAgg3
  z3 := Tryz.sizeOf3
  v3 := Tryz.zeroValue3
  t4 := Tryz.underlying4
  a4 := Tryz.isAgg4
  z4 := Tryz.sizeOf4
  v4 := Tryz.zeroValue4
  t5 := Tryz.underlying5
  a5 := Tryz.isAgg5
  z5 := Tryz.sizeOf5
  v5 := Tryz.zeroValue5
  t9 := Tryz.underlying9
  a9 := Tryz.isAgg9
  z9 := Tryz.sizeOf9
  v9 := Tryz.zeroValue9
  t46 := Tryz.underlying193
  a46 := Tryz.isAgg193
  z46 := Tryz.sizeOf193
  v46 := Tryz.zeroValue193
  t51 := Tryz.underlying254
  a51 := Tryz.isAgg254
  z51 := Tryz.sizeOf254
  v51 := Tryz.zeroValue254
  t146 := Tryz.underlying266
  a146 := Tryz.isAgg266
  z146 := Tryz.sizeOf266
  v146 := Tryz.zeroValue266 }
open Go.RowKit Go.Lib in
theorem Tryz.bytealg_IndexRabinKarp (s sep : ByteArray) (h1 : 1 ≤ sep.size) (h2 : sep.size ≤ s.size) (hs : s.size < 4294967281) (w : World) :
    Calls Tryz.prog 273 #[.string s, .string sep] w fun e w' => e = .returned (.int .i64 (Lib.index s.data.toList sep.data.toList)) ∧ w' = w := Any.bytealg_IndexRabinKarp Tryz.lays267 s sep h1 h2 hs w
def Tryz.lays219_ren : Go.Shelf.Ren := ⟨fun | 219 => 256 | 217 => 270 | 225 => 271 | 224 => 272 | 267 => 273 | 266 => 277 | 314 => 278 | n => n, fun | 9 => 9 | 3 => 3 | 4 => 4 | 5 => 5 | 46 => 193 | 146 => 266 | 51 => 254 | n => n, fun | 1 => 3 | n => n⟩
theorem Tryz.lays219 : Go.Proofs.Lays.n219 Tryz.prog Tryz.lays219_ren := {
  mixed := by kernel_rfl
  f217 := Tryz.func270.trans (congrArg some (by kernel_rfl))
  f219 := Tryz.func256.trans (congrArg some (by kernel_rfl))
  f224 := Tryz.func272.trans (congrArg some (by kernel_rfl))
  f225 := Tryz.func271.trans (congrArg some (by kernel_rfl))
  f266 := Tryz.func277.trans (congrArg some (by kernel_rfl))
  f267 := Tryz.func273.trans (congrArg some (by kernel_rfl))
  f314 := Tryz.func278.trans (congrArg some (by kernel_rfl))
  t3 := Tryz.underlying3
  a3 := Tryz.isAgg3
  z3 := Tryz.sizeOf3
  v3 := Tryz.zeroValue3
  t4 := Tryz.underlying4
  a4 := Tryz.isAgg4
  z4 := Tryz.sizeOf4
  v4 := Tryz.zeroValue4
  t5 := Tryz.underlying5
  a5 := Tryz.isAgg5
  z5 := Tryz.sizeOf5
  v5 := Tryz.zeroValue5
  t9 := Tryz.underlying9
  a9 := Tryz.isAgg9
  z9 := Tryz.sizeOf9
  v9 := Tryz.zeroValue9
  t46 := Tryz.underlying193
  a46 := Tryz.isAgg193
  z46 := Tryz.sizeOf193
  v46 := Tryz.zeroValue193
  t51 := Tryz.underlying254
  a51 := Tryz.isAgg254
  z51 := Tryz.sizeOf254
  v51 := Tryz.zeroValue254
  t146 := Tryz.underlying266
  a146 := Tryz.isAgg266
  z146 := Tryz.sizeOf266
  v146 := Tryz.zeroValue266
  g1 := by kernel_rfl }
open Go.RowKit Go.Lib in
/-- internal/stringslite.Index (what strings.Index calls) AT A substr OF ONE BYTE c: IT RETURNS 'Lib.indexByte s c'; the world is as it was. (LAID: no walk: one application.) -/
theorem Tryz.stringslite_Index_one (s : ByteArray) (c : UInt8) (w : World) :
    Calls Tryz.prog 256 #[.string s, .string ⟨#[c]⟩] w fun e w' => e = .returned (.int .i64 (Lib.indexByte s.data.toList c)) ∧ w' = w := Any.stringslite_Index_one Tryz.lays219 s c w
open Go.RowKit Go.Lib in
/-- internal/stringslite.Index (what strings.Index calls) AT A substr OF WHATEVER LENGTH: IT RETURNS 'Lib.index s substr'; the world is as it was. 'm': what internal/bytealg.MaxLen holds: whatever. (LAID: no walk: one application.) -/
theorem Tryz.stringslite_Index (s sub : ByteArray) (m : Int) (w : World) (hs : s.size < 4294967281) (hm : w.cell? ⟨3, 0, none⟩ = some (.int .i64 m)) :
    Calls Tryz.prog 256 #[.string s, .string sub] w fun e w' => e = .returned (.int .i64 (Lib.index s.data.toList sub.data.toList)) ∧ w' = w := Any.stringslite_Index Tryz.lays219 s sub m w hs hm
def Tryz.lays143_ren : Go.Shelf.Ren := ⟨fun | 143 => 230 | 219 => 256 | 217 => 270 | 225 => 271 | 224 => 272 | 267 => 273 | 266 => 277 | 314 => 278 | n => n, fun | 9 => 9 | 3 => 3 | 4 => 4 | 5 => 5 | 46 => 193 | 146 => 266 | 51 => 254 | n => n, fun | 1 => 3 | n => n⟩
theorem Tryz.lays143 : Go.Proofs.Lays.n143 Tryz.prog Tryz.lays143_ren := {
  mixed := by kernel_rfl
  f143 := Tryz.func230.trans (congrArg some (by kernel_rfl))
  f217 := Tryz.func270.trans (congrArg some (by kernel_rfl))
  f219 := Tryz.func256.trans (congrArg some (by kernel_rfl))
  f224 := Tryz.func272.trans (congrArg some (by kernel_rfl))
  f225 := Tryz.func271.trans (congrArg some (by kernel_rfl))
  f266 := Tryz.func277.trans (congrArg some (by kernel_rfl))
  f267 := Tryz.func273.trans (congrArg some (by kernel_rfl))
  f314 := Tryz.func278.trans (congrArg some (by kernel_rfl))
  t3 := Tryz.underlying3
  a3 := Tryz.isAgg3
  z3 := Tryz.sizeOf3
  v3 := Tryz.zeroValue3
  t4 := Tryz.underlying4
  a4 := Tryz.isAgg4
  z4 := Tryz.sizeOf4
  v4 := Tryz.zeroValue4
  t5 := Tryz.underlying5
  a5 := Tryz.isAgg5
  z5 := Tryz.sizeOf5
  v5 := Tryz.zeroValue5
  t9 := Tryz.underlying9
  a9 := Tryz.isAgg9
  z9 := Tryz.sizeOf9
  v9 := Tryz.zeroValue9
  t46 := Tryz.underlying193
  a46 := Tryz.isAgg193
  z46 := Tryz.sizeOf193
  v46 := Tryz.zeroValue193
  t51 := Tryz.underlying254
  a51 := Tryz.isAgg254
  z51 := Tryz.sizeOf254
  v51 := Tryz.zeroValue254
  t146 := Tryz.underlying266
  a146 := Tryz.isAgg266
  z146 := Tryz.sizeOf266
  v146 := Tryz.zeroValue266
  g1 := by kernel_rfl }
open Go.RowKit Go.Lib in
/-- strings.Index: "Index returns the index of the first instance of substr in s, or -1 if substr is not present in s.": AT A substr OF ONE BYTE c: IT RETURNS 'Lib.indexByte s c'; the world is as it was. (LAID: no walk: one application.) -/
theorem Tryz.strings_Index_one (s : ByteArray) (c : UInt8) (w : World) :
    Calls Tryz.prog 230 #[.string s, .string ⟨#[c]⟩] w fun e w' => e = .returned (.int .i64 (Lib.indexByte s.data.toList c)) ∧ w' = w := Any.strings_Index_one Tryz.lays143 s c w
open Go.RowKit Go.Lib in
/-- strings.Index: "Index returns the index of the first instance of substr in s, or -1 if substr is not present in s.": IT RETURNS 'Lib.index s substr'; the world is as it was. (LAID: no walk: one application.) -/
theorem Tryz.strings_Index (s sub : ByteArray) (m : Int) (w : World) (hs : s.size < 4294967281) (hm : w.cell? ⟨3, 0, none⟩ = some (.int .i64 m)) :
    Calls Tryz.prog 230 #[.string s, .string sub] w fun e w' => e = .returned (.int .i64 (Lib.index s.data.toList sub.data.toList)) ∧ w' = w := Any.strings_Index Tryz.lays143 s sub m w hs hm
def Tryz.lays138_ren : Go.Shelf.Ren := ⟨fun | 138 => 229 | 195 => 253 | 218 => 255 | 143 => 230 | 219 => 256 | 217 => 270 | 225 => 271 | 224 => 272 | 267 => 273 | 266 => 277 | 314 => 278 | n => n, fun | 9 => 9 | 3 => 3 | 4 => 4 | 5 => 5 | 0 => 0 | 46 => 193 | 146 => 266 | 51 => 254 | n => n, fun | 1 => 3 | n => n⟩
theorem Tryz.lays138 : Go.Proofs.Lays.n138 Tryz.prog Tryz.lays138_ren := {
  mixed := by kernel_rfl
  f138 := Tryz.func229.trans (congrArg some (by kernel_rfl))
  f143 := Tryz.func230.trans (congrArg some (by kernel_rfl))
  f195 := Tryz.func253.trans (congrArg some (by kernel_rfl))
  f217 := Tryz.func270.trans (congrArg some (by kernel_rfl))
  f218 := Tryz.func255.trans (congrArg some (by kernel_rfl))
  f219 := Tryz.func256.trans (congrArg some (by kernel_rfl))
  f224 := Tryz.func272.trans (congrArg some (by kernel_rfl))
  f225 := Tryz.func271.trans (congrArg some (by kernel_rfl))
  f266 := Tryz.func277.trans (congrArg some (by kernel_rfl))
  f267 := Tryz.func273.trans (congrArg some (by kernel_rfl))
  f314 := Tryz.func278.trans (congrArg some (by kernel_rfl))
  t0 := Tryz.underlying0
  a0 := Tryz.isAgg0
  z0 := Tryz.sizeOf0
  v0 := Tryz.zeroValue0
  t3 := Tryz.underlying3
  a3 := Tryz.isAgg3
  z3 := Tryz.sizeOf3
  v3 := Tryz.zeroValue3
  t4 := Tryz.underlying4
  a4 := Tryz.isAgg4
  z4 := Tryz.sizeOf4
  v4 := Tryz.zeroValue4
  t5 := Tryz.underlying5
  a5 := Tryz.isAgg5
  z5 := Tryz.sizeOf5
  v5 := Tryz.zeroValue5
  t9 := Tryz.underlying9
  a9 := Tryz.isAgg9
  z9 := Tryz.sizeOf9
  v9 := Tryz.zeroValue9
  t46 := Tryz.underlying193
  a46 := Tryz.isAgg193
  z46 := Tryz.sizeOf193
  v46 := Tryz.zeroValue193
  t51 := Tryz.underlying254
  a51 := Tryz.isAgg254
  z51 := Tryz.sizeOf254
  v51 := Tryz.zeroValue254
  t146 := Tryz.underlying266
  a146 := Tryz.isAgg266
  z146 := Tryz.sizeOf266
  v146 := Tryz.zeroValue266
  g1 := by kernel_rfl }
open Go.RowKit Go.Lib in
/-- strings.Count AT A substr OF ONE BYTE ('hp'): "Count counts the number of non-overlapping instances of substr in s.": IT RETURNS 'Lib.countByte s (that byte)'; the world is as it was. ✋ NO CONTRACT HERE YET at an empty substr (utf8.RuneCountInString) or at a longer one (a loop over strings.Index). (LAID: no walk: one application.) -/
theorem Tryz.strings_Count_one (s : ByteArray) (c : UInt8) (w : World) :
    Calls Tryz.prog 229 #[.string s, .string ⟨#[c]⟩] w fun e w' => e = .returned (.int .i64 (Lib.countByte s.data.toList c)) ∧ w' = w := Any.strings_Count_one Tryz.lays138 s c w
open Go.RowKit Go.Lib in
/-- strings.Count AT A substr OF TWO BYTES OR MORE: "Count counts the number of non-overlapping instances of substr in s.": IT RETURNS 'Lib.count s substr'; the world is as it was. (LAID: no walk: one application.) -/
theorem Tryz.strings_Count (s sub : ByteArray) (m : Int) (w : World) (hs : s.size < 4294967281) (hm : w.cell? ⟨3, 0, none⟩ = some (.int .i64 m)) (h2 : 2 ≤ sub.size) :
    Calls Tryz.prog 229 #[.string s, .string sub] w fun e w' => e = .returned (.int .i64 (Lib.countB s sub)) ∧ w' = w := Any.strings_Count Tryz.lays138 s sub m w hs hm h2
def Tryz.laysM219_ren : Go.Shelf.Ren := ⟨fun | 219 => 256 | 217 => 270 | 225 => 271 | 224 => 272 | 267 => 273 | 266 => 277 | 314 => 278 | n => n, fun | 9 => 9 | 3 => 3 | 4 => 4 | 5 => 5 | 46 => 193 | 146 => 266 | 51 => 254 | n => n, fun | 1 => 3 | n => n⟩
theorem Tryz.laysM219 : Go.Proofs.LaysM.n219 Tryz.prog Tryz.laysM219_ren := {
  mixed := by kernel_rfl
  f217 := Tryz.func270.trans (congrArg some (by kernel_rfl))
  f219 := Tryz.func256.trans (congrArg some (by kernel_rfl))
  f224 := Tryz.func272.trans (congrArg some (by kernel_rfl))
  f225 := Tryz.func271.trans (congrArg some (by kernel_rfl))
  f266 := Tryz.func277.trans (congrArg some (by kernel_rfl))
  f267 := Tryz.func273.trans (congrArg some (by kernel_rfl))
  f314 := Tryz.func278.trans (congrArg some (by kernel_rfl))
  t3 := Tryz.underlying3
  a3 := Tryz.isAgg3
  z3 := Tryz.sizeOf3
  v3 := Tryz.zeroValue3
  t4 := Tryz.underlying4
  a4 := Tryz.isAgg4
  z4 := Tryz.sizeOf4
  v4 := Tryz.zeroValue4
  t5 := Tryz.underlying5
  a5 := Tryz.isAgg5
  z5 := Tryz.sizeOf5
  v5 := Tryz.zeroValue5
  t9 := Tryz.underlying9
  a9 := Tryz.isAgg9
  z9 := Tryz.sizeOf9
  v9 := Tryz.zeroValue9
  t46 := Tryz.underlying193
  a46 := Tryz.isAgg193
  z46 := Tryz.sizeOf193
  v46 := Tryz.zeroValue193
  t51 := Tryz.underlying254
  a51 := Tryz.isAgg254
  z51 := Tryz.sizeOf254
  v51 := Tryz.zeroValue254
  t146 := Tryz.underlying266
  a146 := Tryz.isAgg266
  z146 := Tryz.sizeOf266
  v146 := Tryz.zeroValue266
  g1 := by kernel_rfl
  i3 := by kernel_rfl
  i4 := by kernel_rfl
  i5 := by kernel_rfl
  i9 := by kernel_rfl
  i46 := by kernel_rfl
  i51 := by kernel_rfl
  i146 := by kernel_rfl
  m1 := by kernel_rfl
  s1_3 := fun w h => Go.Proofs.cell_of_shapedOpen_int (zero := #[.int .i64 0]) (t := 3) h (of_decide_eq_true (by kernel_rfl)) (by kernel_rfl) rfl (by kernel_rfl) (by kernel_rfl) Tryz.underlying3 }
open Go.RowKit Go.Lib in
theorem Tryz.stringslite_Index_shaped (s sub : ByteArray) (w : World) (h : w.ShapedOpen Tryz.prog) (hs : s.size < 4294967281) :
    Calls Tryz.prog 256 #[.string s, .string sub] w fun e w' => e = .returned (.int .i64 (Lib.index s.data.toList sub.data.toList)) ∧ w' = w := Any.stringslite_Index_shaped Tryz.laysM219 s sub w h hs
def Tryz.laysM143_ren : Go.Shelf.Ren := ⟨fun | 143 => 230 | 219 => 256 | 217 => 270 | 225 => 271 | 224 => 272 | 267 => 273 | 266 => 277 | 314 => 278 | n => n, fun | 9 => 9 | 3 => 3 | 4 => 4 | 5 => 5 | 46 => 193 | 146 => 266 | 51 => 254 | n => n, fun | 1 => 3 | n => n⟩
theorem Tryz.laysM143 : Go.Proofs.LaysM.n143 Tryz.prog Tryz.laysM143_ren := {
  mixed := by kernel_rfl
  f143 := Tryz.func230.trans (congrArg some (by kernel_rfl))
  f217 := Tryz.func270.trans (congrArg some (by kernel_rfl))
  f219 := Tryz.func256.trans (congrArg some (by kernel_rfl))
  f224 := Tryz.func272.trans (congrArg some (by kernel_rfl))
  f225 := Tryz.func271.trans (congrArg some (by kernel_rfl))
  f266 := Tryz.func277.trans (congrArg some (by kernel_rfl))
  f267 := Tryz.func273.trans (congrArg some (by kernel_rfl))
  f314 := Tryz.func278.trans (congrArg some (by kernel_rfl))
  t3 := Tryz.underlying3
  a3 := Tryz.isAgg3
  z3 := Tryz.sizeOf3
  v3 := Tryz.zeroValue3
  t4 := Tryz.underlying4
  a4 := Tryz.isAgg4
  z4 := Tryz.sizeOf4
  v4 := Tryz.zeroValue4
  t5 := Tryz.underlying5
  a5 := Tryz.isAgg5
  z5 := Tryz.sizeOf5
  v5 := Tryz.zeroValue5
  t9 := Tryz.underlying9
  a9 := Tryz.isAgg9
  z9 := Tryz.sizeOf9
  v9 := Tryz.zeroValue9
  t46 := Tryz.underlying193
  a46 := Tryz.isAgg193
  z46 := Tryz.sizeOf193
  v46 := Tryz.zeroValue193
  t51 := Tryz.underlying254
  a51 := Tryz.isAgg254
  z51 := Tryz.sizeOf254
  v51 := Tryz.zeroValue254
  t146 := Tryz.underlying266
  a146 := Tryz.isAgg266
  z146 := Tryz.sizeOf266
  v146 := Tryz.zeroValue266
  g1 := by kernel_rfl
  i3 := by kernel_rfl
  i4 := by kernel_rfl
  i5 := by kernel_rfl
  i9 := by kernel_rfl
  i46 := by kernel_rfl
  i51 := by kernel_rfl
  i146 := by kernel_rfl
  m1 := by kernel_rfl
  s1_3 := fun w h => Go.Proofs.cell_of_shapedOpen_int (zero := #[.int .i64 0]) (t := 3) h (of_decide_eq_true (by kernel_rfl)) (by kernel_rfl) rfl (by kernel_rfl) (by kernel_rfl) Tryz.underlying3 }
open Go.RowKit Go.Lib in
theorem Tryz.strings_Index_shaped (s sub : ByteArray) (w : World) (h : w.ShapedOpen Tryz.prog) (hs : s.size < 4294967281) :
    Calls Tryz.prog 230 #[.string s, .string sub] w fun e w' => e = .returned (.int .i64 (Lib.index s.data.toList sub.data.toList)) ∧ w' = w := Any.strings_Index_shaped Tryz.laysM143 s sub w h hs
def Tryz.laysM138_ren : Go.Shelf.Ren := ⟨fun | 138 => 229 | 195 => 253 | 218 => 255 | 143 => 230 | 219 => 256 | 217 => 270 | 225 => 271 | 224 => 272 | 267 => 273 | 266 => 277 | 314 => 278 | n => n, fun | 9 => 9 | 3 => 3 | 4 => 4 | 5 => 5 | 0 => 0 | 46 => 193 | 146 => 266 | 51 => 254 | n => n, fun | 1 => 3 | n => n⟩
theorem Tryz.laysM138 : Go.Proofs.LaysM.n138 Tryz.prog Tryz.laysM138_ren := {
  mixed := by kernel_rfl
  f138 := Tryz.func229.trans (congrArg some (by kernel_rfl))
  f143 := Tryz.func230.trans (congrArg some (by kernel_rfl))
  f195 := Tryz.func253.trans (congrArg some (by kernel_rfl))
  f217 := Tryz.func270.trans (congrArg some (by kernel_rfl))
  f218 := Tryz.func255.trans (congrArg some (by kernel_rfl))
  f219 := Tryz.func256.trans (congrArg some (by kernel_rfl))
  f224 := Tryz.func272.trans (congrArg some (by kernel_rfl))
  f225 := Tryz.func271.trans (congrArg some (by kernel_rfl))
  f266 := Tryz.func277.trans (congrArg some (by kernel_rfl))
  f267 := Tryz.func273.trans (congrArg some (by kernel_rfl))
  f314 := Tryz.func278.trans (congrArg some (by kernel_rfl))
  t0 := Tryz.underlying0
  a0 := Tryz.isAgg0
  z0 := Tryz.sizeOf0
  v0 := Tryz.zeroValue0
  t3 := Tryz.underlying3
  a3 := Tryz.isAgg3
  z3 := Tryz.sizeOf3
  v3 := Tryz.zeroValue3
  t4 := Tryz.underlying4
  a4 := Tryz.isAgg4
  z4 := Tryz.sizeOf4
  v4 := Tryz.zeroValue4
  t5 := Tryz.underlying5
  a5 := Tryz.isAgg5
  z5 := Tryz.sizeOf5
  v5 := Tryz.zeroValue5
  t9 := Tryz.underlying9
  a9 := Tryz.isAgg9
  z9 := Tryz.sizeOf9
  v9 := Tryz.zeroValue9
  t46 := Tryz.underlying193
  a46 := Tryz.isAgg193
  z46 := Tryz.sizeOf193
  v46 := Tryz.zeroValue193
  t51 := Tryz.underlying254
  a51 := Tryz.isAgg254
  z51 := Tryz.sizeOf254
  v51 := Tryz.zeroValue254
  t146 := Tryz.underlying266
  a146 := Tryz.isAgg266
  z146 := Tryz.sizeOf266
  v146 := Tryz.zeroValue266
  g1 := by kernel_rfl
  i0 := by kernel_rfl
  i3 := by kernel_rfl
  i4 := by kernel_rfl
  i5 := by kernel_rfl
  i9 := by kernel_rfl
  i46 := by kernel_rfl
  i51 := by kernel_rfl
  i146 := by kernel_rfl
  m1 := by kernel_rfl
  s1_3 := fun w h => Go.Proofs.cell_of_shapedOpen_int (zero := #[.int .i64 0]) (t := 3) h (of_decide_eq_true (by kernel_rfl)) (by kernel_rfl) rfl (by kernel_rfl) (by kernel_rfl) Tryz.underlying3 }
open Go.RowKit Go.Lib in
theorem Tryz.strings_Count_shaped (s sub : ByteArray) (w : World) (h : w.ShapedOpen Tryz.prog) (hs : s.size < 4294967281) (h2 : 2 ≤ sub.size) :
    Calls Tryz.prog 229 #[.string s, .string sub] w fun e w' => e = .returned (.int .i64 (Lib.countB s sub)) ∧ w' = w := Any.strings_Count_shaped Tryz.laysM138 s sub w h hs h2
def Tryz.lays206_ren : Go.Shelf.Ren := ⟨fun | 206 => 196 | n => n, fun | 9 => 9 | 4 => 4 | 3 => 3 | n => n, fun | n => n⟩
theorem Tryz.lays206 : Go.Proofs.Lays.n206 Tryz.prog Tryz.lays206_ren := {
  mixed := by kernel_rfl
  f206 := Tryz.func196.trans (congrArg some (by kernel_rfl))
  t3 := Tryz.underlying3
  a3 := Tryz.isAgg3
  z3 := Tryz.sizeOf3
  v3 := Tryz.zeroValue3
  t4 := Tryz.underlying4
  a4 := Tryz.isAgg4
  z4 := Tryz.sizeOf4
  v4 := Tryz.zeroValue4
  t9 := Tryz.underlying9
  a9 := Tryz.isAgg9
  z9 := Tryz.sizeOf9
  v9 := Tryz.zeroValue9 }
open Go.RowKit Go.Lib in
/-- internal/stringslite.HasPrefix (what strings.HasPrefix calls). (LAID: no walk: one application.) -/
theorem Tryz.stringslite_HasPrefix (s p : ByteArray) (w : World) :
    Calls Tryz.prog 196 #[.string s, .string p] w fun e w' => e = .returned (.bool (Lib.hasPrefix s.data.toList p.data.toList)) ∧ w' = w := Any.stringslite_HasPrefix Tryz.lays206 s p w
open Go.RowKit Go.Lib in
/-- strings.Count at whatever sep that is not empty: the two roads under one statement. (LAID: no walk: one application.) -/
theorem Tryz.strings_Count_any (s sep : ByteArray) (m : Int) (w : World) (hs : s.size < 4294967281) (hm : w.cell? ⟨3, 0, none⟩ = some (.int .i64 m)) (h1 : 1 ≤ sep.size) :
    Calls Tryz.prog 229 #[.string s, .string sep] w fun e w' => e = .returned (.int .i64 (Lib.countB s sep)) ∧ w' = w := Any.strings_Count_any Tryz.lays138 s sep m w hs hm h1
def Tryz.lays221_ren : Go.Shelf.Ren := ⟨fun | 221 => 163 | 268 => 228 | 138 => 229 | 143 => 230 | 195 => 253 | 197 => 254 | 218 => 255 | 219 => 256 | 260 => 269 | 217 => 270 | 225 => 271 | 224 => 272 | 267 => 273 | 266 => 277 | 314 => 278 | n => n, fun | 9 => 9 | 3 => 3 | 31 => 95 | 4 => 4 | 0 => 0 | 105 => 242 | 21 => 21 | 5 => 5 | 46 => 193 | 119 => 262 | 139 => 265 | 138 => 264 | 146 => 266 | 51 => 254 | n => n, fun | 1 => 3 | 3 => 4 | 4 => 5 | n => n⟩
theorem Tryz.lays221 : Go.Proofs.Lays.n221 Tryz.prog Tryz.lays221_ren := {
  mixed := by kernel_rfl
  f138 := Tryz.func229.trans (congrArg some (by kernel_rfl))
  f143 := Tryz.func230.trans (congrArg some (by kernel_rfl))
  f195 := Tryz.func253.trans (congrArg some (by kernel_rfl))
  f197 := Tryz.func254.trans (congrArg some (by kernel_rfl))
  f217 := Tryz.func270.trans (congrArg some (by kernel_rfl))
  f218 := Tryz.func255.trans (congrArg some (by kernel_rfl))
  f219 := Tryz.func256.trans (congrArg some (by kernel_rfl))
  f221 := Tryz.func163.trans (congrArg some (by kernel_rfl))
  f224 := Tryz.func272.trans (congrArg some (by kernel_rfl))
  f225 := Tryz.func271.trans (congrArg some (by kernel_rfl))
  f260 := Tryz.func269.trans (congrArg some (by kernel_rfl))
  f266 := Tryz.func277.trans (congrArg some (by kernel_rfl))
  f267 := Tryz.func273.trans (congrArg some (by kernel_rfl))
  f268 := Tryz.func228.trans (congrArg some (by kernel_rfl))
  f314 := Tryz.func278.trans (congrArg some (by kernel_rfl))
  t0 := Tryz.underlying0
  a0 := Tryz.isAgg0
  z0 := Tryz.sizeOf0
  v0 := Tryz.zeroValue0
  t3 := Tryz.underlying3
  a3 := Tryz.isAgg3
  z3 := Tryz.sizeOf3
  v3 := Tryz.zeroValue3
  t4 := Tryz.underlying4
  a4 := Tryz.isAgg4
  z4 := Tryz.sizeOf4
  v4 := Tryz.zeroValue4
  t5 := Tryz.underlying5
  a5 := Tryz.isAgg5
  z5 := Tryz.sizeOf5
  v5 := Tryz.zeroValue5
  t9 := Tryz.underlying9
  a9 := Tryz.isAgg9
  z9 := Tryz.sizeOf9
  v9 := Tryz.zeroValue9
  t21 := Tryz.underlying21
  a21 := Tryz.isAgg21
  z21 := Tryz.sizeOf21
  v21 := Tryz.zeroValue21
  t31 := Tryz.underlying95
  a31 := Tryz.isAgg95
  z31 := Tryz.sizeOf95
  v31 := Tryz.zeroValue95
  t46 := Tryz.underlying193
  a46 := Tryz.isAgg193
  z46 := Tryz.sizeOf193
  v46 := Tryz.zeroValue193
  t51 := Tryz.underlying254
  a51 := Tryz.isAgg254
  z51 := Tryz.sizeOf254
  v51 := Tryz.zeroValue254
  t105 := Tryz.underlying242
  a105 := Tryz.isAgg242
  z105 := Tryz.sizeOf242
  v105 := Tryz.zeroValue242
  t119 := Tryz.underlying262
  a119 := Tryz.isAgg262
  z119 := Tryz.sizeOf262
  t138 := Tryz.underlying264
  a138 := Tryz.isAgg264
  z138 := Tryz.sizeOf264
  v138 := Tryz.zeroValue264
  t139 := Tryz.underlying265
  a139 := Tryz.isAgg265
  z139 := Tryz.sizeOf265
  v139 := Tryz.zeroValue265
  t146 := Tryz.underlying266
  a146 := Tryz.isAgg266
  z146 := Tryz.sizeOf266
  v146 := Tryz.zeroValue266
  g1 := by kernel_rfl
  g3 := by kernel_rfl
  g4 := by kernel_rfl }
open Go.RowKit Go.Lib in
theorem Tryz.strings_genSplit (s sep : ByteArray) (sv : Nat) (n : Int) (N : Nat) (m : Int) (w : World) (hs : s.size < 4294967281) (hm : w.cell? ⟨3, 0, none⟩ = some (.int .i64 m)) (h1 : 1 ≤ sep.size) (hsv : sv ≤ sep.size) (hn0 : n ≠ 0) (hn63 : n ≤ 9223372036854775807) (hN : (N : Int) = min (if n < 0 then (Lib.countB s sep : Int) + 1 else n) ((s.size : Int) + 1)) :
    Calls Tryz.prog 163 #[.string s, .string sep, .int .i64 sv, .int .i64 n] w fun e w' =>
      e = .returned (.slice (some ⟨w.heap.size, 0, none⟩) (Lib.splitB sep sv (N - 1) s).length N) ∧ w' = w.alloc (.cells (Lib.cellsOf (Lib.splitB sep sv (N - 1) s) N) 9) := Any.strings_genSplit Tryz.lays221 (by kernel_rfl) s sep sv n N m w hs hm h1 hsv hn0 hn63 hN
def Tryz.lays146_ren : Go.Shelf.Ren := ⟨fun | 146 => 66 | 221 => 163 | 268 => 228 | 138 => 229 | 143 => 230 | 195 => 253 | 197 => 254 | 218 => 255 | 219 => 256 | 260 => 269 | 217 => 270 | 225 => 271 | 224 => 272 | 267 => 273 | 266 => 277 | 314 => 278 | n => n, fun | 9 => 9 | 31 => 95 | 3 => 3 | 4 => 4 | 0 => 0 | 105 => 242 | 21 => 21 | 5 => 5 | 46 => 193 | 119 => 262 | 139 => 265 | 138 => 264 | 146 => 266 | 51 => 254 | n => n, fun | 1 => 3 | 3 => 4 | 4 => 5 | n => n⟩
theorem Tryz.lays146 : Go.Proofs.Lays.n146 Tryz.prog Tryz.lays146_ren := {
  mixed := by kernel_rfl
  f138 := Tryz.func229.trans (congrArg some (by kernel_rfl))
  f143 := Tryz.func230.trans (congrArg some (by kernel_rfl))
  f146 := Tryz.func66.trans (congrArg some (by kernel_rfl))
  f195 := Tryz.func253.trans (congrArg some (by kernel_rfl))
  f197 := Tryz.func254.trans (congrArg some (by kernel_rfl))
  f217 := Tryz.func270.trans (congrArg some (by kernel_rfl))
  f218 := Tryz.func255.trans (congrArg some (by kernel_rfl))
  f219 := Tryz.func256.trans (congrArg some (by kernel_rfl))
  f221 := Tryz.func163.trans (congrArg some (by kernel_rfl))
  f224 := Tryz.func272.trans (congrArg some (by kernel_rfl))
  f225 := Tryz.func271.trans (congrArg some (by kernel_rfl))
  f260 := Tryz.func269.trans (congrArg some (by kernel_rfl))
  f266 := Tryz.func277.trans (congrArg some (by kernel_rfl))
  f267 := Tryz.func273.trans (congrArg some (by kernel_rfl))
  f268 := Tryz.func228.trans (congrArg some (by kernel_rfl))
  f314 := Tryz.func278.trans (congrArg some (by kernel_rfl))
  t0 := Tryz.underlying0
  a0 := Tryz.isAgg0
  z0 := Tryz.sizeOf0
  v0 := Tryz.zeroValue0
  t3 := Tryz.underlying3
  a3 := Tryz.isAgg3
  z3 := Tryz.sizeOf3
  v3 := Tryz.zeroValue3
  t4 := Tryz.underlying4
  a4 := Tryz.isAgg4
  z4 := Tryz.sizeOf4
  v4 := Tryz.zeroValue4
  t5 := Tryz.underlying5
  a5 := Tryz.isAgg5
  z5 := Tryz.sizeOf5
  v5 := Tryz.zeroValue5
  t9 := Tryz.underlying9
  a9 := Tryz.isAgg9
  z9 := Tryz.sizeOf9
  v9 := Tryz.zeroValue9
  t21 := Tryz.underlying21
  a21 := Tryz.isAgg21
  z21 := Tryz.sizeOf21
  v21 := Tryz.zeroValue21
  t31 := Tryz.underlying95
  a31 := Tryz.isAgg95
  z31 := Tryz.sizeOf95
  v31 := Tryz.zeroValue95
  t46 := Tryz.underlying193
  a46 := Tryz.isAgg193
  z46 := Tryz.sizeOf193
  v46 := Tryz.zeroValue193
  t51 := Tryz.underlying254
  a51 := Tryz.isAgg254
  z51 := Tryz.sizeOf254
  v51 := Tryz.zeroValue254
  t105 := Tryz.underlying242
  a105 := Tryz.isAgg242
  z105 := Tryz.sizeOf242
  v105 := Tryz.zeroValue242
  t119 := Tryz.underlying262
  a119 := Tryz.isAgg262
  z119 := Tryz.sizeOf262
  t138 := Tryz.underlying264
  a138 := Tryz.isAgg264
  z138 := Tryz.sizeOf264
  v138 := Tryz.zeroValue264
  t139 := Tryz.underlying265
  a139 := Tryz.isAgg265
  z139 := Tryz.sizeOf265
  v139 := Tryz.zeroValue265
  t146 := Tryz.underlying266
  a146 := Tryz.isAgg266
  z146 := Tryz.sizeOf266
  v146 := Tryz.zeroValue266
  g1 := by kernel_rfl
  g3 := by kernel_rfl
  g4 := by kernel_rfl }
open Go.RowKit Go.Lib in
/-- strings.Split. (LAID: no walk: one application.) -/
theorem Tryz.strings_Split (s sep : ByteArray) (m : Int) (w : World) (hs : s.size < 4294967281) (hm : w.cell? ⟨3, 0, none⟩ = some (.int .i64 m)) (h1 : 1 ≤ sep.size) :
    Calls Tryz.prog 66 #[.string s, .string sep] w fun e w' =>
      e = .returned (.slice (some ⟨w.heap.size, 0, none⟩) (Lib.countB s sep + 1) (Lib.countB s sep + 1)) ∧ w' = w.alloc (.cells ((Lib.splitB sep 0 (Lib.countB s sep) s).map Value.string).toArray 9) := Any.strings_Split Tryz.lays146 (by kernel_rfl) s sep m w hs hm h1
def Tryz.laysM146_ren : Go.Shelf.Ren := ⟨fun | 146 => 66 | 221 => 163 | 268 => 228 | 138 => 229 | 143 => 230 | 195 => 253 | 197 => 254 | 218 => 255 | 219 => 256 | 260 => 269 | 217 => 270 | 225 => 271 | 224 => 272 | 267 => 273 | 266 => 277 | 314 => 278 | n => n, fun | 9 => 9 | 31 => 95 | 3 => 3 | 4 => 4 | 0 => 0 | 105 => 242 | 21 => 21 | 5 => 5 | 46 => 193 | 119 => 262 | 139 => 265 | 138 => 264 | 146 => 266 | 51 => 254 | n => n, fun | 1 => 3 | 3 => 4 | 4 => 5 | n => n⟩
theorem Tryz.laysM146 : Go.Proofs.LaysM.n146 Tryz.prog Tryz.laysM146_ren := {
  mixed := by kernel_rfl
  f138 := Tryz.func229.trans (congrArg some (by kernel_rfl))
  f143 := Tryz.func230.trans (congrArg some (by kernel_rfl))
  f146 := Tryz.func66.trans (congrArg some (by kernel_rfl))
  f195 := Tryz.func253.trans (congrArg some (by kernel_rfl))
  f197 := Tryz.func254.trans (congrArg some (by kernel_rfl))
  f217 := Tryz.func270.trans (congrArg some (by kernel_rfl))
  f218 := Tryz.func255.trans (congrArg some (by kernel_rfl))
  f219 := Tryz.func256.trans (congrArg some (by kernel_rfl))
  f221 := Tryz.func163.trans (congrArg some (by kernel_rfl))
  f224 := Tryz.func272.trans (congrArg some (by kernel_rfl))
  f225 := Tryz.func271.trans (congrArg some (by kernel_rfl))
  f260 := Tryz.func269.trans (congrArg some (by kernel_rfl))
  f266 := Tryz.func277.trans (congrArg some (by kernel_rfl))
  f267 := Tryz.func273.trans (congrArg some (by kernel_rfl))
  f268 := Tryz.func228.trans (congrArg some (by kernel_rfl))
  f314 := Tryz.func278.trans (congrArg some (by kernel_rfl))
  t0 := Tryz.underlying0
  a0 := Tryz.isAgg0
  z0 := Tryz.sizeOf0
  v0 := Tryz.zeroValue0
  t3 := Tryz.underlying3
  a3 := Tryz.isAgg3
  z3 := Tryz.sizeOf3
  v3 := Tryz.zeroValue3
  t4 := Tryz.underlying4
  a4 := Tryz.isAgg4
  z4 := Tryz.sizeOf4
  v4 := Tryz.zeroValue4
  t5 := Tryz.underlying5
  a5 := Tryz.isAgg5
  z5 := Tryz.sizeOf5
  v5 := Tryz.zeroValue5
  t9 := Tryz.underlying9
  a9 := Tryz.isAgg9
  z9 := Tryz.sizeOf9
  v9 := Tryz.zeroValue9
  t21 := Tryz.underlying21
  a21 := Tryz.isAgg21
  z21 := Tryz.sizeOf21
  v21 := Tryz.zeroValue21
  t31 := Tryz.underlying95
  a31 := Tryz.isAgg95
  z31 := Tryz.sizeOf95
  v31 := Tryz.zeroValue95
  t46 := Tryz.underlying193
  a46 := Tryz.isAgg193
  z46 := Tryz.sizeOf193
  v46 := Tryz.zeroValue193
  t51 := Tryz.underlying254
  a51 := Tryz.isAgg254
  z51 := Tryz.sizeOf254
  v51 := Tryz.zeroValue254
  t105 := Tryz.underlying242
  a105 := Tryz.isAgg242
  z105 := Tryz.sizeOf242
  v105 := Tryz.zeroValue242
  t119 := Tryz.underlying262
  a119 := Tryz.isAgg262
  z119 := Tryz.sizeOf262
  t138 := Tryz.underlying264
  a138 := Tryz.isAgg264
  z138 := Tryz.sizeOf264
  v138 := Tryz.zeroValue264
  t139 := Tryz.underlying265
  a139 := Tryz.isAgg265
  z139 := Tryz.sizeOf265
  v139 := Tryz.zeroValue265
  t146 := Tryz.underlying266
  a146 := Tryz.isAgg266
  z146 := Tryz.sizeOf266
  v146 := Tryz.zeroValue266
  g1 := by kernel_rfl
  g3 := by kernel_rfl
  g4 := by kernel_rfl
  i0 := by kernel_rfl
  i3 := by kernel_rfl
  i4 := by kernel_rfl
  i5 := by kernel_rfl
  i9 := by kernel_rfl
  i21 := by kernel_rfl
  i31 := by kernel_rfl
  i46 := by kernel_rfl
  i51 := by kernel_rfl
  i105 := by kernel_rfl
  i138 := by kernel_rfl
  i139 := by kernel_rfl
  i146 := by kernel_rfl
  m1 := by kernel_rfl
  s1_3 := fun w h => Go.Proofs.cell_of_shapedOpen_int (zero := #[.int .i64 0]) (t := 3) h (of_decide_eq_true (by kernel_rfl)) (by kernel_rfl) rfl (by kernel_rfl) (by kernel_rfl) Tryz.underlying3
  m3 := by kernel_rfl
  m4 := by kernel_rfl }
open Go.RowKit Go.Lib in
/-- strings.Split, sep not empty. (LAID: no walk: one application.) -/
theorem Tryz.strings_Split_shaped (s sep : ByteArray) (w : World) (h : w.ShapedOpen Tryz.prog) (hs : s.size < 4294967281) (h1 : 1 ≤ sep.size) :
    Calls Tryz.prog 66 #[.string s, .string sep] w fun e w' =>
      e = .returned (.slice (some ⟨w.heap.size, 0, none⟩) (Lib.countB s sep + 1) (Lib.countB s sep + 1)) ∧ w' = w.alloc (.cells ((Lib.splitB sep 0 (Lib.countB s sep) s).map Value.string).toArray 9) := Any.strings_Split_shaped Tryz.laysM146 s sep w h hs h1
def Tryz.lays197_ren : Go.Shelf.Ren := ⟨fun | 197 => 254 | 260 => 269 | n => n, fun | 9 => 9 | 21 => 21 | 3 => 3 | 4 => 4 | 5 => 5 | 105 => 242 | 119 => 262 | 0 => 0 | 46 => 193 | 139 => 265 | 138 => 264 | n => n, fun | 3 => 4 | 4 => 5 | n => n⟩
theorem Tryz.lays197 : Go.Proofs.Lays.n197 Tryz.prog Tryz.lays197_ren := {
  mixed := by kernel_rfl
  f197 := Tryz.func254.trans (congrArg some (by kernel_rfl))
  f260 := Tryz.func269.trans (congrArg some (by kernel_rfl))
  t0 := Tryz.underlying0
  a0 := Tryz.isAgg0
  z0 := Tryz.sizeOf0
  v0 := Tryz.zeroValue0
  t3 := Tryz.underlying3
  a3 := Tryz.isAgg3
  z3 := Tryz.sizeOf3
  v3 := Tryz.zeroValue3
  t4 := Tryz.underlying4
  a4 := Tryz.isAgg4
  z4 := Tryz.sizeOf4
  v4 := Tryz.zeroValue4
  t5 := Tryz.underlying5
  a5 := Tryz.isAgg5
  z5 := Tryz.sizeOf5
  v5 := Tryz.zeroValue5
  t9 := Tryz.underlying9
  a9 := Tryz.isAgg9
  z9 := Tryz.sizeOf9
  v9 := Tryz.zeroValue9
  t21 := Tryz.underlying21
  a21 := Tryz.isAgg21
  z21 := Tryz.sizeOf21
  v21 := Tryz.zeroValue21
  t46 := Tryz.underlying193
  a46 := Tryz.isAgg193
  z46 := Tryz.sizeOf193
  v46 := Tryz.zeroValue193
  t105 := Tryz.underlying242
  a105 := Tryz.isAgg242
  z105 := Tryz.sizeOf242
  v105 := Tryz.zeroValue242
  t119 := Tryz.underlying262
  a119 := Tryz.isAgg262
  z119 := Tryz.sizeOf262
  t138 := Tryz.underlying264
  a138 := Tryz.isAgg264
  z138 := Tryz.sizeOf264
  v138 := Tryz.zeroValue264
  t139 := Tryz.underlying265
  a139 := Tryz.isAgg265
  z139 := Tryz.sizeOf265
  v139 := Tryz.zeroValue265
  g3 := by kernel_rfl
  g4 := by kernel_rfl }
open Go.RowKit Go.Lib in
/-- unicode/utf8.DecodeRuneInString: "DecodeRuneInString is like DecodeRune but its input is a string.": ("DecodeRune unpacks the first UTF-8 encoding in p and returns the rune and its width in bytes."): WHERE s BEGINS WITH AN ASCII BYTE x: (x, 1). (LAID: no walk: one application.) -/
theorem Tryz.utf8_DecodeRuneInString_ascii (s : ByteArray) (x : UInt8) (w : World) (h0 : s.data.toList[0]? = some x) (hx : x.toNat < 128) :
    Calls Tryz.prog 254 #[.string s] w fun e w' => e = .returned (.tuple #[.int .i32 x.toNat, .int .i64 1]) ∧ w' = w := Any.utf8_DecodeRuneInString_ascii Tryz.lays197 s x w h0 hx
open Go.RowKit Go.Lib in
theorem Tryz.utf8_RuneCountInString_ascii (s : ByteArray) (w : World) (hs : s.size < 4294967281) (hascii : ∀ (j : Nat) b, s.data.toList[j]? = some b → b.toNat < 128) :
    Calls Tryz.prog 253 #[.string s] w fun e w' => e = .returned (.int .i64 s.size) ∧ w' = w.iter s s.size := Any.utf8_RuneCountInString_ascii Tryz.lays195 s w hs hascii
def Tryz.lays268_ren : Go.Shelf.Ren := ⟨fun | 268 => 228 | 195 => 253 | 197 => 254 | 260 => 269 | n => n, fun | 9 => 9 | 3 => 3 | 31 => 95 | 4 => 4 | 105 => 242 | 21 => 21 | 0 => 0 | 5 => 5 | 119 => 262 | 46 => 193 | 139 => 265 | 138 => 264 | n => n, fun | 3 => 4 | 4 => 5 | n => n⟩
theorem Tryz.lays268 : Go.Proofs.Lays.n268 Tryz.prog Tryz.lays268_ren := {
  mixed := by kernel_rfl
  f195 := Tryz.func253.trans (congrArg some (by kernel_rfl))
  f197 := Tryz.func254.trans (congrArg some (by kernel_rfl))
  f260 := Tryz.func269.trans (congrArg some (by kernel_rfl))
  f268 := Tryz.func228.trans (congrArg some (by kernel_rfl))
  t0 := Tryz.underlying0
  a0 := Tryz.isAgg0
  z0 := Tryz.sizeOf0
  v0 := Tryz.zeroValue0
  t3 := Tryz.underlying3
  a3 := Tryz.isAgg3
  z3 := Tryz.sizeOf3
  v3 := Tryz.zeroValue3
  t4 := Tryz.underlying4
  a4 := Tryz.isAgg4
  z4 := Tryz.sizeOf4
  v4 := Tryz.zeroValue4
  t5 := Tryz.underlying5
  a5 := Tryz.isAgg5
  z5 := Tryz.sizeOf5
  v5 := Tryz.zeroValue5
  t9 := Tryz.underlying9
  a9 := Tryz.isAgg9
  z9 := Tryz.sizeOf9
  v9 := Tryz.zeroValue9
  t21 := Tryz.underlying21
  a21 := Tryz.isAgg21
  z21 := Tryz.sizeOf21
  v21 := Tryz.zeroValue21
  t31 := Tryz.underlying95
  a31 := Tryz.isAgg95
  z31 := Tryz.sizeOf95
  v31 := Tryz.zeroValue95
  t46 := Tryz.underlying193
  a46 := Tryz.isAgg193
  z46 := Tryz.sizeOf193
  v46 := Tryz.zeroValue193
  t105 := Tryz.underlying242
  a105 := Tryz.isAgg242
  z105 := Tryz.sizeOf242
  v105 := Tryz.zeroValue242
  t119 := Tryz.underlying262
  a119 := Tryz.isAgg262
  z119 := Tryz.sizeOf262
  t138 := Tryz.underlying264
  a138 := Tryz.isAgg264
  z138 := Tryz.sizeOf264
  v138 := Tryz.zeroValue264
  t139 := Tryz.underlying265
  a139 := Tryz.isAgg265
  z139 := Tryz.sizeOf265
  v139 := Tryz.zeroValue265
  g3 := by kernel_rfl
  g4 := by kernel_rfl }
open Go.RowKit Go.Lib in
theorem Tryz.strings_explode_all (s : ByteArray) (n : Int) (w : World) (hn : n < 0) (hs : s.size < 4294967281) (hascii : ∀ (j : Nat) b, s.data.toList[j]? = some b → b.toNat < 128) :
    Calls Tryz.prog 228 #[.string s, .int .i64 n] w fun e w' =>
      e = .returned (.slice (some ⟨(w.iter s s.size).heap.size, 0, none⟩) s.size s.size) ∧ w' = (w.iter s s.size).alloc (.cells ((Lib.charsB s).map Value.string).toArray 9) := Any.strings_explode_all Tryz.lays268 (by kernel_rfl) s n w hn hs hascii
open Go.RowKit Go.Lib in
/-- strings.genSplit at sep == "", n < 0: 'return explode(s, n)'. (LAID: no walk: one application.) -/
theorem Tryz.strings_genSplit_chars (s sep : ByteArray) (sv n : Int) (w : World) (h0 : sep.size = 0) (hn : n < 0) (hs : s.size < 4294967281) (hascii : ∀ (j : Nat) b, s.data.toList[j]? = some b → b.toNat < 128) :
    Calls Tryz.prog 163 #[.string s, .string sep, .int .i64 sv, .int .i64 n] w fun e w' =>
      e = .returned (.slice (some ⟨(w.iter s s.size).heap.size, 0, none⟩) s.size s.size) ∧ w' = (w.iter s s.size).alloc (.cells ((Lib.charsB s).map Value.string).toArray 9) := Any.strings_genSplit_chars Tryz.lays221 (by kernel_rfl) s sep sv n w h0 hn hs hascii
open Go.RowKit Go.Lib in
/-- strings.Split(s, ""), s ASCII: a piece a byte. (LAID: no walk: one application.) -/
theorem Tryz.strings_Split_chars (s sep : ByteArray) (w : World) (h0 : sep.size = 0) (hs : s.size < 4294967281) (hascii : ∀ (j : Nat) b, s.data.toList[j]? = some b → b.toNat < 128) :
    Calls Tryz.prog 66 #[.string s, .string sep] w fun e w' =>
      e = .returned (.slice (some ⟨(w.iter s s.size).heap.size, 0, none⟩) s.size s.size) ∧ w' = (w.iter s s.size).alloc (.cells ((Lib.charsB s).map Value.string).toArray 9) := Any.strings_Split_chars Tryz.lays146 (by kernel_rfl) s sep w h0 hs hascii
def Tryz.lays260_ren : Go.Shelf.Ren := ⟨fun | 260 => 269 | n => n, fun | 9 => 9 | 21 => 21 | 3 => 3 | 4 => 4 | 5 => 5 | 119 => 262 | 0 => 0 | 46 => 193 | 139 => 265 | 138 => 264 | n => n, fun | 3 => 4 | 4 => 5 | n => n⟩
theorem Tryz.lays260 : Go.Proofs.Lays.n260 Tryz.prog Tryz.lays260_ren := {
  mixed := by kernel_rfl
  f260 := Tryz.func269.trans (congrArg some (by kernel_rfl))
  t0 := Tryz.underlying0
  a0 := Tryz.isAgg0
  z0 := Tryz.sizeOf0
  v0 := Tryz.zeroValue0
  t3 := Tryz.underlying3
  a3 := Tryz.isAgg3
  z3 := Tryz.sizeOf3
  v3 := Tryz.zeroValue3
  t4 := Tryz.underlying4
  a4 := Tryz.isAgg4
  z4 := Tryz.sizeOf4
  v4 := Tryz.zeroValue4
  t5 := Tryz.underlying5
  a5 := Tryz.isAgg5
  z5 := Tryz.sizeOf5
  v5 := Tryz.zeroValue5
  t9 := Tryz.underlying9
  a9 := Tryz.isAgg9
  z9 := Tryz.sizeOf9
  v9 := Tryz.zeroValue9
  t21 := Tryz.underlying21
  a21 := Tryz.isAgg21
  z21 := Tryz.sizeOf21
  v21 := Tryz.zeroValue21
  t46 := Tryz.underlying193
  a46 := Tryz.isAgg193
  z46 := Tryz.sizeOf193
  v46 := Tryz.zeroValue193
  t119 := Tryz.underlying262
  a119 := Tryz.isAgg262
  z119 := Tryz.sizeOf262
  t138 := Tryz.underlying264
  a138 := Tryz.isAgg264
  z138 := Tryz.sizeOf264
  v138 := Tryz.zeroValue264
  t139 := Tryz.underlying265
  a139 := Tryz.isAgg265
  z139 := Tryz.sizeOf265
  v139 := Tryz.zeroValue265
  g3 := by kernel_rfl
  g4 := by kernel_rfl }
open Go.RowKit Go.Lib in
theorem Tryz.utf8_decodeRuneInStringSlow (s : ByteArray) (w : World) (hT : Lib.Utf8Tabs 4 5 w) :
    Calls Tryz.prog 269 #[.string s] w fun e w' => e = .returned (.tuple #[.int .i32 (Lib.decodeGo s).1, .int .i64 (Lib.decodeGo s).2]) ∧ Below w.heap.size w w' := Any.utf8_decodeRuneInStringSlow Tryz.lays260 s w hT
open Go.RowKit Go.Lib in
/-- **unicode/utf8.DecodeRuneInString AT EVERY STRING.** (LAID: no walk: one application.) -/
theorem Tryz.utf8_DecodeRuneInString (s : ByteArray) (w : World) (hT : Lib.Utf8Tabs 4 5 w) :
    Calls Tryz.prog 254 #[.string s] w fun e w' => e = .returned (.tuple #[.int .i32 (Lib.decodeGo s).1, .int .i64 (Lib.decodeGo s).2]) ∧ Below w.heap.size w w' := Any.utf8_DecodeRuneInString Tryz.lays197 s w hT
end Go.Proofs
set_option maxRecDepth 100000
namespace Go.Proofs.YtbladfkakmdigaaGreatDoor
open Go.SX
def KK : Nat → Option KSpec
  | 102 => some kJoin
  | 277 => some kIndexByteString
  | 255 => some kCountString
  | 259 => some kNoEscape
  | _ => none
theorem has102 : Has Tryz.prog 102 := ⟨Tryz.f102, Tryz.func102, by kernel_rfl, by kernel_rfl⟩
theorem KKok (I : World → Prop) : ∀ f sp, KK f = some sp → KOk Tryz.prog I f sp := by
  intro f sp h
  unfold KK at h
  split at h
  · cases h
    exact kJoin_ok has102 (fun a c sep w => Tryz.strings_Join_none a c sep w) fun bk o c xs sep w h1 h2 h3 h4 h5 => Tryz.strings_Join bk o c xs sep w h1 h2 h3 h4 h5
  · cases h
    exact kIndexByteString_ok Tryz.func277 (by kernel_rfl) (by kernel_rfl) (by kernel_rfl) (by kernel_rfl)
  · cases h
    exact kCountString_ok Tryz.func255 (by kernel_rfl) (by kernel_rfl) (by kernel_rfl) (by kernel_rfl)
  · cases h
    exact kNoEscape_ok Tryz.func259 (by kernel_rfl) (by kernel_rfl) (by kernel_rfl) (by kernel_rfl)
  · cases h
/-- The tables that the library lays, as they stand in a world. -/
def I13 (w : World) : Prop := ∀ g cells, GG g = some cells → ∀ i u, cells[i]? = some u → w.cell? ⟨g, i, none⟩ = some u
theorem I13.mod {w w' : World} (h : I13 w) (hm : Mod w w' fun _ => False) : I13 w' := by
  intro g cells hg i u hu
  have h1 := h g cells hg i u hu
  have h2 := hm.block g (cell_lt h1) id
  simp only [World.cell?] at h1 ⊢
  rw [h2]
  exact h1
theorem wrap8 (x : Int) : 0 ≤ IntKind.u8.wrap x ∧ IntKind.u8.wrap x ≤ 255 := by
  have h2 : IntKind.u8.wrap x = x % 256 := by simp [IntKind.wrap, IntKind.signed, IntKind.bits]
  rw [h2]; omega
theorem wrapu (x : Int) : 0 ≤ IntKind.u64.wrap x ∧ IntKind.u64.wrap x ≤ 18446744073709551615 := by
  have h2 : IntKind.u64.wrap x = x % 18446744073709551616 := by simp [IntKind.wrap, IntKind.signed, IntKind.bits]
  rw [h2]; omega
theorem bAt_nums (l : List Int) (q : Nat) (n : Int) (hq : l[q]? = some n) (hn : 0 ≤ n ∧ n ≤ 255) : bAt (strOfNums l) q = n := by
  unfold bAt
  rw [strOfNums_data]
  simp only [Int.toNat_natCast, List.getD_eq_getElem?_getD, List.getElem?_map, hq, Option.map_some, Option.getD_some]
  simp
  omega
end Go.Proofs.YtbladfkakmdigaaGreatDoor
set_option maxRecDepth 100000
namespace Go.Proofs.YtbladfkakmdigaaGreatDoor
open Go.SX
/-! ### strconv.ParseUint, of little numbers -/
def low (c : Int) : Int := IntKind.u8.wrap (BitVec.ofInt IntKind.u8.bits c ||| BitVec.ofInt IntKind.u8.bits 32).toNat
theorem low_range (c : Int) : 0 ≤ low c ∧ low c ≤ 255 := wrap8 _
theorem lower_ret (c : Int) (w : World) : Ret Tryz.prog 251 [.int .u8 c] w (.int .u8 (low c)) := by
  refine Ret.tj (I := fun _ => True) (fun _ _ => trivial) (TTok 0 _) Tryz.func251 (by kernel_rfl) rfl ?_
  repeat' (
    (conv => whnf)
    first
      | (with_reducible first
          | refine TJ.seq ?_
          | refine TJ.region (TTok _ _) ?_
          | refine TJ.drawn (TTok _ _) mixed ?_
          | refine TJ.cond rfl ?_
          | refine TJ.block ?_
          | refine TJ.loop ?_
          | refine LJ.step ?_
          | refine TJ.ret ?_
          | refine TJ.exit ?_
          | refine TJ.skip ?_
          | refine TJ.scope ?_
          | refine TJ.label ?_
          | refine Nm.keep ?_))
  all_goals (conv => whnf)
  all_goals rfl
def badV : Value := .tuple #[.int .u64 0, .iface 209 (.int .i64 2)]
def greatV (max : Int) : Value := .tuple #[.int .u64 max, .iface 209 (.int .i64 1)]
def goodV (n : Int) : Value := .tuple #[.int .u64 n, .nilIface]
/-- A digit. -/
def dig (c : Int) : Option Int := if 48 ≤ c ∧ c ≤ 57 then some (c - 48) else if 97 ≤ low c ∧ low c ≤ 122 then some (low c - 97 + 10) else none
def puR (base max : Int) : Int → List Int → Value
  | n, [] => goodV n
  | n, c :: r => match dig c with
    | none => badV
    | some d => if base ≤ d then badV else if max < n * base + d then greatV max else puR base max (n * base + d) r
theorem subL_byt (ns : List Int) (q : Nat) (n : Int) (h : ns[q]? = some n) : subL (byt ns) q 1 = some [.v (.int .u8 n)] := by
  induction ns generalizing q with
  | nil => simp at h
  | cons m r ih =>
    cases q with
    | zero =>
      simp only [List.getElem?_cons_zero, Option.some.injEq] at h
      subst h
      cases r <;> rfl
    | succ q =>
      simp only [byt, List.map_cons, subL]
      exact ih q (by simpa using h)
theorem sInts_get (s : ByteArray) (q : Nat) (h : q < s.size) : (sInts s)[q]? = some (bAt s q) := by
  have h' : q < s.data.toList.length := by simpa using h
  simp only [sInts, List.getElem?_map, List.getElem?_eq_getElem h', Option.map_some, bAt, Int.toNat_natCast, List.getD, Option.getD_some]
theorem bAt_range (s : ByteArray) (q : Int) : 0 ≤ bAt s q ∧ bAt s q ≤ 255 := by
  unfold bAt
  have := (s.data.toList.getD q.toNat 0).toNat_lt
  omega
def pbase (v6 : Bool) : Int := if v6 then 16 else 10
def pbits (v6 : Bool) : Int := if v6 then 16 else 8
def pmax (v6 : Bool) : Int := if v6 then 65535 else 255
def puV (v6 : Bool) (s : ByteArray) : Value := if s.size = 0 then badV else puR (pbase v6) (pmax v6) 0 (sInts s)
theorem dig_a {c : Int} (h : 48 ≤ c ∧ c ≤ 57) : dig c = some (c - 48) := by rw [dig, if_pos h]
theorem dig_b {c : Int} (h : ¬ (48 ≤ c ∧ c ≤ 57)) (h2 : 97 ≤ low c ∧ low c ≤ 122) : dig c = some (low c - 97 + 10) := by rw [dig, if_neg h, if_pos h2]
theorem dig_n {c : Int} (h : ¬ (48 ≤ c ∧ c ≤ 57)) (h2 : ¬ (97 ≤ low c ∧ low c ≤ 122)) : dig c = none := by rw [dig, if_neg h, if_neg h2]
theorem puR_bad1 {b m n c : Int} {r : List Int} (h : dig c = none) : puR b m n (c :: r) = badV := by simp only [puR, h]
theorem puR_bad2 {b m n c d : Int} {r : List Int} (h : dig c = some d) (hb : b ≤ d) : puR b m n (c :: r) = badV := by simp only [puR, h, if_pos hb]
theorem puR_great {b m n c d : Int} {r : List Int} (h : dig c = some d) (hb : ¬ b ≤ d) (hm : m < n * b + d) : puR b m n (c :: r) = greatV m := by simp only [puR, h, if_neg hb, if_pos hm]
theorem puR_go {b m n c d : Int} {r : List Int} (h : dig c = some d) (hb : ¬ b ≤ d) (hm : ¬ m < n * b + d) : puR b m n (c :: r) = puR b m (n * b + d) r := by simp only [puR, h, if_neg hb, if_neg hm]
theorem drop_bAt (s : ByteArray) (q : Int) (h0 : 0 ≤ q) (h1 : q < s.size) : (sInts s).drop q.toNat = bAt s q :: (sInts s).drop (q + 1).toNat := by
  have hl : q.toNat < (sInts s).length := by rw [sInts_length]; omega
  have h2 := sInts_get s q.toNat (by omega)
  rw [show ((q.toNat : Nat) : Int) = q by omega, List.getElem?_eq_getElem hl] at h2
  rw [List.drop_eq_getElem_cons hl, Option.some.inj h2, show (q + 1).toNat = q.toNat + 1 by omega]
end Go.Proofs.YtbladfkakmdigaaGreatDoor
set_option maxRecDepth 100000
namespace Go.Proofs.YtbladfkakmdigaaGreatDoor
open Go.SX
set_option maxHeartbeats 4000000 in
theorem pu_ret6 (s : ByteArray) (w : World) (hs : s.size < 4294967281) : Ret Tryz.prog 227 [.string s, .int .i64 16, .int .i64 16] w (if s = ⟨#[]⟩ then badV else puR 16 65535 0 (sInts s)) := by
  have low1 : ∀ c w, Ret Tryz.prog 251 [.int .u8 c] w (.int .u8 (low c)) := fun c w => lower_ret c w
  refine Ret.of (I := fun _ => True) (fun _ _ => trivial) (TTok 0 _) Tryz.func227 (by kernel_rfl) rfl rfl ?_
  repeat' (
    (conv => whnf)
    first
      | (with_reducible first
          | refine TR.seq ?_
          | refine TR.region (TTok _ _) ?_
          | refine TR.drawn (TTok _ _) mixed ?_
          | refine TR.block ?_
          | refine TR.ret ?_
          | refine TR.exit ?_
          | refine TR.skip ?_
          | refine TR.condB rfl ?_
          | refine Br.cond_t ?_
          | refine Br.cond_f ?_
          | refine Br.yes (by first | decide | assumption | (apply decide_eq_true; omega)) ?_
          | refine Br.non (by first | decide | assumption | (apply decide_eq_false; omega)) ?_
          | refine Br.cond_ff ?_
          | refine Br.eqT (by omega) ?_
          | refine Br.eqF (by omega) ?_
          | refine Br.neT (by omega) ?_
          | refine Br.neF (by omega) ?_
          | refine Br.dec (fun hc => ?_) (fun hc => ?_)
          | refine Nm.mk' 65535 (by decide) ?_
          | refine Ld.mk' _ rfl ?_
          | refine Need.mk (by first | decide | omega | kernel_rfl) ?_
          | refine Nm.i64 (by omega) ?_
          | refine Nm.u64 (by omega) ?_
          | refine Nm.u8 (by omega) ?_
          | refine Sh.shrL ?_
          | refine Sh.shlL ?_
          | refine Nm.fd (by decide) ?_
          | refine x_str_bytes (d := 5) (TTok _ _) rfl rfl rfl rfl rfl rfl rfl rfl rfl ?_))
  · (conv => whnf)
    rw [if_pos hc]
    rfl
  rw [if_neg hc]
  have hlen : (sInts s).length = s.size := sInts_length s
  refine TR.loopH (fun x : Int × Int => [(101, .v (.int .i64 x.1)), (13, .v (.int .u64 x.2)), (12, .v (.bool false))]) (fun _ => []) (fun x => 0 ≤ x.1 ∧ x.1 ≤ s.size ∧ 0 ≤ x.2 ∧ x.2 ≤ 65535 ∧ puR 16 65535 x.2 ((sInts s).drop x.1.toNat) = puR 16 65535 0 (sInts s)) (fun x => (s.size - x.1).toNat) (0, 0) ⟨by omega, by omega, by omega, by omega, by simp⟩ ?_ ?_
  · repeat' ((conv => whnf); first | exact trivial | exact Fgt.nil | exact Fgt.mk rfl rfl rfl | refine And.intro rfl ?_ | refine And.intro ?_ ?_)
  · rintro ⟨q, n⟩ ⟨q0, q1, n0, n1, hV⟩
    simp only at q0 q1 n0 n1 hV
    have hb := bAt_range s q
    have hl := low_range (bAt s q)
    repeat' (
      (conv => whnf)
      first
        | (with_reducible first
            | refine TR.seq ?_
            | refine TR.region (TTok _ _) ?_
            | refine TR.drawn (TTok _ _) mixed ?_
            | refine TR.block ?_
            | refine TR.ret ?_
            | refine TR.exit ?_
            | refine TR.skip ?_
            | refine TR.condB rfl ?_
            | refine Br.cond_t ?_
            | refine Br.cond_f ?_
            | refine Br.yes (by first | decide | assumption | (apply decide_eq_true; omega)) ?_
            | refine Br.non (by first | decide | assumption | (apply decide_eq_false; omega)) ?_
            | refine Br.cond_ff ?_
            | refine Br.eqT (by omega) ?_
            | refine Br.eqF (by omega) ?_
            | refine Br.neT (by omega) ?_
            | refine Br.neF (by omega) ?_
            | refine Ld.mk' _ rfl ?_
            | refine Need.mk (by first | decide | omega | kernel_rfl) ?_
            | refine Nm.i64 (by omega) ?_
            | refine Nm.u64 (by omega) ?_
            | refine Nm.u8 (by omega) ?_
            | refine Br.dec (fun hc => ?_) (fun hc => ?_)
            | refine Br.eq (fun hc => ?_) (fun hc => ?_)
            | refine Br.ne (fun hc => ?_) (fun hc => ?_)
            | refine Br.mk (fun hc => ?_) (fun hc => ?_)
            | refine x_ret (f := 251) rfl rfl (fun w _ => low1 _ w) ?_)
        | refine Ld.mk' [.v (.int .u8 (bAt s q))] (by have h := subL_byt (sInts s) q.toNat (bAt s q) (by have := sInts_get s q.toNat (by omega); rwa [show ((q.toNat : Nat) : Int) = q by omega] at this); rw [show q.toNat = 0 * 1 + q.toNat * 1 by omega] at h; exact h) ?_)
    all_goals (conv => whnf)
    all_goals dsimp only at *
    all_goals try
      have hd := drop_bAt s q q0 (by omega)
      first
        | (have e := puR_bad1 (b := 16) (m := 65535) (n := n) (r := (sInts s).drop (q + 1).toNat) (dig_n (c := bAt s q) (by omega) (by omega)); rw [← hV, hd, e]; rfl)
        | (have e := puR_bad2 (b := 16) (m := 65535) (n := n) (r := (sInts s).drop (q + 1).toNat) (dig_a (c := bAt s q) (by omega)) (by omega); rw [← hV, hd, e]; rfl)
        | (have e := puR_bad2 (b := 16) (m := 65535) (n := n) (r := (sInts s).drop (q + 1).toNat) (dig_b (c := bAt s q) (by omega) (by omega)) (by omega); rw [← hV, hd, e]; rfl)
        | (have e := puR_great (b := 16) (m := 65535) (n := n) (r := (sInts s).drop (q + 1).toNat) (dig_a (c := bAt s q) (by omega)) (by omega) (by omega); rw [← hV, hd, e]; rfl)
        | (have e := puR_great (b := 16) (m := 65535) (n := n) (r := (sInts s).drop (q + 1).toNat) (dig_b (c := bAt s q) (by omega) (by omega)) (by omega) (by omega); rw [← hV, hd, e]; rfl)
        | (have e := puR_go (b := 16) (m := 65535) (n := n) (r := (sInts s).drop (q + 1).toNat) (dig_a (c := bAt s q) (by omega)) (by omega) (by omega)
           refine ⟨(q + 1, n * 16 + (bAt s q - 48)), ⟨by dsimp only; omega, by dsimp only; omega, by dsimp only; omega, by dsimp only; omega, by dsimp only; rw [← hV, hd, e]⟩, by dsimp only; omega, ?_⟩
           repeat' ((conv => whnf); first | exact trivial | exact Fgt.nil | exact Fgt.mk rfl rfl rfl | refine And.intro rfl ?_ | refine And.intro ?_ ?_))
        | (have e := puR_go (b := 16) (m := 65535) (n := n) (r := (sInts s).drop (q + 1).toNat) (dig_b (c := bAt s q) (by omega) (by omega)) (by omega) (by omega)
           refine ⟨(q + 1, n * 16 + (low (bAt s q) - 97 + 10)), ⟨by dsimp only; omega, by dsimp only; omega, by dsimp only; omega, by dsimp only; omega, by dsimp only; rw [← hV, hd, e]⟩, by dsimp only; omega, ?_⟩
           repeat' ((conv => whnf); first | exact trivial | exact Fgt.nil | exact Fgt.mk rfl rfl rfl | refine And.intro rfl ?_ | refine And.intro ?_ ?_))
    all_goals
      have e : (sInts s).drop q.toNat = [] := List.drop_eq_nil_of_le (by rw [hlen]; omega)
      rw [← hV, e]
      rfl
set_option maxHeartbeats 4000000 in
theorem pu_ret4 (s : ByteArray) (w : World) (hs : s.size < 4294967281) : Ret Tryz.prog 227 [.string s, .int .i64 10, .int .i64 8] w (if s = ⟨#[]⟩ then badV else puR 10 255 0 (sInts s)) := by
  have low1 : ∀ c w, Ret Tryz.prog 251 [.int .u8 c] w (.int .u8 (low c)) := fun c w => lower_ret c w
  refine Ret.of (I := fun _ => True) (fun _ _ => trivial) (TTok 0 _) Tryz.func227 (by kernel_rfl) rfl rfl ?_
  repeat' (
    (conv => whnf)
    first
      | (with_reducible first
          | refine TR.seq ?_
          | refine TR.region (TTok _ _) ?_
          | refine TR.drawn (TTok _ _) mixed ?_
          | refine TR.block ?_
          | refine TR.ret ?_
          | refine TR.exit ?_
          | refine TR.skip ?_
          | refine TR.condB rfl ?_
          | refine Br.cond_t ?_
          | refine Br.cond_f ?_
          | refine Br.yes (by first | decide | assumption | (apply decide_eq_true; omega)) ?_
          | refine Br.non (by first | decide | assumption | (apply decide_eq_false; omega)) ?_
          | refine Br.cond_ff ?_
          | refine Br.eqT (by omega) ?_
          | refine Br.eqF (by omega) ?_
          | refine Br.neT (by omega) ?_
          | refine Br.neF (by omega) ?_
          | refine Br.dec (fun hc => ?_) (fun hc => ?_)
          | refine Nm.mk' 255 (by decide) ?_
          | refine Ld.mk' _ rfl ?_
          | refine Need.mk (by first | decide | omega | kernel_rfl) ?_
          | refine Nm.i64 (by omega) ?_
          | refine Nm.u64 (by omega) ?_
          | refine Nm.u8 (by omega) ?_
          | refine Sh.shrL ?_
          | refine Sh.shlL ?_
          | refine Nm.fd (by decide) ?_
          | refine x_str_bytes (d := 5) (TTok _ _) rfl rfl rfl rfl rfl rfl rfl rfl rfl ?_))
  · (conv => whnf)
    rw [if_pos hc]
    rfl
  rw [if_neg hc]
  have hlen : (sInts s).length = s.size := sInts_length s
  refine TR.loopH (fun x : Int × Int => [(101, .v (.int .i64 x.1)), (13, .v (.int .u64 x.2)), (12, .v (.bool false))]) (fun _ => []) (fun x => 0 ≤ x.1 ∧ x.1 ≤ s.size ∧ 0 ≤ x.2 ∧ x.2 ≤ 255 ∧ puR 10 255 x.2 ((sInts s).drop x.1.toNat) = puR 10 255 0 (sInts s)) (fun x => (s.size - x.1).toNat) (0, 0) ⟨by omega, by omega, by omega, by omega, by simp⟩ ?_ ?_
  · repeat' ((conv => whnf); first | exact trivial | exact Fgt.nil | exact Fgt.mk rfl rfl rfl | refine And.intro rfl ?_ | refine And.intro ?_ ?_)
  · rintro ⟨q, n⟩ ⟨q0, q1, n0, n1, hV⟩
    simp only at q0 q1 n0 n1 hV
    have hb := bAt_range s q
    have hl := low_range (bAt s q)
    repeat' (
      (conv => whnf)
      first
        | (with_reducible first
            | refine TR.seq ?_
            | refine TR.region (TTok _ _) ?_
            | refine TR.drawn (TTok _ _) mixed ?_
            | refine TR.block ?_
            | refine TR.ret ?_
            | refine TR.exit ?_
            | refine TR.skip ?_
            | refine TR.condB rfl ?_
            | refine Br.cond_t ?_
            | refine Br.cond_f ?_
            | refine Br.yes (by first | decide | assumption | (apply decide_eq_true; omega)) ?_
            | refine Br.non (by first | decide | assumption | (apply decide_eq_false; omega)) ?_
            | refine Br.cond_ff ?_
            | refine Br.eqT (by omega) ?_
            | refine Br.eqF (by omega) ?_
            | refine Br.neT (by omega) ?_
            | refine Br.neF (by omega) ?_
            | refine Ld.mk' _ rfl ?_
            | refine Need.mk (by first | decide | omega | kernel_rfl) ?_
            | refine Nm.i64 (by omega) ?_
            | refine Nm.u64 (by omega) ?_
            | refine Nm.u8 (by omega) ?_
            | refine Br.dec (fun hc => ?_) (fun hc => ?_)
            | refine Br.eq (fun hc => ?_) (fun hc => ?_)
            | refine Br.ne (fun hc => ?_) (fun hc => ?_)
            | refine Br.mk (fun hc => ?_) (fun hc => ?_)
            | refine x_ret (f := 251) rfl rfl (fun w _ => low1 _ w) ?_)
        | refine Ld.mk' [.v (.int .u8 (bAt s q))] (by have h := subL_byt (sInts s) q.toNat (bAt s q) (by have := sInts_get s q.toNat (by omega); rwa [show ((q.toNat : Nat) : Int) = q by omega] at this); rw [show q.toNat = 0 * 1 + q.toNat * 1 by omega] at h; exact h) ?_)
    all_goals (conv => whnf)
    all_goals dsimp only at *
    all_goals try
      have hd := drop_bAt s q q0 (by omega)
      first
        | (have e := puR_bad1 (b := 10) (m := 255) (n := n) (r := (sInts s).drop (q + 1).toNat) (dig_n (c := bAt s q) (by omega) (by omega)); rw [← hV, hd, e]; rfl)
        | (have e := puR_bad2 (b := 10) (m := 255) (n := n) (r := (sInts s).drop (q + 1).toNat) (dig_a (c := bAt s q) (by omega)) (by omega); rw [← hV, hd, e]; rfl)
        | (have e := puR_bad2 (b := 10) (m := 255) (n := n) (r := (sInts s).drop (q + 1).toNat) (dig_b (c := bAt s q) (by omega) (by omega)) (by omega); rw [← hV, hd, e]; rfl)
        | (have e := puR_great (b := 10) (m := 255) (n := n) (r := (sInts s).drop (q + 1).toNat) (dig_a (c := bAt s q) (by omega)) (by omega) (by omega); rw [← hV, hd, e]; rfl)
        | (have e := puR_great (b := 10) (m := 255) (n := n) (r := (sInts s).drop (q + 1).toNat) (dig_b (c := bAt s q) (by omega) (by omega)) (by omega) (by omega); rw [← hV, hd, e]; rfl)
        | (have e := puR_go (b := 10) (m := 255) (n := n) (r := (sInts s).drop (q + 1).toNat) (dig_a (c := bAt s q) (by omega)) (by omega) (by omega)
           refine ⟨(q + 1, n * 10 + (bAt s q - 48)), ⟨by dsimp only; omega, by dsimp only; omega, by dsimp only; omega, by dsimp only; omega, by dsimp only; rw [← hV, hd, e]⟩, by dsimp only; omega, ?_⟩
           repeat' ((conv => whnf); first | exact trivial | exact Fgt.nil | exact Fgt.mk rfl rfl rfl | refine And.intro rfl ?_ | refine And.intro ?_ ?_))
        | (have e := puR_go (b := 10) (m := 255) (n := n) (r := (sInts s).drop (q + 1).toNat) (dig_b (c := bAt s q) (by omega) (by omega)) (by omega) (by omega)
           refine ⟨(q + 1, n * 10 + (low (bAt s q) - 97 + 10)), ⟨by dsimp only; omega, by dsimp only; omega, by dsimp only; omega, by dsimp only; omega, by dsimp only; rw [← hV, hd, e]⟩, by dsimp only; omega, ?_⟩
           repeat' ((conv => whnf); first | exact trivial | exact Fgt.nil | exact Fgt.mk rfl rfl rfl | refine And.intro rfl ?_ | refine And.intro ?_ ?_))
    all_goals
      have e : (sInts s).drop q.toNat = [] := List.drop_eq_nil_of_le (by rw [hlen]; omega)
      rw [← hV, e]
      rfl
end Go.Proofs.YtbladfkakmdigaaGreatDoor
set_option maxRecDepth 100000
namespace Go.Proofs.YtbladfkakmdigaaGreatDoor
open Go.SX
/-- Two variables that hold errors. -/
def GE (u2 : TypeId) (v2 : Value) (u3 : TypeId) (v3 : Value) : Nat → Option (List Value)
  | 0 => some [.iface u2 v2]
  | 1 => some [.iface u3 v3]
  | _ => none
def IE (u2 : TypeId) (v2 : Value) (u3 : TypeId) (v3 : Value) (w : World) : Prop := w.cell? ⟨0, 0, none⟩ = some (.iface u2 v2) ∧ w.cell? ⟨1, 0, none⟩ = some (.iface u3 v3)
theorem GE_ok {u2 v2 u3 v3} : ∀ w, IE u2 v2 u3 v3 w → ∀ g cells, GE u2 v2 u3 v3 g = some cells → ∀ i u, cells[i]? = some u → w.cell? ⟨g, i, none⟩ = some u := by
  intro w hw g cells hg i u hu
  unfold GE at hg
  split at hg
  · cases hg
    cases i with
    | zero => simp at hu; rw [← hu]; exact hw.1
    | succ i => simp at hu
  · cases hg
    cases i with
    | zero => simp at hu; rw [← hu]; exact hw.2
    | succ i => simp at hu
  · cases hg
theorem IE.mod {u2 v2 u3 v3} {w w' : World} (h : IE u2 v2 u3 v3 w) (hm : Mod w w' fun _ => False) : IE u2 v2 u3 v3 w' := by
  obtain ⟨h1, h2⟩ := h
  have k : ∀ g u, w.cell? ⟨g, 0, none⟩ = some u → w'.cell? ⟨g, 0, none⟩ = some u := by
    intro g u hg
    have hb := hm.block g (cell_lt hg) id
    simp only [World.cell?] at hg ⊢
    rw [hb]
    exact hg
  exact ⟨k 0 _ h1, k 1 _ h2⟩
theorem clone_ret (s : ByteArray) (w : World) (hs : s.size < 4294967281) : Ret Tryz.prog 243 [.string s] w (.string s) :=
  Ret.shelf Tryz.func243 (by kernel_rfl) (by kernel_rfl) (Tryz.stringslite_Clone s w (by omega))
def PU : ByteArray := ⟨#[80, 97, 114, 115, 101, 85, 105, 110, 116]⟩
theorem toErr_ret (s : ByteArray) (hs : s.size < 4294967281) (base bits e : Int) (he : e = 1 ∨ e = 2) {u2 v2 u3 v3} (w : World) (hI : IE u2 v2 u3 v3 w) :
    RetA Tryz.prog 114 [.string PU, .string s, .int .i64 base, .int .i64 bits, .iface 209 (.int .i64 e)] w (.ifc 212 .dead) := by
  have cl : ∀ w, Ret Tryz.prog 243 [.string s] w (.string s) := fun w => clone_ret s w hs
  rcases he with rfl | rfl
  all_goals refine RetA.tj (I := IE u2 v2 u3 v3) (fun w' hm => hI.mod hm) (TTok 0 _) Tryz.func114 (by kernel_rfl) rfl ?_
  all_goals repeat' (
    (conv => whnf)
    first
      | (with_reducible first
          | refine TJ.seq ?_
          | refine TJ.region (TTok _ _) ?_
          | refine TJ.drawn (TTok _ _) mixed ?_
          | refine TJ.cond rfl ?_
          | refine TJ.block ?_
          | refine TJ.loop ?_
          | refine LJ.step ?_
          | refine TJ.ret ?_
          | refine TJ.exit ?_
          | refine TJ.skip ?_
          | refine TJ.scope ?_
          | refine TJ.label ?_
          | refine Br.cond_t ?_
          | refine Br.cond_f ?_
          | refine Br.yes (by first | decide | assumption | (apply decide_eq_true; omega)) ?_
          | refine Br.non (by first | decide | assumption | (apply decide_eq_false; omega)) ?_
          | refine Br.cond_ff ?_
          | refine Br.eqT (by omega) ?_
          | refine Br.eqF (by omega) ?_
          | refine Br.neT (by omega) ?_
          | refine Br.neF (by omega) ?_
          | refine Ld.mk' _ rfl ?_
          | refine Need.mk (by first | decide | omega | kernel_rfl) ?_
          | refine Nm.i64 (by omega) ?_
          | refine Nm.u64 (by omega) ?_
          | refine Nm.u8 (by omega) ?_
          | refine x_eq_ifc_int (TTok _ _) .eql (.inl rfl) rfl rfl rfl rfl rfl rfl rfl (by kernel_rfl) ?_
          | refine x_ret (f := 243) rfl rfl (fun w _ => cl w) ?_
          | refine x_call (f := 198) (TTok _ _) rfl rfl Tryz.func198 (by kernel_rfl) rfl ?_
          | refine x_call (f := 199) (TTok _ _) rfl rfl Tryz.func199 (by kernel_rfl) rfl ?_)
      | refine x_exG (G := GE u2 v2 u3 v3) (TTok _ _) GE_ok ?_)
  all_goals (conv => whnf)
  all_goals rfl
theorem pu29_good (s : ByteArray) (B T k : Int) (h40 : ∀ w, Ret Tryz.prog 227 [.string s, .int .i64 B, .int .i64 T] w (goodV k)) (w : World) : Ret Tryz.prog 162 [.string s, .int .i64 B, .int .i64 T] w (goodV k) := by
  refine Ret.tj (I := fun _ => True) (fun _ _ => trivial) (TTok 0 _) Tryz.func162 (by kernel_rfl) rfl ?_
  repeat' (
    (conv => whnf)
    first
      | (with_reducible first
          | refine TJ.seq ?_
          | refine TJ.region (TTok _ _) ?_
          | refine TJ.drawn (TTok _ _) mixed ?_
          | refine TJ.cond rfl ?_
          | refine TJ.block ?_
          | refine TJ.loop ?_
          | refine LJ.step ?_
          | refine TJ.ret ?_
          | refine TJ.exit ?_
          | refine TJ.skip ?_
          | refine TJ.scope ?_
          | refine TJ.label ?_
          | refine Br.cond_t ?_
          | refine Br.cond_f ?_
          | refine Br.yes (by first | decide | assumption | (apply decide_eq_true; omega)) ?_
          | refine Br.non (by first | decide | assumption | (apply decide_eq_false; omega)) ?_
          | refine Br.cond_ff ?_
          | refine Br.eqT (by omega) ?_
          | refine Br.eqF (by omega) ?_
          | refine Br.neT (by omega) ?_
          | refine Br.neF (by omega) ?_
          | refine Ld.mk' _ rfl ?_
          | refine Need.mk (by first | decide | omega | kernel_rfl) ?_
          | refine Nm.i64 (by omega) ?_
          | refine Nm.u64 (by omega) ?_
          | refine Nm.u8 (by omega) ?_
          | refine x_ret (f := 227) rfl rfl (fun w _ => h40 w) ?_))
  all_goals (conv => whnf)
  all_goals rfl
theorem pu29_bad (s : ByteArray) (hs : s.size < 4294967281) (B T x e : Int) (he : e = 1 ∨ e = 2) (h40 : ∀ w, Ret Tryz.prog 227 [.string s, .int .i64 B, .int .i64 T] w (.tuple #[.int .u64 x, .iface 209 (.int .i64 e)])) {u2 v2 u3 v3} (w : World) (hI : IE u2 v2 u3 v3 w) :
    RetA Tryz.prog 162 [.string s, .int .i64 B, .int .i64 T] w (.tup [.v (.int .u64 x), .ifc 212 .dead]) := by
  refine RetA.tj (I := IE u2 v2 u3 v3) (fun w' hm => hI.mod hm) (TTok 0 _) Tryz.func162 (by kernel_rfl) rfl ?_
  repeat' (
    (conv => whnf)
    first
      | (with_reducible first
          | refine TJ.seq ?_
          | refine TJ.region (TTok _ _) ?_
          | refine TJ.drawn (TTok _ _) mixed ?_
          | refine TJ.cond rfl ?_
          | refine TJ.block ?_
          | refine TJ.loop ?_
          | refine LJ.step ?_
          | refine TJ.ret ?_
          | refine TJ.exit ?_
          | refine TJ.skip ?_
          | refine TJ.scope ?_
          | refine TJ.label ?_
          | refine Br.cond_t ?_
          | refine Br.cond_f ?_
          | refine Br.yes (by first | decide | assumption | (apply decide_eq_true; omega)) ?_
          | refine Br.non (by first | decide | assumption | (apply decide_eq_false; omega)) ?_
          | refine Br.cond_ff ?_
          | refine Br.eqT (by omega) ?_
          | refine Br.eqF (by omega) ?_
          | refine Br.neT (by omega) ?_
          | refine Br.neF (by omega) ?_
          | refine Ld.mk' _ rfl ?_
          | refine Need.mk (by first | decide | omega | kernel_rfl) ?_
          | refine Nm.i64 (by omega) ?_
          | refine Nm.u64 (by omega) ?_
          | refine Nm.u8 (by omega) ?_
          | refine x_ret (f := 227) rfl rfl (fun w _ => h40 w) ?_
          | refine x_retA (f := 114) rfl rfl (fun w hw => toErr_ret s hs B T e he w hw) ?_))
  all_goals (conv => whnf)
  all_goals rfl
end Go.Proofs.YtbladfkakmdigaaGreatDoor
set_option maxRecDepth 100000
namespace Go.Proofs.YtbladfkakmdigaaGreatDoor
open Go.SX
/-! ### acl.Parse -/
def puO (base max : Int) : Int → List Int → Option Int
  | n, [] => some n
  | n, c :: r => match dig c with
    | none => none
    | some d => if base ≤ d then none else if max < n * base + d then none else puO base max (n * base + d) r
def puN (v6 : Bool) (p : ByteArray) : Option Int := if p = ⟨#[]⟩ then none else puO (pbase v6) (pmax v6) 0 (sInts p)
theorem puR_of (base max : Int) (hb : 0 ≤ base) (hm : 0 ≤ max) : ∀ (l : List Int) (n : Int), 0 ≤ n → n ≤ max → (∃ k, puO base max n l = some k ∧ 0 ≤ k ∧ k ≤ max ∧ puR base max n l = goodV k) ∨ (puO base max n l = none ∧ ∃ x e, (e = 1 ∨ e = 2) ∧ puR base max n l = .tuple #[.int .u64 x, .iface 209 (.int .i64 e)])
  | [], n, h0, h1 => .inl ⟨n, rfl, h0, h1, rfl⟩
  | c :: r, n, h0, h1 => by
    simp only [puO, puR]
    cases hd : dig c with
    | none => exact .inr ⟨rfl, 0, 2, .inr rfl, rfl⟩
    | some d =>
      have hd0 : 0 ≤ d := by
        unfold dig at hd
        split at hd
        · cases hd; omega
        · split at hd
          · cases hd; omega
          · cases hd
      simp only
      split
      · exact .inr ⟨rfl, 0, 2, .inr rfl, rfl⟩
      · split
        · exact .inr ⟨rfl, max, 1, .inl rfl, rfl⟩
        · have := Int.mul_nonneg h0 hb
          exact puR_of base max hb hm r (n * base + d) (by omega) (by omega)
/-- One part: a number, or none. -/
theorem part_cases (v6 : Bool) (p : ByteArray) (hp : p.size < 4294967281) :
    (∃ k, puN v6 p = some k ∧ 0 ≤ k ∧ k ≤ pmax v6 ∧ ∀ w, Ret Tryz.prog 162 [.string p, .int .i64 (pbase v6), .int .i64 (pbits v6)] w (goodV k)) ∨
    (puN v6 p = none ∧ ∃ x, ∀ u2 v2 u3 v3 w, IE u2 v2 u3 v3 w → RetA Tryz.prog 162 [.string p, .int .i64 (pbase v6), .int .i64 (pbits v6)] w (.tup [.v (.int .u64 x), .ifc 212 .dead])) := by
  have h40 : ∀ w, Ret Tryz.prog 227 [.string p, .int .i64 (pbase v6), .int .i64 (pbits v6)] w (if p = ⟨#[]⟩ then badV else puR (pbase v6) (pmax v6) 0 (sInts p)) := fun w => by
    cases v6
    · exact pu_ret4 p w hp
    · exact pu_ret6 p w hp
  unfold puN
  by_cases he : p = ⟨#[]⟩
  · simp only [if_pos he] at h40
    rw [if_pos he]
    exact .inr ⟨rfl, 0, fun u2 v2 u3 v3 w hw => pu29_bad p hp _ _ 0 2 (.inr rfl) h40 w hw⟩
  · simp only [if_neg he] at h40
    rw [if_neg he]
    rcases puR_of (pbase v6) (pmax v6) (by cases v6 <;> decide) (by cases v6 <;> decide) (sInts p) 0 (by omega) (by cases v6 <;> decide) with ⟨k, h1, h2, h3, h4⟩ | ⟨h1, x, e, he, h4⟩
    · rw [h4] at h40
      exact .inl ⟨k, h1, h2, h3, fun w => pu29_good p _ _ k h40 w⟩
    · rw [h4] at h40
      exact .inr ⟨h1, x, fun u2 v2 u3 v3 w hw => pu29_bad p hp _ _ x e he h40 w hw⟩
def shlU (d a : Int) : Int := IntKind.u64.wrap (a * d)
def orU (a b : Int) : Int := IntKind.u64.wrap (BitVec.ofInt IntKind.u64.bits a ||| BitVec.ofInt IntKind.u64.bits b).toNat
theorem Nm.shlU {a d : Int} {f : Int → Prop} (k : f (shlU d a)) : Nm (IntKind.u64.wrap (a * d)) f := ⟨_, rfl, k⟩
theorem Nm.orU {a b : Int} {f : Int → Prop} (k : f (orU a b)) : Nm (IntKind.u64.wrap (BitVec.ofInt IntKind.u64.bits a ||| BitVec.ofInt IntKind.u64.bits b).toNat) f := ⟨_, rfl, k⟩
theorem Br.ndec {p : Prop} [Decidable p] {f : Bool → Prop} (h1 : ¬ p → f true) (h2 : p → f false) : Br (!decide p) f :=
  Br.not (fun h => h1 (of_decide_eq_false h)) (fun h => h2 (of_decide_eq_true h))
def IM (w : World) : Prop := ∃ m, w.cell? ⟨3, 0, none⟩ = some (.int .i64 m)
theorem IM.mod {w w' : World} (h : IM w) (hm : Mod w w' fun _ => False) : IM w' := by
  obtain ⟨m, h⟩ := h
  refine ⟨m, ?_⟩
  have hb := hm.block 3 (cell_lt h) id
  simp only [World.cell?] at h ⊢
  rw [hb]
  exact h
end Go.Proofs.YtbladfkakmdigaaGreatDoor
set_option maxRecDepth 100000
namespace Go.Proofs.YtbladfkakmdigaaGreatDoor
open Go.SX
/-! ### examples() -/
theorem quiet249 : Quiet Tryz.prog 249 := by
  refine quiet_take (TTok 0 _) Tryz.func249 (by kernel_rfl) rfl rfl rfl rfl rfl rfl rfl (by decide) rfl ?_
  repeat' (
    (conv => whnf)
    first
      | (with_reducible first
          | refine TR.seq ?_
          | refine TR.region (TTok _ _) ?_
          | refine TR.drawn (TTok _ _) mixed ?_
          | refine TR.block ?_
          | refine TR.ret ?_
          | refine TR.exit ?_
          | refine TR.skip ?_
          | refine TR.condB rfl ?_
          | refine Br.cond_t ?_
          | refine Br.cond_f ?_
          | refine Br.yes (by first | decide | assumption | (apply decide_eq_true; omega)) ?_
          | refine Br.non (by first | decide | assumption | (apply decide_eq_false; omega)) ?_
          | refine Br.cond_ff ?_
          | refine Br.eqT (by omega) ?_
          | refine Br.eqF (by omega) ?_
          | refine Br.neT (by omega) ?_
          | refine Br.neF (by omega) ?_
          | refine Ld.mk' _ rfl ?_
          | refine Need.mk (by first | decide | omega | kernel_rfl) ?_
          | refine Nm.i64 (by omega) ?_
          | refine Nm.u64 (by omega) ?_
          | refine Nm.u8 (by omega) ?_)
      | (refine x_exq (TTok _ _) ?_; (conv => whnf); fail_if_success (guard_target =ₛ False)))
  all_goals (conv => whnf)
  all_goals trace_state
def Kd : Nat → Bool
  | 249 => true
  | _ => false
theorem Kd_ok : ∀ f, Kd f = true → Quiet Tryz.prog f := by
  intro f h
  unfold Kd at h
  split at h
  · exact quiet249
  · cases h
/-- strconv.ParseUint of a byte in decimal digits. -/
def Ka : Nat → List Value → Option AV
  | 162, [.string s, .int .i64 (.ofNat 10), .int .i64 (.ofNat 8)] => match Nat.ble s.data.toList.length 1000 with
    | true => match puN false s with
      | some k => some (.v (.tuple #[.int .u64 k, .nilIface]))
      | none => some (.tup [.dead, .ifc 212 .dead])
    | false => none
  | _, _ => none
theorem Ka_ok {u2 v2 u3 v3} (I : World → Prop) (hI : ∀ w, I w → IE u2 v2 u3 v3 w) : ∀ f vs R, Ka f vs = some R → ∀ w, I w → RetA Tryz.prog f vs w R := by
  intro f vs R h w hw
  unfold Ka at h
  split at h
  · rename_i s
    split at h
    · rename_i hl
      have hs : s.size < 4294967281 := by
        have := Nat.le_of_ble_eq_true hl
        simp at this
        omega
      rcases part_cases false s hs with ⟨k, h1, _, _, h4⟩ | ⟨h1, x, h4⟩
      · rw [h1] at h
        cases h
        exact (h4 w).toA
      · rw [h1] at h
        cases h
        have := h4 _ _ _ _ w (hI w hw)
        refine ⟨this.has, this.run.mono fun e w' ⟨v, e1, e2, e3⟩ => ⟨v, e1, fun vs ez ρ => ?_, e3⟩⟩
        have g := e2 vs ez ρ
        simp only [rel] at g ⊢
        obtain ⟨xs, g1, g2⟩ := g
        refine ⟨xs, g1, ?_⟩
        match hx : xs.toList, g2 with
        | [a, b], g2 =>
          simp only [relL, rel] at g2 ⊢
          exact ⟨trivial, g2.2⟩
    · cases h
  · cases h
end Go.Proofs.YtbladfkakmdigaaGreatDoor
set_option maxRecDepth 100000
namespace Go.Proofs.YtbladfkakmdigaaGreatDoor
open Go.SX
/-- What is known of the world where the chapter is at work. -/
structure IC (u2 : TypeId) (v2 : Value) (u3 : TypeId) (v3 : Value) (w : World) : Prop where
  t : I13 w
  e : IE u2 v2 u3 v3 w
  b : Lib.TabIs Tryz.prog w "internal/strconv.uint64pow10" .u64 Lib.pow10Tab
theorem tab_mod {w w' : World} (h : Lib.TabIs Tryz.prog w "internal/strconv.uint64pow10" .u64 Lib.pow10Tab) (hm : Mod w w' fun _ => False) : Lib.TabIs Tryz.prog w' "internal/strconv.uint64pow10" .u64 Lib.pow10Tab := by
  have hg : Tryz.prog.globalNamed "internal/strconv.uint64pow10" = some 2 := by kernel_rfl
  unfold Lib.TabIs World.var? at h ⊢
  rw [hg] at h ⊢
  simp only [Option.bind_some] at h ⊢
  have hlt : 2 < w.heap.size := by
    rcases Nat.lt_or_ge 2 w.heap.size with h1 | h1
    · exact h1
    · simp [Array.getElem?_eq_none h1] at h
  rw [hm.block 2 hlt id]
  exact h
theorem IC.mod {u2 v2 u3 v3} {w w' : World} (h : IC u2 v2 u3 v3 w) (hm : Mod w w' fun _ => False) : IC u2 v2 u3 v3 w' := ⟨h.t.mod hm, h.e.mod hm, tab_mod h.b hm⟩
theorem examples_run : runFD Kd Ka 248 KK GG (fun f => Tryz.prog.funcs[f]?) TT 1000 14 Tryz.f14 [] (wantB true) = true := by kernel_rfl
theorem examples_ret {u2 v2 u3 v3} {w : World} (h : IC u2 v2 u3 v3 w) : Ret Tryz.prog 14 [] w (.bool true) := by
  have hr := examples_run
  unfold runFD at hr
  split at hr
  · rename_i c hb
    exact Ret.runBD (I := IC u2 v2 u3 v3) (fun w' hm => h.mod hm) (fun f => Tryz.prog.funcs[f]?) GG (fun w hw => hw.t) Kd Kd_ok Ka (Ka_ok _ fun w hw => hw.e) 248 Tryz.underlying248 KK (KKok _) 1000 14 (TTok 0 _) mixed (fun f fn hf => hf) Tryz.func14 (by kernel_rfl) hb hr wantB_eq
  · cases hr
end Go.Proofs.YtbladfkakmdigaaGreatDoor
set_option maxRecDepth 100000
namespace Go.Proofs.YtbladfkakmdigaaGreatDoor
open Go.SX
/-! ### strconv.Itoa; data.TypeText -/
theorem mod_grown {w : World} {k : Nat} {os : Array Obj} : Go.SX.Mod w (Go.Sort.grow (w.drewN k) os) fun _ => False := by
  refine ⟨rfl, rfl, rfl, by simp [Go.Sort.grow], fun b hb _ => ?_⟩
  simp only [Go.Sort.grow]
  rw [Array.getElem?_append_left (by simpa using hb)]
  rfl
def itS (n : Int) : ByteArray := ⟨⟨Lib.itoa n⟩⟩
theorem itoa_ret {u2 v2 u3 v3} (n : Int) (hn : 0 ≤ n ∧ n < 65536) (w : World) (hI : IC u2 v2 u3 v3 w) : Ret Tryz.prog 58 [.int .i64 n] w (.string (itS n)) := by
  refine ⟨⟨_, Tryz.func58, by kernel_rfl, by kernel_rfl⟩, (Tryz.strconv_Itoa n (by omega) (by omega) w hI.b).mono ?_⟩
  rintro e w' ⟨rfl, k, os, rfl⟩
  exact ⟨rfl, mod_grown⟩
theorem istype_ret (kind : Int) (b : Bool) (hb : b = true ↔ 0 ≤ kind ∧ kind < 65536) (w : World) : Ret Tryz.prog 56 [.int .i64 kind] w (.bool b) := by
  have hc : (kind < 0 ∧ b = false) ∨ (0 ≤ kind ∧ kind < 65536 ∧ b = true) ∨ (0 ≤ kind ∧ 65536 ≤ kind ∧ b = false) := by
    by_cases h : 0 ≤ kind ∧ kind < 65536
    · exact .inr (.inl ⟨h.1, h.2, hb.2 h⟩)
    · have hbf : b = false := by cases b with
        | false => rfl
        | true => exact absurd (hb.1 rfl) h
      rw [hbf]
      rcases (by omega : kind < 0 ∨ (0 ≤ kind ∧ 65536 ≤ kind)) with h | h
      · exact .inl ⟨h, rfl⟩
      · exact .inr (.inr ⟨h.1, h.2, rfl⟩)
  rcases hc with ⟨h1, rfl⟩ | ⟨h1, h2, rfl⟩ | ⟨h0, h1, rfl⟩
  all_goals refine Ret.tj (I := fun _ => True) (fun _ _ => trivial) (TTok 0 _) Tryz.func56 (by kernel_rfl) rfl ?_
  all_goals repeat' (
    (conv => whnf)
    first
      | (with_reducible first
          | refine TJ.seq ?_
          | refine TJ.region (TTok _ _) ?_
          | refine TJ.drawn (TTok _ _) mixed ?_
          | refine TJ.cond rfl ?_
          | refine TJ.block ?_
          | refine TJ.loop ?_
          | refine LJ.step ?_
          | refine TJ.ret ?_
          | refine TJ.exit ?_
          | refine TJ.skip ?_
          | refine TJ.scope ?_
          | refine TJ.label ?_
          | refine Br.cond_t ?_
          | refine Br.cond_f ?_
          | refine Br.yes (by first | decide | assumption | (apply decide_eq_true; omega)) ?_
          | refine Br.non (by first | decide | assumption | (apply decide_eq_false; omega)) ?_
          | refine Br.cond_ff ?_
          | refine Br.eqT (by omega) ?_
          | refine Br.eqF (by omega) ?_
          | refine Br.neT (by omega) ?_
          | refine Br.neF (by omega) ?_
          | refine Ld.mk' _ rfl ?_
          | refine Need.mk (by first | decide | omega | kernel_rfl) ?_
          | refine Nm.i64 (by omega) ?_
          | refine Nm.u64 (by omega) ?_
          | refine Nm.u8 (by omega) ?_)
      | refine x_exq (TTok _ _) ?_)
  all_goals (conv => whnf)
  all_goals (simp only [val])
  all_goals congr 2
  all_goals (simp; try omega)
def tyT (kind : Int) : Option ByteArray := if kind = 1 then some ⟨#[65]⟩ else if kind = 2 then some ⟨#[78, 83]⟩ else if kind = 5 then some ⟨#[67, 78, 65, 77, 69]⟩ else if kind = 6 then some ⟨#[83, 79, 65]⟩ else if kind = 15 then some ⟨#[77, 88]⟩ else if kind = 16 then some ⟨#[84, 88, 84]⟩ else if kind = 28 then some ⟨#[65, 65, 65, 65]⟩ else if kind = 39 then some ⟨#[68, 78, 65, 77, 69]⟩ else if kind = 41 then some ⟨#[79, 80, 84]⟩ else if kind = 43 then some ⟨#[68, 83]⟩ else if kind = 46 then some ⟨#[82, 82, 83, 73, 71]⟩ else if kind = 47 then some ⟨#[78, 83, 69, 67]⟩ else if kind = 48 then some ⟨#[68, 78, 83, 75, 69, 89]⟩ else if kind = 50 then some ⟨#[78, 83, 69, 67, 51]⟩ else if kind = 255 then some ⟨#[65, 78, 89]⟩ else none
def ttV (kind : Int) : Value := if 0 ≤ kind ∧ kind < 65536 then match tyT kind with
    | some s => .tuple #[.string s, .int .i64 0]
    | none => .tuple #[.string (⟨#[84, 89, 80, 69]⟩ ++ itS kind), .int .i64 0]
  else .tuple #[.string ⟨#[]⟩, .int .i64 1]
theorem itS_size (kind : Int) (h : 0 ≤ kind ∧ kind < 65536) : 1 ≤ (itS kind).size ∧ (itS kind).size ≤ 5 := by
  have e : (itS kind).size = Lib.nDigits kind.toNat := by
    unfold itS Lib.itoa
    rw [if_neg (by omega)]
    show (Lib.decDigits kind.toNat).length = _
    exact Lib.decDigits_length _
  rw [e]
  generalize hn : kind.toNat = n
  have hb : n < 65536 := by omega
  unfold Lib.nDigits
  split
  · omega
  · unfold Lib.nDigits
    split
    · omega
    · unfold Lib.nDigits
      split
      · omega
      · unfold Lib.nDigits
        split
        · omega
        · unfold Lib.nDigits
          split
          · omega
          · omega
set_option maxHeartbeats 8000000 in
theorem ttext_ret {u2 v2 u3 v3} (kind : Int) (w : World) (hI : IC u2 v2 u3 v3 w) : Ret Tryz.prog 15 [.int .i64 kind] w (ttV kind) := by
  unfold ttV
  by_cases hk : 0 ≤ kind ∧ kind < 65536
  · rw [if_pos hk]
    have h56 := fun w => istype_ret kind true (by simpa using hk) w
    have h58 := fun w (hw : IC u2 v2 u3 v3 w) => itoa_ret kind hk w hw
    have hz := itS_size kind hk
    generalize itS kind = it at h58 hz
    have hz4 : (⟨#[84, 89, 80, 69]⟩ : ByteArray).size = 4 := rfl
    refine Ret.tj (I := IC u2 v2 u3 v3) (fun w' hm => hI.mod hm) (TTok 0 _) Tryz.func15 (by kernel_rfl) rfl ?_
    repeat' (
      (conv => whnf)
      first
        | (with_reducible first
            | refine TJ.seq ?_
            | refine TJ.region (TTok _ _) ?_
            | refine TJ.drawn (TTok _ _) mixed ?_
            | refine TJ.cond rfl ?_
            | refine TJ.block ?_
            | refine TJ.loop ?_
            | refine LJ.step ?_
            | refine TJ.ret ?_
            | refine TJ.exit ?_
            | refine TJ.skip ?_
            | refine TJ.scope ?_
            | refine TJ.label ?_
            | refine Br.cond_t ?_
            | refine Br.cond_f ?_
            | refine Br.yes (by first | decide | assumption | (apply decide_eq_true; omega)) ?_
            | refine Br.non (by first | decide | assumption | (apply decide_eq_false; omega)) ?_
            | refine Br.cond_ff ?_
            | refine Br.eqT (by omega) ?_
            | refine Br.eqF (by omega) ?_
            | refine Br.neT (by omega) ?_
            | refine Br.neF (by omega) ?_
            | refine Br.eq (fun hc => ?_) (fun hc => ?_)
            | refine Ld.mk' _ rfl ?_
            | refine Need.mk (by first | decide | omega | kernel_rfl) ?_
            | refine Nm.i64 (by omega) ?_
            | refine Nm.u64 (by omega) ?_
            | refine Nm.u8 (by omega) ?_
            | refine x_ret (f := 56) rfl rfl (fun w _ => h56 w) ?_
            | refine x_ret (f := 58) rfl rfl (fun w hw => h58 w hw) ?_)
        | refine x_call (f := 57) (TTok _ _) rfl rfl Tryz.func57 (by kernel_rfl) rfl ?_
        | refine Nm.keep ?_
        | refine x_exq (TTok _ _) ?_)
    all_goals (conv => whnf)
    all_goals first
      | (subst hc; rfl)
      | (rw [show tyT kind = none by
          unfold tyT
          rw [if_neg (by omega), if_neg (by omega), if_neg (by omega), if_neg (by omega), if_neg (by omega), if_neg (by omega), if_neg (by omega), if_neg (by omega), if_neg (by omega), if_neg (by omega), if_neg (by omega), if_neg (by omega), if_neg (by omega), if_neg (by omega), if_neg (by omega)]]
         rfl)
  · rw [if_neg hk]
    have h56 := fun w => istype_ret kind false (by simpa using hk) w
    refine Ret.tj (I := IC u2 v2 u3 v3) (fun w' hm => hI.mod hm) (TTok 0 _) Tryz.func15 (by kernel_rfl) rfl ?_
    repeat' (
      (conv => whnf)
      first
        | (with_reducible first
            | refine TJ.seq ?_
            | refine TJ.region (TTok _ _) ?_
            | refine TJ.drawn (TTok _ _) mixed ?_
            | refine TJ.cond rfl ?_
            | refine TJ.block ?_
            | refine TJ.loop ?_
            | refine LJ.step ?_
            | refine TJ.ret ?_
            | refine TJ.exit ?_
            | refine TJ.skip ?_
            | refine TJ.scope ?_
            | refine TJ.label ?_
            | refine Br.cond_t ?_
            | refine Br.cond_f ?_
            | refine Br.yes (by first | decide | assumption | (apply decide_eq_true; omega)) ?_
            | refine Br.non (by first | decide | assumption | (apply decide_eq_false; omega)) ?_
            | refine Br.cond_ff ?_
            | refine Br.eqT (by omega) ?_
            | refine Br.eqF (by omega) ?_
            | refine Br.neT (by omega) ?_
            | refine Br.neF (by omega) ?_
            | refine Ld.mk' _ rfl ?_
            | refine Need.mk (by first | decide | omega | kernel_rfl) ?_
            | refine Nm.i64 (by omega) ?_
            | refine Nm.u64 (by omega) ?_
            | refine Nm.u8 (by omega) ?_
            | refine x_ret (f := 56) rfl rfl (fun w _ => h56 w) ?_)
        | refine x_exq (TTok _ _) ?_)
    all_goals (conv => whnf)
    all_goals rfl
end Go.Proofs.YtbladfkakmdigaaGreatDoor
set_option maxRecDepth 100000
namespace Go.Proofs.YtbladfkakmdigaaGreatDoor
open Go.SX
/-! ### Data of types that are none of the table -/
def otherK (kind : Int) : Prop := kind ≠ 1 ∧ kind ≠ 28 ∧ kind ≠ 2 ∧ kind ≠ 5 ∧ kind ≠ 39 ∧ kind ≠ 6 ∧ kind ≠ 15 ∧ kind ≠ 16 ∧ kind ≠ 43 ∧ kind ≠ 46 ∧ kind ≠ 47 ∧ kind ≠ 48 ∧ kind ≠ 50
def formV : Value := .agg #[.func (.func 159) #[] #[], .func (.func 160) #[] #[], .func (.func 161) #[] #[], .nilFunc]
set_option maxHeartbeats 4000000 in
theorem form_ret (kind : Int) (h : otherK kind) (w : World) : Ret Tryz.prog 64 [.int .i64 kind] w formV := by
  obtain ⟨k1, k28, k2, k5, k39, k6, k15, k16, k43, k46, k47, k48, k50⟩ := h
  refine Ret.tj (I := fun _ => True) (fun _ _ => trivial) (TTok 0 _) Tryz.func64 (by kernel_rfl) rfl ?_
  repeat' (
    (conv => whnf)
    first
      | (with_reducible first
          | refine TJ.seq ?_
          | refine TJ.region (TTok _ _) ?_
          | refine TJ.drawn (TTok _ _) mixed ?_
          | refine TJ.cond rfl ?_
          | refine TJ.block ?_
          | refine TJ.loop ?_
          | refine LJ.step ?_
          | refine TJ.ret ?_
          | refine TJ.exit ?_
          | refine TJ.skip ?_
          | refine TJ.scope ?_
          | refine TJ.label ?_
          | refine Br.cond_t ?_
          | refine Br.cond_f ?_
          | refine Br.yes (by first | decide | assumption | (apply decide_eq_true; omega)) ?_
          | refine Br.non (by first | decide | assumption | (apply decide_eq_false; omega)) ?_
          | refine Br.cond_ff ?_
          | refine Br.eqT (by omega) ?_
          | refine Br.eqF (by omega) ?_
          | refine Br.neT (by omega) ?_
          | refine Br.neF (by omega) ?_
          | refine Ld.mk' _ rfl ?_
          | refine Need.mk (by first | decide | omega | kernel_rfl) ?_
          | refine Nm.i64 (by omega) ?_
          | refine Nm.u64 (by omega) ?_
          | refine Nm.u8 (by omega) ?_)
      | refine x_exq (TTok _ _) ?_)
  all_goals (conv => whnf)
  all_goals rfl
theorem other_ret (d : ByteArray) (w : World) : Ret Tryz.prog 159 [.string d] w (.bool true) := by
  refine Ret.tj (I := fun _ => True) (fun _ _ => trivial) (TTok 0 _) Tryz.func159 (by kernel_rfl) rfl ?_
  repeat' (
    (conv => whnf)
    first
      | (with_reducible first
          | refine TJ.seq ?_
          | refine TJ.region (TTok _ _) ?_
          | refine TJ.drawn (TTok _ _) mixed ?_
          | refine TJ.cond rfl ?_
          | refine TJ.block ?_
          | refine TJ.loop ?_
          | refine LJ.step ?_
          | refine TJ.ret ?_
          | refine TJ.exit ?_
          | refine TJ.skip ?_
          | refine TJ.scope ?_
          | refine TJ.label ?_
          | refine Br.cond_t ?_
          | refine Br.cond_f ?_
          | refine Br.yes (by first | decide | assumption | (apply decide_eq_true; omega)) ?_
          | refine Br.non (by first | decide | assumption | (apply decide_eq_false; omega)) ?_
          | refine Br.cond_ff ?_
          | refine Br.eqT (by omega) ?_
          | refine Br.eqF (by omega) ?_
          | refine Br.neT (by omega) ?_
          | refine Br.neF (by omega) ?_
          | refine Ld.mk' _ rfl ?_
          | refine Need.mk (by first | decide | omega | kernel_rfl) ?_
          | refine Nm.i64 (by omega) ?_
          | refine Nm.u64 (by omega) ?_
          | refine Nm.u8 (by omega) ?_)
      | refine x_exq (TTok _ _) ?_)
  all_goals (conv => whnf)
  all_goals rfl
theorem right_ret (kind : Int) (hk : 0 ≤ kind ∧ kind < 65536) (h : otherK kind) (d : ByteArray) (b : Bool) (hb : b = decide (d.size ≤ 2000)) (w : World) : Ret Tryz.prog 47 [.int .i64 kind, .string d] w (.bool b) := by
  have h56 := fun w => istype_ret kind true (by simpa using hk) w
  have h64 := fun w => form_ret kind h w
  have hc : (d.size ≤ 2000 ∧ b = true) ∨ (2000 < d.size ∧ b = false) := by
    by_cases hz : d.size ≤ 2000
    · exact .inl ⟨hz, by rw [hb, decide_eq_true hz]⟩
    · exact .inr ⟨by omega, by rw [hb, decide_eq_false hz]⟩
  rcases hc with ⟨hz, rfl⟩ | ⟨hz, rfl⟩
  all_goals refine Ret.tj (I := fun _ => True) (fun _ _ => trivial) (TTok 0 _) Tryz.func47 (by kernel_rfl) rfl ?_
  all_goals repeat' (
    (conv => whnf)
    first
      | (with_reducible first
          | refine TJ.seq ?_
          | refine TJ.region (TTok _ _) ?_
          | refine TJ.drawn (TTok _ _) mixed ?_
          | refine TJ.cond rfl ?_
          | refine TJ.block ?_
          | refine TJ.loop ?_
          | refine LJ.step ?_
          | refine TJ.ret ?_
          | refine TJ.exit ?_
          | refine TJ.skip ?_
          | refine TJ.scope ?_
          | refine TJ.label ?_
          | refine Br.cond_t ?_
          | refine Br.cond_f ?_
          | refine Br.yes (by first | decide | assumption | (apply decide_eq_true; omega)) ?_
          | refine Br.non (by first | decide | assumption | (apply decide_eq_false; omega)) ?_
          | refine Br.cond_ff ?_
          | refine Br.eqT (by omega) ?_
          | refine Br.eqF (by omega) ?_
          | refine Br.neT (by omega) ?_
          | refine Br.neF (by omega) ?_
          | refine Ld.mk' _ rfl ?_
          | refine Need.mk (by first | decide | omega | kernel_rfl) ?_
          | refine Nm.i64 (by omega) ?_
          | refine Nm.u64 (by omega) ?_
          | refine Nm.u8 (by omega) ?_
          | refine x_ret (f := 56) rfl rfl (fun w _ => h56 w) ?_
          | refine x_ret (f := 64) rfl rfl (fun w _ => h64 w) ?_)
      | refine x_call (f := 159) (TTok _ _) rfl rfl Tryz.func159 (by kernel_rfl) rfl ?_
      | (refine x_exq (TTok _ _) ?_; (conv => whnf); fail_if_success (guard_target =ₛ False)))
  all_goals (conv => whnf)
  all_goals rfl
theorem names_ret (kind : Int) (hk : 0 ≤ kind ∧ kind < 65536) (h : otherK kind) (d : ByteArray) (w : World) : Ret Tryz.prog 52 [.int .i64 kind, .string d] w (.slice none 0 0) := by
  have h64 := fun w => form_ret kind h w
  refine Ret.tj (I := fun _ => True) (fun _ _ => trivial) (TTok 0 _) Tryz.func52 (by kernel_rfl) rfl ?_
  repeat' (
    (conv => whnf)
    first
      | (with_reducible first
          | refine TJ.seq ?_
          | refine TJ.region (TTok _ _) ?_
          | refine TJ.drawn (TTok _ _) mixed ?_
          | refine TJ.cond rfl ?_
          | refine TJ.block ?_
          | refine TJ.loop ?_
          | refine LJ.step ?_
          | refine TJ.ret ?_
          | refine TJ.exit ?_
          | refine TJ.skip ?_
          | refine TJ.scope ?_
          | refine TJ.label ?_
          | refine Br.cond_t ?_
          | refine Br.cond_f ?_
          | refine Br.yes (by first | decide | assumption | (apply decide_eq_true; omega)) ?_
          | refine Br.non (by first | decide | assumption | (apply decide_eq_false; omega)) ?_
          | refine Br.cond_ff ?_
          | refine Br.eqT (by omega) ?_
          | refine Br.eqF (by omega) ?_
          | refine Br.neT (by omega) ?_
          | refine Br.neF (by omega) ?_
          | refine Ld.mk' _ rfl ?_
          | refine Need.mk (by first | decide | omega | kernel_rfl) ?_
          | refine Nm.i64 (by omega) ?_
          | refine Nm.u64 (by omega) ?_
          | refine Nm.u8 (by omega) ?_
          | refine x_ret (f := 64) rfl rfl (fun w _ => h64 w) ?_)
      | refine x_eq_fn_nil (TTok _ _) .neq (.inr rfl) rfl rfl rfl rfl ?_
      | (refine x_exq (TTok _ _) ?_; (conv => whnf); fail_if_success (guard_target =ₛ False)))
  all_goals (conv => whnf)
  all_goals rfl
theorem strOf_sInts (d : ByteArray) : strOfNums (sInts d) = d := by
  apply ByteArray.ext
  apply Array.toList_inj.1
  rw [strOfNums_data]
  unfold sInts
  rw [List.map_map]
  conv => rhs; rw [← List.map_id d.data.toList]
  apply List.map_congr_left
  intro b _
  simp
set_option maxHeartbeats 4000000 in
theorem lower54_ret (kind : Int) (hk : 0 ≤ kind ∧ kind < 65536) (h : otherK kind) (d : ByteArray) (w : World) : Ret Tryz.prog 54 [.int .i64 kind, .string d] w (.string d) := by
  have h47 := fun b hb w => right_ret kind hk h d b hb w
  have h52 := fun w => names_ret kind hk h d w
  obtain ⟨k1, k28, k2, k5, k39, k6, k15, k16, k43, k46, k47, k48, k50⟩ := h
  by_cases hz : d.size ≤ 2000
  · have h47 := fun w => h47 true (by rw [decide_eq_true hz]) w
    have hsub : subL (byt (sInts d)) 0 d.size = some (byt (sInts d)) := by
      have := subL_all' (byt (sInts d))
      rwa [show (byt (sInts d)).length = d.size by unfold byt; rw [List.length_map, sInts_length]] at this
    have hbk := strOf_sInts d
    refine Ret.tj (I := fun _ => True) (fun _ _ => trivial) (TTok 0 _) Tryz.func54 (by kernel_rfl) rfl ?_
    repeat' (
      (conv => whnf)
      first
        | (with_reducible first
            | refine TJ.seq ?_
            | refine TJ.region (TTok _ _) ?_
            | refine TJ.drawn (TTok _ _) mixed ?_
            | refine TJ.cond rfl ?_
            | refine TJ.block ?_
            | refine TJ.loop ?_
            | refine LJ.step ?_
            | refine TJ.ret ?_
            | refine TJ.exit ?_
            | refine TJ.skip ?_
            | refine TJ.scope ?_
            | refine TJ.label ?_
            | refine Br.cond_t ?_
            | refine Br.cond_f ?_
            | refine Br.yes (by first | decide | assumption | (apply decide_eq_true; omega)) ?_
            | refine Br.non (by first | decide | assumption | (apply decide_eq_false; omega)) ?_
            | refine Br.cond_ff ?_
            | refine Br.eqT (by omega) ?_
            | refine Br.eqF (by omega) ?_
            | refine Br.neT (by omega) ?_
            | refine Br.neF (by omega) ?_
            | refine Ld.mk' _ rfl ?_
            | refine Need.mk (by first | decide | omega | kernel_rfl) ?_
            | refine Nm.i64 (by omega) ?_
            | refine Nm.u64 (by omega) ?_
            | refine Nm.u8 (by omega) ?_
            | refine x_ret (f := 47) rfl rfl (fun w _ => h47 w) ?_
            | refine x_ret (f := 52) rfl rfl (fun w _ => h52 w) ?_)
        | refine x_str_bytes (d := 0) (TTok _ _) rfl rfl rfl rfl rfl rfl rfl rfl rfl ?_
        | refine x_bytes_str (ns := sInts d) (TTok _ _) rfl rfl rfl rfl rfl rfl rfl rfl rfl rfl rfl rfl hsub ?_
        | (refine x_exq (TTok _ _) ?_; (conv => whnf); fail_if_success (guard_target =ₛ False)))
    all_goals (conv => whnf)
    all_goals (simp only [val, hbk])
  · have h47 := fun w => h47 false (by rw [decide_eq_false hz]) w
    refine Ret.tj (I := fun _ => True) (fun _ _ => trivial) (TTok 0 _) Tryz.func54 (by kernel_rfl) rfl ?_
    repeat' (
      (conv => whnf)
      first
        | (with_reducible first
            | refine TJ.seq ?_
            | refine TJ.region (TTok _ _) ?_
            | refine TJ.drawn (TTok _ _) mixed ?_
            | refine TJ.cond rfl ?_
            | refine TJ.block ?_
            | refine TJ.loop ?_
            | refine LJ.step ?_
            | refine TJ.ret ?_
            | refine TJ.exit ?_
            | refine TJ.skip ?_
            | refine TJ.scope ?_
            | refine TJ.label ?_
            | refine Br.cond_t ?_
            | refine Br.cond_f ?_
            | refine Br.yes (by first | decide | assumption | (apply decide_eq_true; omega)) ?_
            | refine Br.non (by first | decide | assumption | (apply decide_eq_false; omega)) ?_
            | refine Br.cond_ff ?_
            | refine Br.eqT (by omega) ?_
            | refine Br.eqF (by omega) ?_
            | refine Br.neT (by omega) ?_
            | refine Br.neF (by omega) ?_
            | refine Ld.mk' _ rfl ?_
            | refine Need.mk (by first | decide | omega | kernel_rfl) ?_
            | refine Nm.i64 (by omega) ?_
            | refine Nm.u64 (by omega) ?_
            | refine Nm.u8 (by omega) ?_
            | refine x_ret (f := 47) rfl rfl (fun w _ => h47 w) ?_)
        | (refine x_exq (TTok _ _) ?_; (conv => whnf); fail_if_success (guard_target =ₛ False)))
    all_goals (conv => whnf)
    all_goals rfl
end Go.Proofs.YtbladfkakmdigaaGreatDoor
set_option maxRecDepth 100000
namespace Go.Proofs.YtbladfkakmdigaaGreatDoor
open Go.SX
/-! ### DataOthers -/
theorem tyT_cases (kind : Int) : (∃ k s, (k, s) ∈ ([(1, ⟨#[65]⟩), (2, ⟨#[78, 83]⟩), (5, ⟨#[67, 78, 65, 77, 69]⟩), (6, ⟨#[83, 79, 65]⟩), (15, ⟨#[77, 88]⟩), (16, ⟨#[84, 88, 84]⟩), (28, ⟨#[65, 65, 65, 65]⟩), (39, ⟨#[68, 78, 65, 77, 69]⟩), (41, ⟨#[79, 80, 84]⟩), (43, ⟨#[68, 83]⟩), (46, ⟨#[82, 82, 83, 73, 71]⟩), (47, ⟨#[78, 83, 69, 67]⟩), (48, ⟨#[68, 78, 83, 75, 69, 89]⟩), (50, ⟨#[78, 83, 69, 67, 51]⟩), (255, ⟨#[65, 78, 89]⟩)] : List (Int × ByteArray)) ∧ kind = k ∧ tyT kind = some s) ∨ (tyT kind = none ∧ kind ≠ 1 ∧ kind ≠ 2 ∧ kind ≠ 5 ∧ kind ≠ 6 ∧ kind ≠ 15 ∧ kind ≠ 16 ∧ kind ≠ 28 ∧ kind ≠ 39 ∧ kind ≠ 41 ∧ kind ≠ 43 ∧ kind ≠ 46 ∧ kind ≠ 47 ∧ kind ≠ 48 ∧ kind ≠ 50 ∧ kind ≠ 255) := by
  by_cases h1 : kind = 1
  · subst h1
    exact .inl ⟨1, ⟨#[65]⟩, by simp, rfl, rfl⟩
  by_cases h2 : kind = 2
  · subst h2
    exact .inl ⟨2, ⟨#[78, 83]⟩, by simp, rfl, rfl⟩
  by_cases h5 : kind = 5
  · subst h5
    exact .inl ⟨5, ⟨#[67, 78, 65, 77, 69]⟩, by simp, rfl, rfl⟩
  by_cases h6 : kind = 6
  · subst h6
    exact .inl ⟨6, ⟨#[83, 79, 65]⟩, by simp, rfl, rfl⟩
  by_cases h15 : kind = 15
  · subst h15
    exact .inl ⟨15, ⟨#[77, 88]⟩, by simp, rfl, rfl⟩
  by_cases h16 : kind = 16
  · subst h16
    exact .inl ⟨16, ⟨#[84, 88, 84]⟩, by simp, rfl, rfl⟩
  by_cases h28 : kind = 28
  · subst h28
    exact .inl ⟨28, ⟨#[65, 65, 65, 65]⟩, by simp, rfl, rfl⟩
  by_cases h39 : kind = 39
  · subst h39
    exact .inl ⟨39, ⟨#[68, 78, 65, 77, 69]⟩, by simp, rfl, rfl⟩
  by_cases h41 : kind = 41
  · subst h41
    exact .inl ⟨41, ⟨#[79, 80, 84]⟩, by simp, rfl, rfl⟩
  by_cases h43 : kind = 43
  · subst h43
    exact .inl ⟨43, ⟨#[68, 83]⟩, by simp, rfl, rfl⟩
  by_cases h46 : kind = 46
  · subst h46
    exact .inl ⟨46, ⟨#[82, 82, 83, 73, 71]⟩, by simp, rfl, rfl⟩
  by_cases h47 : kind = 47
  · subst h47
    exact .inl ⟨47, ⟨#[78, 83, 69, 67]⟩, by simp, rfl, rfl⟩
  by_cases h48 : kind = 48
  · subst h48
    exact .inl ⟨48, ⟨#[68, 78, 83, 75, 69, 89]⟩, by simp, rfl, rfl⟩
  by_cases h50 : kind = 50
  · subst h50
    exact .inl ⟨50, ⟨#[78, 83, 69, 67, 51]⟩, by simp, rfl, rfl⟩
  by_cases h255 : kind = 255
  · subst h255
    exact .inl ⟨255, ⟨#[65, 78, 89]⟩, by simp, rfl, rfl⟩
  refine .inr ⟨?_, h1, h2, h5, h6, h15, h16, h28, h39, h41, h43, h46, h47, h48, h50, h255⟩
  unfold tyT
  rw [if_neg h1, if_neg h2, if_neg h5, if_neg h6, if_neg h15, if_neg h16, if_neg h28, if_neg h39, if_neg h41, if_neg h43, if_neg h46, if_neg h47, if_neg h48, if_neg h50, if_neg h255]
set_option maxHeartbeats 8000000 in
theorem others_ret {u2 v2 u3 v3} (kind : Int) (d : ByteArray) (w : World) (hI : IC u2 v2 u3 v3 w) : Ret Tryz.prog 13 [.int .i64 kind, .string d] w (.bool true) := by
  have h15 := fun w (hw : IC u2 v2 u3 v3 w) => ttext_ret kind w hw
  unfold ttV at h15
  by_cases hk : 0 ≤ kind ∧ kind < 65536
  · rw [if_pos hk] at h15
    rcases tyT_cases kind with ⟨k, s, hm, rfl, hs⟩ | ⟨hs, k1, k2, k5, k6, k15, k16, k28, k39, k41, k43, k46, k47, k48, k50, k255⟩
    · rw [hs] at h15
      simp only at h15
      have hs5 : s.size < 5 ∨ (5 ≤ s.size ∧ ∃ e, s.extract 0 4 = e ∧ e ≠ ⟨#[84, 89, 80, 69]⟩) := by
        clear h15 hs hI hk
        simp only [List.mem_cons, List.not_mem_nil, or_false, Prod.mk.injEq] at hm
        rcases hm with ⟨_, rfl⟩ | ⟨_, rfl⟩ | ⟨_, rfl⟩ | ⟨_, rfl⟩ | ⟨_, rfl⟩ | ⟨_, rfl⟩ | ⟨_, rfl⟩ | ⟨_, rfl⟩ | ⟨_, rfl⟩ | ⟨_, rfl⟩ | ⟨_, rfl⟩ | ⟨_, rfl⟩ | ⟨_, rfl⟩ | ⟨_, rfl⟩ | ⟨_, rfl⟩ <;> first | (left; decide) | (right; exact ⟨by decide, _, rfl, by decide⟩)
      clear hm hs
      rcases hs5 with hz | ⟨hz, e, he, hne⟩
      · refine Ret.tj (I := IC u2 v2 u3 v3) (fun w' hm => hI.mod hm) (TTok 0 _) Tryz.func13 (by kernel_rfl) rfl ?_
        repeat' (
          (conv => whnf)
          first
            | (with_reducible first
                | refine TJ.seq ?_
                | refine TJ.region (TTok _ _) ?_
                | refine TJ.drawn (TTok _ _) mixed ?_
                | refine TJ.cond rfl ?_
                | refine TJ.block ?_
                | refine TJ.loop ?_
                | refine LJ.step ?_
                | refine TJ.ret ?_
                | refine TJ.exit ?_
                | refine TJ.skip ?_
                | refine TJ.scope ?_
                | refine TJ.label ?_
                | refine Br.cond_t ?_
                | refine Br.cond_f ?_
                | refine Br.yes (by first | decide | assumption | (apply decide_eq_true; omega)) ?_
                | refine Br.non (by first | decide | assumption | (apply decide_eq_false; omega)) ?_
                | refine Br.cond_ff ?_
                | refine Br.eqT (by omega) ?_
                | refine Br.eqF (by omega) ?_
                | refine Br.neT (by omega) ?_
                | refine Br.neF (by omega) ?_
                | refine Ld.mk' _ rfl ?_
                | refine Need.mk (by first | decide | omega | kernel_rfl) ?_
                | refine Nm.i64 (by omega) ?_
                | refine Nm.u64 (by omega) ?_
                | refine Nm.u8 (by omega) ?_
                | refine x_ret (f := 14) rfl rfl (fun w hw => examples_ret hw) ?_
                | refine x_ret (f := 15) rfl rfl (fun w hw => h15 w hw) ?_)
            | refine Br.yes rfl ?_
            | refine Br.non rfl ?_
            | (refine x_exq (TTok _ _) ?_; (conv => whnf); fail_if_success (guard_target =ₛ False)))
        all_goals (conv => whnf)
        all_goals rfl
      · refine Ret.tj (I := IC u2 v2 u3 v3) (fun w' hm => hI.mod hm) (TTok 0 _) Tryz.func13 (by kernel_rfl) rfl ?_
        repeat' (
          (conv => whnf)
          first
            | (with_reducible first
                | refine TJ.seq ?_
                | refine TJ.region (TTok _ _) ?_
                | refine TJ.drawn (TTok _ _) mixed ?_
                | refine TJ.cond rfl ?_
                | refine TJ.block ?_
                | refine TJ.loop ?_
                | refine LJ.step ?_
                | refine TJ.ret ?_
                | refine TJ.exit ?_
                | refine TJ.skip ?_
                | refine TJ.scope ?_
                | refine TJ.label ?_
                | refine Br.cond_t ?_
                | refine Br.cond_f ?_
                | refine Br.yes (by first | decide | assumption | (apply decide_eq_true; omega)) ?_
                | refine Br.non (by first | decide | assumption | (apply decide_eq_false; omega)) ?_
                | refine Br.cond_ff ?_
                | refine Br.eqT (by omega) ?_
                | refine Br.eqF (by omega) ?_
                | refine Br.neT (by omega) ?_
                | refine Br.neF (by omega) ?_
                | refine Ld.mk' _ rfl ?_
                | refine Need.mk (by first | decide | omega | kernel_rfl) ?_
                | refine Nm.i64 (by omega) ?_
                | refine Nm.u64 (by omega) ?_
                | refine Nm.u8 (by omega) ?_
                | refine x_ret (f := 14) rfl rfl (fun w hw => examples_ret hw) ?_
                | refine x_ret (f := 15) rfl rfl (fun w hw => h15 w hw) ?_)
            | refine Nm.mk' e he ?_
            | refine Br.yes (by simpa using hne) ?_
            | refine Br.yes rfl ?_
            | refine Br.non rfl ?_
            | (refine x_exq (TTok _ _) ?_; (conv => whnf); fail_if_success (guard_target =ₛ False)))
        all_goals (conv => whnf)
        all_goals rfl
    · rw [hs] at h15
      simp only at h15
      have ho : otherK kind := ⟨k1, k28, k2, k5, k39, k6, k15, k16, k43, k46, k47, k48, k50⟩
      have hz := itS_size kind hk
      have h52 := fun w => names_ret kind hk ho d w
      have h54 := fun w => lower54_ret kind hk ho d w
      have h47 := fun b hb w => right_ret kind hk ho d b hb w
      obtain ⟨S, hS⟩ : ∃ S, (⟨#[84, 89, 80, 69]⟩ : ByteArray) ++ itS kind = S := ⟨_, rfl⟩
      have hSz : 5 ≤ S.size := by
        rw [← hS, ByteArray.size_append]
        have : (⟨#[84, 89, 80, 69]⟩ : ByteArray).size = 4 := rfl
        omega
      have hSe : S.extract 0 4 = ⟨#[84, 89, 80, 69]⟩ := by
        rw [← hS]
        apply ByteArray.ext
        simp [ByteArray.data_extract, ByteArray.data_append]
      rw [hS] at h15
      clear hs
      have hs1 : decide (d = d) = true := by simp
      have hs2 : (!decide ((⟨#[84, 89, 80, 69]⟩ : ByteArray) = ⟨#[84, 89, 80, 69]⟩)) = false := by decide
      by_cases hd : d.size ≤ 2000
      · have h47 := fun w => h47 true (by rw [decide_eq_true hd]) w
        have hb1 : eqR BinOp.eql (true == decide ((d.size : Int) ≤ 2000)) = true := by simp [eqR]; omega
        refine Ret.tj (I := IC u2 v2 u3 v3) (fun w' hm => hI.mod hm) (TTok 0 _) Tryz.func13 (by kernel_rfl) rfl ?_
        repeat' (
          (conv => whnf)
          first
            | (with_reducible first
                | refine TJ.seq ?_
                | refine TJ.region (TTok _ _) ?_
                | refine TJ.drawn (TTok _ _) mixed ?_
                | refine TJ.cond rfl ?_
                | refine TJ.block ?_
                | refine TJ.loop ?_
                | refine LJ.step ?_
                | refine TJ.ret ?_
                | refine TJ.exit ?_
                | refine TJ.skip ?_
                | refine TJ.scope ?_
                | refine TJ.label ?_
                | refine Br.cond_t ?_
                | refine Br.cond_f ?_
                | refine Br.yes (by first | decide | assumption | (apply decide_eq_true; omega)) ?_
                | refine Br.non (by first | decide | assumption | (apply decide_eq_false; omega)) ?_
                | refine Br.cond_ff ?_
                | refine Br.eqT (by omega) ?_
                | refine Br.eqF (by omega) ?_
                | refine Br.neT (by omega) ?_
                | refine Br.neF (by omega) ?_
                | refine Ld.mk' _ rfl ?_
                | refine Need.mk (by first | decide | omega | kernel_rfl) ?_
                | refine Nm.i64 (by omega) ?_
                | refine Nm.u64 (by omega) ?_
                | refine Nm.u8 (by omega) ?_
                | refine x_ret (f := 14) rfl rfl (fun w hw => examples_ret hw) ?_
                | refine x_ret (f := 15) rfl rfl (fun w hw => h15 w hw) ?_
                | refine x_ret (f := 47) rfl rfl (fun w _ => h47 w) ?_
                | refine x_ret (f := 52) rfl rfl (fun w _ => h52 w) ?_
                | refine x_ret (f := 54) rfl rfl (fun w _ => h54 w) ?_)
            | refine Nm.mk' _ hSe ?_
            | refine Br.yes hb1 ?_
            | refine Br.yes rfl ?_
            | refine Br.non rfl ?_
            | refine Br.yes hs1 ?_
            | refine Br.non hs2 ?_
            | (refine x_exq (TTok _ _) ?_; (conv => whnf); fail_if_success (guard_target =ₛ False)))
        all_goals (conv => whnf)
        all_goals first | rfl | simp [val]
      · have h47 := fun w => h47 false (by rw [decide_eq_false hd]) w
        have hb1 : eqR BinOp.eql (false == decide ((d.size : Int) ≤ 2000)) = true := by simp [eqR]; omega
        refine Ret.tj (I := IC u2 v2 u3 v3) (fun w' hm => hI.mod hm) (TTok 0 _) Tryz.func13 (by kernel_rfl) rfl ?_
        repeat' (
          (conv => whnf)
          first
            | (with_reducible first
                | refine TJ.seq ?_
                | refine TJ.region (TTok _ _) ?_
                | refine TJ.drawn (TTok _ _) mixed ?_
                | refine TJ.cond rfl ?_
                | refine TJ.block ?_
                | refine TJ.loop ?_
                | refine LJ.step ?_
                | refine TJ.ret ?_
                | refine TJ.exit ?_
                | refine TJ.skip ?_
                | refine TJ.scope ?_
                | refine TJ.label ?_
                | refine Br.cond_t ?_
                | refine Br.cond_f ?_
                | refine Br.yes (by first | decide | assumption | (apply decide_eq_true; omega)) ?_
                | refine Br.non (by first | decide | assumption | (apply decide_eq_false; omega)) ?_
                | refine Br.cond_ff ?_
                | refine Br.eqT (by omega) ?_
                | refine Br.eqF (by omega) ?_
                | refine Br.neT (by omega) ?_
                | refine Br.neF (by omega) ?_
                | refine Ld.mk' _ rfl ?_
                | refine Need.mk (by first | decide | omega | kernel_rfl) ?_
                | refine Nm.i64 (by omega) ?_
                | refine Nm.u64 (by omega) ?_
                | refine Nm.u8 (by omega) ?_
                | refine x_ret (f := 14) rfl rfl (fun w hw => examples_ret hw) ?_
                | refine x_ret (f := 15) rfl rfl (fun w hw => h15 w hw) ?_
                | refine x_ret (f := 47) rfl rfl (fun w _ => h47 w) ?_
                | refine x_ret (f := 52) rfl rfl (fun w _ => h52 w) ?_
                | refine x_ret (f := 54) rfl rfl (fun w _ => h54 w) ?_)
            | refine Nm.mk' _ hSe ?_
            | refine Br.yes hb1 ?_
            | refine Br.yes rfl ?_
            | refine Br.non rfl ?_
            | refine Br.yes hs1 ?_
            | refine Br.non hs2 ?_
            | (refine x_exq (TTok _ _) ?_; (conv => whnf); fail_if_success (guard_target =ₛ False)))
        all_goals (conv => whnf)
        all_goals first | rfl | simp [val]
  · rw [if_neg hk] at h15
    refine Ret.tj (I := IC u2 v2 u3 v3) (fun w' hm => hI.mod hm) (TTok 0 _) Tryz.func13 (by kernel_rfl) rfl ?_
    repeat' (
      (conv => whnf)
      first
        | (with_reducible first
            | refine TJ.seq ?_
            | refine TJ.region (TTok _ _) ?_
            | refine TJ.drawn (TTok _ _) mixed ?_
            | refine TJ.cond rfl ?_
            | refine TJ.block ?_
            | refine TJ.loop ?_
            | refine LJ.step ?_
            | refine TJ.ret ?_
            | refine TJ.exit ?_
            | refine TJ.skip ?_
            | refine TJ.scope ?_
            | refine TJ.label ?_
            | refine Br.cond_t ?_
            | refine Br.cond_f ?_
            | refine Br.yes (by first | decide | assumption | (apply decide_eq_true; omega)) ?_
            | refine Br.non (by first | decide | assumption | (apply decide_eq_false; omega)) ?_
            | refine Br.cond_ff ?_
            | refine Br.eqT (by omega) ?_
            | refine Br.eqF (by omega) ?_
            | refine Br.neT (by omega) ?_
            | refine Br.neF (by omega) ?_
            | refine Ld.mk' _ rfl ?_
            | refine Need.mk (by first | decide | omega | kernel_rfl) ?_
            | refine Nm.i64 (by omega) ?_
            | refine Nm.u64 (by omega) ?_
            | refine Nm.u8 (by omega) ?_
            | refine x_ret (f := 14) rfl rfl (fun w hw => examples_ret hw) ?_
            | refine x_ret (f := 15) rfl rfl (fun w hw => h15 w hw) ?_)
        | (refine x_exq (TTok _ _) ?_; (conv => whnf); fail_if_success (guard_target =ₛ False)))
    all_goals (conv => whnf)
    all_goals rfl
end Go.Proofs.YtbladfkakmdigaaGreatDoor
