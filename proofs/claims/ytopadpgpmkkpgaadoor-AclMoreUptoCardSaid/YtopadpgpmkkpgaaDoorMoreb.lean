/-
  AclMore: whatever the rules (at most 1048576 of them, and texts of at most so many bytes), the rule and the address, the statement's function hands back true.
-/
import Derived.Shelf.Strings.Builder1
import Derived.Shelf.Strings.Builder2
import Derived.Shelf.Strings.OnBuilder
import Derived.Shelf.Utf8.RuneCount
import Derived.Shelf.Strconv.Itoa0
import Derived.Shelf.Strconv.Itoa1
import Derived.Shelf.LaysM
import Derived.Shelf.Strconv.Itoa2
import Derived.Shelf.Strconv.Itoa3
import Derived.Shelf.Strconv.Clone
import Derived.Shelf.Strconv.Lower
import Derived.Shelf.Strconv.ParseUint10Empty
import Derived.Shelf.Strconv.ParseUintEmpty
import Derived.Shelf.Strings.Search1
import Derived.Shelf.Strings.Search2
import Derived.Shelf.Strings.Search3
import Derived.Shelf.Strings.Count
import Derived.Shelf.Strings.Shaped
import Derived.Shelf.Strings.Split
import Derived.Shelf.Strings.SplitShaped
import Derived.Shelf.Unicode.Decode
import Derived.Shelf.Strings.RuneCount
import Derived.Shelf.Strings.Explode
import Derived.Shelf.Unicode.DecodeSlow
import Derived.Shelf.Unicode.DecodeAny
import Derived.Test.YtopadpgpmkkpgaaDoorProg
import Derived.Test.YtopadpgpmkkpgaaDoorMorea
import Derived.Test.YtopadpgpmkkpgaaDoorSxb
import Derived.Test.YtopadpgpmkkpgaaDoorRows
set_option linter.unusedVariables false
set_option linter.unusedSimpArgs false
set_option linter.unnecessarySimpa false
/-
  DERIVED: THE SHELF's CONTRACTS AT THIS DUMP, IN PLAIN WORDS (tools/lay-plain.mjs out of 'TrydShelf.lean', which tools/lay-shelf.mjs wrote): THE SAME DECLARATIONS UNDER THE SAME NAMES: 'import', 'namespace', 'open', 'def', 'theorem' AND NOTHING ELSE: no command of the shelf's: FOR A HAND-IN. Each laying: the table of numbers ('.._ren') and one theorem, a field a fact of the dump's own or the kernel's comparison; each contract: ONE APPLICATION.
-/
namespace Go.Proofs
open Go.Shelf
def Tryd.lays169_ren : Go.Shelf.Ren := ⟨fun | 169 => 37 | n => n, fun | 70 => 82 | 9 => 9 | 0 => 0 | 72 => 85 | 37 => 83 | 127 => 100 | 3 => 3 | 5 => 5 | n => n, fun | n => n⟩
theorem Tryd.lays169 : Go.Proofs.Lays.n169 Tryd.prog Tryd.lays169_ren := {
  mixed := by kernel_rfl
  f169 := Tryd.func37.trans (congrArg some (by kernel_rfl))
  t0 := Tryd.underlying0
  a0 := Tryd.isAgg0
  z0 := Tryd.sizeOf0
  v0 := Tryd.zeroValue0
  t3 := Tryd.underlying3
  a3 := Tryd.isAgg3
  z3 := Tryd.sizeOf3
  v3 := Tryd.zeroValue3
  t9 := Tryd.underlying9
  a9 := Tryd.isAgg9
  z9 := Tryd.sizeOf9
  v9 := Tryd.zeroValue9
  t37 := Tryd.underlying83
  a37 := Tryd.isAgg83
  z37 := Tryd.sizeOf83
  v37 := Tryd.zeroValue83
  t70 := Tryd.underlying82
  a70 := Tryd.isAgg82
  z70 := Tryd.sizeOf82
  v70 := Tryd.zeroValue82
  t72 := Tryd.underlying85
  a72 := Tryd.isAgg85
  z72 := Tryd.sizeOf85
  v72 := Tryd.zeroValue85
  t127 := Tryd.underlying100
  a127 := Tryd.isAgg100
  z127 := Tryd.sizeOf100
  v127 := Tryd.zeroValue100 }
theorem Tryd.Builder_Extra_169 : Builder.Extra Tryd.prog Tryd.lays169_ren := {
  sizeBuilder := by kernel_rfl
  liesBuilder := by kernel_rfl
  t5 := Tryd.underlying5
  a5 := Tryd.isAgg5
  z5 := Tryd.sizeOf5
  v5 := Tryd.zeroValue5
  infoByte := by kernel_rfl
  cellsByte := by kernel_rfl
  sizeByte := by kernel_rfl
  neB5 := by decide }
open Go.RowKit in
/-- (*strings.Builder).String: "String returns the accumulated string.": OF A BUILDER THAT HOLDS AT LEAST ONE BYTE. ✋ THE MODEL FREEZES THOSE BYTES IN THE BUFFER (unsafe.String): a later write INTO them ends the model's run without an answer; a later append BEHIND them goes on. The statement's order of evaluation is drawn: one draw. (LAID: no walk: one application.) -/
theorem Tryd.Builder_String (B b : Nat) (l : List UInt8) (w : World) (h : Lib.IsBuilder 85 5 B b (Lib.byteCells l) w) (h0 : l ≠ []) :
    Calls Tryd.prog 37 #[.pointer (some ⟨b, 0, none⟩)] w fun e w' => e = .returned (.string ⟨l.toArray⟩) ∧ Below B w w' := Any.Builder_String Tryd.lays169 Tryd.Builder_Extra_169 B b l w h h0
open Go.RowKit in
/-- (*strings.Builder).String OF A BUILDER THAT HOLDS NO BYTE: the empty string. (Its buffer is nil, or a row of which it has taken nothing yet; where that row has NO capacity the model lays one new block for unsafe.SliceData's 'some address'.) One draw. (LAID: no walk: one application.) -/
theorem Tryd.Builder_String_empty (B b : Nat) (w : World) (h : Lib.IsBuilder 85 5 B b [] w) (hBw : B ≤ w.heap.size) :
    Calls Tryd.prog 37 #[.pointer (some ⟨b, 0, none⟩)] w fun e w' => e = .returned (.string ⟨#[]⟩) ∧ Below B w w' := Any.Builder_String_empty Tryd.lays169 Tryd.Builder_Extra_169 B b w h hBw
open Go.RowKit in
/-- (*strings.Builder).String: "String returns the accumulated string.": WHATEVER THE BUILDER HOLDS. (LAID: no walk: one application.) -/
theorem Tryd.Builder_String_any (B b : Nat) (l : List UInt8) (w : World) (h : Lib.IsBuilder 85 5 B b (Lib.byteCells l) w) (hBw : B ≤ w.heap.size) :
    Calls Tryd.prog 37 #[.pointer (some ⟨b, 0, none⟩)] w fun e w' => e = .returned (.string ⟨l.toArray⟩) ∧ Below B w w' := Any.Builder_String_any Tryd.lays169 Tryd.Builder_Extra_169 B b l w h hBw
def Tryd.lays241_ren : Go.Shelf.Ren := ⟨fun | 241 => 48 | 277 => 64 | n => n, fun | 70 => 82 | 3 => 3 | 0 => 0 | 72 => 85 | 37 => 83 | 5 => 5 | n => n, fun | n => n⟩
theorem Tryd.lays241 : Go.Proofs.Lays.n241 Tryd.prog Tryd.lays241_ren := {
  mixed := by kernel_rfl
  f241 := Tryd.func48.trans (congrArg some (by kernel_rfl))
  f277 := Tryd.func64.trans (congrArg some (by kernel_rfl))
  t0 := Tryd.underlying0
  a0 := Tryd.isAgg0
  z0 := Tryd.sizeOf0
  v0 := Tryd.zeroValue0
  t3 := Tryd.underlying3
  a3 := Tryd.isAgg3
  z3 := Tryd.sizeOf3
  v3 := Tryd.zeroValue3
  t37 := Tryd.underlying83
  a37 := Tryd.isAgg83
  z37 := Tryd.sizeOf83
  v37 := Tryd.zeroValue83
  t70 := Tryd.underlying82
  a70 := Tryd.isAgg82
  z70 := Tryd.sizeOf82
  v70 := Tryd.zeroValue82
  t72 := Tryd.underlying85
  a72 := Tryd.isAgg85
  z72 := Tryd.sizeOf85
  v72 := Tryd.zeroValue85 }
theorem Tryd.Builder_Extra_241 : Builder.Extra Tryd.prog Tryd.lays241_ren := {
  sizeBuilder := by kernel_rfl
  liesBuilder := by kernel_rfl
  t5 := Tryd.underlying5
  a5 := Tryd.isAgg5
  z5 := Tryd.sizeOf5
  v5 := Tryd.zeroValue5
  infoByte := by kernel_rfl
  cellsByte := by kernel_rfl
  sizeByte := by kernel_rfl
  neB5 := by decide }
open Go.RowKit in
/-- (*strings.Builder).grow (no doc but "grow copies the buffer to a new, larger buffer so that there are at least n bytes of capacity beyond len(b.buf)."): AT A BUILDER WITHOUT A BUFFER: a new row of whatever bytes for its buffer, none of them its own yet. Three draws. (LAID: no walk: one application.) -/
theorem Tryd.Builder_grow_fresh (B b n : Nat) (w : World) (hB : B ≤ b) (hbk : w.heap[b]? = some (.cells #[.pointer (some ⟨b, 0, none⟩), .slice none 0 0] 85 (0, 0))) (hBw : B ≤ w.heap.size) (hn : n ≤ 281474976710656) :
    Calls Tryd.prog 48 #[.pointer (some ⟨b, 0, none⟩), .int .i64 n] w fun e w' => e = .returned (.tuple #[]) ∧ (Lib.BuilderAt 85 5 B b (.pointer (some ⟨b, 0, none⟩)) [] w' ∧ Below B w w') := Any.Builder_grow_fresh Tryd.lays241 Tryd.Builder_Extra_241 B b n w hB hbk hBw hn
def Tryd.lays165_ren : Go.Shelf.Ren := ⟨fun | 165 => 35 | 240 => 47 | 241 => 48 | 276 => 63 | 277 => 64 | n => n, fun | 70 => 82 | 3 => 3 | 0 => 0 | 4 => 4 | 9 => 9 | 20 => 20 | 72 => 85 | 37 => 83 | 164 => 114 | 5 => 5 | n => n, fun | n => n⟩
theorem Tryd.lays165 : Go.Proofs.Lays.n165 Tryd.prog Tryd.lays165_ren := {
  mixed := by kernel_rfl
  f165 := Tryd.func35.trans (congrArg some (by kernel_rfl))
  f240 := Tryd.func47.trans (congrArg some (by kernel_rfl))
  f241 := Tryd.func48.trans (congrArg some (by kernel_rfl))
  f276 := Tryd.func63.trans (congrArg some (by kernel_rfl))
  f277 := Tryd.func64.trans (congrArg some (by kernel_rfl))
  t0 := Tryd.underlying0
  a0 := Tryd.isAgg0
  z0 := Tryd.sizeOf0
  v0 := Tryd.zeroValue0
  t3 := Tryd.underlying3
  a3 := Tryd.isAgg3
  z3 := Tryd.sizeOf3
  v3 := Tryd.zeroValue3
  t4 := Tryd.underlying4
  a4 := Tryd.isAgg4
  z4 := Tryd.sizeOf4
  v4 := Tryd.zeroValue4
  t9 := Tryd.underlying9
  a9 := Tryd.isAgg9
  z9 := Tryd.sizeOf9
  v9 := Tryd.zeroValue9
  t20 := Tryd.underlying20
  a20 := Tryd.isAgg20
  z20 := Tryd.sizeOf20
  v20 := Tryd.zeroValue20
  t37 := Tryd.underlying83
  a37 := Tryd.isAgg83
  z37 := Tryd.sizeOf83
  v37 := Tryd.zeroValue83
  t70 := Tryd.underlying82
  a70 := Tryd.isAgg82
  z70 := Tryd.sizeOf82
  v70 := Tryd.zeroValue82
  t72 := Tryd.underlying85
  a72 := Tryd.isAgg85
  z72 := Tryd.sizeOf85
  v72 := Tryd.zeroValue85
  t164 := Tryd.underlying114
  a164 := Tryd.isAgg114
  z164 := Tryd.sizeOf114
  v164 := Tryd.zeroValue114 }
theorem Tryd.Builder_Extra_165 : Builder.Extra Tryd.prog Tryd.lays165_ren := {
  sizeBuilder := by kernel_rfl
  liesBuilder := by kernel_rfl
  t5 := Tryd.underlying5
  a5 := Tryd.isAgg5
  z5 := Tryd.sizeOf5
  v5 := Tryd.zeroValue5
  infoByte := by kernel_rfl
  cellsByte := by kernel_rfl
  sizeByte := by kernel_rfl
  neB5 := by decide }
open Go.RowKit in
/-- (*strings.Builder).Grow AT A BUILDER THAT HAS NOT BEEN WRITTEN ('var b strings.Builder; b.Grow(n)'): "Grow grows b's capacity, if necessary, to guarantee space for another n bytes.": it holds no byte behind it as before it. (LAID: no walk: one application.) -/
theorem Tryd.Builder_Grow_fresh (B b n : Nat) (w : World) (hB : B ≤ b) (hbk : w.heap[b]? = some (.cells #[.pointer none, .slice none 0 0] 85 (0, 0))) (hBw : B ≤ w.heap.size) (hn : n ≤ 281474976710656) :
    Calls Tryd.prog 35 #[.pointer (some ⟨b, 0, none⟩), .int .i64 n] w fun e w' => e = .returned (.tuple #[]) ∧ (Lib.BuilderAt 85 5 B b (.pointer (some ⟨b, 0, none⟩)) [] w' ∧ Below B w w') := Any.Builder_Grow_fresh Tryd.lays165 Tryd.Builder_Extra_165 B b n w hB hbk hBw hn
def Tryd.lays156_ren : Go.Shelf.Ren := ⟨fun | 156 => 26 | 165 => 35 | 166 => 36 | 169 => 37 | 240 => 47 | 241 => 48 | 276 => 63 | 277 => 64 | n => n, fun | 31 => 68 | 9 => 9 | 3 => 3 | 4 => 4 | 0 => 0 | 20 => 20 | 72 => 85 | 76 => 87 | 70 => 82 | 37 => 83 | 75 => 74 | 127 => 100 | 164 => 114 | 5 => 5 | 80 => 89 | n => n, fun | n => n⟩
theorem Tryd.lays156 : Go.Proofs.Lays.n156 Tryd.prog Tryd.lays156_ren := {
  mixed := by kernel_rfl
  f156 := Tryd.func26.trans (congrArg some (by kernel_rfl))
  f165 := Tryd.func35.trans (congrArg some (by kernel_rfl))
  f166 := Tryd.func36.trans (congrArg some (by kernel_rfl))
  f169 := Tryd.func37.trans (congrArg some (by kernel_rfl))
  f240 := Tryd.func47.trans (congrArg some (by kernel_rfl))
  f241 := Tryd.func48.trans (congrArg some (by kernel_rfl))
  f276 := Tryd.func63.trans (congrArg some (by kernel_rfl))
  f277 := Tryd.func64.trans (congrArg some (by kernel_rfl))
  t0 := Tryd.underlying0
  a0 := Tryd.isAgg0
  z0 := Tryd.sizeOf0
  v0 := Tryd.zeroValue0
  t3 := Tryd.underlying3
  a3 := Tryd.isAgg3
  z3 := Tryd.sizeOf3
  v3 := Tryd.zeroValue3
  t4 := Tryd.underlying4
  a4 := Tryd.isAgg4
  z4 := Tryd.sizeOf4
  v4 := Tryd.zeroValue4
  t9 := Tryd.underlying9
  a9 := Tryd.isAgg9
  z9 := Tryd.sizeOf9
  v9 := Tryd.zeroValue9
  t20 := Tryd.underlying20
  a20 := Tryd.isAgg20
  z20 := Tryd.sizeOf20
  v20 := Tryd.zeroValue20
  t31 := Tryd.underlying68
  a31 := Tryd.isAgg68
  z31 := Tryd.sizeOf68
  v31 := Tryd.zeroValue68
  t37 := Tryd.underlying83
  a37 := Tryd.isAgg83
  z37 := Tryd.sizeOf83
  v37 := Tryd.zeroValue83
  t70 := Tryd.underlying82
  a70 := Tryd.isAgg82
  z70 := Tryd.sizeOf82
  v70 := Tryd.zeroValue82
  t72 := Tryd.underlying85
  a72 := Tryd.isAgg85
  z72 := Tryd.sizeOf85
  v72 := Tryd.zeroValue85
  t75 := Tryd.underlying74
  a75 := Tryd.isAgg74
  z75 := Tryd.sizeOf74
  v75 := Tryd.zeroValue74
  t76 := Tryd.underlying87
  a76 := Tryd.isAgg87
  z76 := Tryd.sizeOf87
  v76 := Tryd.zeroValue87
  t127 := Tryd.underlying100
  a127 := Tryd.isAgg100
  z127 := Tryd.sizeOf100
  v127 := Tryd.zeroValue100
  t164 := Tryd.underlying114
  a164 := Tryd.isAgg114
  z164 := Tryd.sizeOf114
  v164 := Tryd.zeroValue114 }
theorem Tryd.Builder_Extra_156 : Builder.Extra Tryd.prog Tryd.lays156_ren := {
  sizeBuilder := by kernel_rfl
  liesBuilder := by kernel_rfl
  t5 := Tryd.underlying5
  a5 := Tryd.isAgg5
  z5 := Tryd.sizeOf5
  v5 := Tryd.zeroValue5
  infoByte := by kernel_rfl
  cellsByte := by kernel_rfl
  sizeByte := by kernel_rfl
  neB5 := by decide }
open Go.RowKit in
/-- No element: the empty string; the world is as it was. (Whatever the slice's address and capacity: a nil slice too.) (LAID: no walk: one application.) -/
theorem Tryd.strings_Join_none (a : Option Addr) (c : Nat) (sep : ByteArray) (w : World) :
    Calls Tryd.prog 26 #[.slice a 0 c, .string sep] w fun e w' => e = .returned (.string ⟨#[]⟩) ∧ w' = w := Any.strings_Join_none Tryd.lays156 Tryd.Builder_Extra_156 a c sep w
open Go.RowKit in
/-- strings.Join: "Join concatenates the elements of its first argument to create a single string. The separator string sep is placed between elements in the resulting string.": HOWEVER MANY ELEMENTS. Below the heap's end the world is as it was. (LAID: no walk: one application.) -/
theorem Tryd.strings_Join (bk o c : Nat) (xs : List ByteArray) (sep : ByteArray) (w : World) (hcells : ∀ (j : Nat) x, xs[j]? = some x → w.cell? ⟨bk, o + j, none⟩ = some (.string x)) (hbk : bk < w.heap.size) (hN : xs.length ≤ 140737488355328) (hcap : xs.length ≤ c) (hlen : (Lib.join (xs.map (·.data.toList)) sep.data.toList).length ≤ 140737488355328) :
    Calls Tryd.prog 26 #[.slice (some ⟨bk, o, none⟩) xs.length c, .string sep] w fun e w' => e = .returned (.string ⟨(Lib.join (xs.map (·.data.toList)) sep.data.toList).toArray⟩) ∧ Below w.heap.size w w' := Any.strings_Join Tryd.lays156 Tryd.Builder_Extra_156 bk o c xs sep w hcells hbk hN hcap hlen
def Tryd.lays195_ren : Go.Shelf.Ren := ⟨fun | 195 => 69 | n => n, fun | 9 => 9 | 3 => 3 | 0 => 0 | 4 => 4 | n => n, fun | n => n⟩
theorem Tryd.lays195 : Go.Proofs.Lays.n195 Tryd.prog Tryd.lays195_ren := {
  mixed := by kernel_rfl
  f195 := Tryd.func69.trans (congrArg some (by kernel_rfl))
  t0 := Tryd.underlying0
  a0 := Tryd.isAgg0
  z0 := Tryd.sizeOf0
  v0 := Tryd.zeroValue0
  t3 := Tryd.underlying3
  a3 := Tryd.isAgg3
  z3 := Tryd.sizeOf3
  v3 := Tryd.zeroValue3
  t4 := Tryd.underlying4
  a4 := Tryd.isAgg4
  z4 := Tryd.sizeOf4
  v4 := Tryd.zeroValue4
  t9 := Tryd.underlying9
  a9 := Tryd.isAgg9
  z9 := Tryd.sizeOf9
  v9 := Tryd.zeroValue9 }
open Go.RowKit in
/-- unicode/utf8.RuneCountInString: "RuneCountInString is like RuneCount but its input is a string." ("RuneCount returns the number of runes in p. Erroneous and short encodings are treated as single runes of width 1 byte."): EVERY STRING, valid UTF-8 or not: 'Lib.runeCount s' (plain Lean over the model's own 'Utf8.decode'; 'Lib.runeCount_le': at most len(s); 'Lib.runeCount_ascii': on ASCII: len(s)). THE ONE CONDITION: len(s) below 2^63 - 1 (the counter does not wrap): the form's reach pays it. THE WORLD BEHIND THE CALL: ONE BLOCK MORE: the model's iterator over s, at its end: all else as it was. (LAID: no walk: one application.) -/
theorem Tryd.utf8_RuneCountInString (s : ByteArray) (w : World) (hs : s.size < 9223372036854775807) :
    Calls Tryd.prog 69 #[.string s] w fun e w' => e = .returned (.int .i64 (Lib.runeCount s)) ∧ ∃ pos, w' = w.iter s pos := Any.utf8_RuneCountInString Tryd.lays195 s w hs
def Tryd.lays129_ren : Go.Shelf.Ren := ⟨fun | 129 => 59 | n => n, fun | 53 => 30 | 3 => 3 | 4 => 4 | 46 => 77 | 5 => 5 | 9 => 9 | n => n, fun | n => n⟩
theorem Tryd.lays129 : Go.Proofs.Lays.n129 Tryd.prog Tryd.lays129_ren := {
  mixed := by kernel_rfl
  f129 := Tryd.func59.trans (congrArg some (by kernel_rfl))
  t3 := Tryd.underlying3
  a3 := Tryd.isAgg3
  z3 := Tryd.sizeOf3
  v3 := Tryd.zeroValue3
  t4 := Tryd.underlying4
  a4 := Tryd.isAgg4
  z4 := Tryd.sizeOf4
  v4 := Tryd.zeroValue4
  t5 := Tryd.underlying5
  a5 := Tryd.isAgg5
  z5 := Tryd.sizeOf5
  v5 := Tryd.zeroValue5
  t9 := Tryd.underlying9
  a9 := Tryd.isAgg9
  z9 := Tryd.sizeOf9
  v9 := Tryd.zeroValue9
  t46 := Tryd.underlying77
  a46 := Tryd.isAgg77
  z46 := Tryd.sizeOf77
  v46 := Tryd.zeroValue77
  t53 := Tryd.underlying30
  a53 := Tryd.isAgg30
  z53 := Tryd.sizeOf30
  v53 := Tryd.zeroValue30 }
/-- bits.Len64: "Len64 returns the minimum number of bits required to represent x; the result is 0 for x == 0.": IT RETURNS 'Lib.bitLen x'; the world is as it was. ('h0', 'h1': x is a uint64.) (LAID: no walk: one application.) -/
theorem Tryd.bits_Len64 (x : Int) (w : World) (h0 : 0 ≤ x) (h1 : x ≤ 18446744073709551615) :
    Calls Tryd.prog 59 #[.int .u64 x] w fun e w' => e = .returned (.int .i64 (Lib.bitLen x.toNat)) ∧ w' = w := Any.bits_Len64 Tryd.lays129 x w h0 h1
def Tryd.lays317_ren : Go.Shelf.Ren := ⟨fun | 317 => 58 | n => n, fun | 3 => 3 | 46 => 77 | n => n, fun | n => n⟩
theorem Tryd.lays317 : Go.Proofs.Lays.n317 Tryd.prog Tryd.lays317_ren := {
  mixed := by kernel_rfl
  f317 := Tryd.func58.trans (congrArg some (by kernel_rfl))
  t3 := Tryd.underlying3
  a3 := Tryd.isAgg3
  z3 := Tryd.sizeOf3
  v3 := Tryd.zeroValue3
  t46 := Tryd.underlying77
  a46 := Tryd.isAgg77
  z46 := Tryd.sizeOf77
  v46 := Tryd.zeroValue77 }
open Go.Lib in
/-- internal/strconv.log10Pow2: "log10Pow2(x) returns ⌊log₁₀ 2**x⌋ = ⌊x * log₁₀ 2⌋.": '(x * 78913) >> 18', at an x up to 64 (a length in bits). The world is as it was. (LAID: no walk: one application.) -/
theorem Tryd.internal_strconv_log10Pow2 (x : Nat) (h : x ≤ 64) (w : World) :
    Calls Tryd.prog 58 #[.int .i64 x] w fun e w' => e = .returned (.int .i64 (Lib.l10 x)) ∧ w' = w := Any.internal_strconv_log10Pow2 Tryd.lays317 x h w
def Tryd.lays318_ren : Go.Shelf.Ren := ⟨fun | 318 => 60 | n => n, fun | 3 => 3 | 4 => 4 | n => n, fun | n => n⟩
theorem Tryd.lays318 : Go.Proofs.Lays.n318 Tryd.prog Tryd.lays318_ren := {
  mixed := by kernel_rfl
  f318 := Tryd.func60.trans (congrArg some (by kernel_rfl))
  t3 := Tryd.underlying3
  a3 := Tryd.isAgg3
  z3 := Tryd.sizeOf3
  v3 := Tryd.zeroValue3
  t4 := Tryd.underlying4
  a4 := Tryd.isAgg4
  z4 := Tryd.sizeOf4
  v4 := Tryd.zeroValue4 }
open Go.Lib in
/-- internal/strconv.bool2: "bool2 converts b to an integer: 1 for true, 0 for false." The world is as it was. (LAID: no walk: one application.) -/
theorem Tryd.internal_strconv_bool2_int (b : Bool) (w : World) :
    Calls Tryd.prog 60 #[.bool b] w fun e w' => e = .returned (.int .i64 (if b then 1 else 0)) ∧ w' = w := Any.internal_strconv_bool2_int Tryd.lays318 b w
def Tryd.lays283_ren : Go.Shelf.Ren := ⟨fun | 283 => 43 | n => n, fun | 3 => 3 | 9 => 9 | 4 => 4 | n => n, fun | n => n⟩
theorem Tryd.lays283 : Go.Proofs.Lays.n283 Tryd.prog Tryd.lays283_ren := {
  mixed := by kernel_rfl
  f283 := Tryd.func43.trans (congrArg some (by kernel_rfl))
  t3 := Tryd.underlying3
  a3 := Tryd.isAgg3
  z3 := Tryd.sizeOf3
  v3 := Tryd.zeroValue3
  t4 := Tryd.underlying4
  a4 := Tryd.isAgg4
  z4 := Tryd.sizeOf4
  v4 := Tryd.zeroValue4
  t9 := Tryd.underlying9
  a9 := Tryd.isAgg9
  z9 := Tryd.sizeOf9
  v9 := Tryd.zeroValue9 }
open Go.Lib in
/-- internal/strconv.small: "small returns the string for an i with 0 <= i < nSmalls.": i's decimal numeral. The world is as it was. (LAID: no walk: one application.) -/
theorem Tryd.internal_strconv_small (i : Nat) (h : i < 100) (w : World) :
    Calls Tryd.prog 43 #[.int .i64 i] w fun e w' => e = .returned (.string ⟨(Lib.decDigits i).toArray⟩) ∧ w' = w := Any.internal_strconv_small Tryd.lays283 i h w
def Tryd.laysM284_ren : Go.Shelf.Ren := ⟨fun | 284 => 44 | 129 => 59 | 317 => 58 | 318 => 60 | n => n, fun | 53 => 30 | 3 => 3 | 212 => 109 | 0 => 0 | 4 => 4 | 46 => 77 | 5 => 5 | 9 => 9 | n => n, fun | 17 => 0 | n => n⟩
theorem Tryd.laysM284 : Go.Proofs.LaysM.n284 Tryd.prog Tryd.laysM284_ren := {
  mixed := by kernel_rfl
  f129 := Tryd.func59.trans (congrArg some (by kernel_rfl))
  f284 := Tryd.func44.trans (congrArg some (by kernel_rfl))
  f317 := Tryd.func58.trans (congrArg some (by kernel_rfl))
  f318 := Tryd.func60.trans (congrArg some (by kernel_rfl))
  t0 := Tryd.underlying0
  a0 := Tryd.isAgg0
  z0 := Tryd.sizeOf0
  v0 := Tryd.zeroValue0
  t3 := Tryd.underlying3
  a3 := Tryd.isAgg3
  z3 := Tryd.sizeOf3
  v3 := Tryd.zeroValue3
  t4 := Tryd.underlying4
  a4 := Tryd.isAgg4
  z4 := Tryd.sizeOf4
  v4 := Tryd.zeroValue4
  t5 := Tryd.underlying5
  a5 := Tryd.isAgg5
  z5 := Tryd.sizeOf5
  v5 := Tryd.zeroValue5
  t9 := Tryd.underlying9
  a9 := Tryd.isAgg9
  z9 := Tryd.sizeOf9
  v9 := Tryd.zeroValue9
  t46 := Tryd.underlying77
  a46 := Tryd.isAgg77
  z46 := Tryd.sizeOf77
  v46 := Tryd.zeroValue77
  t53 := Tryd.underlying30
  a53 := Tryd.isAgg30
  z53 := Tryd.sizeOf30
  v53 := Tryd.zeroValue30
  t212 := Tryd.underlying109
  a212 := Tryd.isAgg109
  z212 := Tryd.sizeOf109
  v212 := Tryd.zeroValue109
  g17 := by kernel_rfl
  i0 := by kernel_rfl
  i3 := by kernel_rfl
  i4 := by kernel_rfl
  i5 := by kernel_rfl
  i9 := by kernel_rfl
  i46 := by kernel_rfl
  i53 := by kernel_rfl
  i212 := by kernel_rfl
  m17 := by kernel_rfl }
open Go.Lib in
/-- internal/strconv.numDigits, at a d that is not 0: THE NUMBER OF d's DECIMAL DIGITS. The world is as it was. (LAID: no walk: one application.) -/
theorem Tryd.internal_strconv_numDigits (u : Nat) (h1 : 1 ≤ u) (h2 : u < 18446744073709551616) (w : World) (htab : Lib.TabIs Tryd.prog w "internal/strconv.uint64pow10" .u64 Lib.pow10Tab) :
    Calls Tryd.prog 44 #[.int .u64 u] w fun e w' => e = .returned (.int .i64 (Lib.nDigits u)) ∧ w' = w := Any.internal_strconv_numDigits Tryd.laysM284 u h1 h2 w htab
def Tryd.lays285_ren : Go.Shelf.Ren := ⟨fun | 285 => 45 | n => n, fun | 37 => 83 | 53 => 30 | 3 => 3 | 4 => 4 | 51 => 110 | 9 => 9 | 5 => 5 | 0 => 0 | n => n, fun | n => n⟩
theorem Tryd.lays285 : Go.Proofs.Lays.n285 Tryd.prog Tryd.lays285_ren := {
  mixed := by kernel_rfl
  f285 := Tryd.func45.trans (congrArg some (by kernel_rfl))
  t0 := Tryd.underlying0
  a0 := Tryd.isAgg0
  z0 := Tryd.sizeOf0
  v0 := Tryd.zeroValue0
  t3 := Tryd.underlying3
  a3 := Tryd.isAgg3
  z3 := Tryd.sizeOf3
  v3 := Tryd.zeroValue3
  t4 := Tryd.underlying4
  a4 := Tryd.isAgg4
  z4 := Tryd.sizeOf4
  v4 := Tryd.zeroValue4
  t5 := Tryd.underlying5
  a5 := Tryd.isAgg5
  z5 := Tryd.sizeOf5
  v5 := Tryd.zeroValue5
  t9 := Tryd.underlying9
  a9 := Tryd.isAgg9
  z9 := Tryd.sizeOf9
  v9 := Tryd.zeroValue9
  t37 := Tryd.underlying83
  a37 := Tryd.isAgg83
  z37 := Tryd.sizeOf83
  v37 := Tryd.zeroValue83
  t51 := Tryd.underlying110
  a51 := Tryd.isAgg110
  z51 := Tryd.sizeOf110
  v51 := Tryd.zeroValue110
  t53 := Tryd.underlying30
  a53 := Tryd.isAgg30
  z53 := Tryd.sizeOf30
  v53 := Tryd.zeroValue30 }
open Go.RowKit Go.Sort Go.Lib in
/-- internal/strconv.formatBase10: "formatBase10 formats the decimal representation of u into a. The caller is responsible for ensuring that a is big enough to hold u. If a is too big, leading zeros will be filled in as needed.": THE ROW HOLDS u's DIGITS ('FmtInv .. 0 ..': every place t holds 'dg u (len - 1 - t)'); all else is as it was but for the count of draws. (LAID: no walk: one application.) -/
theorem Tryd.internal_strconv_formatBase10 (blk off cap : Nat) (u : Nat) (d : Array UInt8) (w : World) (hH : Holds (fun (b : UInt8) => Value.int .u8 (b.toNat : Int)) w blk off d) (hu : u < 10 ^ d.size) (hu64 : u < 18446744073709551616) (hsz : d.size < 4611686018427387904) :
    Calls Tryd.prog 45 #[.slice (some ⟨blk, off, none⟩) d.size cap, .int .u64 u] w fun e w' =>
      e = .returned (.tuple #[]) ∧ ∃ (n v' : Nat) (dk : Array UInt8), w' = (putRow (fun (b : UInt8) => Value.int .u8 (b.toNat : Int)) w blk off dk).drewN n ∧ FmtInv d.size u 0 v' dk := Any.internal_strconv_formatBase10 Tryd.lays285 blk off cap u d w hH hu hu64 hsz
def Tryd.laysM246_ren : Go.Shelf.Ren := ⟨fun | 246 => 81 | 283 => 43 | 284 => 44 | 285 => 45 | 286 => 46 | 129 => 59 | 317 => 58 | 318 => 60 | 319 => 61 | 320 => 62 | 337 => 75 | 338 => 76 | n => n, fun | 2 => 2 | 3 => 3 | 9 => 9 | 4 => 4 | 171 => 95 | 0 => 0 | 53 => 30 | 37 => 83 | 5 => 5 | 173 => 98 | 212 => 109 | 51 => 110 | 20 => 20 | 213 => 111 | 46 => 77 | 232 => 131 | 233 => 132 | n => n, fun | 17 => 0 | 18 => 4 | 19 => 5 | n => n⟩
theorem Tryd.laysM246 : Go.Proofs.LaysM.n246 Tryd.prog Tryd.laysM246_ren := {
  mixed := by kernel_rfl
  f129 := Tryd.func59.trans (congrArg some (by kernel_rfl))
  f246 := Tryd.func81.trans (congrArg some (by kernel_rfl))
  f283 := Tryd.func43.trans (congrArg some (by kernel_rfl))
  f284 := Tryd.func44.trans (congrArg some (by kernel_rfl))
  f285 := Tryd.func45.trans (congrArg some (by kernel_rfl))
  f286 := Tryd.func46.trans (congrArg some (by kernel_rfl))
  f317 := Tryd.func58.trans (congrArg some (by kernel_rfl))
  f318 := Tryd.func60.trans (congrArg some (by kernel_rfl))
  f319 := Tryd.func61.trans (congrArg some (by kernel_rfl))
  f320 := Tryd.func62.trans (congrArg some (by kernel_rfl))
  f337 := Tryd.func75.trans (congrArg some (by kernel_rfl))
  f338 := Tryd.func76.trans (congrArg some (by kernel_rfl))
  t0 := Tryd.underlying0
  a0 := Tryd.isAgg0
  z0 := Tryd.sizeOf0
  v0 := Tryd.zeroValue0
  t2 := Tryd.underlying2
  a2 := Tryd.isAgg2
  z2 := Tryd.sizeOf2
  v2 := Tryd.zeroValue2
  t3 := Tryd.underlying3
  a3 := Tryd.isAgg3
  z3 := Tryd.sizeOf3
  v3 := Tryd.zeroValue3
  t4 := Tryd.underlying4
  a4 := Tryd.isAgg4
  z4 := Tryd.sizeOf4
  v4 := Tryd.zeroValue4
  t5 := Tryd.underlying5
  a5 := Tryd.isAgg5
  z5 := Tryd.sizeOf5
  v5 := Tryd.zeroValue5
  t9 := Tryd.underlying9
  a9 := Tryd.isAgg9
  z9 := Tryd.sizeOf9
  v9 := Tryd.zeroValue9
  t20 := Tryd.underlying20
  a20 := Tryd.isAgg20
  z20 := Tryd.sizeOf20
  v20 := Tryd.zeroValue20
  t37 := Tryd.underlying83
  a37 := Tryd.isAgg83
  z37 := Tryd.sizeOf83
  v37 := Tryd.zeroValue83
  t46 := Tryd.underlying77
  a46 := Tryd.isAgg77
  z46 := Tryd.sizeOf77
  v46 := Tryd.zeroValue77
  t51 := Tryd.underlying110
  a51 := Tryd.isAgg110
  z51 := Tryd.sizeOf110
  v51 := Tryd.zeroValue110
  t53 := Tryd.underlying30
  a53 := Tryd.isAgg30
  z53 := Tryd.sizeOf30
  v53 := Tryd.zeroValue30
  t171 := Tryd.underlying95
  a171 := Tryd.isAgg95
  z171 := Tryd.sizeOf95
  v171 := Tryd.zeroValue95
  t173 := Tryd.underlying98
  a173 := Tryd.isAgg98
  z173 := Tryd.sizeOf98
  v173 := Tryd.zeroValue98
  t212 := Tryd.underlying109
  a212 := Tryd.isAgg109
  z212 := Tryd.sizeOf109
  v212 := Tryd.zeroValue109
  t213 := Tryd.underlying111
  a213 := Tryd.isAgg111
  z213 := Tryd.sizeOf111
  t232 := Tryd.underlying131
  a232 := Tryd.isAgg131
  z232 := Tryd.sizeOf131
  v232 := Tryd.zeroValue131
  t233 := Tryd.underlying132
  a233 := Tryd.isAgg132
  z233 := Tryd.sizeOf132
  v233 := Tryd.zeroValue132
  g17 := by kernel_rfl
  g18 := by kernel_rfl
  g19 := by kernel_rfl
  i0 := by kernel_rfl
  i2 := by kernel_rfl
  i3 := by kernel_rfl
  i4 := by kernel_rfl
  i5 := by kernel_rfl
  i9 := by kernel_rfl
  i20 := by kernel_rfl
  i37 := by kernel_rfl
  i46 := by kernel_rfl
  i51 := by kernel_rfl
  i53 := by kernel_rfl
  i171 := by kernel_rfl
  i173 := by kernel_rfl
  i212 := by kernel_rfl
  i232 := by kernel_rfl
  i233 := by kernel_rfl
  m17 := by kernel_rfl
  m18 := by kernel_rfl
  m19 := by kernel_rfl }
open Go.RowKit Go.Sort Go.Lib in
/-- internal/strconv.FormatInt: "FormatInt returns the string representation of i in the given base": AT BASE 10: i's decimal numeral, for every int64. The world behind the call: the world before it, new blocks behind the heap, draws. (LAID: no walk: one application.) -/
theorem Tryd.internal_strconv_FormatInt_10 (n : Int) (h0 : -9223372036854775808 ≤ n) (h1 : n ≤ 9223372036854775807) (w : World) (htab : Lib.TabIs Tryd.prog w "internal/strconv.uint64pow10" .u64 Lib.pow10Tab) :
    Calls Tryd.prog 81 #[.int .i64 n, .int .i64 10] w fun e w' => e = .returned (.string ⟨(Lib.itoa n).toArray⟩) ∧ ∃ k os, w' = grow (w.drewN k) os := Any.internal_strconv_FormatInt_10 Tryd.laysM246 n h0 h1 w htab
def Tryd.lays246_ren : Go.Shelf.Ren := ⟨fun | 246 => 81 | 283 => 43 | 284 => 44 | 285 => 45 | 286 => 46 | 129 => 59 | 317 => 58 | 318 => 60 | 319 => 61 | 320 => 62 | 337 => 75 | 338 => 76 | n => n, fun | 2 => 2 | 3 => 3 | 9 => 9 | 4 => 4 | 171 => 95 | 0 => 0 | 53 => 30 | 37 => 83 | 5 => 5 | 173 => 98 | 212 => 109 | 51 => 110 | 20 => 20 | 213 => 111 | 46 => 77 | 232 => 131 | 233 => 132 | n => n, fun | 17 => 0 | 18 => 4 | 19 => 5 | n => n⟩
theorem Tryd.lays246 : Go.Proofs.Lays.n246 Tryd.prog Tryd.lays246_ren := {
  mixed := by kernel_rfl
  f129 := Tryd.func59.trans (congrArg some (by kernel_rfl))
  f246 := Tryd.func81.trans (congrArg some (by kernel_rfl))
  f283 := Tryd.func43.trans (congrArg some (by kernel_rfl))
  f284 := Tryd.func44.trans (congrArg some (by kernel_rfl))
  f285 := Tryd.func45.trans (congrArg some (by kernel_rfl))
  f286 := Tryd.func46.trans (congrArg some (by kernel_rfl))
  f317 := Tryd.func58.trans (congrArg some (by kernel_rfl))
  f318 := Tryd.func60.trans (congrArg some (by kernel_rfl))
  f319 := Tryd.func61.trans (congrArg some (by kernel_rfl))
  f320 := Tryd.func62.trans (congrArg some (by kernel_rfl))
  f337 := Tryd.func75.trans (congrArg some (by kernel_rfl))
  f338 := Tryd.func76.trans (congrArg some (by kernel_rfl))
  t0 := Tryd.underlying0
  a0 := Tryd.isAgg0
  z0 := Tryd.sizeOf0
  v0 := Tryd.zeroValue0
  t2 := Tryd.underlying2
  a2 := Tryd.isAgg2
  z2 := Tryd.sizeOf2
  v2 := Tryd.zeroValue2
  t3 := Tryd.underlying3
  a3 := Tryd.isAgg3
  z3 := Tryd.sizeOf3
  v3 := Tryd.zeroValue3
  t4 := Tryd.underlying4
  a4 := Tryd.isAgg4
  z4 := Tryd.sizeOf4
  v4 := Tryd.zeroValue4
  t5 := Tryd.underlying5
  a5 := Tryd.isAgg5
  z5 := Tryd.sizeOf5
  v5 := Tryd.zeroValue5
  t9 := Tryd.underlying9
  a9 := Tryd.isAgg9
  z9 := Tryd.sizeOf9
  v9 := Tryd.zeroValue9
  t20 := Tryd.underlying20
  a20 := Tryd.isAgg20
  z20 := Tryd.sizeOf20
  v20 := Tryd.zeroValue20
  t37 := Tryd.underlying83
  a37 := Tryd.isAgg83
  z37 := Tryd.sizeOf83
  v37 := Tryd.zeroValue83
  t46 := Tryd.underlying77
  a46 := Tryd.isAgg77
  z46 := Tryd.sizeOf77
  v46 := Tryd.zeroValue77
  t51 := Tryd.underlying110
  a51 := Tryd.isAgg110
  z51 := Tryd.sizeOf110
  v51 := Tryd.zeroValue110
  t53 := Tryd.underlying30
  a53 := Tryd.isAgg30
  z53 := Tryd.sizeOf30
  v53 := Tryd.zeroValue30
  t171 := Tryd.underlying95
  a171 := Tryd.isAgg95
  z171 := Tryd.sizeOf95
  v171 := Tryd.zeroValue95
  t173 := Tryd.underlying98
  a173 := Tryd.isAgg98
  z173 := Tryd.sizeOf98
  v173 := Tryd.zeroValue98
  t212 := Tryd.underlying109
  a212 := Tryd.isAgg109
  z212 := Tryd.sizeOf109
  v212 := Tryd.zeroValue109
  t213 := Tryd.underlying111
  a213 := Tryd.isAgg111
  z213 := Tryd.sizeOf111
  t232 := Tryd.underlying131
  a232 := Tryd.isAgg131
  z232 := Tryd.sizeOf131
  v232 := Tryd.zeroValue131
  t233 := Tryd.underlying132
  a233 := Tryd.isAgg132
  z233 := Tryd.sizeOf132
  v233 := Tryd.zeroValue132
  g17 := by kernel_rfl
  g18 := by kernel_rfl
  g19 := by kernel_rfl }
open Go.RowKit Go.Sort Go.Lib in
/-- THE ROAD WITHOUT THE TABLE: 0 <= i < 100: two constants are read, nothing is laid: no premise on the world, and the world is as it was. (LAID: no walk: one application.) -/
theorem Tryd.internal_strconv_FormatInt_10_small (i : Nat) (hi : i < 100) (w : World) :
    Calls Tryd.prog 81 #[.int .i64 i, .int .i64 10] w fun e w' => e = .returned (.string ⟨(Lib.decDigits i).toArray⟩) ∧ w' = w := Any.internal_strconv_FormatInt_10_small Tryd.lays246 i hi w
def Tryd.laysM243_ren : Go.Shelf.Ren := ⟨fun | 243 => 80 | 246 => 81 | 283 => 43 | 284 => 44 | 285 => 45 | 286 => 46 | 129 => 59 | 317 => 58 | 318 => 60 | 319 => 61 | 320 => 62 | 337 => 75 | 338 => 76 | n => n, fun | 3 => 3 | 9 => 9 | 2 => 2 | 4 => 4 | 171 => 95 | 0 => 0 | 53 => 30 | 37 => 83 | 5 => 5 | 173 => 98 | 212 => 109 | 51 => 110 | 20 => 20 | 213 => 111 | 46 => 77 | 232 => 131 | 233 => 132 | n => n, fun | 17 => 0 | 18 => 4 | 19 => 5 | n => n⟩
theorem Tryd.laysM243 : Go.Proofs.LaysM.n243 Tryd.prog Tryd.laysM243_ren := {
  mixed := by kernel_rfl
  f129 := Tryd.func59.trans (congrArg some (by kernel_rfl))
  f243 := Tryd.func80.trans (congrArg some (by kernel_rfl))
  f246 := Tryd.func81.trans (congrArg some (by kernel_rfl))
  f283 := Tryd.func43.trans (congrArg some (by kernel_rfl))
  f284 := Tryd.func44.trans (congrArg some (by kernel_rfl))
  f285 := Tryd.func45.trans (congrArg some (by kernel_rfl))
  f286 := Tryd.func46.trans (congrArg some (by kernel_rfl))
  f317 := Tryd.func58.trans (congrArg some (by kernel_rfl))
  f318 := Tryd.func60.trans (congrArg some (by kernel_rfl))
  f319 := Tryd.func61.trans (congrArg some (by kernel_rfl))
  f320 := Tryd.func62.trans (congrArg some (by kernel_rfl))
  f337 := Tryd.func75.trans (congrArg some (by kernel_rfl))
  f338 := Tryd.func76.trans (congrArg some (by kernel_rfl))
  t0 := Tryd.underlying0
  a0 := Tryd.isAgg0
  z0 := Tryd.sizeOf0
  v0 := Tryd.zeroValue0
  t2 := Tryd.underlying2
  a2 := Tryd.isAgg2
  z2 := Tryd.sizeOf2
  v2 := Tryd.zeroValue2
  t3 := Tryd.underlying3
  a3 := Tryd.isAgg3
  z3 := Tryd.sizeOf3
  v3 := Tryd.zeroValue3
  t4 := Tryd.underlying4
  a4 := Tryd.isAgg4
  z4 := Tryd.sizeOf4
  v4 := Tryd.zeroValue4
  t5 := Tryd.underlying5
  a5 := Tryd.isAgg5
  z5 := Tryd.sizeOf5
  v5 := Tryd.zeroValue5
  t9 := Tryd.underlying9
  a9 := Tryd.isAgg9
  z9 := Tryd.sizeOf9
  v9 := Tryd.zeroValue9
  t20 := Tryd.underlying20
  a20 := Tryd.isAgg20
  z20 := Tryd.sizeOf20
  v20 := Tryd.zeroValue20
  t37 := Tryd.underlying83
  a37 := Tryd.isAgg83
  z37 := Tryd.sizeOf83
  v37 := Tryd.zeroValue83
  t46 := Tryd.underlying77
  a46 := Tryd.isAgg77
  z46 := Tryd.sizeOf77
  v46 := Tryd.zeroValue77
  t51 := Tryd.underlying110
  a51 := Tryd.isAgg110
  z51 := Tryd.sizeOf110
  v51 := Tryd.zeroValue110
  t53 := Tryd.underlying30
  a53 := Tryd.isAgg30
  z53 := Tryd.sizeOf30
  v53 := Tryd.zeroValue30
  t171 := Tryd.underlying95
  a171 := Tryd.isAgg95
  z171 := Tryd.sizeOf95
  v171 := Tryd.zeroValue95
  t173 := Tryd.underlying98
  a173 := Tryd.isAgg98
  z173 := Tryd.sizeOf98
  v173 := Tryd.zeroValue98
  t212 := Tryd.underlying109
  a212 := Tryd.isAgg109
  z212 := Tryd.sizeOf109
  v212 := Tryd.zeroValue109
  t213 := Tryd.underlying111
  a213 := Tryd.isAgg111
  z213 := Tryd.sizeOf111
  t232 := Tryd.underlying131
  a232 := Tryd.isAgg131
  z232 := Tryd.sizeOf131
  v232 := Tryd.zeroValue131
  t233 := Tryd.underlying132
  a233 := Tryd.isAgg132
  z233 := Tryd.sizeOf132
  v233 := Tryd.zeroValue132
  g17 := by kernel_rfl
  g18 := by kernel_rfl
  g19 := by kernel_rfl
  i0 := by kernel_rfl
  i2 := by kernel_rfl
  i3 := by kernel_rfl
  i4 := by kernel_rfl
  i5 := by kernel_rfl
  i9 := by kernel_rfl
  i20 := by kernel_rfl
  i37 := by kernel_rfl
  i46 := by kernel_rfl
  i51 := by kernel_rfl
  i53 := by kernel_rfl
  i171 := by kernel_rfl
  i173 := by kernel_rfl
  i212 := by kernel_rfl
  i232 := by kernel_rfl
  i233 := by kernel_rfl
  m17 := by kernel_rfl
  m18 := by kernel_rfl
  m19 := by kernel_rfl }
open Go.RowKit Go.Sort Go.Lib in
/-- internal/strconv.Itoa: "Itoa is equivalent to FormatInt(int64(i), 10).": i's decimal numeral, for every int. (LAID: no walk: one application.) -/
theorem Tryd.internal_strconv_Itoa (n : Int) (h0 : -9223372036854775808 ≤ n) (h1 : n ≤ 9223372036854775807) (w : World) (htab : Lib.TabIs Tryd.prog w "internal/strconv.uint64pow10" .u64 Lib.pow10Tab) :
    Calls Tryd.prog 80 #[.int .i64 n] w fun e w' => e = .returned (.string ⟨(Lib.itoa n).toArray⟩) ∧ ∃ k os, w' = grow (w.drewN k) os := Any.internal_strconv_Itoa Tryd.laysM243 n h0 h1 w htab
def Tryd.lays243_ren : Go.Shelf.Ren := ⟨fun | 243 => 80 | 246 => 81 | 283 => 43 | 284 => 44 | 285 => 45 | 286 => 46 | 129 => 59 | 317 => 58 | 318 => 60 | 319 => 61 | 320 => 62 | 337 => 75 | 338 => 76 | n => n, fun | 3 => 3 | 9 => 9 | 2 => 2 | 4 => 4 | 171 => 95 | 0 => 0 | 53 => 30 | 37 => 83 | 5 => 5 | 173 => 98 | 212 => 109 | 51 => 110 | 20 => 20 | 213 => 111 | 46 => 77 | 232 => 131 | 233 => 132 | n => n, fun | 17 => 0 | 18 => 4 | 19 => 5 | n => n⟩
theorem Tryd.lays243 : Go.Proofs.Lays.n243 Tryd.prog Tryd.lays243_ren := {
  mixed := by kernel_rfl
  f129 := Tryd.func59.trans (congrArg some (by kernel_rfl))
  f243 := Tryd.func80.trans (congrArg some (by kernel_rfl))
  f246 := Tryd.func81.trans (congrArg some (by kernel_rfl))
  f283 := Tryd.func43.trans (congrArg some (by kernel_rfl))
  f284 := Tryd.func44.trans (congrArg some (by kernel_rfl))
  f285 := Tryd.func45.trans (congrArg some (by kernel_rfl))
  f286 := Tryd.func46.trans (congrArg some (by kernel_rfl))
  f317 := Tryd.func58.trans (congrArg some (by kernel_rfl))
  f318 := Tryd.func60.trans (congrArg some (by kernel_rfl))
  f319 := Tryd.func61.trans (congrArg some (by kernel_rfl))
  f320 := Tryd.func62.trans (congrArg some (by kernel_rfl))
  f337 := Tryd.func75.trans (congrArg some (by kernel_rfl))
  f338 := Tryd.func76.trans (congrArg some (by kernel_rfl))
  t0 := Tryd.underlying0
  a0 := Tryd.isAgg0
  z0 := Tryd.sizeOf0
  v0 := Tryd.zeroValue0
  t2 := Tryd.underlying2
  a2 := Tryd.isAgg2
  z2 := Tryd.sizeOf2
  v2 := Tryd.zeroValue2
  t3 := Tryd.underlying3
  a3 := Tryd.isAgg3
  z3 := Tryd.sizeOf3
  v3 := Tryd.zeroValue3
  t4 := Tryd.underlying4
  a4 := Tryd.isAgg4
  z4 := Tryd.sizeOf4
  v4 := Tryd.zeroValue4
  t5 := Tryd.underlying5
  a5 := Tryd.isAgg5
  z5 := Tryd.sizeOf5
  v5 := Tryd.zeroValue5
  t9 := Tryd.underlying9
  a9 := Tryd.isAgg9
  z9 := Tryd.sizeOf9
  v9 := Tryd.zeroValue9
  t20 := Tryd.underlying20
  a20 := Tryd.isAgg20
  z20 := Tryd.sizeOf20
  v20 := Tryd.zeroValue20
  t37 := Tryd.underlying83
  a37 := Tryd.isAgg83
  z37 := Tryd.sizeOf83
  v37 := Tryd.zeroValue83
  t46 := Tryd.underlying77
  a46 := Tryd.isAgg77
  z46 := Tryd.sizeOf77
  v46 := Tryd.zeroValue77
  t51 := Tryd.underlying110
  a51 := Tryd.isAgg110
  z51 := Tryd.sizeOf110
  v51 := Tryd.zeroValue110
  t53 := Tryd.underlying30
  a53 := Tryd.isAgg30
  z53 := Tryd.sizeOf30
  v53 := Tryd.zeroValue30
  t171 := Tryd.underlying95
  a171 := Tryd.isAgg95
  z171 := Tryd.sizeOf95
  v171 := Tryd.zeroValue95
  t173 := Tryd.underlying98
  a173 := Tryd.isAgg98
  z173 := Tryd.sizeOf98
  v173 := Tryd.zeroValue98
  t212 := Tryd.underlying109
  a212 := Tryd.isAgg109
  z212 := Tryd.sizeOf109
  v212 := Tryd.zeroValue109
  t213 := Tryd.underlying111
  a213 := Tryd.isAgg111
  z213 := Tryd.sizeOf111
  t232 := Tryd.underlying131
  a232 := Tryd.isAgg131
  z232 := Tryd.sizeOf131
  v232 := Tryd.zeroValue131
  t233 := Tryd.underlying132
  a233 := Tryd.isAgg132
  z233 := Tryd.sizeOf132
  v233 := Tryd.zeroValue132
  g17 := by kernel_rfl
  g18 := by kernel_rfl
  g19 := by kernel_rfl }
open Go.RowKit Go.Sort Go.Lib in
/-- THE ROAD WITHOUT THE TABLE: 0 <= i < 100. (LAID: no walk: one application.) -/
theorem Tryd.internal_strconv_Itoa_small (i : Nat) (hi : i < 100) (w : World) :
    Calls Tryd.prog 80 #[.int .i64 i] w fun e w' => e = .returned (.string ⟨(Lib.decDigits i).toArray⟩) ∧ w' = w := Any.internal_strconv_Itoa_small Tryd.lays243 i hi w
def Tryd.laysM171_ren : Go.Shelf.Ren := ⟨fun | 171 => 74 | 243 => 80 | 246 => 81 | 283 => 43 | 284 => 44 | 285 => 45 | 286 => 46 | 129 => 59 | 317 => 58 | 318 => 60 | 319 => 61 | 320 => 62 | 337 => 75 | 338 => 76 | n => n, fun | 3 => 3 | 9 => 9 | 2 => 2 | 4 => 4 | 171 => 95 | 0 => 0 | 53 => 30 | 37 => 83 | 5 => 5 | 173 => 98 | 212 => 109 | 51 => 110 | 20 => 20 | 213 => 111 | 46 => 77 | 232 => 131 | 233 => 132 | n => n, fun | 17 => 0 | 18 => 4 | 19 => 5 | n => n⟩
theorem Tryd.laysM171 : Go.Proofs.LaysM.n171 Tryd.prog Tryd.laysM171_ren := {
  mixed := by kernel_rfl
  f129 := Tryd.func59.trans (congrArg some (by kernel_rfl))
  f171 := Tryd.func74.trans (congrArg some (by kernel_rfl))
  f243 := Tryd.func80.trans (congrArg some (by kernel_rfl))
  f246 := Tryd.func81.trans (congrArg some (by kernel_rfl))
  f283 := Tryd.func43.trans (congrArg some (by kernel_rfl))
  f284 := Tryd.func44.trans (congrArg some (by kernel_rfl))
  f285 := Tryd.func45.trans (congrArg some (by kernel_rfl))
  f286 := Tryd.func46.trans (congrArg some (by kernel_rfl))
  f317 := Tryd.func58.trans (congrArg some (by kernel_rfl))
  f318 := Tryd.func60.trans (congrArg some (by kernel_rfl))
  f319 := Tryd.func61.trans (congrArg some (by kernel_rfl))
  f320 := Tryd.func62.trans (congrArg some (by kernel_rfl))
  f337 := Tryd.func75.trans (congrArg some (by kernel_rfl))
  f338 := Tryd.func76.trans (congrArg some (by kernel_rfl))
  t0 := Tryd.underlying0
  a0 := Tryd.isAgg0
  z0 := Tryd.sizeOf0
  v0 := Tryd.zeroValue0
  t2 := Tryd.underlying2
  a2 := Tryd.isAgg2
  z2 := Tryd.sizeOf2
  v2 := Tryd.zeroValue2
  t3 := Tryd.underlying3
  a3 := Tryd.isAgg3
  z3 := Tryd.sizeOf3
  v3 := Tryd.zeroValue3
  t4 := Tryd.underlying4
  a4 := Tryd.isAgg4
  z4 := Tryd.sizeOf4
  v4 := Tryd.zeroValue4
  t5 := Tryd.underlying5
  a5 := Tryd.isAgg5
  z5 := Tryd.sizeOf5
  v5 := Tryd.zeroValue5
  t9 := Tryd.underlying9
  a9 := Tryd.isAgg9
  z9 := Tryd.sizeOf9
  v9 := Tryd.zeroValue9
  t20 := Tryd.underlying20
  a20 := Tryd.isAgg20
  z20 := Tryd.sizeOf20
  v20 := Tryd.zeroValue20
  t37 := Tryd.underlying83
  a37 := Tryd.isAgg83
  z37 := Tryd.sizeOf83
  v37 := Tryd.zeroValue83
  t46 := Tryd.underlying77
  a46 := Tryd.isAgg77
  z46 := Tryd.sizeOf77
  v46 := Tryd.zeroValue77
  t51 := Tryd.underlying110
  a51 := Tryd.isAgg110
  z51 := Tryd.sizeOf110
  v51 := Tryd.zeroValue110
  t53 := Tryd.underlying30
  a53 := Tryd.isAgg30
  z53 := Tryd.sizeOf30
  v53 := Tryd.zeroValue30
  t171 := Tryd.underlying95
  a171 := Tryd.isAgg95
  z171 := Tryd.sizeOf95
  v171 := Tryd.zeroValue95
  t173 := Tryd.underlying98
  a173 := Tryd.isAgg98
  z173 := Tryd.sizeOf98
  v173 := Tryd.zeroValue98
  t212 := Tryd.underlying109
  a212 := Tryd.isAgg109
  z212 := Tryd.sizeOf109
  v212 := Tryd.zeroValue109
  t213 := Tryd.underlying111
  a213 := Tryd.isAgg111
  z213 := Tryd.sizeOf111
  t232 := Tryd.underlying131
  a232 := Tryd.isAgg131
  z232 := Tryd.sizeOf131
  v232 := Tryd.zeroValue131
  t233 := Tryd.underlying132
  a233 := Tryd.isAgg132
  z233 := Tryd.sizeOf132
  v233 := Tryd.zeroValue132
  g17 := by kernel_rfl
  g18 := by kernel_rfl
  g19 := by kernel_rfl
  i0 := by kernel_rfl
  i2 := by kernel_rfl
  i3 := by kernel_rfl
  i4 := by kernel_rfl
  i5 := by kernel_rfl
  i9 := by kernel_rfl
  i20 := by kernel_rfl
  i37 := by kernel_rfl
  i46 := by kernel_rfl
  i51 := by kernel_rfl
  i53 := by kernel_rfl
  i171 := by kernel_rfl
  i173 := by kernel_rfl
  i212 := by kernel_rfl
  i232 := by kernel_rfl
  i233 := by kernel_rfl
  m17 := by kernel_rfl
  m18 := by kernel_rfl
  m19 := by kernel_rfl }
open Go.RowKit Go.Sort Go.Lib in
/-- strconv.Itoa: "Itoa is equivalent to FormatInt(int64(i), 10).": i's DECIMAL NUMERAL ('Lib.itoa': a '-' where i is negative, then the digits), FOR EVERY int. The world behind the call: the world before it, new blocks behind the heap (the library's 'var a [24]byte'), draws. (LAID: no walk: one application.) -/
theorem Tryd.strconv_Itoa (n : Int) (h0 : -9223372036854775808 ≤ n) (h1 : n ≤ 9223372036854775807) (w : World) (htab : Lib.TabIs Tryd.prog w "internal/strconv.uint64pow10" .u64 Lib.pow10Tab) :
    Calls Tryd.prog 74 #[.int .i64 n] w fun e w' => e = .returned (.string ⟨(Lib.itoa n).toArray⟩) ∧ ∃ k os, w' = grow (w.drewN k) os := Any.strconv_Itoa Tryd.laysM171 n h0 h1 w htab
def Tryd.lays171_ren : Go.Shelf.Ren := ⟨fun | 171 => 74 | 243 => 80 | 246 => 81 | 283 => 43 | 284 => 44 | 285 => 45 | 286 => 46 | 129 => 59 | 317 => 58 | 318 => 60 | 319 => 61 | 320 => 62 | 337 => 75 | 338 => 76 | n => n, fun | 3 => 3 | 9 => 9 | 2 => 2 | 4 => 4 | 171 => 95 | 0 => 0 | 53 => 30 | 37 => 83 | 5 => 5 | 173 => 98 | 212 => 109 | 51 => 110 | 20 => 20 | 213 => 111 | 46 => 77 | 232 => 131 | 233 => 132 | n => n, fun | 17 => 0 | 18 => 4 | 19 => 5 | n => n⟩
theorem Tryd.lays171 : Go.Proofs.Lays.n171 Tryd.prog Tryd.lays171_ren := {
  mixed := by kernel_rfl
  f129 := Tryd.func59.trans (congrArg some (by kernel_rfl))
  f171 := Tryd.func74.trans (congrArg some (by kernel_rfl))
  f243 := Tryd.func80.trans (congrArg some (by kernel_rfl))
  f246 := Tryd.func81.trans (congrArg some (by kernel_rfl))
  f283 := Tryd.func43.trans (congrArg some (by kernel_rfl))
  f284 := Tryd.func44.trans (congrArg some (by kernel_rfl))
  f285 := Tryd.func45.trans (congrArg some (by kernel_rfl))
  f286 := Tryd.func46.trans (congrArg some (by kernel_rfl))
  f317 := Tryd.func58.trans (congrArg some (by kernel_rfl))
  f318 := Tryd.func60.trans (congrArg some (by kernel_rfl))
  f319 := Tryd.func61.trans (congrArg some (by kernel_rfl))
  f320 := Tryd.func62.trans (congrArg some (by kernel_rfl))
  f337 := Tryd.func75.trans (congrArg some (by kernel_rfl))
  f338 := Tryd.func76.trans (congrArg some (by kernel_rfl))
  t0 := Tryd.underlying0
  a0 := Tryd.isAgg0
  z0 := Tryd.sizeOf0
  v0 := Tryd.zeroValue0
  t2 := Tryd.underlying2
  a2 := Tryd.isAgg2
  z2 := Tryd.sizeOf2
  v2 := Tryd.zeroValue2
  t3 := Tryd.underlying3
  a3 := Tryd.isAgg3
  z3 := Tryd.sizeOf3
  v3 := Tryd.zeroValue3
  t4 := Tryd.underlying4
  a4 := Tryd.isAgg4
  z4 := Tryd.sizeOf4
  v4 := Tryd.zeroValue4
  t5 := Tryd.underlying5
  a5 := Tryd.isAgg5
  z5 := Tryd.sizeOf5
  v5 := Tryd.zeroValue5
  t9 := Tryd.underlying9
  a9 := Tryd.isAgg9
  z9 := Tryd.sizeOf9
  v9 := Tryd.zeroValue9
  t20 := Tryd.underlying20
  a20 := Tryd.isAgg20
  z20 := Tryd.sizeOf20
  v20 := Tryd.zeroValue20
  t37 := Tryd.underlying83
  a37 := Tryd.isAgg83
  z37 := Tryd.sizeOf83
  v37 := Tryd.zeroValue83
  t46 := Tryd.underlying77
  a46 := Tryd.isAgg77
  z46 := Tryd.sizeOf77
  v46 := Tryd.zeroValue77
  t51 := Tryd.underlying110
  a51 := Tryd.isAgg110
  z51 := Tryd.sizeOf110
  v51 := Tryd.zeroValue110
  t53 := Tryd.underlying30
  a53 := Tryd.isAgg30
  z53 := Tryd.sizeOf30
  v53 := Tryd.zeroValue30
  t171 := Tryd.underlying95
  a171 := Tryd.isAgg95
  z171 := Tryd.sizeOf95
  v171 := Tryd.zeroValue95
  t173 := Tryd.underlying98
  a173 := Tryd.isAgg98
  z173 := Tryd.sizeOf98
  v173 := Tryd.zeroValue98
  t212 := Tryd.underlying109
  a212 := Tryd.isAgg109
  z212 := Tryd.sizeOf109
  v212 := Tryd.zeroValue109
  t213 := Tryd.underlying111
  a213 := Tryd.isAgg111
  z213 := Tryd.sizeOf111
  t232 := Tryd.underlying131
  a232 := Tryd.isAgg131
  z232 := Tryd.sizeOf131
  v232 := Tryd.zeroValue131
  t233 := Tryd.underlying132
  a233 := Tryd.isAgg132
  z233 := Tryd.sizeOf132
  v233 := Tryd.zeroValue132
  g17 := by kernel_rfl
  g18 := by kernel_rfl
  g19 := by kernel_rfl }
open Go.RowKit Go.Sort Go.Lib in
/-- THE ROAD WITHOUT THE TABLE: 0 <= i < 100: NO PREMISE ON THE WORLD, AND THE WORLD IS AS IT WAS: a row that keeps its argument in that range need list no table ('laid = []'). (LAID: no walk: one application.) -/
theorem Tryd.strconv_Itoa_small (i : Nat) (hi : i < 100) (w : World) :
    Calls Tryd.prog 74 #[.int .i64 i] w fun e w' => e = .returned (.string ⟨(Lib.decDigits i).toArray⟩) ∧ w' = w := Any.strconv_Itoa_small Tryd.lays171 i hi w
def Tryd.laysM316_ren : Go.Shelf.Ren := ⟨fun | 316 => 72 | n => n, fun | 9 => 9 | 3 => 3 | 4 => 4 | 37 => 83 | 0 => 0 | 127 => 100 | 5 => 5 | n => n, fun | n => n⟩
theorem Tryd.laysM316 : Go.Proofs.LaysM.n316 Tryd.prog Tryd.laysM316_ren := {
  mixed := by kernel_rfl
  f316 := Tryd.func72.trans (congrArg some (by kernel_rfl))
  t0 := Tryd.underlying0
  a0 := Tryd.isAgg0
  z0 := Tryd.sizeOf0
  v0 := Tryd.zeroValue0
  t3 := Tryd.underlying3
  a3 := Tryd.isAgg3
  z3 := Tryd.sizeOf3
  v3 := Tryd.zeroValue3
  t4 := Tryd.underlying4
  a4 := Tryd.isAgg4
  z4 := Tryd.sizeOf4
  v4 := Tryd.zeroValue4
  t9 := Tryd.underlying9
  a9 := Tryd.isAgg9
  z9 := Tryd.sizeOf9
  v9 := Tryd.zeroValue9
  t37 := Tryd.underlying83
  a37 := Tryd.isAgg83
  z37 := Tryd.sizeOf83
  v37 := Tryd.zeroValue83
  t127 := Tryd.underlying100
  a127 := Tryd.isAgg100
  z127 := Tryd.sizeOf100
  v127 := Tryd.zeroValue100
  t5 := Tryd.underlying5
  a5 := Tryd.isAgg5
  z5 := Tryd.sizeOf5
  v5 := Tryd.zeroValue5
  i0 := by kernel_rfl
  i3 := by kernel_rfl
  i4 := by kernel_rfl
  i5 := by kernel_rfl
  i9 := by kernel_rfl
  i37 := by kernel_rfl
  i127 := by kernel_rfl }
open Go.RowKit in
/-- internal/stringslite.Clone (what strings.Clone calls): "Clone returns a fresh copy of s.": THE SAME BYTES. Of what was there nothing has turned (a new row is laid, and frozen, where s is not empty). (LAID: no walk: one application.) -/
theorem Tryd.stringslite_Clone (s : ByteArray) (w : World) (hlim : s.size ≤ 281474976710656) :
    Calls Tryd.prog 72 #[.string s] w fun e w' => e = .returned (.string s) ∧ Below w.heap.size w w' := Any.stringslite_Clone Tryd.laysM316 s w hlim
def Tryd.lays321_ren : Go.Shelf.Ren := ⟨fun | 321 => 52 | n => n, fun | 5 => 5 | n => n, fun | n => n⟩
theorem Tryd.lays321 : Go.Proofs.Lays.n321 Tryd.prog Tryd.lays321_ren := {
  mixed := by kernel_rfl
  f321 := Tryd.func52.trans (congrArg some (by kernel_rfl))
  t5 := Tryd.underlying5
  a5 := Tryd.isAgg5
  z5 := Tryd.sizeOf5
  v5 := Tryd.zeroValue5 }
open Go.RowKit in
/-- internal/strconv.lower: 'c | ('x' - 'X')': the bit 32 set. The world is as it was. (LAID: no walk: one application.) -/
theorem Tryd.internal_strconv_lower (c : Int) (w : World) :
    Calls Tryd.prog 52 #[.int .u8 c] w fun e w' => e = .returned (.int .u8 (bits .or .u8 c 32)) ∧ w' = w := Any.internal_strconv_lower Tryd.lays321 c w
def Tryd.lays287_ren : Go.Shelf.Ren := ⟨fun | 287 => 40 | 321 => 52 | 322 => 53 | n => n, fun | 9 => 9 | 3 => 3 | 53 => 30 | 75 => 74 | 4 => 4 | 167 => 102 | 5 => 5 | 46 => 77 | 37 => 83 | 0 => 0 | 21 => 21 | 80 => 89 | n => n, fun | n => n⟩
theorem Tryd.lays287 : Go.Proofs.Lays.n287 Tryd.prog Tryd.lays287_ren := {
  mixed := by kernel_rfl
  f287 := Tryd.func40.trans (congrArg some (by kernel_rfl))
  f321 := Tryd.func52.trans (congrArg some (by kernel_rfl))
  f322 := Tryd.func53.trans (congrArg some (by kernel_rfl))
  t0 := Tryd.underlying0
  a0 := Tryd.isAgg0
  z0 := Tryd.sizeOf0
  v0 := Tryd.zeroValue0
  t3 := Tryd.underlying3
  a3 := Tryd.isAgg3
  z3 := Tryd.sizeOf3
  v3 := Tryd.zeroValue3
  t4 := Tryd.underlying4
  a4 := Tryd.isAgg4
  z4 := Tryd.sizeOf4
  v4 := Tryd.zeroValue4
  t5 := Tryd.underlying5
  a5 := Tryd.isAgg5
  z5 := Tryd.sizeOf5
  v5 := Tryd.zeroValue5
  t9 := Tryd.underlying9
  a9 := Tryd.isAgg9
  z9 := Tryd.sizeOf9
  v9 := Tryd.zeroValue9
  t21 := Tryd.underlying21
  a21 := Tryd.isAgg21
  z21 := Tryd.sizeOf21
  v21 := Tryd.zeroValue21
  t37 := Tryd.underlying83
  a37 := Tryd.isAgg83
  z37 := Tryd.sizeOf83
  v37 := Tryd.zeroValue83
  t46 := Tryd.underlying77
  a46 := Tryd.isAgg77
  z46 := Tryd.sizeOf77
  v46 := Tryd.zeroValue77
  t53 := Tryd.underlying30
  a53 := Tryd.isAgg30
  z53 := Tryd.sizeOf30
  v53 := Tryd.zeroValue30
  t75 := Tryd.underlying74
  a75 := Tryd.isAgg74
  z75 := Tryd.sizeOf74
  v75 := Tryd.zeroValue74
  t167 := Tryd.underlying102
  a167 := Tryd.isAgg102
  z167 := Tryd.sizeOf102
  v167 := Tryd.zeroValue102 }
open Go.RowKit in
/-- internal/strconv.ParseUint("", base, bitSize): (0, ErrSyntax): the first test of the text. The world is as it was. (LAID: no walk: one application.) -/
theorem Tryd.internal_strconv_ParseUint_empty (base bits : Int) (w : World) :
    Calls Tryd.prog 40 #[.string ⟨#[]⟩, .int .i64 base, .int .i64 bits] w fun e w' => e = .returned (.tuple #[.int .u64 0, .iface 102 (.int .i64 2)]) ∧ w' = w := Any.internal_strconv_ParseUint_empty Tryd.lays287 base bits w
def Tryd.lays217_ren : Go.Shelf.Ren := ⟨fun | 217 => 65 | 266 => 77 | n => n, fun | 9 => 9 | 5 => 5 | 3 => 3 | n => n, fun | n => n⟩
theorem Tryd.lays217 : Go.Proofs.Lays.n217 Tryd.prog Tryd.lays217_ren := {
  mixed := by kernel_rfl
  f217 := Tryd.func65.trans (congrArg some (by kernel_rfl))
  f266 := Tryd.func77.trans (congrArg some (by kernel_rfl))
  t3 := Tryd.underlying3
  a3 := Tryd.isAgg3
  z3 := Tryd.sizeOf3
  v3 := Tryd.zeroValue3
  t5 := Tryd.underlying5
  a5 := Tryd.isAgg5
  z5 := Tryd.sizeOf5
  v5 := Tryd.zeroValue5
  t9 := Tryd.underlying9
  a9 := Tryd.isAgg9
  z9 := Tryd.sizeOf9
  v9 := Tryd.zeroValue9 }
open Go.RowKit Go.Lib in
/-- internal/stringslite.IndexByte (what strings.IndexByte calls): IT RETURNS 'Lib.indexByte s c'; the world is as it was. (LAID: no walk: one application.) -/
theorem Tryd.stringslite_IndexByte (s : ByteArray) (c : Int) (w : World) :
    Calls Tryd.prog 65 #[.string s, .int .u8 c] w fun e w' => e = .returned (.int .i64 (Lib.indexByte s.data.toList c.toNat.toUInt8)) ∧ w' = w := Any.stringslite_IndexByte Tryd.lays217 s c w
def Tryd.lays224_ren : Go.Shelf.Ren := ⟨fun | 224 => 67 | n => n, fun | 3 => 3 | n => n, fun | n => n⟩
theorem Tryd.lays224 : Go.Proofs.Lays.n224 Tryd.prog Tryd.lays224_ren := {
  mixed := by kernel_rfl
  f224 := Tryd.func67.trans (congrArg some (by kernel_rfl))
  t3 := Tryd.underlying3
  a3 := Tryd.isAgg3
  z3 := Tryd.sizeOf3
  v3 := Tryd.zeroValue3 }
open Go.RowKit Go.Lib in
/-- internal/bytealg.Cutover: "Cutover reports the number of failures of IndexByte we should tolerate before switching over to Index. n is the number of bytes processed so far.": on amd64: (n + 16) / 8. (LAID: no walk: one application.) -/
theorem Tryd.bytealg_Cutover (n : Int) (h0 : 0 ≤ n) (h1 : n < 4611686018427387904) (w : World) :
    Calls Tryd.prog 67 #[.int .i64 n] w fun e w' => e = .returned (.int .i64 ((n + 16) / 8)) ∧ w' = w := Any.bytealg_Cutover Tryd.lays224 n h0 h1 w
def Tryd.lays314_ren : Go.Shelf.Ren := ⟨fun | 314 => 78 | n => n, fun | 9 => 9 | 51 => 110 | 3 => 3 | 4 => 4 | 5 => 5 | 46 => 77 | n => n, fun | n => n⟩
theorem Tryd.lays314 : Go.Proofs.Lays.n314 Tryd.prog Tryd.lays314_ren := {
  mixed := by kernel_rfl
  f314 := Tryd.func78.trans (congrArg some (by kernel_rfl))
  t3 := Tryd.underlying3
  a3 := Tryd.isAgg3
  z3 := Tryd.sizeOf3
  v3 := Tryd.zeroValue3
  t4 := Tryd.underlying4
  a4 := Tryd.isAgg4
  z4 := Tryd.sizeOf4
  v4 := Tryd.zeroValue4
  t5 := Tryd.underlying5
  a5 := Tryd.isAgg5
  z5 := Tryd.sizeOf5
  v5 := Tryd.zeroValue5
  t9 := Tryd.underlying9
  a9 := Tryd.isAgg9
  z9 := Tryd.sizeOf9
  v9 := Tryd.zeroValue9
  t46 := Tryd.underlying77
  a46 := Tryd.isAgg77
  z46 := Tryd.sizeOf77
  v46 := Tryd.zeroValue77
  t51 := Tryd.underlying110
  a51 := Tryd.isAgg110
  z51 := Tryd.sizeOf110
  v51 := Tryd.zeroValue110 }
open Go.RowKit Go.Lib in
/-- hashStr: "returns the hash and the appropriate multiplicative factor for use in Rabin-Karp algorithm": THE HASH OF ALL OF sep, AND 16777619 ^ len(sep), both in uint32. (LAID: no walk: one application.) -/
theorem Tryd.bytealg_hashStr (sep : ByteArray) (hs : sep.size < 4294967281) (w : World) :
    Calls Tryd.prog 78 #[.string sep] w fun e w' => e = .returned (.tuple #[.int .u32 (RK.H sep.data.toList % 4294967296), .int .u32 (16777619 ^ sep.size % 4294967296)]) ∧ w' = w := Any.bytealg_hashStr Tryd.lays314 sep hs w
def Tryd.lays267_ren : Go.Shelf.Ren := ⟨fun | 267 => 68 | 314 => 78 | n => n, fun | 9 => 9 | 3 => 3 | 146 => 126 | 51 => 110 | 4 => 4 | 5 => 5 | 46 => 77 | n => n, fun | n => n⟩
theorem Tryd.lays267 : Go.Proofs.Lays.n267 Tryd.prog Tryd.lays267_ren := {
  mixed := by kernel_rfl
  f267 := Tryd.func68.trans (congrArg some (by kernel_rfl))
  f314 := Tryd.func78.trans (congrArg some (by kernel_rfl))
  t3 := Tryd.underlying3
  a3 := Tryd.isAgg3
  z3 := Tryd.sizeOf3
  v3 := Tryd.zeroValue3
  t4 := Tryd.underlying4
  a4 := Tryd.isAgg4
  z4 := Tryd.sizeOf4
  v4 := Tryd.zeroValue4
  t5 := Tryd.underlying5
  a5 := Tryd.isAgg5
  z5 := Tryd.sizeOf5
  v5 := Tryd.zeroValue5
  t9 := Tryd.underlying9
  a9 := Tryd.isAgg9
  z9 := Tryd.sizeOf9
  v9 := Tryd.zeroValue9
  t46 := Tryd.underlying77
  a46 := Tryd.isAgg77
  z46 := Tryd.sizeOf77
  v46 := Tryd.zeroValue77
  t51 := Tryd.underlying110
  a51 := Tryd.isAgg110
  z51 := Tryd.sizeOf110
  v51 := Tryd.zeroValue110
  t146 := Tryd.underlying126
  a146 := Tryd.isAgg126
  z146 := Tryd.sizeOf126
  v146 := Tryd.zeroValue126 }
open Go.RowKit Go.Lib in
theorem Tryd.bytealg_IndexRabinKarp (s sep : ByteArray) (h1 : 1 ≤ sep.size) (h2 : sep.size ≤ s.size) (hs : s.size < 4294967281) (w : World) :
    Calls Tryd.prog 68 #[.string s, .string sep] w fun e w' => e = .returned (.int .i64 (Lib.index s.data.toList sep.data.toList)) ∧ w' = w := Any.bytealg_IndexRabinKarp Tryd.lays267 s sep h1 h2 hs w
def Tryd.lays219_ren : Go.Shelf.Ren := ⟨fun | 219 => 49 | 217 => 65 | 225 => 66 | 224 => 67 | 267 => 68 | 266 => 77 | 314 => 78 | n => n, fun | 9 => 9 | 3 => 3 | 4 => 4 | 5 => 5 | 46 => 77 | 146 => 126 | 51 => 110 | n => n, fun | 1 => 1 | n => n⟩
theorem Tryd.lays219 : Go.Proofs.Lays.n219 Tryd.prog Tryd.lays219_ren := {
  mixed := by kernel_rfl
  f217 := Tryd.func65.trans (congrArg some (by kernel_rfl))
  f219 := Tryd.func49.trans (congrArg some (by kernel_rfl))
  f224 := Tryd.func67.trans (congrArg some (by kernel_rfl))
  f225 := Tryd.func66.trans (congrArg some (by kernel_rfl))
  f266 := Tryd.func77.trans (congrArg some (by kernel_rfl))
  f267 := Tryd.func68.trans (congrArg some (by kernel_rfl))
  f314 := Tryd.func78.trans (congrArg some (by kernel_rfl))
  t3 := Tryd.underlying3
  a3 := Tryd.isAgg3
  z3 := Tryd.sizeOf3
  v3 := Tryd.zeroValue3
  t4 := Tryd.underlying4
  a4 := Tryd.isAgg4
  z4 := Tryd.sizeOf4
  v4 := Tryd.zeroValue4
  t5 := Tryd.underlying5
  a5 := Tryd.isAgg5
  z5 := Tryd.sizeOf5
  v5 := Tryd.zeroValue5
  t9 := Tryd.underlying9
  a9 := Tryd.isAgg9
  z9 := Tryd.sizeOf9
  v9 := Tryd.zeroValue9
  t46 := Tryd.underlying77
  a46 := Tryd.isAgg77
  z46 := Tryd.sizeOf77
  v46 := Tryd.zeroValue77
  t51 := Tryd.underlying110
  a51 := Tryd.isAgg110
  z51 := Tryd.sizeOf110
  v51 := Tryd.zeroValue110
  t146 := Tryd.underlying126
  a146 := Tryd.isAgg126
  z146 := Tryd.sizeOf126
  v146 := Tryd.zeroValue126
  g1 := by kernel_rfl }
open Go.RowKit Go.Lib in
/-- internal/stringslite.Index (what strings.Index calls) AT A substr OF ONE BYTE c: IT RETURNS 'Lib.indexByte s c'; the world is as it was. (LAID: no walk: one application.) -/
theorem Tryd.stringslite_Index_one (s : ByteArray) (c : UInt8) (w : World) :
    Calls Tryd.prog 49 #[.string s, .string ⟨#[c]⟩] w fun e w' => e = .returned (.int .i64 (Lib.indexByte s.data.toList c)) ∧ w' = w := Any.stringslite_Index_one Tryd.lays219 s c w
open Go.RowKit Go.Lib in
/-- internal/stringslite.Index (what strings.Index calls) AT A substr OF WHATEVER LENGTH: IT RETURNS 'Lib.index s substr'; the world is as it was. 'm': what internal/bytealg.MaxLen holds: whatever. (LAID: no walk: one application.) -/
theorem Tryd.stringslite_Index (s sub : ByteArray) (m : Int) (w : World) (hs : s.size < 4294967281) (hm : w.cell? ⟨1, 0, none⟩ = some (.int .i64 m)) :
    Calls Tryd.prog 49 #[.string s, .string sub] w fun e w' => e = .returned (.int .i64 (Lib.index s.data.toList sub.data.toList)) ∧ w' = w := Any.stringslite_Index Tryd.lays219 s sub m w hs hm
def Tryd.lays143_ren : Go.Shelf.Ren := ⟨fun | 143 => 38 | 219 => 49 | 217 => 65 | 225 => 66 | 224 => 67 | 267 => 68 | 266 => 77 | 314 => 78 | n => n, fun | 9 => 9 | 3 => 3 | 4 => 4 | 5 => 5 | 46 => 77 | 146 => 126 | 51 => 110 | n => n, fun | 1 => 1 | n => n⟩
theorem Tryd.lays143 : Go.Proofs.Lays.n143 Tryd.prog Tryd.lays143_ren := {
  mixed := by kernel_rfl
  f143 := Tryd.func38.trans (congrArg some (by kernel_rfl))
  f217 := Tryd.func65.trans (congrArg some (by kernel_rfl))
  f219 := Tryd.func49.trans (congrArg some (by kernel_rfl))
  f224 := Tryd.func67.trans (congrArg some (by kernel_rfl))
  f225 := Tryd.func66.trans (congrArg some (by kernel_rfl))
  f266 := Tryd.func77.trans (congrArg some (by kernel_rfl))
  f267 := Tryd.func68.trans (congrArg some (by kernel_rfl))
  f314 := Tryd.func78.trans (congrArg some (by kernel_rfl))
  t3 := Tryd.underlying3
  a3 := Tryd.isAgg3
  z3 := Tryd.sizeOf3
  v3 := Tryd.zeroValue3
  t4 := Tryd.underlying4
  a4 := Tryd.isAgg4
  z4 := Tryd.sizeOf4
  v4 := Tryd.zeroValue4
  t5 := Tryd.underlying5
  a5 := Tryd.isAgg5
  z5 := Tryd.sizeOf5
  v5 := Tryd.zeroValue5
  t9 := Tryd.underlying9
  a9 := Tryd.isAgg9
  z9 := Tryd.sizeOf9
  v9 := Tryd.zeroValue9
  t46 := Tryd.underlying77
  a46 := Tryd.isAgg77
  z46 := Tryd.sizeOf77
  v46 := Tryd.zeroValue77
  t51 := Tryd.underlying110
  a51 := Tryd.isAgg110
  z51 := Tryd.sizeOf110
  v51 := Tryd.zeroValue110
  t146 := Tryd.underlying126
  a146 := Tryd.isAgg126
  z146 := Tryd.sizeOf126
  v146 := Tryd.zeroValue126
  g1 := by kernel_rfl }
open Go.RowKit Go.Lib in
/-- strings.Index: "Index returns the index of the first instance of substr in s, or -1 if substr is not present in s.": AT A substr OF ONE BYTE c: IT RETURNS 'Lib.indexByte s c'; the world is as it was. (LAID: no walk: one application.) -/
theorem Tryd.strings_Index_one (s : ByteArray) (c : UInt8) (w : World) :
    Calls Tryd.prog 38 #[.string s, .string ⟨#[c]⟩] w fun e w' => e = .returned (.int .i64 (Lib.indexByte s.data.toList c)) ∧ w' = w := Any.strings_Index_one Tryd.lays143 s c w
open Go.RowKit Go.Lib in
/-- strings.Index: "Index returns the index of the first instance of substr in s, or -1 if substr is not present in s.": IT RETURNS 'Lib.index s substr'; the world is as it was. (LAID: no walk: one application.) -/
theorem Tryd.strings_Index (s sub : ByteArray) (m : Int) (w : World) (hs : s.size < 4294967281) (hm : w.cell? ⟨1, 0, none⟩ = some (.int .i64 m)) :
    Calls Tryd.prog 38 #[.string s, .string sub] w fun e w' => e = .returned (.int .i64 (Lib.index s.data.toList sub.data.toList)) ∧ w' = w := Any.strings_Index Tryd.lays143 s sub m w hs hm
def Tryd.lays144_ren : Go.Shelf.Ren := ⟨fun | 144 => 27 | 143 => 38 | 219 => 49 | 217 => 65 | 225 => 66 | 224 => 67 | 267 => 68 | 266 => 77 | 314 => 78 | n => n, fun | 9 => 9 | 4 => 4 | 3 => 3 | 5 => 5 | 46 => 77 | 146 => 126 | 51 => 110 | n => n, fun | 1 => 1 | n => n⟩
theorem Tryd.lays144 : Go.Proofs.Lays.n144 Tryd.prog Tryd.lays144_ren := {
  mixed := by kernel_rfl
  f143 := Tryd.func38.trans (congrArg some (by kernel_rfl))
  f144 := Tryd.func27.trans (congrArg some (by kernel_rfl))
  f217 := Tryd.func65.trans (congrArg some (by kernel_rfl))
  f219 := Tryd.func49.trans (congrArg some (by kernel_rfl))
  f224 := Tryd.func67.trans (congrArg some (by kernel_rfl))
  f225 := Tryd.func66.trans (congrArg some (by kernel_rfl))
  f266 := Tryd.func77.trans (congrArg some (by kernel_rfl))
  f267 := Tryd.func68.trans (congrArg some (by kernel_rfl))
  f314 := Tryd.func78.trans (congrArg some (by kernel_rfl))
  t3 := Tryd.underlying3
  a3 := Tryd.isAgg3
  z3 := Tryd.sizeOf3
  v3 := Tryd.zeroValue3
  t4 := Tryd.underlying4
  a4 := Tryd.isAgg4
  z4 := Tryd.sizeOf4
  v4 := Tryd.zeroValue4
  t5 := Tryd.underlying5
  a5 := Tryd.isAgg5
  z5 := Tryd.sizeOf5
  v5 := Tryd.zeroValue5
  t9 := Tryd.underlying9
  a9 := Tryd.isAgg9
  z9 := Tryd.sizeOf9
  v9 := Tryd.zeroValue9
  t46 := Tryd.underlying77
  a46 := Tryd.isAgg77
  z46 := Tryd.sizeOf77
  v46 := Tryd.zeroValue77
  t51 := Tryd.underlying110
  a51 := Tryd.isAgg110
  z51 := Tryd.sizeOf110
  v51 := Tryd.zeroValue110
  t146 := Tryd.underlying126
  a146 := Tryd.isAgg126
  z146 := Tryd.sizeOf126
  v146 := Tryd.zeroValue126
  g1 := by kernel_rfl }
open Go.RowKit Go.Lib in
/-- strings.Contains: "Contains reports whether substr is within s.": AT A substr OF ONE BYTE c: IT RETURNS 'decide (0 ≤ Lib.indexByte s c)'; the world is as it was. (LAID: no walk: one application.) -/
theorem Tryd.strings_Contains_one (s : ByteArray) (c : UInt8) (w : World) :
    Calls Tryd.prog 27 #[.string s, .string ⟨#[c]⟩] w fun e w' => e = .returned (.bool (decide (0 ≤ Lib.indexByte s.data.toList c))) ∧ w' = w := Any.strings_Contains_one Tryd.lays144 s c w
open Go.RowKit Go.Lib in
/-- strings.Contains: "Contains reports whether substr is within s.": IT RETURNS 'Lib.contains s substr'; the world is as it was. (LAID: no walk: one application.) -/
theorem Tryd.strings_Contains (s sub : ByteArray) (m : Int) (w : World) (hs : s.size < 4294967281) (hm : w.cell? ⟨1, 0, none⟩ = some (.int .i64 m)) :
    Calls Tryd.prog 27 #[.string s, .string sub] w fun e w' => e = .returned (.bool (Lib.contains s.data.toList sub.data.toList)) ∧ w' = w := Any.strings_Contains Tryd.lays144 s sub m w hs hm
def Tryd.lays138_ren : Go.Shelf.Ren := ⟨fun | 138 => 51 | 195 => 69 | 218 => 71 | 143 => 38 | 219 => 49 | 217 => 65 | 225 => 66 | 224 => 67 | 267 => 68 | 266 => 77 | 314 => 78 | n => n, fun | 9 => 9 | 3 => 3 | 4 => 4 | 5 => 5 | 0 => 0 | 46 => 77 | 146 => 126 | 51 => 110 | n => n, fun | 1 => 1 | n => n⟩
theorem Tryd.lays138 : Go.Proofs.Lays.n138 Tryd.prog Tryd.lays138_ren := {
  mixed := by kernel_rfl
  f138 := Tryd.func51.trans (congrArg some (by kernel_rfl))
  f143 := Tryd.func38.trans (congrArg some (by kernel_rfl))
  f195 := Tryd.func69.trans (congrArg some (by kernel_rfl))
  f217 := Tryd.func65.trans (congrArg some (by kernel_rfl))
  f218 := Tryd.func71.trans (congrArg some (by kernel_rfl))
  f219 := Tryd.func49.trans (congrArg some (by kernel_rfl))
  f224 := Tryd.func67.trans (congrArg some (by kernel_rfl))
  f225 := Tryd.func66.trans (congrArg some (by kernel_rfl))
  f266 := Tryd.func77.trans (congrArg some (by kernel_rfl))
  f267 := Tryd.func68.trans (congrArg some (by kernel_rfl))
  f314 := Tryd.func78.trans (congrArg some (by kernel_rfl))
  t0 := Tryd.underlying0
  a0 := Tryd.isAgg0
  z0 := Tryd.sizeOf0
  v0 := Tryd.zeroValue0
  t3 := Tryd.underlying3
  a3 := Tryd.isAgg3
  z3 := Tryd.sizeOf3
  v3 := Tryd.zeroValue3
  t4 := Tryd.underlying4
  a4 := Tryd.isAgg4
  z4 := Tryd.sizeOf4
  v4 := Tryd.zeroValue4
  t5 := Tryd.underlying5
  a5 := Tryd.isAgg5
  z5 := Tryd.sizeOf5
  v5 := Tryd.zeroValue5
  t9 := Tryd.underlying9
  a9 := Tryd.isAgg9
  z9 := Tryd.sizeOf9
  v9 := Tryd.zeroValue9
  t46 := Tryd.underlying77
  a46 := Tryd.isAgg77
  z46 := Tryd.sizeOf77
  v46 := Tryd.zeroValue77
  t51 := Tryd.underlying110
  a51 := Tryd.isAgg110
  z51 := Tryd.sizeOf110
  v51 := Tryd.zeroValue110
  t146 := Tryd.underlying126
  a146 := Tryd.isAgg126
  z146 := Tryd.sizeOf126
  v146 := Tryd.zeroValue126
  g1 := by kernel_rfl }
open Go.RowKit Go.Lib in
/-- strings.Count AT A substr OF ONE BYTE ('hp'): "Count counts the number of non-overlapping instances of substr in s.": IT RETURNS 'Lib.countByte s (that byte)'; the world is as it was. ✋ NO CONTRACT HERE YET at an empty substr (utf8.RuneCountInString) or at a longer one (a loop over strings.Index). (LAID: no walk: one application.) -/
theorem Tryd.strings_Count_one (s : ByteArray) (c : UInt8) (w : World) :
    Calls Tryd.prog 51 #[.string s, .string ⟨#[c]⟩] w fun e w' => e = .returned (.int .i64 (Lib.countByte s.data.toList c)) ∧ w' = w := Any.strings_Count_one Tryd.lays138 s c w
open Go.RowKit Go.Lib in
/-- strings.Count AT A substr OF TWO BYTES OR MORE: "Count counts the number of non-overlapping instances of substr in s.": IT RETURNS 'Lib.count s substr'; the world is as it was. (LAID: no walk: one application.) -/
theorem Tryd.strings_Count (s sub : ByteArray) (m : Int) (w : World) (hs : s.size < 4294967281) (hm : w.cell? ⟨1, 0, none⟩ = some (.int .i64 m)) (h2 : 2 ≤ sub.size) :
    Calls Tryd.prog 51 #[.string s, .string sub] w fun e w' => e = .returned (.int .i64 (Lib.countB s sub)) ∧ w' = w := Any.strings_Count Tryd.lays138 s sub m w hs hm h2
def Tryd.laysM219_ren : Go.Shelf.Ren := ⟨fun | 219 => 49 | 217 => 65 | 225 => 66 | 224 => 67 | 267 => 68 | 266 => 77 | 314 => 78 | n => n, fun | 9 => 9 | 3 => 3 | 4 => 4 | 5 => 5 | 46 => 77 | 146 => 126 | 51 => 110 | n => n, fun | 1 => 1 | n => n⟩
theorem Tryd.laysM219 : Go.Proofs.LaysM.n219 Tryd.prog Tryd.laysM219_ren := {
  mixed := by kernel_rfl
  f217 := Tryd.func65.trans (congrArg some (by kernel_rfl))
  f219 := Tryd.func49.trans (congrArg some (by kernel_rfl))
  f224 := Tryd.func67.trans (congrArg some (by kernel_rfl))
  f225 := Tryd.func66.trans (congrArg some (by kernel_rfl))
  f266 := Tryd.func77.trans (congrArg some (by kernel_rfl))
  f267 := Tryd.func68.trans (congrArg some (by kernel_rfl))
  f314 := Tryd.func78.trans (congrArg some (by kernel_rfl))
  t3 := Tryd.underlying3
  a3 := Tryd.isAgg3
  z3 := Tryd.sizeOf3
  v3 := Tryd.zeroValue3
  t4 := Tryd.underlying4
  a4 := Tryd.isAgg4
  z4 := Tryd.sizeOf4
  v4 := Tryd.zeroValue4
  t5 := Tryd.underlying5
  a5 := Tryd.isAgg5
  z5 := Tryd.sizeOf5
  v5 := Tryd.zeroValue5
  t9 := Tryd.underlying9
  a9 := Tryd.isAgg9
  z9 := Tryd.sizeOf9
  v9 := Tryd.zeroValue9
  t46 := Tryd.underlying77
  a46 := Tryd.isAgg77
  z46 := Tryd.sizeOf77
  v46 := Tryd.zeroValue77
  t51 := Tryd.underlying110
  a51 := Tryd.isAgg110
  z51 := Tryd.sizeOf110
  v51 := Tryd.zeroValue110
  t146 := Tryd.underlying126
  a146 := Tryd.isAgg126
  z146 := Tryd.sizeOf126
  v146 := Tryd.zeroValue126
  g1 := by kernel_rfl
  i3 := by kernel_rfl
  i4 := by kernel_rfl
  i5 := by kernel_rfl
  i9 := by kernel_rfl
  i46 := by kernel_rfl
  i51 := by kernel_rfl
  i146 := by kernel_rfl
  m1 := by kernel_rfl
  s1_3 := fun w h => Go.Proofs.cell_of_shapedOpen_int (zero := #[.int .i64 0]) (t := 3) h (of_decide_eq_true (by kernel_rfl)) (by kernel_rfl) rfl (by kernel_rfl) (by kernel_rfl) Tryd.underlying3 }
open Go.RowKit Go.Lib in
theorem Tryd.stringslite_Index_shaped (s sub : ByteArray) (w : World) (h : w.ShapedOpen Tryd.prog) (hs : s.size < 4294967281) :
    Calls Tryd.prog 49 #[.string s, .string sub] w fun e w' => e = .returned (.int .i64 (Lib.index s.data.toList sub.data.toList)) ∧ w' = w := Any.stringslite_Index_shaped Tryd.laysM219 s sub w h hs
def Tryd.laysM143_ren : Go.Shelf.Ren := ⟨fun | 143 => 38 | 219 => 49 | 217 => 65 | 225 => 66 | 224 => 67 | 267 => 68 | 266 => 77 | 314 => 78 | n => n, fun | 9 => 9 | 3 => 3 | 4 => 4 | 5 => 5 | 46 => 77 | 146 => 126 | 51 => 110 | n => n, fun | 1 => 1 | n => n⟩
theorem Tryd.laysM143 : Go.Proofs.LaysM.n143 Tryd.prog Tryd.laysM143_ren := {
  mixed := by kernel_rfl
  f143 := Tryd.func38.trans (congrArg some (by kernel_rfl))
  f217 := Tryd.func65.trans (congrArg some (by kernel_rfl))
  f219 := Tryd.func49.trans (congrArg some (by kernel_rfl))
  f224 := Tryd.func67.trans (congrArg some (by kernel_rfl))
  f225 := Tryd.func66.trans (congrArg some (by kernel_rfl))
  f266 := Tryd.func77.trans (congrArg some (by kernel_rfl))
  f267 := Tryd.func68.trans (congrArg some (by kernel_rfl))
  f314 := Tryd.func78.trans (congrArg some (by kernel_rfl))
  t3 := Tryd.underlying3
  a3 := Tryd.isAgg3
  z3 := Tryd.sizeOf3
  v3 := Tryd.zeroValue3
  t4 := Tryd.underlying4
  a4 := Tryd.isAgg4
  z4 := Tryd.sizeOf4
  v4 := Tryd.zeroValue4
  t5 := Tryd.underlying5
  a5 := Tryd.isAgg5
  z5 := Tryd.sizeOf5
  v5 := Tryd.zeroValue5
  t9 := Tryd.underlying9
  a9 := Tryd.isAgg9
  z9 := Tryd.sizeOf9
  v9 := Tryd.zeroValue9
  t46 := Tryd.underlying77
  a46 := Tryd.isAgg77
  z46 := Tryd.sizeOf77
  v46 := Tryd.zeroValue77
  t51 := Tryd.underlying110
  a51 := Tryd.isAgg110
  z51 := Tryd.sizeOf110
  v51 := Tryd.zeroValue110
  t146 := Tryd.underlying126
  a146 := Tryd.isAgg126
  z146 := Tryd.sizeOf126
  v146 := Tryd.zeroValue126
  g1 := by kernel_rfl
  i3 := by kernel_rfl
  i4 := by kernel_rfl
  i5 := by kernel_rfl
  i9 := by kernel_rfl
  i46 := by kernel_rfl
  i51 := by kernel_rfl
  i146 := by kernel_rfl
  m1 := by kernel_rfl
  s1_3 := fun w h => Go.Proofs.cell_of_shapedOpen_int (zero := #[.int .i64 0]) (t := 3) h (of_decide_eq_true (by kernel_rfl)) (by kernel_rfl) rfl (by kernel_rfl) (by kernel_rfl) Tryd.underlying3 }
open Go.RowKit Go.Lib in
theorem Tryd.strings_Index_shaped (s sub : ByteArray) (w : World) (h : w.ShapedOpen Tryd.prog) (hs : s.size < 4294967281) :
    Calls Tryd.prog 38 #[.string s, .string sub] w fun e w' => e = .returned (.int .i64 (Lib.index s.data.toList sub.data.toList)) ∧ w' = w := Any.strings_Index_shaped Tryd.laysM143 s sub w h hs
def Tryd.laysM144_ren : Go.Shelf.Ren := ⟨fun | 144 => 27 | 143 => 38 | 219 => 49 | 217 => 65 | 225 => 66 | 224 => 67 | 267 => 68 | 266 => 77 | 314 => 78 | n => n, fun | 9 => 9 | 4 => 4 | 3 => 3 | 5 => 5 | 46 => 77 | 146 => 126 | 51 => 110 | n => n, fun | 1 => 1 | n => n⟩
theorem Tryd.laysM144 : Go.Proofs.LaysM.n144 Tryd.prog Tryd.laysM144_ren := {
  mixed := by kernel_rfl
  f143 := Tryd.func38.trans (congrArg some (by kernel_rfl))
  f144 := Tryd.func27.trans (congrArg some (by kernel_rfl))
  f217 := Tryd.func65.trans (congrArg some (by kernel_rfl))
  f219 := Tryd.func49.trans (congrArg some (by kernel_rfl))
  f224 := Tryd.func67.trans (congrArg some (by kernel_rfl))
  f225 := Tryd.func66.trans (congrArg some (by kernel_rfl))
  f266 := Tryd.func77.trans (congrArg some (by kernel_rfl))
  f267 := Tryd.func68.trans (congrArg some (by kernel_rfl))
  f314 := Tryd.func78.trans (congrArg some (by kernel_rfl))
  t3 := Tryd.underlying3
  a3 := Tryd.isAgg3
  z3 := Tryd.sizeOf3
  v3 := Tryd.zeroValue3
  t4 := Tryd.underlying4
  a4 := Tryd.isAgg4
  z4 := Tryd.sizeOf4
  v4 := Tryd.zeroValue4
  t5 := Tryd.underlying5
  a5 := Tryd.isAgg5
  z5 := Tryd.sizeOf5
  v5 := Tryd.zeroValue5
  t9 := Tryd.underlying9
  a9 := Tryd.isAgg9
  z9 := Tryd.sizeOf9
  v9 := Tryd.zeroValue9
  t46 := Tryd.underlying77
  a46 := Tryd.isAgg77
  z46 := Tryd.sizeOf77
  v46 := Tryd.zeroValue77
  t51 := Tryd.underlying110
  a51 := Tryd.isAgg110
  z51 := Tryd.sizeOf110
  v51 := Tryd.zeroValue110
  t146 := Tryd.underlying126
  a146 := Tryd.isAgg126
  z146 := Tryd.sizeOf126
  v146 := Tryd.zeroValue126
  g1 := by kernel_rfl
  i3 := by kernel_rfl
  i4 := by kernel_rfl
  i5 := by kernel_rfl
  i9 := by kernel_rfl
  i46 := by kernel_rfl
  i51 := by kernel_rfl
  i146 := by kernel_rfl
  m1 := by kernel_rfl
  s1_3 := fun w h => Go.Proofs.cell_of_shapedOpen_int (zero := #[.int .i64 0]) (t := 3) h (of_decide_eq_true (by kernel_rfl)) (by kernel_rfl) rfl (by kernel_rfl) (by kernel_rfl) Tryd.underlying3 }
open Go.RowKit Go.Lib in
theorem Tryd.strings_Contains_shaped (s sub : ByteArray) (w : World) (h : w.ShapedOpen Tryd.prog) (hs : s.size < 4294967281) :
    Calls Tryd.prog 27 #[.string s, .string sub] w fun e w' => e = .returned (.bool (Lib.contains s.data.toList sub.data.toList)) ∧ w' = w := Any.strings_Contains_shaped Tryd.laysM144 s sub w h hs
def Tryd.laysM138_ren : Go.Shelf.Ren := ⟨fun | 138 => 51 | 195 => 69 | 218 => 71 | 143 => 38 | 219 => 49 | 217 => 65 | 225 => 66 | 224 => 67 | 267 => 68 | 266 => 77 | 314 => 78 | n => n, fun | 9 => 9 | 3 => 3 | 4 => 4 | 5 => 5 | 0 => 0 | 46 => 77 | 146 => 126 | 51 => 110 | n => n, fun | 1 => 1 | n => n⟩
theorem Tryd.laysM138 : Go.Proofs.LaysM.n138 Tryd.prog Tryd.laysM138_ren := {
  mixed := by kernel_rfl
  f138 := Tryd.func51.trans (congrArg some (by kernel_rfl))
  f143 := Tryd.func38.trans (congrArg some (by kernel_rfl))
  f195 := Tryd.func69.trans (congrArg some (by kernel_rfl))
  f217 := Tryd.func65.trans (congrArg some (by kernel_rfl))
  f218 := Tryd.func71.trans (congrArg some (by kernel_rfl))
  f219 := Tryd.func49.trans (congrArg some (by kernel_rfl))
  f224 := Tryd.func67.trans (congrArg some (by kernel_rfl))
  f225 := Tryd.func66.trans (congrArg some (by kernel_rfl))
  f266 := Tryd.func77.trans (congrArg some (by kernel_rfl))
  f267 := Tryd.func68.trans (congrArg some (by kernel_rfl))
  f314 := Tryd.func78.trans (congrArg some (by kernel_rfl))
  t0 := Tryd.underlying0
  a0 := Tryd.isAgg0
  z0 := Tryd.sizeOf0
  v0 := Tryd.zeroValue0
  t3 := Tryd.underlying3
  a3 := Tryd.isAgg3
  z3 := Tryd.sizeOf3
  v3 := Tryd.zeroValue3
  t4 := Tryd.underlying4
  a4 := Tryd.isAgg4
  z4 := Tryd.sizeOf4
  v4 := Tryd.zeroValue4
  t5 := Tryd.underlying5
  a5 := Tryd.isAgg5
  z5 := Tryd.sizeOf5
  v5 := Tryd.zeroValue5
  t9 := Tryd.underlying9
  a9 := Tryd.isAgg9
  z9 := Tryd.sizeOf9
  v9 := Tryd.zeroValue9
  t46 := Tryd.underlying77
  a46 := Tryd.isAgg77
  z46 := Tryd.sizeOf77
  v46 := Tryd.zeroValue77
  t51 := Tryd.underlying110
  a51 := Tryd.isAgg110
  z51 := Tryd.sizeOf110
  v51 := Tryd.zeroValue110
  t146 := Tryd.underlying126
  a146 := Tryd.isAgg126
  z146 := Tryd.sizeOf126
  v146 := Tryd.zeroValue126
  g1 := by kernel_rfl
  i0 := by kernel_rfl
  i3 := by kernel_rfl
  i4 := by kernel_rfl
  i5 := by kernel_rfl
  i9 := by kernel_rfl
  i46 := by kernel_rfl
  i51 := by kernel_rfl
  i146 := by kernel_rfl
  m1 := by kernel_rfl
  s1_3 := fun w h => Go.Proofs.cell_of_shapedOpen_int (zero := #[.int .i64 0]) (t := 3) h (of_decide_eq_true (by kernel_rfl)) (by kernel_rfl) rfl (by kernel_rfl) (by kernel_rfl) Tryd.underlying3 }
open Go.RowKit Go.Lib in
theorem Tryd.strings_Count_shaped (s sub : ByteArray) (w : World) (h : w.ShapedOpen Tryd.prog) (hs : s.size < 4294967281) (h2 : 2 ≤ sub.size) :
    Calls Tryd.prog 51 #[.string s, .string sub] w fun e w' => e = .returned (.int .i64 (Lib.countB s sub)) ∧ w' = w := Any.strings_Count_shaped Tryd.laysM138 s sub w h hs h2
open Go.RowKit Go.Lib in
/-- strings.Count at whatever sep that is not empty: the two roads under one statement. (LAID: no walk: one application.) -/
theorem Tryd.strings_Count_any (s sep : ByteArray) (m : Int) (w : World) (hs : s.size < 4294967281) (hm : w.cell? ⟨1, 0, none⟩ = some (.int .i64 m)) (h1 : 1 ≤ sep.size) :
    Calls Tryd.prog 51 #[.string s, .string sep] w fun e w' => e = .returned (.int .i64 (Lib.countB s sep)) ∧ w' = w := Any.strings_Count_any Tryd.lays138 s sep m w hs hm h1
def Tryd.lays221_ren : Go.Shelf.Ren := ⟨fun | 221 => 39 | 268 => 50 | 138 => 51 | 143 => 38 | 195 => 69 | 197 => 70 | 218 => 71 | 219 => 49 | 260 => 79 | 217 => 65 | 225 => 66 | 224 => 67 | 267 => 68 | 266 => 77 | 314 => 78 | n => n, fun | 9 => 9 | 3 => 3 | 31 => 68 | 4 => 4 | 0 => 0 | 105 => 119 | 21 => 21 | 5 => 5 | 46 => 77 | 119 => 133 | 139 => 136 | 138 => 135 | 146 => 126 | 51 => 110 | n => n, fun | 1 => 1 | 3 => 6 | 4 => 7 | n => n⟩
theorem Tryd.lays221 : Go.Proofs.Lays.n221 Tryd.prog Tryd.lays221_ren := {
  mixed := by kernel_rfl
  f138 := Tryd.func51.trans (congrArg some (by kernel_rfl))
  f143 := Tryd.func38.trans (congrArg some (by kernel_rfl))
  f195 := Tryd.func69.trans (congrArg some (by kernel_rfl))
  f197 := Tryd.func70.trans (congrArg some (by kernel_rfl))
  f217 := Tryd.func65.trans (congrArg some (by kernel_rfl))
  f218 := Tryd.func71.trans (congrArg some (by kernel_rfl))
  f219 := Tryd.func49.trans (congrArg some (by kernel_rfl))
  f221 := Tryd.func39.trans (congrArg some (by kernel_rfl))
  f224 := Tryd.func67.trans (congrArg some (by kernel_rfl))
  f225 := Tryd.func66.trans (congrArg some (by kernel_rfl))
  f260 := Tryd.func79.trans (congrArg some (by kernel_rfl))
  f266 := Tryd.func77.trans (congrArg some (by kernel_rfl))
  f267 := Tryd.func68.trans (congrArg some (by kernel_rfl))
  f268 := Tryd.func50.trans (congrArg some (by kernel_rfl))
  f314 := Tryd.func78.trans (congrArg some (by kernel_rfl))
  t0 := Tryd.underlying0
  a0 := Tryd.isAgg0
  z0 := Tryd.sizeOf0
  v0 := Tryd.zeroValue0
  t3 := Tryd.underlying3
  a3 := Tryd.isAgg3
  z3 := Tryd.sizeOf3
  v3 := Tryd.zeroValue3
  t4 := Tryd.underlying4
  a4 := Tryd.isAgg4
  z4 := Tryd.sizeOf4
  v4 := Tryd.zeroValue4
  t5 := Tryd.underlying5
  a5 := Tryd.isAgg5
  z5 := Tryd.sizeOf5
  v5 := Tryd.zeroValue5
  t9 := Tryd.underlying9
  a9 := Tryd.isAgg9
  z9 := Tryd.sizeOf9
  v9 := Tryd.zeroValue9
  t21 := Tryd.underlying21
  a21 := Tryd.isAgg21
  z21 := Tryd.sizeOf21
  v21 := Tryd.zeroValue21
  t31 := Tryd.underlying68
  a31 := Tryd.isAgg68
  z31 := Tryd.sizeOf68
  v31 := Tryd.zeroValue68
  t46 := Tryd.underlying77
  a46 := Tryd.isAgg77
  z46 := Tryd.sizeOf77
  v46 := Tryd.zeroValue77
  t51 := Tryd.underlying110
  a51 := Tryd.isAgg110
  z51 := Tryd.sizeOf110
  v51 := Tryd.zeroValue110
  t105 := Tryd.underlying119
  a105 := Tryd.isAgg119
  z105 := Tryd.sizeOf119
  v105 := Tryd.zeroValue119
  t119 := Tryd.underlying133
  a119 := Tryd.isAgg133
  z119 := Tryd.sizeOf133
  t138 := Tryd.underlying135
  a138 := Tryd.isAgg135
  z138 := Tryd.sizeOf135
  v138 := Tryd.zeroValue135
  t139 := Tryd.underlying136
  a139 := Tryd.isAgg136
  z139 := Tryd.sizeOf136
  v139 := Tryd.zeroValue136
  t146 := Tryd.underlying126
  a146 := Tryd.isAgg126
  z146 := Tryd.sizeOf126
  v146 := Tryd.zeroValue126
  g1 := by kernel_rfl
  g3 := by kernel_rfl
  g4 := by kernel_rfl }
open Go.RowKit Go.Lib in
theorem Tryd.strings_genSplit (s sep : ByteArray) (sv : Nat) (n : Int) (N : Nat) (m : Int) (w : World) (hs : s.size < 4294967281) (hm : w.cell? ⟨1, 0, none⟩ = some (.int .i64 m)) (h1 : 1 ≤ sep.size) (hsv : sv ≤ sep.size) (hn0 : n ≠ 0) (hn63 : n ≤ 9223372036854775807) (hN : (N : Int) = min (if n < 0 then (Lib.countB s sep : Int) + 1 else n) ((s.size : Int) + 1)) :
    Calls Tryd.prog 39 #[.string s, .string sep, .int .i64 sv, .int .i64 n] w fun e w' =>
      e = .returned (.slice (some ⟨w.heap.size, 0, none⟩) (Lib.splitB sep sv (N - 1) s).length N) ∧ w' = w.alloc (.cells (Lib.cellsOf (Lib.splitB sep sv (N - 1) s) N) 9) := Any.strings_genSplit Tryd.lays221 (by kernel_rfl) s sep sv n N m w hs hm h1 hsv hn0 hn63 hN
def Tryd.lays146_ren : Go.Shelf.Ren := ⟨fun | 146 => 28 | 221 => 39 | 268 => 50 | 138 => 51 | 143 => 38 | 195 => 69 | 197 => 70 | 218 => 71 | 219 => 49 | 260 => 79 | 217 => 65 | 225 => 66 | 224 => 67 | 267 => 68 | 266 => 77 | 314 => 78 | n => n, fun | 9 => 9 | 31 => 68 | 3 => 3 | 4 => 4 | 0 => 0 | 105 => 119 | 21 => 21 | 5 => 5 | 46 => 77 | 119 => 133 | 139 => 136 | 138 => 135 | 146 => 126 | 51 => 110 | n => n, fun | 1 => 1 | 3 => 6 | 4 => 7 | n => n⟩
theorem Tryd.lays146 : Go.Proofs.Lays.n146 Tryd.prog Tryd.lays146_ren := {
  mixed := by kernel_rfl
  f138 := Tryd.func51.trans (congrArg some (by kernel_rfl))
  f143 := Tryd.func38.trans (congrArg some (by kernel_rfl))
  f146 := Tryd.func28.trans (congrArg some (by kernel_rfl))
  f195 := Tryd.func69.trans (congrArg some (by kernel_rfl))
  f197 := Tryd.func70.trans (congrArg some (by kernel_rfl))
  f217 := Tryd.func65.trans (congrArg some (by kernel_rfl))
  f218 := Tryd.func71.trans (congrArg some (by kernel_rfl))
  f219 := Tryd.func49.trans (congrArg some (by kernel_rfl))
  f221 := Tryd.func39.trans (congrArg some (by kernel_rfl))
  f224 := Tryd.func67.trans (congrArg some (by kernel_rfl))
  f225 := Tryd.func66.trans (congrArg some (by kernel_rfl))
  f260 := Tryd.func79.trans (congrArg some (by kernel_rfl))
  f266 := Tryd.func77.trans (congrArg some (by kernel_rfl))
  f267 := Tryd.func68.trans (congrArg some (by kernel_rfl))
  f268 := Tryd.func50.trans (congrArg some (by kernel_rfl))
  f314 := Tryd.func78.trans (congrArg some (by kernel_rfl))
  t0 := Tryd.underlying0
  a0 := Tryd.isAgg0
  z0 := Tryd.sizeOf0
  v0 := Tryd.zeroValue0
  t3 := Tryd.underlying3
  a3 := Tryd.isAgg3
  z3 := Tryd.sizeOf3
  v3 := Tryd.zeroValue3
  t4 := Tryd.underlying4
  a4 := Tryd.isAgg4
  z4 := Tryd.sizeOf4
  v4 := Tryd.zeroValue4
  t5 := Tryd.underlying5
  a5 := Tryd.isAgg5
  z5 := Tryd.sizeOf5
  v5 := Tryd.zeroValue5
  t9 := Tryd.underlying9
  a9 := Tryd.isAgg9
  z9 := Tryd.sizeOf9
  v9 := Tryd.zeroValue9
  t21 := Tryd.underlying21
  a21 := Tryd.isAgg21
  z21 := Tryd.sizeOf21
  v21 := Tryd.zeroValue21
  t31 := Tryd.underlying68
  a31 := Tryd.isAgg68
  z31 := Tryd.sizeOf68
  v31 := Tryd.zeroValue68
  t46 := Tryd.underlying77
  a46 := Tryd.isAgg77
  z46 := Tryd.sizeOf77
  v46 := Tryd.zeroValue77
  t51 := Tryd.underlying110
  a51 := Tryd.isAgg110
  z51 := Tryd.sizeOf110
  v51 := Tryd.zeroValue110
  t105 := Tryd.underlying119
  a105 := Tryd.isAgg119
  z105 := Tryd.sizeOf119
  v105 := Tryd.zeroValue119
  t119 := Tryd.underlying133
  a119 := Tryd.isAgg133
  z119 := Tryd.sizeOf133
  t138 := Tryd.underlying135
  a138 := Tryd.isAgg135
  z138 := Tryd.sizeOf135
  v138 := Tryd.zeroValue135
  t139 := Tryd.underlying136
  a139 := Tryd.isAgg136
  z139 := Tryd.sizeOf136
  v139 := Tryd.zeroValue136
  t146 := Tryd.underlying126
  a146 := Tryd.isAgg126
  z146 := Tryd.sizeOf126
  v146 := Tryd.zeroValue126
  g1 := by kernel_rfl
  g3 := by kernel_rfl
  g4 := by kernel_rfl }
open Go.RowKit Go.Lib in
/-- strings.Split. (LAID: no walk: one application.) -/
theorem Tryd.strings_Split (s sep : ByteArray) (m : Int) (w : World) (hs : s.size < 4294967281) (hm : w.cell? ⟨1, 0, none⟩ = some (.int .i64 m)) (h1 : 1 ≤ sep.size) :
    Calls Tryd.prog 28 #[.string s, .string sep] w fun e w' =>
      e = .returned (.slice (some ⟨w.heap.size, 0, none⟩) (Lib.countB s sep + 1) (Lib.countB s sep + 1)) ∧ w' = w.alloc (.cells ((Lib.splitB sep 0 (Lib.countB s sep) s).map Value.string).toArray 9) := Any.strings_Split Tryd.lays146 (by kernel_rfl) s sep m w hs hm h1
def Tryd.laysM146_ren : Go.Shelf.Ren := ⟨fun | 146 => 28 | 221 => 39 | 268 => 50 | 138 => 51 | 143 => 38 | 195 => 69 | 197 => 70 | 218 => 71 | 219 => 49 | 260 => 79 | 217 => 65 | 225 => 66 | 224 => 67 | 267 => 68 | 266 => 77 | 314 => 78 | n => n, fun | 9 => 9 | 31 => 68 | 3 => 3 | 4 => 4 | 0 => 0 | 105 => 119 | 21 => 21 | 5 => 5 | 46 => 77 | 119 => 133 | 139 => 136 | 138 => 135 | 146 => 126 | 51 => 110 | n => n, fun | 1 => 1 | 3 => 6 | 4 => 7 | n => n⟩
theorem Tryd.laysM146 : Go.Proofs.LaysM.n146 Tryd.prog Tryd.laysM146_ren := {
  mixed := by kernel_rfl
  f138 := Tryd.func51.trans (congrArg some (by kernel_rfl))
  f143 := Tryd.func38.trans (congrArg some (by kernel_rfl))
  f146 := Tryd.func28.trans (congrArg some (by kernel_rfl))
  f195 := Tryd.func69.trans (congrArg some (by kernel_rfl))
  f197 := Tryd.func70.trans (congrArg some (by kernel_rfl))
  f217 := Tryd.func65.trans (congrArg some (by kernel_rfl))
  f218 := Tryd.func71.trans (congrArg some (by kernel_rfl))
  f219 := Tryd.func49.trans (congrArg some (by kernel_rfl))
  f221 := Tryd.func39.trans (congrArg some (by kernel_rfl))
  f224 := Tryd.func67.trans (congrArg some (by kernel_rfl))
  f225 := Tryd.func66.trans (congrArg some (by kernel_rfl))
  f260 := Tryd.func79.trans (congrArg some (by kernel_rfl))
  f266 := Tryd.func77.trans (congrArg some (by kernel_rfl))
  f267 := Tryd.func68.trans (congrArg some (by kernel_rfl))
  f268 := Tryd.func50.trans (congrArg some (by kernel_rfl))
  f314 := Tryd.func78.trans (congrArg some (by kernel_rfl))
  t0 := Tryd.underlying0
  a0 := Tryd.isAgg0
  z0 := Tryd.sizeOf0
  v0 := Tryd.zeroValue0
  t3 := Tryd.underlying3
  a3 := Tryd.isAgg3
  z3 := Tryd.sizeOf3
  v3 := Tryd.zeroValue3
  t4 := Tryd.underlying4
  a4 := Tryd.isAgg4
  z4 := Tryd.sizeOf4
  v4 := Tryd.zeroValue4
  t5 := Tryd.underlying5
  a5 := Tryd.isAgg5
  z5 := Tryd.sizeOf5
  v5 := Tryd.zeroValue5
  t9 := Tryd.underlying9
  a9 := Tryd.isAgg9
  z9 := Tryd.sizeOf9
  v9 := Tryd.zeroValue9
  t21 := Tryd.underlying21
  a21 := Tryd.isAgg21
  z21 := Tryd.sizeOf21
  v21 := Tryd.zeroValue21
  t31 := Tryd.underlying68
  a31 := Tryd.isAgg68
  z31 := Tryd.sizeOf68
  v31 := Tryd.zeroValue68
  t46 := Tryd.underlying77
  a46 := Tryd.isAgg77
  z46 := Tryd.sizeOf77
  v46 := Tryd.zeroValue77
  t51 := Tryd.underlying110
  a51 := Tryd.isAgg110
  z51 := Tryd.sizeOf110
  v51 := Tryd.zeroValue110
  t105 := Tryd.underlying119
  a105 := Tryd.isAgg119
  z105 := Tryd.sizeOf119
  v105 := Tryd.zeroValue119
  t119 := Tryd.underlying133
  a119 := Tryd.isAgg133
  z119 := Tryd.sizeOf133
  t138 := Tryd.underlying135
  a138 := Tryd.isAgg135
  z138 := Tryd.sizeOf135
  v138 := Tryd.zeroValue135
  t139 := Tryd.underlying136
  a139 := Tryd.isAgg136
  z139 := Tryd.sizeOf136
  v139 := Tryd.zeroValue136
  t146 := Tryd.underlying126
  a146 := Tryd.isAgg126
  z146 := Tryd.sizeOf126
  v146 := Tryd.zeroValue126
  g1 := by kernel_rfl
  g3 := by kernel_rfl
  g4 := by kernel_rfl
  i0 := by kernel_rfl
  i3 := by kernel_rfl
  i4 := by kernel_rfl
  i5 := by kernel_rfl
  i9 := by kernel_rfl
  i21 := by kernel_rfl
  i31 := by kernel_rfl
  i46 := by kernel_rfl
  i51 := by kernel_rfl
  i105 := by kernel_rfl
  i138 := by kernel_rfl
  i139 := by kernel_rfl
  i146 := by kernel_rfl
  m1 := by kernel_rfl
  s1_3 := fun w h => Go.Proofs.cell_of_shapedOpen_int (zero := #[.int .i64 0]) (t := 3) h (of_decide_eq_true (by kernel_rfl)) (by kernel_rfl) rfl (by kernel_rfl) (by kernel_rfl) Tryd.underlying3
  m3 := by kernel_rfl
  m4 := by kernel_rfl }
open Go.RowKit Go.Lib in
/-- strings.Split, sep not empty. (LAID: no walk: one application.) -/
theorem Tryd.strings_Split_shaped (s sep : ByteArray) (w : World) (h : w.ShapedOpen Tryd.prog) (hs : s.size < 4294967281) (h1 : 1 ≤ sep.size) :
    Calls Tryd.prog 28 #[.string s, .string sep] w fun e w' =>
      e = .returned (.slice (some ⟨w.heap.size, 0, none⟩) (Lib.countB s sep + 1) (Lib.countB s sep + 1)) ∧ w' = w.alloc (.cells ((Lib.splitB sep 0 (Lib.countB s sep) s).map Value.string).toArray 9) := Any.strings_Split_shaped Tryd.laysM146 s sep w h hs h1
def Tryd.lays197_ren : Go.Shelf.Ren := ⟨fun | 197 => 70 | 260 => 79 | n => n, fun | 9 => 9 | 21 => 21 | 3 => 3 | 4 => 4 | 5 => 5 | 105 => 119 | 119 => 133 | 0 => 0 | 46 => 77 | 139 => 136 | 138 => 135 | n => n, fun | 3 => 6 | 4 => 7 | n => n⟩
theorem Tryd.lays197 : Go.Proofs.Lays.n197 Tryd.prog Tryd.lays197_ren := {
  mixed := by kernel_rfl
  f197 := Tryd.func70.trans (congrArg some (by kernel_rfl))
  f260 := Tryd.func79.trans (congrArg some (by kernel_rfl))
  t0 := Tryd.underlying0
  a0 := Tryd.isAgg0
  z0 := Tryd.sizeOf0
  v0 := Tryd.zeroValue0
  t3 := Tryd.underlying3
  a3 := Tryd.isAgg3
  z3 := Tryd.sizeOf3
  v3 := Tryd.zeroValue3
  t4 := Tryd.underlying4
  a4 := Tryd.isAgg4
  z4 := Tryd.sizeOf4
  v4 := Tryd.zeroValue4
  t5 := Tryd.underlying5
  a5 := Tryd.isAgg5
  z5 := Tryd.sizeOf5
  v5 := Tryd.zeroValue5
  t9 := Tryd.underlying9
  a9 := Tryd.isAgg9
  z9 := Tryd.sizeOf9
  v9 := Tryd.zeroValue9
  t21 := Tryd.underlying21
  a21 := Tryd.isAgg21
  z21 := Tryd.sizeOf21
  v21 := Tryd.zeroValue21
  t46 := Tryd.underlying77
  a46 := Tryd.isAgg77
  z46 := Tryd.sizeOf77
  v46 := Tryd.zeroValue77
  t105 := Tryd.underlying119
  a105 := Tryd.isAgg119
  z105 := Tryd.sizeOf119
  v105 := Tryd.zeroValue119
  t119 := Tryd.underlying133
  a119 := Tryd.isAgg133
  z119 := Tryd.sizeOf133
  t138 := Tryd.underlying135
  a138 := Tryd.isAgg135
  z138 := Tryd.sizeOf135
  v138 := Tryd.zeroValue135
  t139 := Tryd.underlying136
  a139 := Tryd.isAgg136
  z139 := Tryd.sizeOf136
  v139 := Tryd.zeroValue136
  g3 := by kernel_rfl
  g4 := by kernel_rfl }
open Go.RowKit Go.Lib in
/-- unicode/utf8.DecodeRuneInString: "DecodeRuneInString is like DecodeRune but its input is a string.": ("DecodeRune unpacks the first UTF-8 encoding in p and returns the rune and its width in bytes."): WHERE s BEGINS WITH AN ASCII BYTE x: (x, 1). (LAID: no walk: one application.) -/
theorem Tryd.utf8_DecodeRuneInString_ascii (s : ByteArray) (x : UInt8) (w : World) (h0 : s.data.toList[0]? = some x) (hx : x.toNat < 128) :
    Calls Tryd.prog 70 #[.string s] w fun e w' => e = .returned (.tuple #[.int .i32 x.toNat, .int .i64 1]) ∧ w' = w := Any.utf8_DecodeRuneInString_ascii Tryd.lays197 s x w h0 hx
open Go.RowKit Go.Lib in
theorem Tryd.utf8_RuneCountInString_ascii (s : ByteArray) (w : World) (hs : s.size < 4294967281) (hascii : ∀ (j : Nat) b, s.data.toList[j]? = some b → b.toNat < 128) :
    Calls Tryd.prog 69 #[.string s] w fun e w' => e = .returned (.int .i64 s.size) ∧ w' = w.iter s s.size := Any.utf8_RuneCountInString_ascii Tryd.lays195 s w hs hascii
def Tryd.lays268_ren : Go.Shelf.Ren := ⟨fun | 268 => 50 | 195 => 69 | 197 => 70 | 260 => 79 | n => n, fun | 9 => 9 | 3 => 3 | 31 => 68 | 4 => 4 | 105 => 119 | 21 => 21 | 0 => 0 | 5 => 5 | 119 => 133 | 46 => 77 | 139 => 136 | 138 => 135 | n => n, fun | 3 => 6 | 4 => 7 | n => n⟩
theorem Tryd.lays268 : Go.Proofs.Lays.n268 Tryd.prog Tryd.lays268_ren := {
  mixed := by kernel_rfl
  f195 := Tryd.func69.trans (congrArg some (by kernel_rfl))
  f197 := Tryd.func70.trans (congrArg some (by kernel_rfl))
  f260 := Tryd.func79.trans (congrArg some (by kernel_rfl))
  f268 := Tryd.func50.trans (congrArg some (by kernel_rfl))
  t0 := Tryd.underlying0
  a0 := Tryd.isAgg0
  z0 := Tryd.sizeOf0
  v0 := Tryd.zeroValue0
  t3 := Tryd.underlying3
  a3 := Tryd.isAgg3
  z3 := Tryd.sizeOf3
  v3 := Tryd.zeroValue3
  t4 := Tryd.underlying4
  a4 := Tryd.isAgg4
  z4 := Tryd.sizeOf4
  v4 := Tryd.zeroValue4
  t5 := Tryd.underlying5
  a5 := Tryd.isAgg5
  z5 := Tryd.sizeOf5
  v5 := Tryd.zeroValue5
  t9 := Tryd.underlying9
  a9 := Tryd.isAgg9
  z9 := Tryd.sizeOf9
  v9 := Tryd.zeroValue9
  t21 := Tryd.underlying21
  a21 := Tryd.isAgg21
  z21 := Tryd.sizeOf21
  v21 := Tryd.zeroValue21
  t31 := Tryd.underlying68
  a31 := Tryd.isAgg68
  z31 := Tryd.sizeOf68
  v31 := Tryd.zeroValue68
  t46 := Tryd.underlying77
  a46 := Tryd.isAgg77
  z46 := Tryd.sizeOf77
  v46 := Tryd.zeroValue77
  t105 := Tryd.underlying119
  a105 := Tryd.isAgg119
  z105 := Tryd.sizeOf119
  v105 := Tryd.zeroValue119
  t119 := Tryd.underlying133
  a119 := Tryd.isAgg133
  z119 := Tryd.sizeOf133
  t138 := Tryd.underlying135
  a138 := Tryd.isAgg135
  z138 := Tryd.sizeOf135
  v138 := Tryd.zeroValue135
  t139 := Tryd.underlying136
  a139 := Tryd.isAgg136
  z139 := Tryd.sizeOf136
  v139 := Tryd.zeroValue136
  g3 := by kernel_rfl
  g4 := by kernel_rfl }
open Go.RowKit Go.Lib in
theorem Tryd.strings_explode_all (s : ByteArray) (n : Int) (w : World) (hn : n < 0) (hs : s.size < 4294967281) (hascii : ∀ (j : Nat) b, s.data.toList[j]? = some b → b.toNat < 128) :
    Calls Tryd.prog 50 #[.string s, .int .i64 n] w fun e w' =>
      e = .returned (.slice (some ⟨(w.iter s s.size).heap.size, 0, none⟩) s.size s.size) ∧ w' = (w.iter s s.size).alloc (.cells ((Lib.charsB s).map Value.string).toArray 9) := Any.strings_explode_all Tryd.lays268 (by kernel_rfl) s n w hn hs hascii
open Go.RowKit Go.Lib in
/-- strings.genSplit at sep == "", n < 0: 'return explode(s, n)'. (LAID: no walk: one application.) -/
theorem Tryd.strings_genSplit_chars (s sep : ByteArray) (sv n : Int) (w : World) (h0 : sep.size = 0) (hn : n < 0) (hs : s.size < 4294967281) (hascii : ∀ (j : Nat) b, s.data.toList[j]? = some b → b.toNat < 128) :
    Calls Tryd.prog 39 #[.string s, .string sep, .int .i64 sv, .int .i64 n] w fun e w' =>
      e = .returned (.slice (some ⟨(w.iter s s.size).heap.size, 0, none⟩) s.size s.size) ∧ w' = (w.iter s s.size).alloc (.cells ((Lib.charsB s).map Value.string).toArray 9) := Any.strings_genSplit_chars Tryd.lays221 (by kernel_rfl) s sep sv n w h0 hn hs hascii
open Go.RowKit Go.Lib in
/-- strings.Split(s, ""), s ASCII: a piece a byte. (LAID: no walk: one application.) -/
theorem Tryd.strings_Split_chars (s sep : ByteArray) (w : World) (h0 : sep.size = 0) (hs : s.size < 4294967281) (hascii : ∀ (j : Nat) b, s.data.toList[j]? = some b → b.toNat < 128) :
    Calls Tryd.prog 28 #[.string s, .string sep] w fun e w' =>
      e = .returned (.slice (some ⟨(w.iter s s.size).heap.size, 0, none⟩) s.size s.size) ∧ w' = (w.iter s s.size).alloc (.cells ((Lib.charsB s).map Value.string).toArray 9) := Any.strings_Split_chars Tryd.lays146 (by kernel_rfl) s sep w h0 hs hascii
def Tryd.lays260_ren : Go.Shelf.Ren := ⟨fun | 260 => 79 | n => n, fun | 9 => 9 | 21 => 21 | 3 => 3 | 4 => 4 | 5 => 5 | 119 => 133 | 0 => 0 | 46 => 77 | 139 => 136 | 138 => 135 | n => n, fun | 3 => 6 | 4 => 7 | n => n⟩
theorem Tryd.lays260 : Go.Proofs.Lays.n260 Tryd.prog Tryd.lays260_ren := {
  mixed := by kernel_rfl
  f260 := Tryd.func79.trans (congrArg some (by kernel_rfl))
  t0 := Tryd.underlying0
  a0 := Tryd.isAgg0
  z0 := Tryd.sizeOf0
  v0 := Tryd.zeroValue0
  t3 := Tryd.underlying3
  a3 := Tryd.isAgg3
  z3 := Tryd.sizeOf3
  v3 := Tryd.zeroValue3
  t4 := Tryd.underlying4
  a4 := Tryd.isAgg4
  z4 := Tryd.sizeOf4
  v4 := Tryd.zeroValue4
  t5 := Tryd.underlying5
  a5 := Tryd.isAgg5
  z5 := Tryd.sizeOf5
  v5 := Tryd.zeroValue5
  t9 := Tryd.underlying9
  a9 := Tryd.isAgg9
  z9 := Tryd.sizeOf9
  v9 := Tryd.zeroValue9
  t21 := Tryd.underlying21
  a21 := Tryd.isAgg21
  z21 := Tryd.sizeOf21
  v21 := Tryd.zeroValue21
  t46 := Tryd.underlying77
  a46 := Tryd.isAgg77
  z46 := Tryd.sizeOf77
  v46 := Tryd.zeroValue77
  t119 := Tryd.underlying133
  a119 := Tryd.isAgg133
  z119 := Tryd.sizeOf133
  t138 := Tryd.underlying135
  a138 := Tryd.isAgg135
  z138 := Tryd.sizeOf135
  v138 := Tryd.zeroValue135
  t139 := Tryd.underlying136
  a139 := Tryd.isAgg136
  z139 := Tryd.sizeOf136
  v139 := Tryd.zeroValue136
  g3 := by kernel_rfl
  g4 := by kernel_rfl }
open Go.RowKit Go.Lib in
theorem Tryd.utf8_decodeRuneInStringSlow (s : ByteArray) (w : World) (hT : Lib.Utf8Tabs 6 7 w) :
    Calls Tryd.prog 79 #[.string s] w fun e w' => e = .returned (.tuple #[.int .i32 (Lib.decodeGo s).1, .int .i64 (Lib.decodeGo s).2]) ∧ Below w.heap.size w w' := Any.utf8_decodeRuneInStringSlow Tryd.lays260 s w hT
open Go.RowKit Go.Lib in
/-- **unicode/utf8.DecodeRuneInString AT EVERY STRING.** (LAID: no walk: one application.) -/
theorem Tryd.utf8_DecodeRuneInString (s : ByteArray) (w : World) (hT : Lib.Utf8Tabs 6 7 w) :
    Calls Tryd.prog 70 #[.string s] w fun e w' => e = .returned (.tuple #[.int .i32 (Lib.decodeGo s).1, .int .i64 (Lib.decodeGo s).2]) ∧ Below w.heap.size w w' := Any.utf8_DecodeRuneInString Tryd.lays197 s w hT
end Go.Proofs
set_option maxRecDepth 100000
namespace Go.Proofs.YtopadpgpmkkpgaaDoor
open Go.SX
def KK : Nat → Option KSpec
  | 26 => some kJoin
  | 77 => some kIndexByteString
  | 71 => some kCountString
  | _ => none
theorem has26 : Has Tryd.prog 26 := ⟨Tryd.f26, Tryd.func26, by kernel_rfl, by kernel_rfl⟩
theorem KKok (I : World → Prop) : ∀ f sp, KK f = some sp → KOk Tryd.prog I f sp := by
  intro f sp h
  unfold KK at h
  split at h
  · cases h
    exact kJoin_ok has26 (fun a c sep w => Tryd.strings_Join_none a c sep w) fun bk o c xs sep w h1 h2 h3 h4 h5 => Tryd.strings_Join bk o c xs sep w h1 h2 h3 h4 h5
  · cases h
    exact kIndexByteString_ok Tryd.func77 (by kernel_rfl) (by kernel_rfl) (by kernel_rfl) (by kernel_rfl)
  · cases h
    exact kCountString_ok Tryd.func71 (by kernel_rfl) (by kernel_rfl) (by kernel_rfl) (by kernel_rfl)
  · cases h
/-- The tables that the library lays, as they stand in a world. -/
def I13 (w : World) : Prop := ∀ g cells, GG g = some cells → ∀ i u, cells[i]? = some u → w.cell? ⟨g, i, none⟩ = some u
theorem I13.mod {w w' : World} (h : I13 w) (hm : Mod w w' fun _ => False) : I13 w' := by
  intro g cells hg i u hu
  have h1 := h g cells hg i u hu
  have h2 := hm.block g (cell_lt h1) id
  simp only [World.cell?] at h1 ⊢
  rw [h2]
  exact h1
theorem examples_run : runF KK GG (fun f => Tryd.prog.funcs[f]?) TT 1000 12 Tryd.f8 [] (wantB true) = true := by kernel_rfl
theorem examples_ret {w : World} (h : I13 w) : Ret Tryd.prog 8 [] w (.bool true) :=
  Ret.runB' (I := I13) (fun w' hm => h.mod hm) (fun f => Tryd.prog.funcs[f]?) GG (fun w hw => hw) KK (KKok I13) 1000 12 (TTok 0 I13) mixed (fun f fn hf => hf) Tryd.func8 (by kernel_rfl) examples_run
end Go.Proofs.YtopadpgpmkkpgaaDoor
set_option maxRecDepth 100000
namespace Go.Proofs.YtopadpgpmkkpgaaDoor
open Go.SX
theorem law_ret (v6 : Bool) (hi lo bits : Int) (av6 : Bool) (ahi alo : Int) (w : World) (hI : I13 w) (hh : 0 ≤ hi ∧ hi ≤ 18446744073709551615) (hl : 0 ≤ lo ∧ lo ≤ 18446744073709551615) (ah : 0 ≤ ahi ∧ ahi ≤ 18446744073709551615) (al : 0 ≤ alo ∧ alo ≤ 18446744073709551615) :
    Ret Tryd.prog 6 [.agg #[.bool v6, .int .u64 hi, .int .u64 lo, .int .i64 bits], .agg #[.bool av6, .int .u64 ahi, .int .u64 alo]] w (.bool true) := by
  obtain ⟨b, hb⟩ := both_hold v6 hi lo bits av6 ahi alo hh hl ah al
  refine Ret.of (I := I13) (fun w' hm => hI.mod hm) (TTok 0 _) Tryd.func6 (by kernel_rfl) rfl rfl ?_
  repeat' ((conv => whnf); with_reducible first
    | refine TR.seq ?_ | refine TR.region (TTok 0 _) ?_ | refine Ld.mk' _ rfl ?_ | refine TR.ret ?_ | refine TR.drawn (TTok 0 _) mixed ?_
    | refine TR.cond_true rfl ?_ | refine TR.cond_false rfl ?_ | refine TR.cond rfl (fun hc => ?_) (fun hc => ?_) | refine TR.skip ?_ | refine Need.mk' (by kernel_rfl) (fun _ => ?_)
    | refine Br.tt ?_ | refine Br.mk (fun _ => ?_) (fun _ => ?_) | refine x_ret (f := 8) rfl rfl (fun w hw => examples_ret hw) ?_ | refine x_ret (f := 16) rfl rfl (fun w _ => (hb w).2) ?_ | refine x_ret (f := 17) rfl rfl (fun w _ => (hb w).1) ?_ | refine TR.block ?_)
  all_goals (conv => whnf)
  all_goals simp_all [val, eqR]
end Go.Proofs.YtopadpgpmkkpgaaDoor
set_option maxRecDepth 100000
namespace Go.Proofs.YtopadpgpmkkpgaaDoor
open Go.SX
theorem SlAt.mod {w w' : World} {v : Value} {m : Nat} {us : List Value} (h : SlAt w v m us) (hm : Mod w w' fun _ => False) : SlAt w' v m us := by
  rcases h with h | ⟨ad, c, rfl, hc⟩
  · exact .inl h
  · refine .inr ⟨ad, c, rfl, fun j q hq => ?_⟩
    have h1 := hc j q hq
    have hlt : (ad.add j).block < w.heap.size := by
      rcases Nat.lt_or_ge (ad.add j).block w.heap.size with h2 | h2
      · exact h2
      · simp [World.cell?, Array.getElem?_eq_none h2] at h1
    have hb := hm.block _ hlt id
    simp only [World.cell?] at h1 ⊢
    rw [hb]
    exact h1
theorem src_at {X : Ctx} {fr : List AV} {x : Operand} {v : Value} {m esz : Nat} {us : List Value} (hx : evA fr x = .v v) (hl : us.length = m * esz) (h1 : ∀ q ∈ us, q.oneCell' = true) (hc : ∀ w, X.I w → SlAt w v m us) : Src X fr [] x esz m (us.map .v) := by
  refine ⟨fun st E a w ρ hr hcc he => ?_, by simpa using hl, ?_⟩
  · have g5 := hr.ev x
    rw [he, hx] at g5
    simp only [rel] at g5
    have := hc w (E.inv w hr.heap.mod)
    rw [← g5] at this
    exact ⟨us, relL_vals _, this⟩
  · simp only [List.all_map, List.all_eq_true]
    intro q hq
    exact h1 q hq
theorem subL_all : ∀ l : List AV, subL l 0 l.length = some l
  | [] => rfl
  | x :: l => by simp [subL, subL_all l]
theorem flat_len (rs : List Rw) : (rs.flatMap rcells).length = rs.length * 5 := by
  induction rs with
  | nil => rfl
  | cons r rs ih => rw [List.flatMap_cons, List.length_append, ih]; simp [rcells]; omega
theorem flat_one (rs : List Rw) : ∀ q ∈ rs.flatMap rcells, q.oneCell' = true := by
  intro q hq
  obtain ⟨r, _, hr⟩ := List.mem_flatMap.1 hq
  simp only [rcells, List.mem_cons, List.mem_nil_iff, or_false] at hr
  rcases hr with rfl | rfl | rfl | rfl | rfl <;> rfl
theorem putL_ex : ∀ (l ys : List AV) (o : Nat), o + ys.length ≤ l.length → ∃ r, putL l o ys = some r ∧ r.length = l.length
  | l, [], 0, _ => ⟨l, by cases l <;> rfl, rfl⟩
  | [], [], o + 1, h => by simp at h
  | [], y :: ys, o, h => by simp at h
  | x :: l, y :: ys, 0, h => by
    obtain ⟨r, h1, h2⟩ := putL_ex l ys 0 (by simp at h ⊢; omega)
    exact ⟨y :: r, by simp [putL, h1], by simp [h2]⟩
  | x :: l, ys, o + 1, h => by
    obtain ⟨r, h1, h2⟩ := putL_ex l ys o (by simp at h; omega)
    exact ⟨x :: r, by simp [putL, h1], by simp [h2]⟩
theorem putV_ex : ∀ (l ys : List Value) (o : Nat), o + ys.length ≤ l.length → ∃ r : List Value, putL (l.map .v) o (ys.map .v) = some (r.map .v) ∧ r.length = l.length
  | l, [], 0, _ => ⟨l, by cases l <;> rfl, rfl⟩
  | [], [], o + 1, h => by simp at h
  | [], y :: ys, o, h => by simp at h
  | x :: l, y :: ys, 0, h => by
    obtain ⟨r, h1, h2⟩ := putV_ex l ys 0 (by simp at h ⊢; omega)
    exact ⟨y :: r, by simp [putL, h1], by simp [h2]⟩
  | x :: l, ys, o + 1, h => by
    obtain ⟨r, h1, h2⟩ := putV_ex l ys o (by simp at h; omega)
    exact ⟨x :: r, by simp [putL, h1], by simp [h2]⟩
theorem noRef_map (ms : List Nat) : ∀ l : List Value, noRefL ms (l.map .v) = true
  | [] => rfl
  | x :: l => by simp [noRefL, noRef, noRef_map ms l]
/-- An address of the list. -/
def acells (a : Bool × Int × Int) : List Value := [.bool a.1, .int .u64 a.2.1, .int .u64 a.2.2]
theorem aflat_get (l : List (Bool × Int × Int)) (i : Nat) (a : Bool × Int × Int) (h : l[i]? = some a) (j : Nat) (u : Value) (hu : (acells a)[j]? = some u) : (l.flatMap acells)[i * 3 + j]? = some u := by
  have hj : j < 3 := by
    rcases Nat.lt_or_ge j 3 with h1 | h1
    · exact h1
    · rw [List.getElem?_eq_none (by simpa [acells] using h1)] at hu; cases hu
  induction l generalizing i with
  | nil => simp at h
  | cons x l ih =>
    rw [List.flatMap_cons]
    cases i with
    | zero =>
      simp only [List.getElem?_cons_zero, Option.some.injEq] at h
      subst h
      rw [List.getElem?_append_left (by simp [acells]; omega)]
      simpa using hu
    | succ i =>
      rw [List.getElem?_append_right (by simp [acells]; omega)]
      have : (i + 1) * 3 + j - (acells x).length = i * 3 + j := by simp [acells]; omega
      rw [this]
      exact ih i (by simpa using h)
structure IF (sv : Value) (rs : List Rw) (av : Value) (al : List (Bool × Int × Int)) (w : World) : Prop where
  t : I13 w
  r : SlAt w sv rs.length (rs.flatMap rcells)
  a : SlAt w av al.length (al.flatMap acells)
theorem IF.mod {sv rs av al} {w w' : World} (h : IF sv rs av al w) (hm : Mod w w' fun _ => False) : IF sv rs av al w' := ⟨h.t.mod hm, SlAt.mod h.r hm, SlAt.mod h.a hm⟩
theorem IF.load {sv : Value} {rs : List Rw} {ad : Addr} {cap : Nat} {al : List (Bool × Int × Int)} {w : World} (h : IF sv rs (.slice (some ad) al.length cap) al w) {i : Nat} {a : Bool × Int × Int} (ha : al[i]? = some a) (hs : ad.spot = none) : (loadVar 32 ⟨ad.block, ad.off + i * 3, none⟩).run Tryd.prog w = .ok (.agg #[.bool a.1, .int .u64 a.2.1, .int .u64 a.2.2]) w := by
  obtain ⟨y, hy, hd⟩ : ∃ y, getO TT 32 = some y ∧ y.size = 3 ∧ aggd y = true := ⟨_, rfl, rfl, rfl⟩
  have := ((TTok 0 (fun _ => True)) 32 y hy).run_load (w := w) ⟨ad.block, ad.off + i * 3, none⟩ (acells a) (by rw [hd.1]; rfl) (fun hz => by rw [hd.2] at hz; cases hz) (fun j u hu => by
    rcases h.a with ⟨h0, _⟩ | ⟨ad', c, e, hc⟩
    · have := List.getElem?_eq_some_iff.1 ha
      obtain ⟨h1, _⟩ := this
      omega
    · cases e
      have := hc _ u (aflat_get al i a ha j u hu)
      obtain ⟨b, o, s⟩ := ad
      subst hs
      rw [add_none, ← Nat.add_assoc] at this
      rw [add_none]
      exact this)
  rw [hd.2] at this
  exact this
/-- What New hands back where the rules are right. -/
def FN (rs : List Rw) : Nat → (Nat → Prop) → World → Prop := fun bl D w => ∃ T, GT bl T bl D w ∧ RI T rs
theorem FN_stab (rs : List Rw) : StabT (FN rs) := by
  rintro bl D w w' hw ⟨T, h1, h2⟩
  exact ⟨T, GT_stab bl T _ _ _ _ hw h1, h2⟩
def newB (b : Nat) : Value := .tuple #[.pointer (some ⟨b, 0, none⟩), .int .i64 0]
theorem new_good {rs : List Rw} (hok : okR rs) {w : World} {v : Value} (h : SlAt w v rs.length (rs.flatMap rcells)) (hf : ∀ r, r ∈ rs → r.fits) (hn : rs.length < 4294967296) :
    RetQ Tryd.prog 9 [v] w fun w' u => ∃ b D, u = newB b ∧ FN rs b D w' ∧ ∀ e, D e → w.heap.size ≤ e ∧ e < w'.heap.size := by
  have h1 := new_any rs w v h hf hn
  refine ⟨h1.has, h1.run.mono ?_⟩
  rintro e w' ⟨u, rfl, hm, ⟨_, b, D, T, rfl, hG, hR, hD⟩ | ⟨hno, _⟩⟩
  · exact ⟨_, rfl, hm, b, D, rfl, ⟨T, hG, hR⟩, hD⟩
  · exact absurd hok hno
theorem new_bad {rs : List Rw} (hok : ¬ okR rs) {w : World} {v : Value} (h : SlAt w v rs.length (rs.flatMap rcells)) (hf : ∀ r, r ∈ rs → r.fits) (hn : rs.length < 4294967296) :
    Ret Tryd.prog 9 [v] w (.tuple #[.pointer none, .int .i64 12]) := by
  have h1 := new_any rs w v h hf hn
  refine ⟨h1.has, h1.run.mono ?_⟩
  rintro e w' ⟨u, rfl, hm, ⟨hyes, _⟩ | ⟨_, rfl⟩⟩
  · exact absurd hyes hok
  · exact ⟨rfl, hm⟩
theorem rel_new {d : Nat} : ∀ vs ez (ρ : Nat → SX.Loc), vs d = some 0 → (ρ d).off = 0 → rel vs ez ρ (.tup [.ref d 0 0, .v (.int .i64 0)]) (newB (ρ d).blk) := by
  intro vs ez ρ h1 h2
  simp only [rel, newB]
  refine ⟨_, rfl, ?_⟩
  simp only [relL, rel]
  refine ⟨⟨0, h1, Nat.le_refl _, fun _ => ?_, _, rfl⟩, by simp⟩
  rw [h2]
set_option maxHeartbeats 8000000 in
theorem finds_ret (sv : Value) (rs : List Rw) (ad : Option Addr) (cap : Nat) (al : List (Bool × Int × Int)) (w : World) (hI : IF sv rs (.slice ad al.length cap) al w) (hf : ∀ r, r ∈ rs → r.fits) (hn : rs.length ≤ 1048576)
    (ha : ∀ a, a ∈ al → (0 ≤ a.2.1 ∧ a.2.1 ≤ 18446744073709551615) ∧ 0 ≤ a.2.2 ∧ a.2.2 ≤ 18446744073709551615) (hna : al.length ≤ 1048576) :
    Ret Tryd.prog 3 [sv, .slice ad al.length cap] w (.bool true) := by
  have hm63 : rs.length ≤ maxLen := by unfold maxLen; omega
  have happ : rs.length * 40 ≤ 140737488355328 := by omega
  have hfl : (rs.flatMap rcells).length = rs.length * 5 := flat_len rs
  have hsub : subL ((rs.flatMap rcells).map AV.v) (0 * 5) (rs.length * 5) = some ((rs.flatMap rcells).map AV.v) := by
    have := subL_all ((rs.flatMap rcells).map AV.v)
    rw [List.length_map, hfl] at this
    simpa using this
  have hall : ((rs.flatMap rcells).map AV.v).all SX.one = true := by
    simp only [List.all_map, List.all_eq_true]
    intro q hq
    exact flat_one rs q hq
  refine Ret.of (I := IF sv rs (.slice ad al.length cap) al) (fun w' hm => hI.mod hm) (TTok 0 _) Tryd.func3 (by kernel_rfl) rfl rfl ?_
  by_cases hok : okR rs
  · skip
    repeat' (
      (conv => whnf)
      first
        | (with_reducible first
            | refine TR.seq ?_
            | refine TR.region (TTok _ _) ?_
            | refine TR.drawn (TTok _ _) mixed ?_
            | refine TR.block ?_
            | refine TR.ret ?_
            | refine TR.exit ?_
            | refine TR.skip ?_
            | refine TR.condB rfl ?_
            | refine Br.cond_t ?_
            | refine Br.cond_f ?_
            | refine Br.yes (by first | decide | assumption | (apply decide_eq_true; omega)) ?_
            | refine Br.non (by first | decide | assumption | (apply decide_eq_false; omega)) ?_
            | refine Br.cond_ff ?_
            | refine Br.eqT (by omega) ?_
            | refine Br.eqF (by omega) ?_
            | refine Br.neT (by omega) ?_
            | refine Br.neF (by omega) ?_
            | refine Ld.mk' _ rfl ?_
            | refine Need.mk (by first | decide | omega | kernel_rfl) ?_
            | refine Nm.i64 (by omega) ?_
            | refine Nm.u64 (by omega) ?_
            | refine Nm.u8 (by omega) ?_
            | refine x_ret (f := 8) rfl rfl (fun w hw => examples_ret hw.t) ?_
            | refine x_ret (f := 10) rfl rfl (fun w hw => rules_any rs w sv hw.r hf (by omega) true ⟨fun _ => (ok_iff hf).2 hok, fun _ => rfl⟩) ?_)
        | refine x_append_nil (X := ⟨Tryd.prog, TT, 0, IF sv rs (.slice ad al.length cap) al⟩) (TTok _ _) (d := 20) (c0 := 0) (t := 22) (e := 36) (m := rs.length) (cr := []) (l := (rs.flatMap rcells).map .v) rfl rfl rfl rfl rfl rfl (Nat.zero_lt_succ 4) rfl (src_at (by rfl) (by exact hfl) (flat_one rs) (fun w hw => IF.r hw)) (fun i q h => absurd h List.not_mem_nil) hm63 (by exact happ) ?_
        | refine x_retT_src (X := ⟨Tryd.prog, TT, 0, IF sv rs (.slice ad al.length cap) al⟩) (f := 9) (d := 23) (ty := 58) (es := 6) (esz := 5) (m := rs.length) (us := rs.flatMap rcells) (cr := [(20, some ⟨.row, 36, 5, 0, (rs.flatMap rcells).map .v⟩)]) (F := FN rs) (mk := newB) (R := .tup [.ref 23 0 0, .v (.int .i64 0)]) rfl (by exact Src.sl (dk := ⟨.row, 36, 5, 0, (rs.flatMap rcells).map .v⟩) (lo := 0) (kd := 0) rfl rfl rfl hsub hall) (by intro i q h; simp only [List.mem_singleton, Prod.mk.injEq] at h; obtain ⟨rfl, rfl⟩ := h; rfl) (FN_stab rs) rel_new (fun w u hw h => new_good hok h hf (by omega)) rfl ?_
        | (refine x_exq (TTok _ _) ?_; (conv => whnf); fail_if_success (guard_target =ₛ False)))
    all_goals (conv => whnf)
    refine TR.open_tab (d := 23) rfl (fun b => ?_)
    refine TR.ex_tab (d := 23) (α := Tr) (G := fun T bl D w => GT b T bl D w ∧ RI T rs) rfl rfl (fun bl D w h => by obtain ⟨rfl, T, h1, h2⟩ := h; exact ⟨T, h1, h2⟩) (fun T => fun bl D w w' hw h => ⟨GT_stab b T _ _ _ _ hw h.1, h.2⟩) (fun T => ?_)
    refine TR.pure_tab (d := 23) rfl rfl (fun bl D w h => h.2) (fun hRI => ?_)
    (conv => whnf)
    refine TR.loopH (fun x : Int × List Value => [(10, .v (.int .i64 x.1))]) (fun x => [(20, ⟨.row, 36, 5, 0, x.2.map .v⟩)]) (fun x => 0 ≤ x.1 ∧ x.1 ≤ rs.length ∧ x.2.length = rs.length * 5) (fun x => (rs.length - x.1).toNat) (0, rs.flatMap rcells) ⟨by simp, by simp, hfl⟩ ?_ ?_
    · repeat' ((conv => whnf); first | exact trivial | exact Fgt.nil | exact Fgt.mk rfl rfl rfl | refine And.intro rfl ?_ | refine And.intro ?_ ?_)
    · rintro ⟨e, cells⟩ ⟨e0, e1, hc⟩
      dsimp only at e0 e1 hc ⊢
      by_cases he : e < rs.length
      · obtain ⟨cells', hput, hlen⟩ := putV_ex cells [.bool false, .int .u64 0, .int .u64 0, .int .i64 0, .int .i64 0] (0 * 5 + e.toNat * 5) (by simp; omega)
        repeat' (
          (conv => whnf)
          first
            | (with_reducible first
                | refine TR.seq ?_
                | refine TR.region (TTok _ _) ?_
                | refine TR.drawn (TTok _ _) mixed ?_
                | refine TR.block ?_
                | refine TR.ret ?_
                | refine TR.exit ?_
                | refine TR.skip ?_
                | refine TR.condB rfl ?_
                | refine Br.cond_t ?_
                | refine Br.cond_f ?_
                | refine Br.yes (by first | decide | assumption | (apply decide_eq_true; omega)) ?_
                | refine Br.non (by first | decide | assumption | (apply decide_eq_false; omega)) ?_
                | refine Br.cond_ff ?_
                | refine Br.eqT (by omega) ?_
                | refine Br.eqF (by omega) ?_
                | refine Br.neT (by omega) ?_
                | refine Br.neF (by omega) ?_
                | refine Ld.mk' _ rfl ?_
                | refine Need.mk (by first | decide | omega | kernel_rfl) ?_
                | refine Nm.i64 (by omega) ?_
                | refine Nm.u64 (by omega) ?_
                | refine Nm.u8 (by omega) ?_)
            | refine Ld.mk' (cells'.map .v) hput ?_
            | (refine x_exq (TTok _ _) ?_; (conv => whnf); fail_if_success (guard_target =ₛ False)))
        all_goals (conv => whnf)
        refine ⟨(e + 1, cells'), ⟨by dsimp only; omega, by dsimp only; omega, by dsimp only; omega⟩, by dsimp only; omega, ?_⟩
        repeat' ((conv => whnf); first | exact trivial | exact Fgt.nil | exact Fgt.mk rfl rfl rfl | refine And.intro rfl ?_ | refine And.intro ?_ ?_)
      · skip
        repeat' (
          (conv => whnf)
          first
            | (with_reducible first
                | refine TR.seq ?_
                | refine TR.region (TTok _ _) ?_
                | refine TR.drawn (TTok _ _) mixed ?_
                | refine TR.block ?_
                | refine TR.ret ?_
                | refine TR.exit ?_
                | refine TR.skip ?_
                | refine TR.condB rfl ?_
                | refine Br.cond_t ?_
                | refine Br.cond_f ?_
                | refine Br.yes (by first | decide | assumption | (apply decide_eq_true; omega)) ?_
                | refine Br.non (by first | decide | assumption | (apply decide_eq_false; omega)) ?_
                | refine Br.cond_ff ?_
                | refine Br.eqT (by omega) ?_
                | refine Br.eqF (by omega) ?_
                | refine Br.neT (by omega) ?_
                | refine Br.neF (by omega) ?_
                | refine Ld.mk' _ rfl ?_
                | refine Need.mk (by first | decide | omega | kernel_rfl) ?_
                | refine Nm.i64 (by omega) ?_
                | refine Nm.u64 (by omega) ?_
                | refine Nm.u8 (by omega) ?_)
            | (refine x_exq (TTok _ _) ?_; (conv => whnf); fail_if_success (guard_target =ₛ False)))
        all_goals (conv => whnf)
        refine TR.loopH (fun j : Int => [(11, .v (.int .i64 j))]) (fun _ => []) (fun j => 0 ≤ j ∧ j ≤ al.length) (fun j => (al.length - j).toNat) 0 ⟨by omega, by omega⟩ ?_ ?_
        · repeat' ((conv => whnf); first | exact trivial | exact Fgt.nil | exact Fgt.mk rfl rfl rfl | exact Fgt.mk rfl (by simp [noRefC, noRefL, noRef_map]) rfl | refine And.intro rfl ?_ | refine And.intro ?_ ?_)
        · rintro j ⟨j0, j1⟩
          by_cases hj : j < al.length
          · obtain ⟨a, hja⟩ : ∃ a, al[j.toNat]? = some a := ⟨al[j.toNat], by rw [List.getElem?_eq_getElem]⟩
            obtain ⟨ah, alr⟩ := ha a (List.mem_of_getElem? hja)
            obtain ⟨ab, ao, rfl⟩ : ∃ ab ao, ad = some ⟨ab, ao, none⟩ := by
              rcases hI.a with ⟨h0, _⟩ | ⟨ad', c, e, hc⟩
              · omega
              · have hs := cell_spot (hc _ _ (aflat_get al 0 (al[0]'(by omega)) (by rw [List.getElem?_eq_getElem]) 0 _ rfl))
                obtain ⟨b', o', s'⟩ := ad'
                injection e with e1 _ _
                refine ⟨b', o', ?_⟩
                rw [e1]
                cases s' with
                | none => rfl
                | some s' => simp [Addr.add] at hs
            obtain ⟨av6, ahi, alo⟩ := a
            have hla : ∀ w, IF sv rs (.slice (some ⟨ab, ao, none⟩) al.length cap) al w → (loadVar 32 ⟨ab, ao + j.toNat * 3, none⟩).run Tryd.prog w = .ok (.agg #[.bool av6, .int .u64 ahi, .int .u64 alo]) w := fun w hw => IF.load hw hja rfl
            obtain ⟨res, hres⟩ := FS_ex rs av6 ahi alo
            have h11 : ∀ w, (∃ bl D, (fun bl D w => GT b T bl D w ∧ RI T rs) bl D w) → Ret Tryd.prog 11 [.pointer (some ⟨b, 0, none⟩), .agg #[.bool av6, .int .u64 ahi, .int .u64 alo]] w (findV res) := fun w ⟨bl, D, h⟩ => find_ret b T rs av6 ahi alo w ⟨bl, D, h.1⟩ hRI hok.1 ah alr res hres
            have h12 : ∀ w, IF sv rs (.slice (some ⟨ab, ao, none⟩) al.length cap) al w → Ret Tryd.prog 12 [sv, .agg #[.bool av6, .int .u64 ahi, .int .u64 alo]] w (findV res) := fun w hw => rfind_any rs w sv hw.r hf (by omega) hok av6 ahi alo ah alr res hres
            rcases res with _ | ⟨rv6, rhi, rlo, rbits, ract⟩
            · skip
              repeat' (
                (conv => whnf)
                first
                  | (with_reducible first
                      | refine TR.seq ?_
                      | refine TR.region (TTok _ _) ?_
                      | refine TR.drawn (TTok _ _) mixed ?_
                      | refine TR.block ?_
                      | refine TR.ret ?_
                      | refine TR.exit ?_
                      | refine TR.skip ?_
                      | refine TR.condB rfl ?_
                      | refine Br.cond_t ?_
                      | refine Br.cond_f ?_
                      | refine Br.yes (by first | decide | assumption | (apply decide_eq_true; omega)) ?_
                      | refine Br.non (by first | decide | assumption | (apply decide_eq_false; omega)) ?_
                      | refine Br.cond_ff ?_
                      | refine Br.eqT (by omega) ?_
                      | refine Br.eqF (by omega) ?_
                      | refine Br.neT (by omega) ?_
                      | refine Br.neF (by omega) ?_
                      | refine Ld.mk' _ rfl ?_
                      | refine Need.mk (by first | decide | omega | kernel_rfl) ?_
                      | refine Nm.i64 (by omega) ?_
                      | refine Nm.u64 (by omega) ?_
                      | refine Nm.u8 (by omega) ?_)
                  | refine x_load_ext rfl rfl (fun w hw => hla w hw) ?_
                  | refine x_ret_tab (c := 23) (f := 11) rfl rfl rfl rfl (fun w _ h => h11 w h) ?_
                  | refine x_ret (f := 12) rfl rfl (fun w hw => h12 w hw) ?_
                  | refine Br.non rfl ?_
                  | (refine x_exq (TTok _ _) ?_; (conv => whnf); fail_if_success (guard_target =ₛ False)))
              all_goals (conv => whnf)
              refine ⟨j + 1, ⟨by omega, by omega⟩, by omega, ?_⟩
              repeat' ((conv => whnf); first | exact trivial | exact Fgt.nil | exact Fgt.mk rfl rfl rfl | exact Fgt.mk rfl (by simp [noRefC, noRefL, noRef_map]) rfl | refine And.intro rfl ?_ | refine And.intro ?_ ?_)
            · have hq : eqR BinOp.neq (rv6 == rv6 && (rhi == rhi && (rlo == rlo && true)) && (rbits == rbits && true)) = false := by simp [eqR]
              have hq2 : (ract != ract) = false := by simp
              repeat' (
                (conv => whnf)
                first
                  | (with_reducible first
                      | refine TR.seq ?_
                      | refine TR.region (TTok _ _) ?_
                      | refine TR.drawn (TTok _ _) mixed ?_
                      | refine TR.block ?_
                      | refine TR.ret ?_
                      | refine TR.exit ?_
                      | refine TR.skip ?_
                      | refine TR.condB rfl ?_
                      | refine Br.cond_t ?_
                      | refine Br.cond_f ?_
                      | refine Br.yes (by first | decide | assumption | (apply decide_eq_true; omega)) ?_
                      | refine Br.non (by first | decide | assumption | (apply decide_eq_false; omega)) ?_
                      | refine Br.cond_ff ?_
                      | refine Br.eqT (by omega) ?_
                      | refine Br.eqF (by omega) ?_
                      | refine Br.neT (by omega) ?_
                      | refine Br.neF (by omega) ?_
                      | refine Ld.mk' _ rfl ?_
                      | refine Need.mk (by first | decide | omega | kernel_rfl) ?_
                      | refine Nm.i64 (by omega) ?_
                      | refine Nm.u64 (by omega) ?_
                      | refine Nm.u8 (by omega) ?_)
                  | refine x_load_ext rfl rfl (fun w hw => hla w hw) ?_
                  | refine x_ret_tab (c := 23) (f := 11) rfl rfl rfl rfl (fun w _ h => h11 w h) ?_
                  | refine x_ret (f := 12) rfl rfl (fun w hw => h12 w hw) ?_
                  | refine Br.non rfl ?_
                  | refine Br.non hq ?_
                  | refine Br.non hq2 ?_
                  | (refine x_exq (TTok _ _) ?_; (conv => whnf); fail_if_success (guard_target =ₛ False)))
              all_goals (conv => whnf)
              refine ⟨j + 1, ⟨by omega, by omega⟩, by omega, ?_⟩
              repeat' ((conv => whnf); first | exact trivial | exact Fgt.nil | exact Fgt.mk rfl rfl rfl | exact Fgt.mk rfl (by simp [noRefC, noRefL, noRef_map]) rfl | refine And.intro rfl ?_ | refine And.intro ?_ ?_)
          · skip
            repeat' (
              (conv => whnf)
              first
                | (with_reducible first
                    | refine TR.seq ?_
                    | refine TR.region (TTok _ _) ?_
                    | refine TR.drawn (TTok _ _) mixed ?_
                    | refine TR.block ?_
                    | refine TR.ret ?_
                    | refine TR.exit ?_
                    | refine TR.skip ?_
                    | refine TR.condB rfl ?_
                    | refine Br.cond_t ?_
                    | refine Br.cond_f ?_
                    | refine Br.yes (by first | decide | assumption | (apply decide_eq_true; omega)) ?_
                    | refine Br.non (by first | decide | assumption | (apply decide_eq_false; omega)) ?_
                    | refine Br.cond_ff ?_
                    | refine Br.eqT (by omega) ?_
                    | refine Br.eqF (by omega) ?_
                    | refine Br.neT (by omega) ?_
                    | refine Br.neF (by omega) ?_
                    | refine Ld.mk' _ rfl ?_
                    | refine Need.mk (by first | decide | omega | kernel_rfl) ?_
                    | refine Nm.i64 (by omega) ?_
                    | refine Nm.u64 (by omega) ?_
                    | refine Nm.u8 (by omega) ?_)
                | (refine x_exq (TTok _ _) ?_; (conv => whnf); fail_if_success (guard_target =ₛ False)))
            all_goals (conv => whnf)
            all_goals rfl
  · skip
    repeat' (
      (conv => whnf)
      first
        | (with_reducible first
            | refine TR.seq ?_
            | refine TR.region (TTok _ _) ?_
            | refine TR.drawn (TTok _ _) mixed ?_
            | refine TR.block ?_
            | refine TR.ret ?_
            | refine TR.exit ?_
            | refine TR.skip ?_
            | refine TR.condB rfl ?_
            | refine Br.cond_t ?_
            | refine Br.cond_f ?_
            | refine Br.yes (by first | decide | assumption | (apply decide_eq_true; omega)) ?_
            | refine Br.non (by first | decide | assumption | (apply decide_eq_false; omega)) ?_
            | refine Br.cond_ff ?_
            | refine Br.eqT (by omega) ?_
            | refine Br.eqF (by omega) ?_
            | refine Br.neT (by omega) ?_
            | refine Br.neF (by omega) ?_
            | refine Ld.mk' _ rfl ?_
            | refine Need.mk (by first | decide | omega | kernel_rfl) ?_
            | refine Nm.i64 (by omega) ?_
            | refine Nm.u64 (by omega) ?_
            | refine Nm.u8 (by omega) ?_
            | refine x_ret (f := 8) rfl rfl (fun w hw => examples_ret hw.t) ?_
            | refine x_ret (f := 10) rfl rfl (fun w hw => rules_any rs w sv hw.r hf (by omega) false ⟨(fun h => by cases h), fun h => absurd ((ok_iff hf).1 h) hok⟩) ?_)
        | refine x_append_nil (X := ⟨Tryd.prog, TT, 0, IF sv rs (.slice ad al.length cap) al⟩) (TTok _ _) (d := 20) (c0 := 0) (t := 22) (e := 36) (m := rs.length) (cr := []) (l := (rs.flatMap rcells).map .v) rfl rfl rfl rfl rfl rfl (Nat.zero_lt_succ 4) rfl (src_at (by rfl) (by exact hfl) (flat_one rs) (fun w hw => IF.r hw)) (fun i q h => absurd h List.not_mem_nil) hm63 (by exact happ) ?_
        | refine x_ret_src (X := ⟨Tryd.prog, TT, 0, IF sv rs (.slice ad al.length cap) al⟩) (f := 9) (esz := 5) (m := rs.length) (us := rs.flatMap rcells) (cr := [(20, some ⟨.row, 36, 5, 0, (rs.flatMap rcells).map .v⟩)]) (v := .tuple #[.pointer none, .int .i64 12]) rfl (by exact Src.sl (dk := ⟨.row, 36, 5, 0, (rs.flatMap rcells).map .v⟩) (lo := 0) (kd := 0) rfl rfl rfl hsub hall) (by intro i q h; simp only [List.mem_singleton, Prod.mk.injEq] at h; obtain ⟨rfl, rfl⟩ := h; rfl) (fun w u hw h => new_bad hok h hf (by omega)) ?_
        | refine Br.non rfl ?_
        | refine Br.yes rfl ?_
        | (refine x_exq (TTok _ _) ?_; (conv => whnf); fail_if_success (guard_target =ₛ False)))
    all_goals (conv => whnf)
    all_goals rfl
end Go.Proofs.YtopadpgpmkkpgaaDoor
set_option maxRecDepth 100000
namespace Go.Proofs.YtopadpgpmkkpgaaDoor
open Go.SX
structure IM7 (sv : Value) (rs : List Rw) (w : World) : Prop where
  t : I13 w
  r : SlAt w sv rs.length (rs.flatMap rcells)
theorem IM7.mod {sv rs} {w w' : World} (h : IM7 sv rs w) (hm : Mod w w' fun _ => False) : IM7 sv rs w' := ⟨h.t.mod hm, SlAt.mod h.r hm⟩
theorem FS.mono {a b : List Rw} (hm : ∀ r, r ∈ a ↔ r ∈ b) {v6 : Bool} {hi lo : Int} {res : Option Rw} (h : FS a v6 hi lo res) : FS b v6 hi lo res := by
  cases res with
  | none => exact fun r hr => h r ((hm r).2 hr)
  | some r => exact ⟨(hm r).1 h.1, h.2.1, fun s hs => h.2.2 s ((hm s).2 hs)⟩
theorem okR_rev {rs : List Rw} (h : okR rs) : okR rs.reverse := by
  refine ⟨fun r hr => h.1 r (List.mem_reverse.1 hr), ?_⟩
  rw [List.pairwise_reverse]
  exact h.2.imp fun hn ⟨e1, e2⟩ => hn ⟨e1.symm, e2.symm⟩
theorem snoc_flat (rs : List Rw) (r : Rw) : (rs ++ [r]).flatMap rcells = rs.flatMap rcells ++ rcells r := by simp
theorem ckapp (k : CK) (ty es v : Nat) (a b : List Value) : Chunk.mk k ty es v (a.map .v ++ b.map .v) = Chunk.mk k ty es v ((a ++ b).map .v) := by rw [List.map_append]
theorem noRef_app (ms : List Nat) : ∀ a b : List AV, noRefL ms (a ++ b) = (noRefL ms a && noRefL ms b)
  | [], b => by simp [noRefL]
  | x :: a, b => by simp [noRefL, noRef_app ms a b, Bool.and_assoc]
theorem IR_of {b o n c : Nat} {rs : List Rw} {w : World} (h : SlAt w (.slice (some ⟨b, o, none⟩) n c) rs.length (rs.flatMap rcells)) : IR b o rs w := by
  refine ⟨fun i x hx j u hu => ?_⟩
  rcases h with ⟨h0, _⟩ | ⟨ad, c', e, hc⟩
  · have : rs = [] := List.eq_nil_of_length_eq_zero h0
    subst this
    simp at hx
  · injection e with e1 _ _
    cases e1
    have := hc _ _ (flat_get _ i x hx j u hu)
    rw [add_none, ← Nat.add_assoc] at this
    exact this
theorem sl_some {ad : Option Addr} {n cap : Nat} {rs : List Rw} {w : World} (h : SlAt w (.slice ad n cap) rs.length (rs.flatMap rcells)) (hp : 0 < rs.length) : ∃ b o, ad = some ⟨b, o, none⟩ := by
  rcases h with ⟨h0, _⟩ | ⟨ad', c, e, hc⟩
  · omega
  · have hs := cell_spot (hc _ _ (flat_get rs 0 (rs[0]'hp) (by rw [List.getElem?_eq_getElem]) 0 _ rfl))
    obtain ⟨b', o', s'⟩ := ad'
    injection e with e1 _ _
    refine ⟨b', o', ?_⟩
    rw [e1]
    cases s' with
    | none => rfl
    | some s' => simp [Addr.add] at hs
def bkA : Option (Nat × Nat × List Value) → AV
  | none => .v (.slice none 0 0)
  | some y => .sl 128 y.1 0 y.2.1
def bkC : Option (Nat × Nat × List Value) → List (Nat × Chunk)
  | none => []
  | some y => [(128, ⟨.row, 36, 5, y.1, y.2.2.map .v⟩)]
def bkP (rs : List Rw) (i : Int) : Option (Nat × Nat × List Value) → Prop
  | none => i = rs.length - 1
  | some y => y.2.1 + (i + 1).toNat = rs.length ∧ y.2.2 = (rs.drop (i + 1).toNat).reverse.flatMap rcells
theorem bk_step {rs : List Rw} {i : Int} (i0 : 0 ≤ i) {r : Rw} (hr : rs[i.toNat]? = some r) : (rs.drop (i - 1 + 1).toNat).reverse.flatMap rcells = (rs.drop (i + 1).toNat).reverse.flatMap rcells ++ rcells r := by
  obtain ⟨h1, h2⟩ := List.getElem?_eq_some_iff.1 hr
  rw [show (i - 1 + 1).toNat = i.toNat by omega, show (i + 1).toNat = i.toNat + 1 by omega, List.drop_eq_getElem_cons h1, h2]
  simp
theorem open_new {X : Ctx} {c : Code} {K : Exit → St → Prop} {st : St} {d ver : Nat} {ty : TypeId} {esz : Nat} {rs : List Rw} (hd : getO st.ch d = some ⟨.tab (FN rs), ty, esz, ver, []⟩)
    (h : ∀ b T, RI T rs → TR X c K ⟨opnF d ver b st.fr, setO (setO st.ch d ⟨.tab (fun bl D w => bl = b ∧ FN rs bl D w), ty, esz, ver, []⟩) d ⟨.tab (fun bl D w => GT b T bl D w ∧ RI T rs), ty, esz, ver, []⟩⟩) : TR X c K st := by
  refine TR.open_tab hd (fun b => ?_)
  refine TR.ex_tab (d := d) (α := Tr) (G := fun T bl D w => GT b T bl D w ∧ RI T rs) (getO_set_same _ _ _) rfl (fun bl D w h => ?_) (fun T => fun bl D w w' hw h => ⟨GT_stab b T _ _ _ _ hw h.1, h.2⟩) (fun T => ?_)
  · obtain ⟨rfl, T, h1, h2⟩ := h
    exact ⟨T, h1, h2⟩
  · exact TR.pure_tab (d := d) (getO_set_same _ _ _) rfl (fun bl D w h => h.2) (fun hRI => h b T hRI)
set_option maxHeartbeats 8000000 in
theorem more_ret (ad : Option Addr) (cap : Nat) (rs : List Rw) (v6 : Bool) (hi lo bits act : Int) (av6 : Bool) (ahi alo : Int) (w : World) (hI : IM7 (.slice ad rs.length cap) rs w) (hf : ∀ r, r ∈ rs → r.fits) (hn : rs.length ≤ 1048576)
    (hone : Rw.fits ⟨v6, hi, lo, bits, act⟩) (hah : 0 ≤ ahi ∧ ahi ≤ 18446744073709551615) (hal : 0 ≤ alo ∧ alo ≤ 18446744073709551615) :
    Ret Tryd.prog 7 [.slice ad rs.length cap, .agg #[.bool v6, .int .u64 hi, .int .u64 lo, .int .i64 bits, .int .i64 act], .agg #[.bool av6, .int .u64 ahi, .int .u64 alo]] w (.bool true) := by
  have hm63 : rs.length ≤ maxLen := by unfold maxLen; omega
  have hm63' : rs.length + 1 ≤ maxLen := by unfold maxLen; omega
  have happ : rs.length * 40 ≤ 140737488355328 := by omega
  have happ' : (rs.length + 1) * 40 ≤ 140737488355328 := by omega
  have hfl : (rs.flatMap rcells).length = rs.length * 5 := flat_len rs
  have hf' : ∀ r, r ∈ rs ++ [⟨v6, hi, lo, bits, act⟩] → r.fits := fun r hr => by
    rcases List.mem_append.1 hr with hr | hr
    · exact hf r hr
    · simp at hr; subst hr; exact hone
  refine Ret.of (I := IM7 (.slice ad rs.length cap) rs) (fun w' hm => hI.mod hm) (TTok 0 _) Tryd.func7 (by kernel_rfl) rfl rfl ?_
  have hfl2 : ((rs.flatMap rcells).map AV.v).length = rs.length * 5 := by simpa using hfl
  have hsub2 : subL ((rs.flatMap rcells).map AV.v ++ (rcells ⟨v6, hi, lo, bits, act⟩).map AV.v) (0 * 5) ((rs.length + 1) * 5) = some ((rs.flatMap rcells ++ rcells ⟨v6, hi, lo, bits, act⟩).map AV.v) := by
    have h := subL_all ((rs.flatMap rcells ++ rcells ⟨v6, hi, lo, bits, act⟩).map AV.v)
    rw [List.length_map, List.length_append, hfl] at h
    rw [← List.map_append, ← h]
    congr 1
    simp [rcells]
    omega
  have hall2 : ((rs.flatMap rcells ++ rcells ⟨v6, hi, lo, bits, act⟩).map AV.v).all SX.one = true := by
    simp only [List.all_map, List.all_eq_true]
    intro q hq
    rw [← snoc_flat] at hq
    exact flat_one _ q hq
  have hlen2 : (rs ++ [(⟨v6, hi, lo, bits, act⟩ : Rw)]).length = rs.length + 1 := by simp
  have good2 : okR (rs ++ [⟨v6, hi, lo, bits, act⟩]) → ∀ w u, SlAt w u (rs.length + 1) (rs.flatMap rcells ++ rcells ⟨v6, hi, lo, bits, act⟩) → RetQ Tryd.prog 9 [u] w fun w' u => ∃ b D, u = newB b ∧ FN (rs ++ [⟨v6, hi, lo, bits, act⟩]) b D w' ∧ ∀ e, D e → w.heap.size ≤ e ∧ e < w'.heap.size := fun hok2 w u h => new_good hok2 (by rw [hlen2, snoc_flat]; exact h) hf' (by rw [hlen2]; omega)
  have bad2 : ¬ okR (rs ++ [⟨v6, hi, lo, bits, act⟩]) → ∀ w u, SlAt w u (rs.length + 1) (rs.flatMap rcells ++ rcells ⟨v6, hi, lo, bits, act⟩) → Ret Tryd.prog 9 [u] w (.tuple #[.pointer none, .int .i64 12]) := fun hok2 w u h => new_bad hok2 (by rw [hlen2, snoc_flat]; exact h) hf' (by rw [hlen2]; omega)
  by_cases hok : okR rs
  · by_cases hok2 : okR (rs ++ [⟨v6, hi, lo, bits, act⟩])
    · obtain ⟨res1, hres1⟩ := FS_ex rs av6 ahi alo
      obtain ⟨res2, hres2⟩ := FS_ex (rs ++ [⟨v6, hi, lo, bits, act⟩]) av6 ahi alo
      have hgone : good ⟨v6, hi, lo, bits, act⟩ := hok2.1 _ (by simp)
      have hgb := good_bits hgone
      obtain ⟨hb, hbm, h17⟩ : ∃ b : Bool, (b = true ↔ mt av6 ahi alo ⟨v6, hi, lo, bits, act⟩) ∧ ∀ w, Ret Tryd.prog 17 [.agg #[.bool v6, .int .u64 hi, .int .u64 lo, .int .i64 bits], .agg #[.bool av6, .int .u64 ahi, .int .u64 alo]] w (.bool b) := by
        obtain ⟨b, hb1, hb2, _⟩ := hold_iff v6 hi lo bits av6 ahi alo ⟨hone.hi0, hone.hi1⟩ ⟨hone.lo0, hone.lo1⟩ hah hal
        exact ⟨b, hb1.trans (mt_eqB hgone).symm, hb2⟩
      simp only at hgb
      cases hb with
      | false =>
        have hnm : ¬ mt av6 ahi alo ⟨v6, hi, lo, bits, act⟩ := fun h => by cases hbm.2 h
        have heq : res2 = res1 := FS.uniq hok2 hres2 (hres1.skip hnm)
        subst heq
        rcases res2 with _ | ⟨rv6, rhi, rlo, rbits, ract⟩
        · skip
          repeat' (
            (conv => whnf)
            first
              | (with_reducible first
                  | refine open_new (d := 27) (rs := rs) rfl (fun b1 T1 hRI1 => ?_)
                  | refine open_new (d := 37) (rs := (rs ++ [⟨v6, hi, lo, bits, act⟩])) rfl (fun b2 T2 hRI2 => ?_)
                  | refine TR.seq ?_
                  | refine TR.region (TTok _ _) ?_
                  | refine TR.drawn (TTok _ _) mixed ?_
                  | refine TR.block ?_
                  | refine TR.ret ?_
                  | refine TR.exit ?_
                  | refine TR.skip ?_
                  | refine TR.condB rfl ?_
                  | refine Br.cond_t ?_
                  | refine Br.cond_f ?_
                  | refine Br.yes (by first | decide | assumption | (apply decide_eq_true; omega)) ?_
                  | refine Br.non (by first | decide | assumption | (apply decide_eq_false; omega)) ?_
                  | refine Br.cond_ff ?_
                  | refine Br.eqT (by omega) ?_
                  | refine Br.eqF (by omega) ?_
                  | refine Br.neT (by omega) ?_
                  | refine Br.neF (by omega) ?_
                  | refine Ld.mk' _ rfl ?_
                  | refine Need.mk (by first | decide | omega | kernel_rfl) ?_
                  | refine Nm.i64 (by omega) ?_
                  | refine Nm.u64 (by omega) ?_
                  | refine Nm.u8 (by omega) ?_
                  | refine x_ret (f := 8) rfl rfl (fun w hw => examples_ret hw.t) ?_
                  | refine x_ret (f := 17) rfl rfl (fun w _ => h17 w) ?_)
              | refine x_append (X := ⟨Tryd.prog, TT, 0, IM7 (.slice ad rs.length cap) rs⟩) (TTok _ _) (c := 33) (kv := 0) (t := 22) (e := 36) (n := rs.length) (m := 1) (ck := ⟨.row, 36, 5, 0, (rs.flatMap rcells).map .v⟩) (cr := [(35, some ⟨.row, 36, 5, 0, (rcells ⟨v6, hi, lo, bits, act⟩).map .v⟩)]) (l := (rcells ⟨v6, hi, lo, bits, act⟩).map .v) rfl rfl rfl rfl rfl rfl rfl rfl rfl rfl (Nat.zero_lt_succ 4) rfl hfl2 (by exact Src.sl (dk := ⟨.row, 36, 5, 0, (rcells ⟨v6, hi, lo, bits, act⟩).map .v⟩) (lo := 0) (kd := 0) rfl rfl rfl rfl rfl) (by intro i q h; simp only [List.mem_singleton, Prod.mk.injEq] at h; obtain ⟨rfl, rfl⟩ := h; rfl) hm63' (by exact happ') ?_
              | refine x_append_nil (X := ⟨Tryd.prog, TT, 0, IM7 (.slice ad rs.length cap) rs⟩) (TTok _ _) (d := 33) (c0 := 0) (t := 22) (e := 36) (m := rs.length) (cr := []) (l := (rs.flatMap rcells).map .v) rfl rfl rfl rfl rfl rfl (Nat.zero_lt_succ 4) rfl (src_at (by rfl) (by exact hfl) (flat_one rs) (fun w hw => IM7.r hw)) (fun i q h => absurd h List.not_mem_nil) hm63 (by exact happ) ?_
              | refine x_retT_src (X := ⟨Tryd.prog, TT, 0, IM7 (.slice ad rs.length cap) rs⟩) (f := 9) (d := 27) (ty := 58) (es := 6) (esz := 5) (m := rs.length) (us := rs.flatMap rcells) (cr := []) (F := FN rs) (mk := newB) (R := .tup [.ref 27 0 0, .v (.int .i64 0)]) rfl (src_at (by rfl) (by exact hfl) (flat_one rs) (fun w hw => IM7.r hw)) (fun i q h => absurd h List.not_mem_nil) (FN_stab rs) rel_new (fun w u hw h => new_good hok h hf (by omega)) rfl ?_
              | refine x_retT_src (X := ⟨Tryd.prog, TT, 0, IM7 (.slice ad rs.length cap) rs⟩) (f := 9) (d := 37) (ty := 58) (es := 6) (esz := 5) (m := rs.length + 1) (us := rs.flatMap rcells ++ rcells ⟨v6, hi, lo, bits, act⟩) (cr := [(33, some ⟨.row, 36, 5, 0 + 1, (rs.flatMap rcells).map .v ++ (rcells ⟨v6, hi, lo, bits, act⟩).map .v⟩)]) (F := FN (rs ++ [⟨v6, hi, lo, bits, act⟩])) (mk := newB) (R := .tup [.ref 37 0 0, .v (.int .i64 0)]) rfl (by refine Src.sl (dk := ⟨.row, 36, 5, 0 + 1, (rs.flatMap rcells).map .v ++ (rcells ⟨v6, hi, lo, bits, act⟩).map .v⟩) (lo := 0) (kd := 0 + 1) ?_ ?_ ?_ hsub2 hall2 <;> rfl) (by intro i q h; simp only [List.mem_singleton, Prod.mk.injEq] at h; obtain ⟨rfl, rfl⟩ := h; rfl) (FN_stab _) rel_new (fun w u hw h => good2 hok2 w u h) rfl ?_
              | refine x_ret_tab (c := 27) (f := 11) rfl rfl rfl rfl (fun w _ h => find_ret b1 T1 rs av6 ahi alo w (by obtain ⟨bl, D, h⟩ := h; exact ⟨bl, D, h.1⟩) hRI1 hok.1 hah hal _ hres1) ?_
              | refine x_ret_tab (c := 37) (f := 11) rfl rfl rfl rfl (fun w _ h => find_ret b2 T2 (rs ++ [⟨v6, hi, lo, bits, act⟩]) av6 ahi alo w (by obtain ⟨bl, D, h⟩ := h; exact ⟨bl, D, h.1⟩) hRI2 hok2.1 hah hal _ hres2) ?_
              | refine Br.non rfl ?_
              | refine Br.yes rfl ?_
              | (refine x_exq (TTok _ _) ?_; (conv => whnf); fail_if_success (guard_target =ₛ False)))
          all_goals (conv => whnf)
          refine TR.loopH (fun x : Int × Option (Nat × Nat × List Value) => [(18, bkA x.2), (19, .v (.int .i64 x.1))]) (fun x => bkC x.2) (fun x => -1 ≤ x.1 ∧ x.1 ≤ rs.length - 1 ∧ bkP rs x.1 x.2) (fun x => (x.1 + 1).toNat) (rs.length - 1, none) ⟨by dsimp only; omega, by dsimp only; omega, rfl⟩ ?_ ?_
          · repeat' ((conv => whnf); first | exact trivial | exact Fgt.nil | exact Fgt.mk rfl rfl rfl | exact Fgt.mk rfl (by simp [noRefC, noRefL, noRef_map, noRef_app, noRef]) rfl | refine And.intro rfl ?_ | refine And.intro (ckapp _ _ _ _ _ _) ?_ | refine And.intro ?_ ?_)
          · rintro ⟨i, g⟩ ⟨i0, i1, hP⟩
            dsimp only at i0 i1 hP ⊢
            by_cases hi0 : 0 ≤ i
            · obtain ⟨r, hr⟩ : ∃ r, rs[i.toNat]? = some r := ⟨rs[i.toNat], by rw [List.getElem?_eq_getElem]⟩
              obtain ⟨ab, ao, rfl⟩ := sl_some hI.r (by omega)
              have hbk := bk_step hi0 hr
              obtain ⟨qv6, qhi, qlo, qbits, qact⟩ := r
              have hld : ∀ w, IM7 (.slice (some ⟨ab, ao, none⟩) rs.length cap) rs w → (loadVar 36 ⟨ab, ao + i.toNat * 5, none⟩).run Tryd.prog w = .ok (.agg #[.bool qv6, .int .u64 qhi, .int .u64 qlo, .int .i64 qbits, .int .i64 qact]) w := fun w hw => (IR_of hw.r).load hr
              rcases g with _ | ⟨gv, gm, gu⟩
              · skip
                repeat' (
                  (conv => whnf)
                  first
                    | (with_reducible first
                        | refine TR.seq ?_
                        | refine TR.region (TTok _ _) ?_
                        | refine TR.drawn (TTok _ _) mixed ?_
                        | refine TR.block ?_
                        | refine TR.ret ?_
                        | refine TR.exit ?_
                        | refine TR.skip ?_
                        | refine TR.condB rfl ?_
                        | refine Br.cond_t ?_
                        | refine Br.cond_f ?_
                        | refine Br.yes (by first | decide | assumption | (apply decide_eq_true; omega)) ?_
                        | refine Br.non (by first | decide | assumption | (apply decide_eq_false; omega)) ?_
                        | refine Br.cond_ff ?_
                        | refine Br.eqT (by omega) ?_
                        | refine Br.eqF (by omega) ?_
                        | refine Br.neT (by omega) ?_
                        | refine Br.neF (by omega) ?_
                        | refine Ld.mk' _ rfl ?_
                        | refine Need.mk (by first | decide | omega | kernel_rfl) ?_
                        | refine Nm.i64 (by omega) ?_
                        | refine Nm.u64 (by omega) ?_
                        | refine Nm.u8 (by omega) ?_)
                    | refine x_load_ext rfl rfl (fun w hw => hld w hw) ?_
                    | refine x_append_nil (X := ⟨Tryd.prog, TT, 0, IM7 (.slice (some ⟨ab, ao, none⟩) rs.length cap) rs⟩) (TTok _ _) (d := 128) (c0 := 0) (t := 22) (e := 36) (m := 1) (cr := [(127, some ⟨.row, 36, 5, 0, (rcells ⟨qv6, qhi, qlo, qbits, qact⟩).map .v⟩)]) (l := (rcells ⟨qv6, qhi, qlo, qbits, qact⟩).map .v) rfl rfl rfl rfl rfl rfl (Nat.zero_lt_succ 4) rfl (by refine Src.sl (dk := ⟨.row, 36, 5, 0, (rcells ⟨qv6, qhi, qlo, qbits, qact⟩).map .v⟩) (lo := 0) (kd := 0) ?_ ?_ ?_ ?_ ?_ <;> rfl) (by intro i q h; simp only [List.mem_singleton, Prod.mk.injEq] at h; obtain ⟨rfl, rfl⟩ := h; rfl) (by decide) (by decide) ?_
                    | (refine x_exq (TTok _ _) ?_; (conv => whnf); fail_if_success (guard_target =ₛ False)))
                all_goals (conv => whnf)
                have hP0 : i = rs.length - 1 := hP
                refine ⟨(i - 1, some (0, 1, rcells ⟨qv6, qhi, qlo, qbits, qact⟩)), ⟨by dsimp only; omega, by dsimp only; omega, ?_, ?_⟩, by dsimp only; omega, ?_⟩
                · dsimp only; omega
                · dsimp only
                  rw [hbk, List.drop_eq_nil_of_le (by omega)]
                  rfl
                repeat' ((conv => whnf); first | exact trivial | exact Fgt.nil | exact Fgt.mk rfl rfl rfl | exact Fgt.mk rfl (by simp [noRefC, noRefL, noRef_map, noRef_app, noRef]) rfl | refine And.intro rfl ?_ | refine And.intro (ckapp _ _ _ _ _ _) ?_ | refine And.intro ?_ ?_)
              · obtain ⟨hP1, hP2⟩ := hP
                dsimp only at hP1 hP2
                have hgl : (gu.map AV.v).length = gm * 5 := by
                  rw [List.length_map, hP2, flat_len, List.length_reverse, List.length_drop]
                  omega
                have hgm : gm + 1 ≤ maxLen := by omega
                have hgb : (gm + 1) * 40 ≤ 140737488355328 := by omega
                repeat' (
                  (conv => whnf)
                  first
                    | (with_reducible first
                        | refine TR.seq ?_
                        | refine TR.region (TTok _ _) ?_
                        | refine TR.drawn (TTok _ _) mixed ?_
                        | refine TR.block ?_
                        | refine TR.ret ?_
                        | refine TR.exit ?_
                        | refine TR.skip ?_
                        | refine TR.condB rfl ?_
                        | refine Br.cond_t ?_
                        | refine Br.cond_f ?_
                        | refine Br.yes (by first | decide | assumption | (apply decide_eq_true; omega)) ?_
                        | refine Br.non (by first | decide | assumption | (apply decide_eq_false; omega)) ?_
                        | refine Br.cond_ff ?_
                        | refine Br.eqT (by omega) ?_
                        | refine Br.eqF (by omega) ?_
                        | refine Br.neT (by omega) ?_
                        | refine Br.neF (by omega) ?_
                        | refine Ld.mk' _ rfl ?_
                        | refine Need.mk (by first | decide | omega | kernel_rfl) ?_
                        | refine Nm.i64 (by omega) ?_
                        | refine Nm.u64 (by omega) ?_
                        | refine Nm.u8 (by omega) ?_)
                    | refine x_load_ext rfl rfl (fun w hw => hld w hw) ?_
                    | refine x_append (X := ⟨Tryd.prog, TT, 0, IM7 (.slice (some ⟨ab, ao, none⟩) rs.length cap) rs⟩) (TTok _ _) (c := 128) (kv := gv) (t := 22) (e := 36) (n := gm) (m := 1) (ck := ⟨.row, 36, 5, gv, gu.map .v⟩) (cr := [(127, some ⟨.row, 36, 5, 0, (rcells ⟨qv6, qhi, qlo, qbits, qact⟩).map .v⟩)]) (l := (rcells ⟨qv6, qhi, qlo, qbits, qact⟩).map .v) rfl rfl rfl rfl rfl rfl rfl rfl rfl rfl (Nat.zero_lt_succ 4) rfl hgl (by refine Src.sl (dk := ⟨.row, 36, 5, 0, (rcells ⟨qv6, qhi, qlo, qbits, qact⟩).map .v⟩) (lo := 0) (kd := 0) ?_ ?_ ?_ ?_ ?_ <;> rfl) (by intro i q h; simp only [List.mem_singleton, Prod.mk.injEq] at h; obtain ⟨rfl, rfl⟩ := h; rfl) hgm (by exact hgb) ?_
                    | (refine x_exq (TTok _ _) ?_; (conv => whnf); fail_if_success (guard_target =ₛ False)))
                all_goals (conv => whnf)
                refine ⟨(i - 1, some (gv + 1, gm + 1, gu ++ rcells ⟨qv6, qhi, qlo, qbits, qact⟩)), ⟨by dsimp only; omega, by dsimp only; omega, ?_, ?_⟩, by dsimp only; omega, ?_⟩
                · dsimp only; omega
                · dsimp only
                  rw [hbk, hP2]
                repeat' ((conv => whnf); first | exact trivial | exact Fgt.nil | exact Fgt.mk rfl rfl rfl | exact Fgt.mk rfl (by simp [noRefC, noRefL, noRef_map, noRef_app, noRef]) rfl | refine And.intro rfl ?_ | refine And.intro (ckapp _ _ _ _ _ _) ?_ | refine And.intro ?_ ?_)
            · have hi1 : i = -1 := by omega
              have hres3 : FS rs.reverse av6 ahi alo none := hres1.mono (by simp)
              have hok3 := okR_rev hok
              have hf3 : ∀ r, r ∈ rs.reverse → r.fits := fun r hr => hf r (List.mem_reverse.1 hr)
              rcases g with _ | ⟨gv, gm, gu⟩
              · have hP0 : i = rs.length - 1 := hP
                have hn0 : rs.reverse.length = 0 := by rw [List.length_reverse]; omega
                repeat' (
                  (conv => whnf)
                  first
                    | (with_reducible first
                        | refine open_new (d := 131) (rs := rs.reverse) rfl (fun b3 T3 hRI3 => ?_)
                        | refine TR.seq ?_
                        | refine TR.region (TTok _ _) ?_
                        | refine TR.drawn (TTok _ _) mixed ?_
                        | refine TR.block ?_
                        | refine TR.ret ?_
                        | refine TR.exit ?_
                        | refine TR.skip ?_
                        | refine TR.condB rfl ?_
                        | refine Br.cond_t ?_
                        | refine Br.cond_f ?_
                        | refine Br.yes (by first | decide | assumption | (apply decide_eq_true; omega)) ?_
                        | refine Br.non (by first | decide | assumption | (apply decide_eq_false; omega)) ?_
                        | refine Br.cond_ff ?_
                        | refine Br.eqT (by omega) ?_
                        | refine Br.eqF (by omega) ?_
                        | refine Br.neT (by omega) ?_
                        | refine Br.neF (by omega) ?_
                        | refine Ld.mk' _ rfl ?_
                        | refine Need.mk (by first | decide | omega | kernel_rfl) ?_
                        | refine Nm.i64 (by omega) ?_
                        | refine Nm.u64 (by omega) ?_
                        | refine Nm.u8 (by omega) ?_)
                    | refine x_retT (X := ⟨Tryd.prog, TT, 0, IM7 (.slice ad rs.length cap) rs⟩) (f := 9) (d := 131) (ty := 58) (esz := 6) (F := FN rs.reverse) (mk := newB) (R := .tup [.ref 131 0 0, .v (.int .i64 0)]) rfl rfl (FN_stab _) rel_new (fun w hw => new_good hok3 (.inl ⟨hn0, _, _, rfl⟩) hf3 (by omega)) rfl ?_
                    | refine x_ret_tab (c := 131) (f := 11) rfl rfl rfl rfl (fun w _ h => find_ret b3 T3 rs.reverse av6 ahi alo w (by obtain ⟨bl, D, h⟩ := h; exact ⟨bl, D, h.1⟩) hRI3 hok3.1 hah hal _ hres3) ?_
                    | refine Br.yes rfl ?_
                    | refine Br.non rfl ?_
                    | (refine x_exq (TTok _ _) ?_; (conv => whnf); fail_if_success (guard_target =ₛ False)))
                all_goals (conv => whnf)
                all_goals rfl
              · obtain ⟨hP1, hP2⟩ := hP
                dsimp only at hP1 hP2
                rw [hi1] at hP1 hP2
                have hgm : gm = rs.reverse.length := by rw [List.length_reverse]; simpa using hP1
                have hgu : gu = rs.reverse.flatMap rcells := by simpa using hP2
                have hgl : (gu.map AV.v).length = gm * 5 := by rw [List.length_map, hgu, flat_len, hgm]
                have hsub3 : subL (gu.map AV.v) (0 * 5) (gm * 5) = some (gu.map AV.v) := by
                  rw [← hgl]
                  exact subL_all _
                have hall3 : (gu.map AV.v).all SX.one = true := by
                  simp only [List.all_map, List.all_eq_true]
                  intro q hq
                  rw [hgu] at hq
                  exact flat_one _ q hq
                have hng : ∀ w u, SlAt w u gm gu → RetQ Tryd.prog 9 [u] w fun w' u => ∃ b D, u = newB b ∧ FN rs.reverse b D w' ∧ ∀ e, D e → w.heap.size ≤ e ∧ e < w'.heap.size := fun w u h => new_good hok3 (by rw [← hgm, ← hgu]; exact h) hf3 (by rw [List.length_reverse]; omega)
                repeat' (
                  (conv => whnf)
                  first
                    | (with_reducible first
                        | refine open_new (d := 131) (rs := rs.reverse) rfl (fun b3 T3 hRI3 => ?_)
                        | refine TR.seq ?_
                        | refine TR.region (TTok _ _) ?_
                        | refine TR.drawn (TTok _ _) mixed ?_
                        | refine TR.block ?_
                        | refine TR.ret ?_
                        | refine TR.exit ?_
                        | refine TR.skip ?_
                        | refine TR.condB rfl ?_
                        | refine Br.cond_t ?_
                        | refine Br.cond_f ?_
                        | refine Br.yes (by first | decide | assumption | (apply decide_eq_true; omega)) ?_
                        | refine Br.non (by first | decide | assumption | (apply decide_eq_false; omega)) ?_
                        | refine Br.cond_ff ?_
                        | refine Br.eqT (by omega) ?_
                        | refine Br.eqF (by omega) ?_
                        | refine Br.neT (by omega) ?_
                        | refine Br.neF (by omega) ?_
                        | refine Ld.mk' _ rfl ?_
                        | refine Need.mk (by first | decide | omega | kernel_rfl) ?_
                        | refine Nm.i64 (by omega) ?_
                        | refine Nm.u64 (by omega) ?_
                        | refine Nm.u8 (by omega) ?_)
                    | refine x_retT_src (X := ⟨Tryd.prog, TT, 0, IM7 (.slice ad rs.length cap) rs⟩) (f := 9) (d := 131) (ty := 58) (es := 6) (esz := 5) (m := gm) (us := gu) (cr := [(128, some ⟨.row, 36, 5, gv, gu.map .v⟩)]) (F := FN rs.reverse) (mk := newB) (R := .tup [.ref 131 0 0, .v (.int .i64 0)]) rfl (by refine Src.sl (dk := ⟨.row, 36, 5, gv, gu.map .v⟩) (lo := 0) (kd := gv) ?_ ?_ ?_ hsub3 hall3 <;> rfl) (by intro i q h; simp only [List.mem_singleton, Prod.mk.injEq] at h; obtain ⟨rfl, rfl⟩ := h; rfl) (FN_stab _) rel_new (fun w u hw h => hng w u h) rfl ?_
                    | refine x_ret_tab (c := 131) (f := 11) rfl rfl rfl rfl (fun w _ h => find_ret b3 T3 rs.reverse av6 ahi alo w (by obtain ⟨bl, D, h⟩ := h; exact ⟨bl, D, h.1⟩) hRI3 hok3.1 hah hal _ hres3) ?_
                    | refine Br.yes rfl ?_
                    | refine Br.non rfl ?_
                    | (refine x_exq (TTok _ _) ?_; (conv => whnf); fail_if_success (guard_target =ₛ False)))
                all_goals (conv => whnf)
                all_goals rfl
        · skip
          have hq : eqR BinOp.neq (rv6 == rv6 && (rhi == rhi && (rlo == rlo && true)) && (rbits == rbits && true)) = false := by simp [eqR]
          have hq2 : (ract != ract) = false := by simp
          have hq3 : (ract == ract) = true := by simp
          have hq4 : eqR BinOp.eql (rv6 == rv6 && (rhi == rhi && (rlo == rlo && true)) && (rbits == rbits && true)) = true := by simp [eqR]
          repeat' (
            (conv => whnf)
            first
              | (with_reducible first
                  | refine open_new (d := 27) (rs := rs) rfl (fun b1 T1 hRI1 => ?_)
                  | refine open_new (d := 37) (rs := (rs ++ [⟨v6, hi, lo, bits, act⟩])) rfl (fun b2 T2 hRI2 => ?_)
                  | refine TR.seq ?_
                  | refine TR.region (TTok _ _) ?_
                  | refine TR.drawn (TTok _ _) mixed ?_
                  | refine TR.block ?_
                  | refine TR.ret ?_
                  | refine TR.exit ?_
                  | refine TR.skip ?_
                  | refine TR.condB rfl ?_
                  | refine Br.cond_t ?_
                  | refine Br.cond_f ?_
                  | refine Br.yes (by first | decide | assumption | (apply decide_eq_true; omega)) ?_
                  | refine Br.non (by first | decide | assumption | (apply decide_eq_false; omega)) ?_
                  | refine Br.cond_ff ?_
                  | refine Br.eqT (by omega) ?_
                  | refine Br.eqF (by omega) ?_
                  | refine Br.neT (by omega) ?_
                  | refine Br.neF (by omega) ?_
                  | refine Ld.mk' _ rfl ?_
                  | refine Need.mk (by first | decide | omega | kernel_rfl) ?_
                  | refine Nm.i64 (by omega) ?_
                  | refine Nm.u64 (by omega) ?_
                  | refine Nm.u8 (by omega) ?_
                  | refine x_ret (f := 8) rfl rfl (fun w hw => examples_ret hw.t) ?_
                  | refine x_ret (f := 17) rfl rfl (fun w _ => h17 w) ?_)
              | refine x_append (X := ⟨Tryd.prog, TT, 0, IM7 (.slice ad rs.length cap) rs⟩) (TTok _ _) (c := 33) (kv := 0) (t := 22) (e := 36) (n := rs.length) (m := 1) (ck := ⟨.row, 36, 5, 0, (rs.flatMap rcells).map .v⟩) (cr := [(35, some ⟨.row, 36, 5, 0, (rcells ⟨v6, hi, lo, bits, act⟩).map .v⟩)]) (l := (rcells ⟨v6, hi, lo, bits, act⟩).map .v) rfl rfl rfl rfl rfl rfl rfl rfl rfl rfl (Nat.zero_lt_succ 4) rfl hfl2 (by exact Src.sl (dk := ⟨.row, 36, 5, 0, (rcells ⟨v6, hi, lo, bits, act⟩).map .v⟩) (lo := 0) (kd := 0) rfl rfl rfl rfl rfl) (by intro i q h; simp only [List.mem_singleton, Prod.mk.injEq] at h; obtain ⟨rfl, rfl⟩ := h; rfl) hm63' (by exact happ') ?_
              | refine x_append_nil (X := ⟨Tryd.prog, TT, 0, IM7 (.slice ad rs.length cap) rs⟩) (TTok _ _) (d := 33) (c0 := 0) (t := 22) (e := 36) (m := rs.length) (cr := []) (l := (rs.flatMap rcells).map .v) rfl rfl rfl rfl rfl rfl (Nat.zero_lt_succ 4) rfl (src_at (by rfl) (by exact hfl) (flat_one rs) (fun w hw => IM7.r hw)) (fun i q h => absurd h List.not_mem_nil) hm63 (by exact happ) ?_
              | refine x_retT_src (X := ⟨Tryd.prog, TT, 0, IM7 (.slice ad rs.length cap) rs⟩) (f := 9) (d := 27) (ty := 58) (es := 6) (esz := 5) (m := rs.length) (us := rs.flatMap rcells) (cr := []) (F := FN rs) (mk := newB) (R := .tup [.ref 27 0 0, .v (.int .i64 0)]) rfl (src_at (by rfl) (by exact hfl) (flat_one rs) (fun w hw => IM7.r hw)) (fun i q h => absurd h List.not_mem_nil) (FN_stab rs) rel_new (fun w u hw h => new_good hok h hf (by omega)) rfl ?_
              | refine x_retT_src (X := ⟨Tryd.prog, TT, 0, IM7 (.slice ad rs.length cap) rs⟩) (f := 9) (d := 37) (ty := 58) (es := 6) (esz := 5) (m := rs.length + 1) (us := rs.flatMap rcells ++ rcells ⟨v6, hi, lo, bits, act⟩) (cr := [(33, some ⟨.row, 36, 5, 0 + 1, (rs.flatMap rcells).map .v ++ (rcells ⟨v6, hi, lo, bits, act⟩).map .v⟩)]) (F := FN (rs ++ [⟨v6, hi, lo, bits, act⟩])) (mk := newB) (R := .tup [.ref 37 0 0, .v (.int .i64 0)]) rfl (by refine Src.sl (dk := ⟨.row, 36, 5, 0 + 1, (rs.flatMap rcells).map .v ++ (rcells ⟨v6, hi, lo, bits, act⟩).map .v⟩) (lo := 0) (kd := 0 + 1) ?_ ?_ ?_ hsub2 hall2 <;> rfl) (by intro i q h; simp only [List.mem_singleton, Prod.mk.injEq] at h; obtain ⟨rfl, rfl⟩ := h; rfl) (FN_stab _) rel_new (fun w u hw h => good2 hok2 w u h) rfl ?_
              | refine x_ret_tab (c := 27) (f := 11) rfl rfl rfl rfl (fun w _ h => find_ret b1 T1 rs av6 ahi alo w (by obtain ⟨bl, D, h⟩ := h; exact ⟨bl, D, h.1⟩) hRI1 hok.1 hah hal _ hres1) ?_
              | refine x_ret_tab (c := 37) (f := 11) rfl rfl rfl rfl (fun w _ h => find_ret b2 T2 (rs ++ [⟨v6, hi, lo, bits, act⟩]) av6 ahi alo w (by obtain ⟨bl, D, h⟩ := h; exact ⟨bl, D, h.1⟩) hRI2 hok2.1 hah hal _ hres2) ?_
              | refine Br.non rfl ?_
              | refine Br.yes rfl ?_
              | refine Br.non hq ?_
              | refine Br.non hq2 ?_
              | refine Br.yes hq3 ?_
              | refine Br.yes hq4 ?_
              | (refine x_exq (TTok _ _) ?_; (conv => whnf); fail_if_success (guard_target =ₛ False)))
          all_goals (conv => whnf)
          refine TR.loopH (fun x : Int × Option (Nat × Nat × List Value) => [(18, bkA x.2), (19, .v (.int .i64 x.1))]) (fun x => bkC x.2) (fun x => -1 ≤ x.1 ∧ x.1 ≤ rs.length - 1 ∧ bkP rs x.1 x.2) (fun x => (x.1 + 1).toNat) (rs.length - 1, none) ⟨by dsimp only; omega, by dsimp only; omega, rfl⟩ ?_ ?_
          · repeat' ((conv => whnf); first | exact trivial | exact Fgt.nil | exact Fgt.mk rfl rfl rfl | exact Fgt.mk rfl (by simp [noRefC, noRefL, noRef_map, noRef_app, noRef]) rfl | refine And.intro rfl ?_ | refine And.intro (ckapp _ _ _ _ _ _) ?_ | refine And.intro ?_ ?_)
          · rintro ⟨i, g⟩ ⟨i0, i1, hP⟩
            dsimp only at i0 i1 hP ⊢
            by_cases hi0 : 0 ≤ i
            · obtain ⟨r, hr⟩ : ∃ r, rs[i.toNat]? = some r := ⟨rs[i.toNat], by rw [List.getElem?_eq_getElem]⟩
              obtain ⟨ab, ao, rfl⟩ := sl_some hI.r (by omega)
              have hbk := bk_step hi0 hr
              obtain ⟨qv6, qhi, qlo, qbits, qact⟩ := r
              have hld : ∀ w, IM7 (.slice (some ⟨ab, ao, none⟩) rs.length cap) rs w → (loadVar 36 ⟨ab, ao + i.toNat * 5, none⟩).run Tryd.prog w = .ok (.agg #[.bool qv6, .int .u64 qhi, .int .u64 qlo, .int .i64 qbits, .int .i64 qact]) w := fun w hw => (IR_of hw.r).load hr
              rcases g with _ | ⟨gv, gm, gu⟩
              · skip
                repeat' (
                  (conv => whnf)
                  first
                    | (with_reducible first
                        | refine TR.seq ?_
                        | refine TR.region (TTok _ _) ?_
                        | refine TR.drawn (TTok _ _) mixed ?_
                        | refine TR.block ?_
                        | refine TR.ret ?_
                        | refine TR.exit ?_
                        | refine TR.skip ?_
                        | refine TR.condB rfl ?_
                        | refine Br.cond_t ?_
                        | refine Br.cond_f ?_
                        | refine Br.yes (by first | decide | assumption | (apply decide_eq_true; omega)) ?_
                        | refine Br.non (by first | decide | assumption | (apply decide_eq_false; omega)) ?_
                        | refine Br.cond_ff ?_
                        | refine Br.eqT (by omega) ?_
                        | refine Br.eqF (by omega) ?_
                        | refine Br.neT (by omega) ?_
                        | refine Br.neF (by omega) ?_
                        | refine Ld.mk' _ rfl ?_
                        | refine Need.mk (by first | decide | omega | kernel_rfl) ?_
                        | refine Nm.i64 (by omega) ?_
                        | refine Nm.u64 (by omega) ?_
                        | refine Nm.u8 (by omega) ?_)
                    | refine x_load_ext rfl rfl (fun w hw => hld w hw) ?_
                    | refine x_append_nil (X := ⟨Tryd.prog, TT, 0, IM7 (.slice (some ⟨ab, ao, none⟩) rs.length cap) rs⟩) (TTok _ _) (d := 128) (c0 := 0) (t := 22) (e := 36) (m := 1) (cr := [(127, some ⟨.row, 36, 5, 0, (rcells ⟨qv6, qhi, qlo, qbits, qact⟩).map .v⟩)]) (l := (rcells ⟨qv6, qhi, qlo, qbits, qact⟩).map .v) rfl rfl rfl rfl rfl rfl (Nat.zero_lt_succ 4) rfl (by refine Src.sl (dk := ⟨.row, 36, 5, 0, (rcells ⟨qv6, qhi, qlo, qbits, qact⟩).map .v⟩) (lo := 0) (kd := 0) ?_ ?_ ?_ ?_ ?_ <;> rfl) (by intro i q h; simp only [List.mem_singleton, Prod.mk.injEq] at h; obtain ⟨rfl, rfl⟩ := h; rfl) (by decide) (by decide) ?_
                    | (refine x_exq (TTok _ _) ?_; (conv => whnf); fail_if_success (guard_target =ₛ False)))
                all_goals (conv => whnf)
                have hP0 : i = rs.length - 1 := hP
                refine ⟨(i - 1, some (0, 1, rcells ⟨qv6, qhi, qlo, qbits, qact⟩)), ⟨by dsimp only; omega, by dsimp only; omega, ?_, ?_⟩, by dsimp only; omega, ?_⟩
                · dsimp only; omega
                · dsimp only
                  rw [hbk, List.drop_eq_nil_of_le (by omega)]
                  rfl
                repeat' ((conv => whnf); first | exact trivial | exact Fgt.nil | exact Fgt.mk rfl rfl rfl | exact Fgt.mk rfl (by simp [noRefC, noRefL, noRef_map, noRef_app, noRef]) rfl | refine And.intro rfl ?_ | refine And.intro (ckapp _ _ _ _ _ _) ?_ | refine And.intro ?_ ?_)
              · obtain ⟨hP1, hP2⟩ := hP
                dsimp only at hP1 hP2
                have hgl : (gu.map AV.v).length = gm * 5 := by
                  rw [List.length_map, hP2, flat_len, List.length_reverse, List.length_drop]
                  omega
                have hgm : gm + 1 ≤ maxLen := by omega
                have hgb : (gm + 1) * 40 ≤ 140737488355328 := by omega
                repeat' (
                  (conv => whnf)
                  first
                    | (with_reducible first
                        | refine TR.seq ?_
                        | refine TR.region (TTok _ _) ?_
                        | refine TR.drawn (TTok _ _) mixed ?_
                        | refine TR.block ?_
                        | refine TR.ret ?_
                        | refine TR.exit ?_
                        | refine TR.skip ?_
                        | refine TR.condB rfl ?_
                        | refine Br.cond_t ?_
                        | refine Br.cond_f ?_
                        | refine Br.yes (by first | decide | assumption | (apply decide_eq_true; omega)) ?_
                        | refine Br.non (by first | decide | assumption | (apply decide_eq_false; omega)) ?_
                        | refine Br.cond_ff ?_
                        | refine Br.eqT (by omega) ?_
                        | refine Br.eqF (by omega) ?_
                        | refine Br.neT (by omega) ?_
                        | refine Br.neF (by omega) ?_
                        | refine Ld.mk' _ rfl ?_
                        | refine Need.mk (by first | decide | omega | kernel_rfl) ?_
                        | refine Nm.i64 (by omega) ?_
                        | refine Nm.u64 (by omega) ?_
                        | refine Nm.u8 (by omega) ?_)
                    | refine x_load_ext rfl rfl (fun w hw => hld w hw) ?_
                    | refine x_append (X := ⟨Tryd.prog, TT, 0, IM7 (.slice (some ⟨ab, ao, none⟩) rs.length cap) rs⟩) (TTok _ _) (c := 128) (kv := gv) (t := 22) (e := 36) (n := gm) (m := 1) (ck := ⟨.row, 36, 5, gv, gu.map .v⟩) (cr := [(127, some ⟨.row, 36, 5, 0, (rcells ⟨qv6, qhi, qlo, qbits, qact⟩).map .v⟩)]) (l := (rcells ⟨qv6, qhi, qlo, qbits, qact⟩).map .v) rfl rfl rfl rfl rfl rfl rfl rfl rfl rfl (Nat.zero_lt_succ 4) rfl hgl (by refine Src.sl (dk := ⟨.row, 36, 5, 0, (rcells ⟨qv6, qhi, qlo, qbits, qact⟩).map .v⟩) (lo := 0) (kd := 0) ?_ ?_ ?_ ?_ ?_ <;> rfl) (by intro i q h; simp only [List.mem_singleton, Prod.mk.injEq] at h; obtain ⟨rfl, rfl⟩ := h; rfl) hgm (by exact hgb) ?_
                    | (refine x_exq (TTok _ _) ?_; (conv => whnf); fail_if_success (guard_target =ₛ False)))
                all_goals (conv => whnf)
                refine ⟨(i - 1, some (gv + 1, gm + 1, gu ++ rcells ⟨qv6, qhi, qlo, qbits, qact⟩)), ⟨by dsimp only; omega, by dsimp only; omega, ?_, ?_⟩, by dsimp only; omega, ?_⟩
                · dsimp only; omega
                · dsimp only
                  rw [hbk, hP2]
                repeat' ((conv => whnf); first | exact trivial | exact Fgt.nil | exact Fgt.mk rfl rfl rfl | exact Fgt.mk rfl (by simp [noRefC, noRefL, noRef_map, noRef_app, noRef]) rfl | refine And.intro rfl ?_ | refine And.intro (ckapp _ _ _ _ _ _) ?_ | refine And.intro ?_ ?_)
            · have hi1 : i = -1 := by omega
              have hres3 : FS rs.reverse av6 ahi alo (some ⟨rv6, rhi, rlo, rbits, ract⟩) := hres1.mono (by simp)
              have hok3 := okR_rev hok
              have hf3 : ∀ r, r ∈ rs.reverse → r.fits := fun r hr => hf r (List.mem_reverse.1 hr)
              rcases g with _ | ⟨gv, gm, gu⟩
              · have hP0 : i = rs.length - 1 := hP
                have hn0 : rs.reverse.length = 0 := by rw [List.length_reverse]; omega
                repeat' (
                  (conv => whnf)
                  first
                    | (with_reducible first
                        | refine open_new (d := 131) (rs := rs.reverse) rfl (fun b3 T3 hRI3 => ?_)
                        | refine TR.seq ?_
                        | refine TR.region (TTok _ _) ?_
                        | refine TR.drawn (TTok _ _) mixed ?_
                        | refine TR.block ?_
                        | refine TR.ret ?_
                        | refine TR.exit ?_
                        | refine TR.skip ?_
                        | refine TR.condB rfl ?_
                        | refine Br.cond_t ?_
                        | refine Br.cond_f ?_
                        | refine Br.yes (by first | decide | assumption | (apply decide_eq_true; omega)) ?_
                        | refine Br.non (by first | decide | assumption | (apply decide_eq_false; omega)) ?_
                        | refine Br.cond_ff ?_
                        | refine Br.eqT (by omega) ?_
                        | refine Br.eqF (by omega) ?_
                        | refine Br.neT (by omega) ?_
                        | refine Br.neF (by omega) ?_
                        | refine Ld.mk' _ rfl ?_
                        | refine Need.mk (by first | decide | omega | kernel_rfl) ?_
                        | refine Nm.i64 (by omega) ?_
                        | refine Nm.u64 (by omega) ?_
                        | refine Nm.u8 (by omega) ?_)
                    | refine x_retT (X := ⟨Tryd.prog, TT, 0, IM7 (.slice ad rs.length cap) rs⟩) (f := 9) (d := 131) (ty := 58) (esz := 6) (F := FN rs.reverse) (mk := newB) (R := .tup [.ref 131 0 0, .v (.int .i64 0)]) rfl rfl (FN_stab _) rel_new (fun w hw => new_good hok3 (.inl ⟨hn0, _, _, rfl⟩) hf3 (by omega)) rfl ?_
                    | refine x_ret_tab (c := 131) (f := 11) rfl rfl rfl rfl (fun w _ h => find_ret b3 T3 rs.reverse av6 ahi alo w (by obtain ⟨bl, D, h⟩ := h; exact ⟨bl, D, h.1⟩) hRI3 hok3.1 hah hal _ hres3) ?_
                    | refine Br.yes rfl ?_
                    | refine Br.non rfl ?_
                    | refine Br.non hq ?_
                    | refine Br.non hq2 ?_
                    | refine Br.yes hq3 ?_
                    | refine Br.yes hq4 ?_
                    | (refine x_exq (TTok _ _) ?_; (conv => whnf); fail_if_success (guard_target =ₛ False)))
                all_goals (conv => whnf)
                all_goals rfl
              · obtain ⟨hP1, hP2⟩ := hP
                dsimp only at hP1 hP2
                rw [hi1] at hP1 hP2
                have hgm : gm = rs.reverse.length := by rw [List.length_reverse]; simpa using hP1
                have hgu : gu = rs.reverse.flatMap rcells := by simpa using hP2
                have hgl : (gu.map AV.v).length = gm * 5 := by rw [List.length_map, hgu, flat_len, hgm]
                have hsub3 : subL (gu.map AV.v) (0 * 5) (gm * 5) = some (gu.map AV.v) := by
                  rw [← hgl]
                  exact subL_all _
                have hall3 : (gu.map AV.v).all SX.one = true := by
                  simp only [List.all_map, List.all_eq_true]
                  intro q hq
                  rw [hgu] at hq
                  exact flat_one _ q hq
                have hng : ∀ w u, SlAt w u gm gu → RetQ Tryd.prog 9 [u] w fun w' u => ∃ b D, u = newB b ∧ FN rs.reverse b D w' ∧ ∀ e, D e → w.heap.size ≤ e ∧ e < w'.heap.size := fun w u h => new_good hok3 (by rw [← hgm, ← hgu]; exact h) hf3 (by rw [List.length_reverse]; omega)
                repeat' (
                  (conv => whnf)
                  first
                    | (with_reducible first
                        | refine open_new (d := 131) (rs := rs.reverse) rfl (fun b3 T3 hRI3 => ?_)
                        | refine TR.seq ?_
                        | refine TR.region (TTok _ _) ?_
                        | refine TR.drawn (TTok _ _) mixed ?_
                        | refine TR.block ?_
                        | refine TR.ret ?_
                        | refine TR.exit ?_
                        | refine TR.skip ?_
                        | refine TR.condB rfl ?_
                        | refine Br.cond_t ?_
                        | refine Br.cond_f ?_
                        | refine Br.yes (by first | decide | assumption | (apply decide_eq_true; omega)) ?_
                        | refine Br.non (by first | decide | assumption | (apply decide_eq_false; omega)) ?_
                        | refine Br.cond_ff ?_
                        | refine Br.eqT (by omega) ?_
                        | refine Br.eqF (by omega) ?_
                        | refine Br.neT (by omega) ?_
                        | refine Br.neF (by omega) ?_
                        | refine Ld.mk' _ rfl ?_
                        | refine Need.mk (by first | decide | omega | kernel_rfl) ?_
                        | refine Nm.i64 (by omega) ?_
                        | refine Nm.u64 (by omega) ?_
                        | refine Nm.u8 (by omega) ?_)
                    | refine x_retT_src (X := ⟨Tryd.prog, TT, 0, IM7 (.slice ad rs.length cap) rs⟩) (f := 9) (d := 131) (ty := 58) (es := 6) (esz := 5) (m := gm) (us := gu) (cr := [(128, some ⟨.row, 36, 5, gv, gu.map .v⟩)]) (F := FN rs.reverse) (mk := newB) (R := .tup [.ref 131 0 0, .v (.int .i64 0)]) rfl (by refine Src.sl (dk := ⟨.row, 36, 5, gv, gu.map .v⟩) (lo := 0) (kd := gv) ?_ ?_ ?_ hsub3 hall3 <;> rfl) (by intro i q h; simp only [List.mem_singleton, Prod.mk.injEq] at h; obtain ⟨rfl, rfl⟩ := h; rfl) (FN_stab _) rel_new (fun w u hw h => hng w u h) rfl ?_
                    | refine x_ret_tab (c := 131) (f := 11) rfl rfl rfl rfl (fun w _ h => find_ret b3 T3 rs.reverse av6 ahi alo w (by obtain ⟨bl, D, h⟩ := h; exact ⟨bl, D, h.1⟩) hRI3 hok3.1 hah hal _ hres3) ?_
                    | refine Br.yes rfl ?_
                    | refine Br.non rfl ?_
                    | refine Br.non hq ?_
                    | refine Br.non hq2 ?_
                    | refine Br.yes hq3 ?_
                    | refine Br.yes hq4 ?_
                    | (refine x_exq (TTok _ _) ?_; (conv => whnf); fail_if_success (guard_target =ₛ False)))
                all_goals (conv => whnf)
                all_goals rfl
      | true =>
        have hm := hbm.1 rfl
        obtain ⟨r2, rfl⟩ : ∃ r2, res2 = some r2 := by
          cases res2 with
          | none => exact absurd hm (hres2 _ (by simp))
          | some r2 => exact ⟨r2, rfl⟩
        have hle := hres2.2.2 _ (by simp) hm
        have hg2 := good_bits (hok2.1 r2 hres2.1)
        have hle1 : ∀ r1, res1 = some r1 → r1.bits.toNat ≤ r2.bits.toNat := fun r1 h => by
          subst h
          exact hres2.2.2 _ (by simp [hres1.1]) hres1.2.1
        obtain ⟨sv6, shi, slo, sbits, sact⟩ := r2
        simp only at hle hg2 hle1
        have hle' : bits ≤ sbits := by omega
        have hq5 : decide (sbits < bits) = false := decide_eq_false (by omega)
        rcases res1 with _ | ⟨rv6, rhi, rlo, rbits, ract⟩
        · skip
          repeat' (
            (conv => whnf)
            first
              | (with_reducible first
                  | refine open_new (d := 27) (rs := rs) rfl (fun b1 T1 hRI1 => ?_)
                  | refine open_new (d := 37) (rs := (rs ++ [⟨v6, hi, lo, bits, act⟩])) rfl (fun b2 T2 hRI2 => ?_)
                  | refine TR.seq ?_
                  | refine TR.region (TTok _ _) ?_
                  | refine TR.drawn (TTok _ _) mixed ?_
                  | refine TR.block ?_
                  | refine TR.ret ?_
                  | refine TR.exit ?_
                  | refine TR.skip ?_
                  | refine TR.condB rfl ?_
                  | refine Br.cond_t ?_
                  | refine Br.cond_f ?_
                  | refine Br.yes (by first | decide | assumption | (apply decide_eq_true; omega)) ?_
                  | refine Br.non (by first | decide | assumption | (apply decide_eq_false; omega)) ?_
                  | refine Br.cond_ff ?_
                  | refine Br.eqT (by omega) ?_
                  | refine Br.eqF (by omega) ?_
                  | refine Br.neT (by omega) ?_
                  | refine Br.neF (by omega) ?_
                  | refine Ld.mk' _ rfl ?_
                  | refine Need.mk (by first | decide | omega | kernel_rfl) ?_
                  | refine Nm.i64 (by omega) ?_
                  | refine Nm.u64 (by omega) ?_
                  | refine Nm.u8 (by omega) ?_
                  | refine x_ret (f := 8) rfl rfl (fun w hw => examples_ret hw.t) ?_
                  | refine x_ret (f := 17) rfl rfl (fun w _ => h17 w) ?_)
              | refine x_append (X := ⟨Tryd.prog, TT, 0, IM7 (.slice ad rs.length cap) rs⟩) (TTok _ _) (c := 33) (kv := 0) (t := 22) (e := 36) (n := rs.length) (m := 1) (ck := ⟨.row, 36, 5, 0, (rs.flatMap rcells).map .v⟩) (cr := [(35, some ⟨.row, 36, 5, 0, (rcells ⟨v6, hi, lo, bits, act⟩).map .v⟩)]) (l := (rcells ⟨v6, hi, lo, bits, act⟩).map .v) rfl rfl rfl rfl rfl rfl rfl rfl rfl rfl (Nat.zero_lt_succ 4) rfl hfl2 (by exact Src.sl (dk := ⟨.row, 36, 5, 0, (rcells ⟨v6, hi, lo, bits, act⟩).map .v⟩) (lo := 0) (kd := 0) rfl rfl rfl rfl rfl) (by intro i q h; simp only [List.mem_singleton, Prod.mk.injEq] at h; obtain ⟨rfl, rfl⟩ := h; rfl) hm63' (by exact happ') ?_
              | refine x_append_nil (X := ⟨Tryd.prog, TT, 0, IM7 (.slice ad rs.length cap) rs⟩) (TTok _ _) (d := 33) (c0 := 0) (t := 22) (e := 36) (m := rs.length) (cr := []) (l := (rs.flatMap rcells).map .v) rfl rfl rfl rfl rfl rfl (Nat.zero_lt_succ 4) rfl (src_at (by rfl) (by exact hfl) (flat_one rs) (fun w hw => IM7.r hw)) (fun i q h => absurd h List.not_mem_nil) hm63 (by exact happ) ?_
              | refine x_retT_src (X := ⟨Tryd.prog, TT, 0, IM7 (.slice ad rs.length cap) rs⟩) (f := 9) (d := 27) (ty := 58) (es := 6) (esz := 5) (m := rs.length) (us := rs.flatMap rcells) (cr := []) (F := FN rs) (mk := newB) (R := .tup [.ref 27 0 0, .v (.int .i64 0)]) rfl (src_at (by rfl) (by exact hfl) (flat_one rs) (fun w hw => IM7.r hw)) (fun i q h => absurd h List.not_mem_nil) (FN_stab rs) rel_new (fun w u hw h => new_good hok h hf (by omega)) rfl ?_
              | refine x_retT_src (X := ⟨Tryd.prog, TT, 0, IM7 (.slice ad rs.length cap) rs⟩) (f := 9) (d := 37) (ty := 58) (es := 6) (esz := 5) (m := rs.length + 1) (us := rs.flatMap rcells ++ rcells ⟨v6, hi, lo, bits, act⟩) (cr := [(33, some ⟨.row, 36, 5, 0 + 1, (rs.flatMap rcells).map .v ++ (rcells ⟨v6, hi, lo, bits, act⟩).map .v⟩)]) (F := FN (rs ++ [⟨v6, hi, lo, bits, act⟩])) (mk := newB) (R := .tup [.ref 37 0 0, .v (.int .i64 0)]) rfl (by refine Src.sl (dk := ⟨.row, 36, 5, 0 + 1, (rs.flatMap rcells).map .v ++ (rcells ⟨v6, hi, lo, bits, act⟩).map .v⟩) (lo := 0) (kd := 0 + 1) ?_ ?_ ?_ hsub2 hall2 <;> rfl) (by intro i q h; simp only [List.mem_singleton, Prod.mk.injEq] at h; obtain ⟨rfl, rfl⟩ := h; rfl) (FN_stab _) rel_new (fun w u hw h => good2 hok2 w u h) rfl ?_
              | refine x_ret_tab (c := 27) (f := 11) rfl rfl rfl rfl (fun w _ h => find_ret b1 T1 rs av6 ahi alo w (by obtain ⟨bl, D, h⟩ := h; exact ⟨bl, D, h.1⟩) hRI1 hok.1 hah hal _ hres1) ?_
              | refine x_ret_tab (c := 37) (f := 11) rfl rfl rfl rfl (fun w _ h => find_ret b2 T2 (rs ++ [⟨v6, hi, lo, bits, act⟩]) av6 ahi alo w (by obtain ⟨bl, D, h⟩ := h; exact ⟨bl, D, h.1⟩) hRI2 hok2.1 hah hal _ hres2) ?_
              | refine Br.non rfl ?_
              | refine Br.yes rfl ?_
              | refine Br.non hq5 ?_
              | (refine x_exq (TTok _ _) ?_; (conv => whnf); fail_if_success (guard_target =ₛ False)))
          all_goals (conv => whnf)
          refine TR.loopH (fun x : Int × Option (Nat × Nat × List Value) => [(18, bkA x.2), (19, .v (.int .i64 x.1))]) (fun x => bkC x.2) (fun x => -1 ≤ x.1 ∧ x.1 ≤ rs.length - 1 ∧ bkP rs x.1 x.2) (fun x => (x.1 + 1).toNat) (rs.length - 1, none) ⟨by dsimp only; omega, by dsimp only; omega, rfl⟩ ?_ ?_
          · repeat' ((conv => whnf); first | exact trivial | exact Fgt.nil | exact Fgt.mk rfl rfl rfl | exact Fgt.mk rfl (by simp [noRefC, noRefL, noRef_map, noRef_app, noRef]) rfl | refine And.intro rfl ?_ | refine And.intro (ckapp _ _ _ _ _ _) ?_ | refine And.intro ?_ ?_)
          · rintro ⟨i, g⟩ ⟨i0, i1, hP⟩
            dsimp only at i0 i1 hP ⊢
            by_cases hi0 : 0 ≤ i
            · obtain ⟨r, hr⟩ : ∃ r, rs[i.toNat]? = some r := ⟨rs[i.toNat], by rw [List.getElem?_eq_getElem]⟩
              obtain ⟨ab, ao, rfl⟩ := sl_some hI.r (by omega)
              have hbk := bk_step hi0 hr
              obtain ⟨qv6, qhi, qlo, qbits, qact⟩ := r
              have hld : ∀ w, IM7 (.slice (some ⟨ab, ao, none⟩) rs.length cap) rs w → (loadVar 36 ⟨ab, ao + i.toNat * 5, none⟩).run Tryd.prog w = .ok (.agg #[.bool qv6, .int .u64 qhi, .int .u64 qlo, .int .i64 qbits, .int .i64 qact]) w := fun w hw => (IR_of hw.r).load hr
              rcases g with _ | ⟨gv, gm, gu⟩
              · skip
                repeat' (
                  (conv => whnf)
                  first
                    | (with_reducible first
                        | refine TR.seq ?_
                        | refine TR.region (TTok _ _) ?_
                        | refine TR.drawn (TTok _ _) mixed ?_
                        | refine TR.block ?_
                        | refine TR.ret ?_
                        | refine TR.exit ?_
                        | refine TR.skip ?_
                        | refine TR.condB rfl ?_
                        | refine Br.cond_t ?_
                        | refine Br.cond_f ?_
                        | refine Br.yes (by first | decide | assumption | (apply decide_eq_true; omega)) ?_
                        | refine Br.non (by first | decide | assumption | (apply decide_eq_false; omega)) ?_
                        | refine Br.cond_ff ?_
                        | refine Br.eqT (by omega) ?_
                        | refine Br.eqF (by omega) ?_
                        | refine Br.neT (by omega) ?_
                        | refine Br.neF (by omega) ?_
                        | refine Ld.mk' _ rfl ?_
                        | refine Need.mk (by first | decide | omega | kernel_rfl) ?_
                        | refine Nm.i64 (by omega) ?_
                        | refine Nm.u64 (by omega) ?_
                        | refine Nm.u8 (by omega) ?_)
                    | refine x_load_ext rfl rfl (fun w hw => hld w hw) ?_
                    | refine x_append_nil (X := ⟨Tryd.prog, TT, 0, IM7 (.slice (some ⟨ab, ao, none⟩) rs.length cap) rs⟩) (TTok _ _) (d := 128) (c0 := 0) (t := 22) (e := 36) (m := 1) (cr := [(127, some ⟨.row, 36, 5, 0, (rcells ⟨qv6, qhi, qlo, qbits, qact⟩).map .v⟩)]) (l := (rcells ⟨qv6, qhi, qlo, qbits, qact⟩).map .v) rfl rfl rfl rfl rfl rfl (Nat.zero_lt_succ 4) rfl (by refine Src.sl (dk := ⟨.row, 36, 5, 0, (rcells ⟨qv6, qhi, qlo, qbits, qact⟩).map .v⟩) (lo := 0) (kd := 0) ?_ ?_ ?_ ?_ ?_ <;> rfl) (by intro i q h; simp only [List.mem_singleton, Prod.mk.injEq] at h; obtain ⟨rfl, rfl⟩ := h; rfl) (by decide) (by decide) ?_
                    | (refine x_exq (TTok _ _) ?_; (conv => whnf); fail_if_success (guard_target =ₛ False)))
                all_goals (conv => whnf)
                have hP0 : i = rs.length - 1 := hP
                refine ⟨(i - 1, some (0, 1, rcells ⟨qv6, qhi, qlo, qbits, qact⟩)), ⟨by dsimp only; omega, by dsimp only; omega, ?_, ?_⟩, by dsimp only; omega, ?_⟩
                · dsimp only; omega
                · dsimp only
                  rw [hbk, List.drop_eq_nil_of_le (by omega)]
                  rfl
                repeat' ((conv => whnf); first | exact trivial | exact Fgt.nil | exact Fgt.mk rfl rfl rfl | exact Fgt.mk rfl (by simp [noRefC, noRefL, noRef_map, noRef_app, noRef]) rfl | refine And.intro rfl ?_ | refine And.intro (ckapp _ _ _ _ _ _) ?_ | refine And.intro ?_ ?_)
              · obtain ⟨hP1, hP2⟩ := hP
                dsimp only at hP1 hP2
                have hgl : (gu.map AV.v).length = gm * 5 := by
                  rw [List.length_map, hP2, flat_len, List.length_reverse, List.length_drop]
                  omega
                have hgm : gm + 1 ≤ maxLen := by omega
                have hgb : (gm + 1) * 40 ≤ 140737488355328 := by omega
                repeat' (
                  (conv => whnf)
                  first
                    | (with_reducible first
                        | refine TR.seq ?_
                        | refine TR.region (TTok _ _) ?_
                        | refine TR.drawn (TTok _ _) mixed ?_
                        | refine TR.block ?_
                        | refine TR.ret ?_
                        | refine TR.exit ?_
                        | refine TR.skip ?_
                        | refine TR.condB rfl ?_
                        | refine Br.cond_t ?_
                        | refine Br.cond_f ?_
                        | refine Br.yes (by first | decide | assumption | (apply decide_eq_true; omega)) ?_
                        | refine Br.non (by first | decide | assumption | (apply decide_eq_false; omega)) ?_
                        | refine Br.cond_ff ?_
                        | refine Br.eqT (by omega) ?_
                        | refine Br.eqF (by omega) ?_
                        | refine Br.neT (by omega) ?_
                        | refine Br.neF (by omega) ?_
                        | refine Ld.mk' _ rfl ?_
                        | refine Need.mk (by first | decide | omega | kernel_rfl) ?_
                        | refine Nm.i64 (by omega) ?_
                        | refine Nm.u64 (by omega) ?_
                        | refine Nm.u8 (by omega) ?_)
                    | refine x_load_ext rfl rfl (fun w hw => hld w hw) ?_
                    | refine x_append (X := ⟨Tryd.prog, TT, 0, IM7 (.slice (some ⟨ab, ao, none⟩) rs.length cap) rs⟩) (TTok _ _) (c := 128) (kv := gv) (t := 22) (e := 36) (n := gm) (m := 1) (ck := ⟨.row, 36, 5, gv, gu.map .v⟩) (cr := [(127, some ⟨.row, 36, 5, 0, (rcells ⟨qv6, qhi, qlo, qbits, qact⟩).map .v⟩)]) (l := (rcells ⟨qv6, qhi, qlo, qbits, qact⟩).map .v) rfl rfl rfl rfl rfl rfl rfl rfl rfl rfl (Nat.zero_lt_succ 4) rfl hgl (by refine Src.sl (dk := ⟨.row, 36, 5, 0, (rcells ⟨qv6, qhi, qlo, qbits, qact⟩).map .v⟩) (lo := 0) (kd := 0) ?_ ?_ ?_ ?_ ?_ <;> rfl) (by intro i q h; simp only [List.mem_singleton, Prod.mk.injEq] at h; obtain ⟨rfl, rfl⟩ := h; rfl) hgm (by exact hgb) ?_
                    | (refine x_exq (TTok _ _) ?_; (conv => whnf); fail_if_success (guard_target =ₛ False)))
                all_goals (conv => whnf)
                refine ⟨(i - 1, some (gv + 1, gm + 1, gu ++ rcells ⟨qv6, qhi, qlo, qbits, qact⟩)), ⟨by dsimp only; omega, by dsimp only; omega, ?_, ?_⟩, by dsimp only; omega, ?_⟩
                · dsimp only; omega
                · dsimp only
                  rw [hbk, hP2]
                repeat' ((conv => whnf); first | exact trivial | exact Fgt.nil | exact Fgt.mk rfl rfl rfl | exact Fgt.mk rfl (by simp [noRefC, noRefL, noRef_map, noRef_app, noRef]) rfl | refine And.intro rfl ?_ | refine And.intro (ckapp _ _ _ _ _ _) ?_ | refine And.intro ?_ ?_)
            · have hi1 : i = -1 := by omega
              have hres3 : FS rs.reverse av6 ahi alo none := hres1.mono (by simp)
              have hok3 := okR_rev hok
              have hf3 : ∀ r, r ∈ rs.reverse → r.fits := fun r hr => hf r (List.mem_reverse.1 hr)
              rcases g with _ | ⟨gv, gm, gu⟩
              · have hP0 : i = rs.length - 1 := hP
                have hn0 : rs.reverse.length = 0 := by rw [List.length_reverse]; omega
                repeat' (
                  (conv => whnf)
                  first
                    | (with_reducible first
                        | refine open_new (d := 131) (rs := rs.reverse) rfl (fun b3 T3 hRI3 => ?_)
                        | refine TR.seq ?_
                        | refine TR.region (TTok _ _) ?_
                        | refine TR.drawn (TTok _ _) mixed ?_
                        | refine TR.block ?_
                        | refine TR.ret ?_
                        | refine TR.exit ?_
                        | refine TR.skip ?_
                        | refine TR.condB rfl ?_
                        | refine Br.cond_t ?_
                        | refine Br.cond_f ?_
                        | refine Br.yes (by first | decide | assumption | (apply decide_eq_true; omega)) ?_
                        | refine Br.non (by first | decide | assumption | (apply decide_eq_false; omega)) ?_
                        | refine Br.cond_ff ?_
                        | refine Br.eqT (by omega) ?_
                        | refine Br.eqF (by omega) ?_
                        | refine Br.neT (by omega) ?_
                        | refine Br.neF (by omega) ?_
                        | refine Ld.mk' _ rfl ?_
                        | refine Need.mk (by first | decide | omega | kernel_rfl) ?_
                        | refine Nm.i64 (by omega) ?_
                        | refine Nm.u64 (by omega) ?_
                        | refine Nm.u8 (by omega) ?_)
                    | refine x_retT (X := ⟨Tryd.prog, TT, 0, IM7 (.slice ad rs.length cap) rs⟩) (f := 9) (d := 131) (ty := 58) (esz := 6) (F := FN rs.reverse) (mk := newB) (R := .tup [.ref 131 0 0, .v (.int .i64 0)]) rfl rfl (FN_stab _) rel_new (fun w hw => new_good hok3 (.inl ⟨hn0, _, _, rfl⟩) hf3 (by omega)) rfl ?_
                    | refine x_ret_tab (c := 131) (f := 11) rfl rfl rfl rfl (fun w _ h => find_ret b3 T3 rs.reverse av6 ahi alo w (by obtain ⟨bl, D, h⟩ := h; exact ⟨bl, D, h.1⟩) hRI3 hok3.1 hah hal _ hres3) ?_
                    | refine Br.yes rfl ?_
                    | refine Br.non rfl ?_
                    | (refine x_exq (TTok _ _) ?_; (conv => whnf); fail_if_success (guard_target =ₛ False)))
                all_goals (conv => whnf)
                all_goals rfl
              · obtain ⟨hP1, hP2⟩ := hP
                dsimp only at hP1 hP2
                rw [hi1] at hP1 hP2
                have hgm : gm = rs.reverse.length := by rw [List.length_reverse]; simpa using hP1
                have hgu : gu = rs.reverse.flatMap rcells := by simpa using hP2
                have hgl : (gu.map AV.v).length = gm * 5 := by rw [List.length_map, hgu, flat_len, hgm]
                have hsub3 : subL (gu.map AV.v) (0 * 5) (gm * 5) = some (gu.map AV.v) := by
                  rw [← hgl]
                  exact subL_all _
                have hall3 : (gu.map AV.v).all SX.one = true := by
                  simp only [List.all_map, List.all_eq_true]
                  intro q hq
                  rw [hgu] at hq
                  exact flat_one _ q hq
                have hng : ∀ w u, SlAt w u gm gu → RetQ Tryd.prog 9 [u] w fun w' u => ∃ b D, u = newB b ∧ FN rs.reverse b D w' ∧ ∀ e, D e → w.heap.size ≤ e ∧ e < w'.heap.size := fun w u h => new_good hok3 (by rw [← hgm, ← hgu]; exact h) hf3 (by rw [List.length_reverse]; omega)
                repeat' (
                  (conv => whnf)
                  first
                    | (with_reducible first
                        | refine open_new (d := 131) (rs := rs.reverse) rfl (fun b3 T3 hRI3 => ?_)
                        | refine TR.seq ?_
                        | refine TR.region (TTok _ _) ?_
                        | refine TR.drawn (TTok _ _) mixed ?_
                        | refine TR.block ?_
                        | refine TR.ret ?_
                        | refine TR.exit ?_
                        | refine TR.skip ?_
                        | refine TR.condB rfl ?_
                        | refine Br.cond_t ?_
                        | refine Br.cond_f ?_
                        | refine Br.yes (by first | decide | assumption | (apply decide_eq_true; omega)) ?_
                        | refine Br.non (by first | decide | assumption | (apply decide_eq_false; omega)) ?_
                        | refine Br.cond_ff ?_
                        | refine Br.eqT (by omega) ?_
                        | refine Br.eqF (by omega) ?_
                        | refine Br.neT (by omega) ?_
                        | refine Br.neF (by omega) ?_
                        | refine Ld.mk' _ rfl ?_
                        | refine Need.mk (by first | decide | omega | kernel_rfl) ?_
                        | refine Nm.i64 (by omega) ?_
                        | refine Nm.u64 (by omega) ?_
                        | refine Nm.u8 (by omega) ?_)
                    | refine x_retT_src (X := ⟨Tryd.prog, TT, 0, IM7 (.slice ad rs.length cap) rs⟩) (f := 9) (d := 131) (ty := 58) (es := 6) (esz := 5) (m := gm) (us := gu) (cr := [(128, some ⟨.row, 36, 5, gv, gu.map .v⟩)]) (F := FN rs.reverse) (mk := newB) (R := .tup [.ref 131 0 0, .v (.int .i64 0)]) rfl (by refine Src.sl (dk := ⟨.row, 36, 5, gv, gu.map .v⟩) (lo := 0) (kd := gv) ?_ ?_ ?_ hsub3 hall3 <;> rfl) (by intro i q h; simp only [List.mem_singleton, Prod.mk.injEq] at h; obtain ⟨rfl, rfl⟩ := h; rfl) (FN_stab _) rel_new (fun w u hw h => hng w u h) rfl ?_
                    | refine x_ret_tab (c := 131) (f := 11) rfl rfl rfl rfl (fun w _ h => find_ret b3 T3 rs.reverse av6 ahi alo w (by obtain ⟨bl, D, h⟩ := h; exact ⟨bl, D, h.1⟩) hRI3 hok3.1 hah hal _ hres3) ?_
                    | refine Br.yes rfl ?_
                    | refine Br.non rfl ?_
                    | (refine x_exq (TTok _ _) ?_; (conv => whnf); fail_if_success (guard_target =ₛ False)))
                all_goals (conv => whnf)
                all_goals rfl
        · have hle2 := hle1 _ rfl
          simp only at hle2
          have hg1 := (good_bits (hok.1 _ hres1.1)).1
          simp only at hg1
          have hle3 : rbits ≤ sbits := by omega
          have hq6 : decide (sbits < rbits) = false := decide_eq_false (by omega)
          have hq : eqR BinOp.neq (rv6 == rv6 && (rhi == rhi && (rlo == rlo && true)) && (rbits == rbits && true)) = false := by simp [eqR]
          have hq2 : (ract != ract) = false := by simp
          have hq3 : (ract == ract) = true := by simp
          have hq4 : eqR BinOp.eql (rv6 == rv6 && (rhi == rhi && (rlo == rlo && true)) && (rbits == rbits && true)) = true := by simp [eqR]
          repeat' (
            (conv => whnf)
            first
              | (with_reducible first
                  | refine open_new (d := 27) (rs := rs) rfl (fun b1 T1 hRI1 => ?_)
                  | refine open_new (d := 37) (rs := (rs ++ [⟨v6, hi, lo, bits, act⟩])) rfl (fun b2 T2 hRI2 => ?_)
                  | refine TR.seq ?_
                  | refine TR.region (TTok _ _) ?_
                  | refine TR.drawn (TTok _ _) mixed ?_
                  | refine TR.block ?_
                  | refine TR.ret ?_
                  | refine TR.exit ?_
                  | refine TR.skip ?_
                  | refine TR.condB rfl ?_
                  | refine Br.cond_t ?_
                  | refine Br.cond_f ?_
                  | refine Br.yes (by first | decide | assumption | (apply decide_eq_true; omega)) ?_
                  | refine Br.non (by first | decide | assumption | (apply decide_eq_false; omega)) ?_
                  | refine Br.cond_ff ?_
                  | refine Br.eqT (by omega) ?_
                  | refine Br.eqF (by omega) ?_
                  | refine Br.neT (by omega) ?_
                  | refine Br.neF (by omega) ?_
                  | refine Ld.mk' _ rfl ?_
                  | refine Need.mk (by first | decide | omega | kernel_rfl) ?_
                  | refine Nm.i64 (by omega) ?_
                  | refine Nm.u64 (by omega) ?_
                  | refine Nm.u8 (by omega) ?_
                  | refine x_ret (f := 8) rfl rfl (fun w hw => examples_ret hw.t) ?_
                  | refine x_ret (f := 17) rfl rfl (fun w _ => h17 w) ?_)
              | refine x_append (X := ⟨Tryd.prog, TT, 0, IM7 (.slice ad rs.length cap) rs⟩) (TTok _ _) (c := 33) (kv := 0) (t := 22) (e := 36) (n := rs.length) (m := 1) (ck := ⟨.row, 36, 5, 0, (rs.flatMap rcells).map .v⟩) (cr := [(35, some ⟨.row, 36, 5, 0, (rcells ⟨v6, hi, lo, bits, act⟩).map .v⟩)]) (l := (rcells ⟨v6, hi, lo, bits, act⟩).map .v) rfl rfl rfl rfl rfl rfl rfl rfl rfl rfl (Nat.zero_lt_succ 4) rfl hfl2 (by exact Src.sl (dk := ⟨.row, 36, 5, 0, (rcells ⟨v6, hi, lo, bits, act⟩).map .v⟩) (lo := 0) (kd := 0) rfl rfl rfl rfl rfl) (by intro i q h; simp only [List.mem_singleton, Prod.mk.injEq] at h; obtain ⟨rfl, rfl⟩ := h; rfl) hm63' (by exact happ') ?_
              | refine x_append_nil (X := ⟨Tryd.prog, TT, 0, IM7 (.slice ad rs.length cap) rs⟩) (TTok _ _) (d := 33) (c0 := 0) (t := 22) (e := 36) (m := rs.length) (cr := []) (l := (rs.flatMap rcells).map .v) rfl rfl rfl rfl rfl rfl (Nat.zero_lt_succ 4) rfl (src_at (by rfl) (by exact hfl) (flat_one rs) (fun w hw => IM7.r hw)) (fun i q h => absurd h List.not_mem_nil) hm63 (by exact happ) ?_
              | refine x_retT_src (X := ⟨Tryd.prog, TT, 0, IM7 (.slice ad rs.length cap) rs⟩) (f := 9) (d := 27) (ty := 58) (es := 6) (esz := 5) (m := rs.length) (us := rs.flatMap rcells) (cr := []) (F := FN rs) (mk := newB) (R := .tup [.ref 27 0 0, .v (.int .i64 0)]) rfl (src_at (by rfl) (by exact hfl) (flat_one rs) (fun w hw => IM7.r hw)) (fun i q h => absurd h List.not_mem_nil) (FN_stab rs) rel_new (fun w u hw h => new_good hok h hf (by omega)) rfl ?_
              | refine x_retT_src (X := ⟨Tryd.prog, TT, 0, IM7 (.slice ad rs.length cap) rs⟩) (f := 9) (d := 37) (ty := 58) (es := 6) (esz := 5) (m := rs.length + 1) (us := rs.flatMap rcells ++ rcells ⟨v6, hi, lo, bits, act⟩) (cr := [(33, some ⟨.row, 36, 5, 0 + 1, (rs.flatMap rcells).map .v ++ (rcells ⟨v6, hi, lo, bits, act⟩).map .v⟩)]) (F := FN (rs ++ [⟨v6, hi, lo, bits, act⟩])) (mk := newB) (R := .tup [.ref 37 0 0, .v (.int .i64 0)]) rfl (by refine Src.sl (dk := ⟨.row, 36, 5, 0 + 1, (rs.flatMap rcells).map .v ++ (rcells ⟨v6, hi, lo, bits, act⟩).map .v⟩) (lo := 0) (kd := 0 + 1) ?_ ?_ ?_ hsub2 hall2 <;> rfl) (by intro i q h; simp only [List.mem_singleton, Prod.mk.injEq] at h; obtain ⟨rfl, rfl⟩ := h; rfl) (FN_stab _) rel_new (fun w u hw h => good2 hok2 w u h) rfl ?_
              | refine x_ret_tab (c := 27) (f := 11) rfl rfl rfl rfl (fun w _ h => find_ret b1 T1 rs av6 ahi alo w (by obtain ⟨bl, D, h⟩ := h; exact ⟨bl, D, h.1⟩) hRI1 hok.1 hah hal _ hres1) ?_
              | refine x_ret_tab (c := 37) (f := 11) rfl rfl rfl rfl (fun w _ h => find_ret b2 T2 (rs ++ [⟨v6, hi, lo, bits, act⟩]) av6 ahi alo w (by obtain ⟨bl, D, h⟩ := h; exact ⟨bl, D, h.1⟩) hRI2 hok2.1 hah hal _ hres2) ?_
              | refine Br.non rfl ?_
              | refine Br.yes rfl ?_
              | refine Br.non hq ?_
              | refine Br.non hq2 ?_
              | refine Br.yes hq3 ?_
              | refine Br.yes hq4 ?_
              | refine Br.non hq5 ?_
              | refine Br.non hq6 ?_
              | (refine x_exq (TTok _ _) ?_; (conv => whnf); fail_if_success (guard_target =ₛ False)))
          all_goals (conv => whnf)
          refine TR.loopH (fun x : Int × Option (Nat × Nat × List Value) => [(18, bkA x.2), (19, .v (.int .i64 x.1))]) (fun x => bkC x.2) (fun x => -1 ≤ x.1 ∧ x.1 ≤ rs.length - 1 ∧ bkP rs x.1 x.2) (fun x => (x.1 + 1).toNat) (rs.length - 1, none) ⟨by dsimp only; omega, by dsimp only; omega, rfl⟩ ?_ ?_
          · repeat' ((conv => whnf); first | exact trivial | exact Fgt.nil | exact Fgt.mk rfl rfl rfl | exact Fgt.mk rfl (by simp [noRefC, noRefL, noRef_map, noRef_app, noRef]) rfl | refine And.intro rfl ?_ | refine And.intro (ckapp _ _ _ _ _ _) ?_ | refine And.intro ?_ ?_)
          · rintro ⟨i, g⟩ ⟨i0, i1, hP⟩
            dsimp only at i0 i1 hP ⊢
            by_cases hi0 : 0 ≤ i
            · obtain ⟨r, hr⟩ : ∃ r, rs[i.toNat]? = some r := ⟨rs[i.toNat], by rw [List.getElem?_eq_getElem]⟩
              obtain ⟨ab, ao, rfl⟩ := sl_some hI.r (by omega)
              have hbk := bk_step hi0 hr
              obtain ⟨qv6, qhi, qlo, qbits, qact⟩ := r
              have hld : ∀ w, IM7 (.slice (some ⟨ab, ao, none⟩) rs.length cap) rs w → (loadVar 36 ⟨ab, ao + i.toNat * 5, none⟩).run Tryd.prog w = .ok (.agg #[.bool qv6, .int .u64 qhi, .int .u64 qlo, .int .i64 qbits, .int .i64 qact]) w := fun w hw => (IR_of hw.r).load hr
              rcases g with _ | ⟨gv, gm, gu⟩
              · skip
                repeat' (
                  (conv => whnf)
                  first
                    | (with_reducible first
                        | refine TR.seq ?_
                        | refine TR.region (TTok _ _) ?_
                        | refine TR.drawn (TTok _ _) mixed ?_
                        | refine TR.block ?_
                        | refine TR.ret ?_
                        | refine TR.exit ?_
                        | refine TR.skip ?_
                        | refine TR.condB rfl ?_
                        | refine Br.cond_t ?_
                        | refine Br.cond_f ?_
                        | refine Br.yes (by first | decide | assumption | (apply decide_eq_true; omega)) ?_
                        | refine Br.non (by first | decide | assumption | (apply decide_eq_false; omega)) ?_
                        | refine Br.cond_ff ?_
                        | refine Br.eqT (by omega) ?_
                        | refine Br.eqF (by omega) ?_
                        | refine Br.neT (by omega) ?_
                        | refine Br.neF (by omega) ?_
                        | refine Ld.mk' _ rfl ?_
                        | refine Need.mk (by first | decide | omega | kernel_rfl) ?_
                        | refine Nm.i64 (by omega) ?_
                        | refine Nm.u64 (by omega) ?_
                        | refine Nm.u8 (by omega) ?_)
                    | refine x_load_ext rfl rfl (fun w hw => hld w hw) ?_
                    | refine x_append_nil (X := ⟨Tryd.prog, TT, 0, IM7 (.slice (some ⟨ab, ao, none⟩) rs.length cap) rs⟩) (TTok _ _) (d := 128) (c0 := 0) (t := 22) (e := 36) (m := 1) (cr := [(127, some ⟨.row, 36, 5, 0, (rcells ⟨qv6, qhi, qlo, qbits, qact⟩).map .v⟩)]) (l := (rcells ⟨qv6, qhi, qlo, qbits, qact⟩).map .v) rfl rfl rfl rfl rfl rfl (Nat.zero_lt_succ 4) rfl (by refine Src.sl (dk := ⟨.row, 36, 5, 0, (rcells ⟨qv6, qhi, qlo, qbits, qact⟩).map .v⟩) (lo := 0) (kd := 0) ?_ ?_ ?_ ?_ ?_ <;> rfl) (by intro i q h; simp only [List.mem_singleton, Prod.mk.injEq] at h; obtain ⟨rfl, rfl⟩ := h; rfl) (by decide) (by decide) ?_
                    | (refine x_exq (TTok _ _) ?_; (conv => whnf); fail_if_success (guard_target =ₛ False)))
                all_goals (conv => whnf)
                have hP0 : i = rs.length - 1 := hP
                refine ⟨(i - 1, some (0, 1, rcells ⟨qv6, qhi, qlo, qbits, qact⟩)), ⟨by dsimp only; omega, by dsimp only; omega, ?_, ?_⟩, by dsimp only; omega, ?_⟩
                · dsimp only; omega
                · dsimp only
                  rw [hbk, List.drop_eq_nil_of_le (by omega)]
                  rfl
                repeat' ((conv => whnf); first | exact trivial | exact Fgt.nil | exact Fgt.mk rfl rfl rfl | exact Fgt.mk rfl (by simp [noRefC, noRefL, noRef_map, noRef_app, noRef]) rfl | refine And.intro rfl ?_ | refine And.intro (ckapp _ _ _ _ _ _) ?_ | refine And.intro ?_ ?_)
              · obtain ⟨hP1, hP2⟩ := hP
                dsimp only at hP1 hP2
                have hgl : (gu.map AV.v).length = gm * 5 := by
                  rw [List.length_map, hP2, flat_len, List.length_reverse, List.length_drop]
                  omega
                have hgm : gm + 1 ≤ maxLen := by omega
                have hgb : (gm + 1) * 40 ≤ 140737488355328 := by omega
                repeat' (
                  (conv => whnf)
                  first
                    | (with_reducible first
                        | refine TR.seq ?_
                        | refine TR.region (TTok _ _) ?_
                        | refine TR.drawn (TTok _ _) mixed ?_
                        | refine TR.block ?_
                        | refine TR.ret ?_
                        | refine TR.exit ?_
                        | refine TR.skip ?_
                        | refine TR.condB rfl ?_
                        | refine Br.cond_t ?_
                        | refine Br.cond_f ?_
                        | refine Br.yes (by first | decide | assumption | (apply decide_eq_true; omega)) ?_
                        | refine Br.non (by first | decide | assumption | (apply decide_eq_false; omega)) ?_
                        | refine Br.cond_ff ?_
                        | refine Br.eqT (by omega) ?_
                        | refine Br.eqF (by omega) ?_
                        | refine Br.neT (by omega) ?_
                        | refine Br.neF (by omega) ?_
                        | refine Ld.mk' _ rfl ?_
                        | refine Need.mk (by first | decide | omega | kernel_rfl) ?_
                        | refine Nm.i64 (by omega) ?_
                        | refine Nm.u64 (by omega) ?_
                        | refine Nm.u8 (by omega) ?_)
                    | refine x_load_ext rfl rfl (fun w hw => hld w hw) ?_
                    | refine x_append (X := ⟨Tryd.prog, TT, 0, IM7 (.slice (some ⟨ab, ao, none⟩) rs.length cap) rs⟩) (TTok _ _) (c := 128) (kv := gv) (t := 22) (e := 36) (n := gm) (m := 1) (ck := ⟨.row, 36, 5, gv, gu.map .v⟩) (cr := [(127, some ⟨.row, 36, 5, 0, (rcells ⟨qv6, qhi, qlo, qbits, qact⟩).map .v⟩)]) (l := (rcells ⟨qv6, qhi, qlo, qbits, qact⟩).map .v) rfl rfl rfl rfl rfl rfl rfl rfl rfl rfl (Nat.zero_lt_succ 4) rfl hgl (by refine Src.sl (dk := ⟨.row, 36, 5, 0, (rcells ⟨qv6, qhi, qlo, qbits, qact⟩).map .v⟩) (lo := 0) (kd := 0) ?_ ?_ ?_ ?_ ?_ <;> rfl) (by intro i q h; simp only [List.mem_singleton, Prod.mk.injEq] at h; obtain ⟨rfl, rfl⟩ := h; rfl) hgm (by exact hgb) ?_
                    | (refine x_exq (TTok _ _) ?_; (conv => whnf); fail_if_success (guard_target =ₛ False)))
                all_goals (conv => whnf)
                refine ⟨(i - 1, some (gv + 1, gm + 1, gu ++ rcells ⟨qv6, qhi, qlo, qbits, qact⟩)), ⟨by dsimp only; omega, by dsimp only; omega, ?_, ?_⟩, by dsimp only; omega, ?_⟩
                · dsimp only; omega
                · dsimp only
                  rw [hbk, hP2]
                repeat' ((conv => whnf); first | exact trivial | exact Fgt.nil | exact Fgt.mk rfl rfl rfl | exact Fgt.mk rfl (by simp [noRefC, noRefL, noRef_map, noRef_app, noRef]) rfl | refine And.intro rfl ?_ | refine And.intro (ckapp _ _ _ _ _ _) ?_ | refine And.intro ?_ ?_)
            · have hi1 : i = -1 := by omega
              have hres3 : FS rs.reverse av6 ahi alo (some ⟨rv6, rhi, rlo, rbits, ract⟩) := hres1.mono (by simp)
              have hok3 := okR_rev hok
              have hf3 : ∀ r, r ∈ rs.reverse → r.fits := fun r hr => hf r (List.mem_reverse.1 hr)
              rcases g with _ | ⟨gv, gm, gu⟩
              · have hP0 : i = rs.length - 1 := hP
                have hn0 : rs.reverse.length = 0 := by rw [List.length_reverse]; omega
                repeat' (
                  (conv => whnf)
                  first
                    | (with_reducible first
                        | refine open_new (d := 131) (rs := rs.reverse) rfl (fun b3 T3 hRI3 => ?_)
                        | refine TR.seq ?_
                        | refine TR.region (TTok _ _) ?_
                        | refine TR.drawn (TTok _ _) mixed ?_
                        | refine TR.block ?_
                        | refine TR.ret ?_
                        | refine TR.exit ?_
                        | refine TR.skip ?_
                        | refine TR.condB rfl ?_
                        | refine Br.cond_t ?_
                        | refine Br.cond_f ?_
                        | refine Br.yes (by first | decide | assumption | (apply decide_eq_true; omega)) ?_
                        | refine Br.non (by first | decide | assumption | (apply decide_eq_false; omega)) ?_
                        | refine Br.cond_ff ?_
                        | refine Br.eqT (by omega) ?_
                        | refine Br.eqF (by omega) ?_
                        | refine Br.neT (by omega) ?_
                        | refine Br.neF (by omega) ?_
                        | refine Ld.mk' _ rfl ?_
                        | refine Need.mk (by first | decide | omega | kernel_rfl) ?_
                        | refine Nm.i64 (by omega) ?_
                        | refine Nm.u64 (by omega) ?_
                        | refine Nm.u8 (by omega) ?_)
                    | refine x_retT (X := ⟨Tryd.prog, TT, 0, IM7 (.slice ad rs.length cap) rs⟩) (f := 9) (d := 131) (ty := 58) (esz := 6) (F := FN rs.reverse) (mk := newB) (R := .tup [.ref 131 0 0, .v (.int .i64 0)]) rfl rfl (FN_stab _) rel_new (fun w hw => new_good hok3 (.inl ⟨hn0, _, _, rfl⟩) hf3 (by omega)) rfl ?_
                    | refine x_ret_tab (c := 131) (f := 11) rfl rfl rfl rfl (fun w _ h => find_ret b3 T3 rs.reverse av6 ahi alo w (by obtain ⟨bl, D, h⟩ := h; exact ⟨bl, D, h.1⟩) hRI3 hok3.1 hah hal _ hres3) ?_
                    | refine Br.yes rfl ?_
                    | refine Br.non rfl ?_
                    | refine Br.non hq ?_
                    | refine Br.non hq2 ?_
                    | refine Br.yes hq3 ?_
                    | refine Br.yes hq4 ?_
                    | (refine x_exq (TTok _ _) ?_; (conv => whnf); fail_if_success (guard_target =ₛ False)))
                all_goals (conv => whnf)
                all_goals rfl
              · obtain ⟨hP1, hP2⟩ := hP
                dsimp only at hP1 hP2
                rw [hi1] at hP1 hP2
                have hgm : gm = rs.reverse.length := by rw [List.length_reverse]; simpa using hP1
                have hgu : gu = rs.reverse.flatMap rcells := by simpa using hP2
                have hgl : (gu.map AV.v).length = gm * 5 := by rw [List.length_map, hgu, flat_len, hgm]
                have hsub3 : subL (gu.map AV.v) (0 * 5) (gm * 5) = some (gu.map AV.v) := by
                  rw [← hgl]
                  exact subL_all _
                have hall3 : (gu.map AV.v).all SX.one = true := by
                  simp only [List.all_map, List.all_eq_true]
                  intro q hq
                  rw [hgu] at hq
                  exact flat_one _ q hq
                have hng : ∀ w u, SlAt w u gm gu → RetQ Tryd.prog 9 [u] w fun w' u => ∃ b D, u = newB b ∧ FN rs.reverse b D w' ∧ ∀ e, D e → w.heap.size ≤ e ∧ e < w'.heap.size := fun w u h => new_good hok3 (by rw [← hgm, ← hgu]; exact h) hf3 (by rw [List.length_reverse]; omega)
                repeat' (
                  (conv => whnf)
                  first
                    | (with_reducible first
                        | refine open_new (d := 131) (rs := rs.reverse) rfl (fun b3 T3 hRI3 => ?_)
                        | refine TR.seq ?_
                        | refine TR.region (TTok _ _) ?_
                        | refine TR.drawn (TTok _ _) mixed ?_
                        | refine TR.block ?_
                        | refine TR.ret ?_
                        | refine TR.exit ?_
                        | refine TR.skip ?_
                        | refine TR.condB rfl ?_
                        | refine Br.cond_t ?_
                        | refine Br.cond_f ?_
                        | refine Br.yes (by first | decide | assumption | (apply decide_eq_true; omega)) ?_
                        | refine Br.non (by first | decide | assumption | (apply decide_eq_false; omega)) ?_
                        | refine Br.cond_ff ?_
                        | refine Br.eqT (by omega) ?_
                        | refine Br.eqF (by omega) ?_
                        | refine Br.neT (by omega) ?_
                        | refine Br.neF (by omega) ?_
                        | refine Ld.mk' _ rfl ?_
                        | refine Need.mk (by first | decide | omega | kernel_rfl) ?_
                        | refine Nm.i64 (by omega) ?_
                        | refine Nm.u64 (by omega) ?_
                        | refine Nm.u8 (by omega) ?_)
                    | refine x_retT_src (X := ⟨Tryd.prog, TT, 0, IM7 (.slice ad rs.length cap) rs⟩) (f := 9) (d := 131) (ty := 58) (es := 6) (esz := 5) (m := gm) (us := gu) (cr := [(128, some ⟨.row, 36, 5, gv, gu.map .v⟩)]) (F := FN rs.reverse) (mk := newB) (R := .tup [.ref 131 0 0, .v (.int .i64 0)]) rfl (by refine Src.sl (dk := ⟨.row, 36, 5, gv, gu.map .v⟩) (lo := 0) (kd := gv) ?_ ?_ ?_ hsub3 hall3 <;> rfl) (by intro i q h; simp only [List.mem_singleton, Prod.mk.injEq] at h; obtain ⟨rfl, rfl⟩ := h; rfl) (FN_stab _) rel_new (fun w u hw h => hng w u h) rfl ?_
                    | refine x_ret_tab (c := 131) (f := 11) rfl rfl rfl rfl (fun w _ h => find_ret b3 T3 rs.reverse av6 ahi alo w (by obtain ⟨bl, D, h⟩ := h; exact ⟨bl, D, h.1⟩) hRI3 hok3.1 hah hal _ hres3) ?_
                    | refine Br.yes rfl ?_
                    | refine Br.non rfl ?_
                    | refine Br.non hq ?_
                    | refine Br.non hq2 ?_
                    | refine Br.yes hq3 ?_
                    | refine Br.yes hq4 ?_
                    | (refine x_exq (TTok _ _) ?_; (conv => whnf); fail_if_success (guard_target =ₛ False)))
                all_goals (conv => whnf)
                all_goals rfl
    · skip
      repeat' (
        (conv => whnf)
        first
          | (with_reducible first
              | refine TR.seq ?_
              | refine TR.region (TTok _ _) ?_
              | refine TR.drawn (TTok _ _) mixed ?_
              | refine TR.block ?_
              | refine TR.ret ?_
              | refine TR.exit ?_
              | refine TR.skip ?_
              | refine TR.condB rfl ?_
              | refine Br.cond_t ?_
              | refine Br.cond_f ?_
              | refine Br.yes (by first | decide | assumption | (apply decide_eq_true; omega)) ?_
              | refine Br.non (by first | decide | assumption | (apply decide_eq_false; omega)) ?_
              | refine Br.cond_ff ?_
              | refine Br.eqT (by omega) ?_
              | refine Br.eqF (by omega) ?_
              | refine Br.neT (by omega) ?_
              | refine Br.neF (by omega) ?_
              | refine Ld.mk' _ rfl ?_
              | refine Need.mk (by first | decide | omega | kernel_rfl) ?_
              | refine Nm.i64 (by omega) ?_
              | refine Nm.u64 (by omega) ?_
              | refine Nm.u8 (by omega) ?_
              | refine x_ret (f := 8) rfl rfl (fun w hw => examples_ret hw.t) ?_)
          | refine x_append (X := ⟨Tryd.prog, TT, 0, IM7 (.slice ad rs.length cap) rs⟩) (TTok _ _) (c := 33) (kv := 0) (t := 22) (e := 36) (n := rs.length) (m := 1) (ck := ⟨.row, 36, 5, 0, (rs.flatMap rcells).map .v⟩) (cr := [(35, some ⟨.row, 36, 5, 0, (rcells ⟨v6, hi, lo, bits, act⟩).map .v⟩)]) (l := (rcells ⟨v6, hi, lo, bits, act⟩).map .v) rfl rfl rfl rfl rfl rfl rfl rfl rfl rfl (Nat.zero_lt_succ 4) rfl hfl2 (by exact Src.sl (dk := ⟨.row, 36, 5, 0, (rcells ⟨v6, hi, lo, bits, act⟩).map .v⟩) (lo := 0) (kd := 0) rfl rfl rfl rfl rfl) (by intro i q h; simp only [List.mem_singleton, Prod.mk.injEq] at h; obtain ⟨rfl, rfl⟩ := h; rfl) hm63' (by exact happ') ?_
          | refine x_append_nil (X := ⟨Tryd.prog, TT, 0, IM7 (.slice ad rs.length cap) rs⟩) (TTok _ _) (d := 33) (c0 := 0) (t := 22) (e := 36) (m := rs.length) (cr := []) (l := (rs.flatMap rcells).map .v) rfl rfl rfl rfl rfl rfl (Nat.zero_lt_succ 4) rfl (src_at (by rfl) (by exact hfl) (flat_one rs) (fun w hw => IM7.r hw)) (fun i q h => absurd h List.not_mem_nil) hm63 (by exact happ) ?_
          | refine x_retT_src (X := ⟨Tryd.prog, TT, 0, IM7 (.slice ad rs.length cap) rs⟩) (f := 9) (d := 27) (ty := 58) (es := 6) (esz := 5) (m := rs.length) (us := rs.flatMap rcells) (cr := []) (F := FN rs) (mk := newB) (R := .tup [.ref 27 0 0, .v (.int .i64 0)]) rfl (src_at (by rfl) (by exact hfl) (flat_one rs) (fun w hw => IM7.r hw)) (fun i q h => absurd h List.not_mem_nil) (FN_stab rs) rel_new (fun w u hw h => new_good hok h hf (by omega)) rfl ?_
          | refine x_ret_src (X := ⟨Tryd.prog, TT, 0, IM7 (.slice ad rs.length cap) rs⟩) (f := 9) (esz := 5) (m := rs.length + 1) (us := rs.flatMap rcells ++ rcells ⟨v6, hi, lo, bits, act⟩) (cr := [(33, some ⟨.row, 36, 5, 0 + 1, (rs.flatMap rcells).map .v ++ (rcells ⟨v6, hi, lo, bits, act⟩).map .v⟩)]) (v := .tuple #[.pointer none, .int .i64 12]) rfl (by refine Src.sl (dk := ⟨.row, 36, 5, 0 + 1, (rs.flatMap rcells).map .v ++ (rcells ⟨v6, hi, lo, bits, act⟩).map .v⟩) (lo := 0) (kd := 0 + 1) ?_ ?_ ?_ hsub2 hall2 <;> rfl) (by intro i q h; simp only [List.mem_singleton, Prod.mk.injEq] at h; obtain ⟨rfl, rfl⟩ := h; rfl) (fun w u hw h => bad2 hok2 w u h) ?_
          | refine Br.non rfl ?_
          | refine Br.yes rfl ?_
          | (refine x_exq (TTok _ _) ?_; (conv => whnf); fail_if_success (guard_target =ₛ False)))
      all_goals (conv => whnf)
      all_goals rfl
  · have hok2 : ¬ okR (rs ++ [⟨v6, hi, lo, bits, act⟩]) := fun h => hok ⟨fun r hr => h.1 r (by simp [hr]), (List.pairwise_append.1 h.2).1⟩
    repeat' (
      (conv => whnf)
      first
        | (with_reducible first
            | refine TR.seq ?_
            | refine TR.region (TTok _ _) ?_
            | refine TR.drawn (TTok _ _) mixed ?_
            | refine TR.block ?_
            | refine TR.ret ?_
            | refine TR.exit ?_
            | refine TR.skip ?_
            | refine TR.condB rfl ?_
            | refine Br.cond_t ?_
            | refine Br.cond_f ?_
            | refine Br.yes (by first | decide | assumption | (apply decide_eq_true; omega)) ?_
            | refine Br.non (by first | decide | assumption | (apply decide_eq_false; omega)) ?_
            | refine Br.cond_ff ?_
            | refine Br.eqT (by omega) ?_
            | refine Br.eqF (by omega) ?_
            | refine Br.neT (by omega) ?_
            | refine Br.neF (by omega) ?_
            | refine Ld.mk' _ rfl ?_
            | refine Need.mk (by first | decide | omega | kernel_rfl) ?_
            | refine Nm.i64 (by omega) ?_
            | refine Nm.u64 (by omega) ?_
            | refine Nm.u8 (by omega) ?_
            | refine x_ret (f := 8) rfl rfl (fun w hw => examples_ret hw.t) ?_)
        | refine x_append (X := ⟨Tryd.prog, TT, 0, IM7 (.slice ad rs.length cap) rs⟩) (TTok _ _) (c := 33) (kv := 0) (t := 22) (e := 36) (n := rs.length) (m := 1) (ck := ⟨.row, 36, 5, 0, (rs.flatMap rcells).map .v⟩) (cr := [(35, some ⟨.row, 36, 5, 0, (rcells ⟨v6, hi, lo, bits, act⟩).map .v⟩)]) (l := (rcells ⟨v6, hi, lo, bits, act⟩).map .v) rfl rfl rfl rfl rfl rfl rfl rfl rfl rfl (Nat.zero_lt_succ 4) rfl hfl2 (by exact Src.sl (dk := ⟨.row, 36, 5, 0, (rcells ⟨v6, hi, lo, bits, act⟩).map .v⟩) (lo := 0) (kd := 0) rfl rfl rfl rfl rfl) (by intro i q h; simp only [List.mem_singleton, Prod.mk.injEq] at h; obtain ⟨rfl, rfl⟩ := h; rfl) hm63' (by exact happ') ?_
        | refine x_append_nil (X := ⟨Tryd.prog, TT, 0, IM7 (.slice ad rs.length cap) rs⟩) (TTok _ _) (d := 33) (c0 := 0) (t := 22) (e := 36) (m := rs.length) (cr := []) (l := (rs.flatMap rcells).map .v) rfl rfl rfl rfl rfl rfl (Nat.zero_lt_succ 4) rfl (src_at (by rfl) (by exact hfl) (flat_one rs) (fun w hw => IM7.r hw)) (fun i q h => absurd h List.not_mem_nil) hm63 (by exact happ) ?_
        | refine x_ret (X := ⟨Tryd.prog, TT, 0, IM7 (.slice ad rs.length cap) rs⟩) (f := 9) rfl rfl (fun w hw => new_bad hok (IM7.r hw) hf (by omega)) ?_
        | refine x_ret_src (X := ⟨Tryd.prog, TT, 0, IM7 (.slice ad rs.length cap) rs⟩) (f := 9) (esz := 5) (m := rs.length + 1) (us := rs.flatMap rcells ++ rcells ⟨v6, hi, lo, bits, act⟩) (cr := [(33, some ⟨.row, 36, 5, 0 + 1, (rs.flatMap rcells).map .v ++ (rcells ⟨v6, hi, lo, bits, act⟩).map .v⟩)]) (v := .tuple #[.pointer none, .int .i64 12]) rfl (by refine Src.sl (dk := ⟨.row, 36, 5, 0 + 1, (rs.flatMap rcells).map .v ++ (rcells ⟨v6, hi, lo, bits, act⟩).map .v⟩) (lo := 0) (kd := 0 + 1) ?_ ?_ ?_ hsub2 hall2 <;> rfl) (by intro i q h; simp only [List.mem_singleton, Prod.mk.injEq] at h; obtain ⟨rfl, rfl⟩ := h; rfl) (fun w u hw h => bad2 hok2 w u h) ?_
        | refine Br.non rfl ?_
        | refine Br.yes rfl ?_
        | (refine x_exq (TTok _ _) ?_; (conv => whnf); fail_if_success (guard_target =ₛ False)))
    all_goals (conv => whnf)
    all_goals rfl
end Go.Proofs.YtopadpgpmkkpgaaDoor
set_option maxRecDepth 100000
namespace Go.Proofs.YtopadpgpmkkpgaaDoor
open Go.SX
def tab0 : List Int := [1, 10, 100, 1000, 10000, 100000, 1000000, 10000000, 100000000, 1000000000, 10000000000, 100000000000, 1000000000000, 10000000000000, 100000000000000, 1000000000000000, 10000000000000000, 100000000000000000, 1000000000000000000, 10000000000000000000]
def tab5 : List Int := [0, 1, 56, 2, 57, 49, 28, 3, 61, 58, 42, 50, 38, 29, 17, 4, 62, 47, 59, 36, 45, 43, 51, 22, 53, 39, 33, 30, 24, 18, 12, 5, 63, 55, 48, 27, 60, 41, 37, 16, 46, 35, 44, 21, 52, 32, 23, 11, 54, 26, 40, 15, 34, 20, 31, 10, 25, 14, 19, 9, 13, 8, 7, 6]
theorem I13_of {l : List (String × DataW Unit)} {W : World} (h : laidMet Tryd.prog l W) (hm : ("internal/strconv.uint64pow10", Lib.tabData .u64 tab0) ∈ l) (hm5 : ("math/bits.deBruijn64tab", Lib.tabData .u8 tab5) ∈ l) : I13 W := by
  intro g cells hg
  unfold GG at hg
  split at hg
  · cases hg
    exact laid_tab h hm (t := 109) (e := 30) (n := 20) (by kernel_rfl) (by kernel_rfl) Tryd.underlying109 Tryd.underlying30 (by kernel_rfl) (by kernel_rfl)
  · cases hg
    exact laid_tab h hm5 (t := 132) (e := 5) (n := 64) (by kernel_rfl) (by kernel_rfl) Tryd.underlying132 Tryd.underlying5 (by kernel_rfl) (by kernel_rfl)
  · cases hg
theorem fit_addr {W : World} {B : Nat} {v : Value} (h : FitV TT W B 32 v) : ∃ (v6 : Bool) (hi lo : Int), v = .agg #[.bool v6, .int .u64 hi, .int .u64 lo] ∧ (0 ≤ hi ∧ hi ≤ 18446744073709551615) ∧ (0 ≤ lo ∧ lo ≤ 18446744073709551615) := by
  obtain ⟨cs, hf, rfl⟩ := h
  obtain ⟨hl, h1, h2, h3, _⟩ := hf
  match cs, hl with
  | [a, b, c], _ =>
    obtain ⟨v6, e1⟩ := h1
    obtain ⟨hi, e2, r2⟩ := h2
    obtain ⟨lo, e3, r3⟩ := h3
    simp at e1 e2 e3
    subst e1 e2 e3
    exact ⟨v6, hi, lo, rfl, bounds_u64 r2, bounds_u64 r3⟩
theorem fit_prefix {W : World} {B : Nat} {v : Value} (h : FitV TT W B 34 v) : ∃ (v6 : Bool) (hi lo bits : Int), v = .agg #[.bool v6, .int .u64 hi, .int .u64 lo, .int .i64 bits] ∧ (0 ≤ hi ∧ hi ≤ 18446744073709551615) ∧ (0 ≤ lo ∧ lo ≤ 18446744073709551615) ∧ (-9223372036854775808 ≤ bits ∧ bits ≤ 9223372036854775807) := by
  obtain ⟨cs, hf, rfl⟩ := h
  obtain ⟨hl, h1, h2, _⟩ := hf
  match cs, hl with
  | [a, b, c, d], _ =>
    obtain ⟨_, g1, g2, g3, _⟩ := h1
    obtain ⟨v6, e1⟩ := g1
    obtain ⟨hi, e2, r2⟩ := g2
    obtain ⟨lo, e3, r3⟩ := g3
    obtain ⟨bits, e4, r4⟩ := h2
    simp at e1 e2 e3 e4
    subst e1 e2 e3 e4
    exact ⟨v6, hi, lo, bits, rfl, bounds_u64 r2, bounds_u64 r3, bounds_i64 r4⟩
namespace aclHolds
def inv (W : World) : Prop := I13 W
theorem inv_of {W : World} (h : laidMet Tryd.prog Rows.aclHoldsRow.laid W) (_ : W.ShapedOpen Tryd.prog) : inv W := I13_of h (List.mem_of_getElem? (i := 2) (by kernel_rfl)) (List.mem_of_getElem? (i := 1) (by kernel_rfl))
theorem returns (W : World) (args : Array Value) (hI : inv W) (hF : FitAll TT W maxLen Tryd.f6.params.toList args.toList) : Ret Tryd.prog 6 args.toList W (.bool true) := by
  rw [show Tryd.f6.params.toList = [34, 32] by kernel_rfl] at hF
  generalize args.toList = l at hF
  obtain ⟨p, l, rfl, hp, hF⟩ := fitAll_cons hF
  obtain ⟨a, l, rfl, ha, hF⟩ := fitAll_cons hF
  obtain rfl := fitAll_nil hF
  obtain ⟨v6, hi, lo, bits, rfl, r1, r2, r3⟩ := fit_prefix hp
  obtain ⟨av6, ahi, alo, rfl, r4, r5⟩ := fit_addr ha
  exact law_ret v6 hi lo bits av6 ahi alo W hI r1 r2 r4 r5
end aclHolds
end Go.Proofs.YtopadpgpmkkpgaaDoor
set_option maxRecDepth 100000
namespace Go.Proofs.YtopadpgpmkkpgaaDoor
open Go.SX
theorem add_add (a : Addr) (p q : Nat) : (a.add p).add q = a.add (p + q) := by
  obtain ⟨b, o, s⟩ := a
  unfold Addr.add
  by_cases hp : p = 0
  · subst hp
    simp
  · by_cases hq : q = 0
    · subst hq
      simp [hp]
    · simp [hp, hq, Nat.add_assoc]
theorem list_of {α : Type} {P : Nat → α → Prop} : ∀ m, (∀ i, i < m → ∃ x, P i x) → ∃ l : List α, l.length = m ∧ ∀ i x, l[i]? = some x → P i x
  | 0, _ => ⟨[], rfl, fun i x h => by simp at h⟩
  | m + 1, h => by
    obtain ⟨l, h1, h2⟩ := list_of m fun i hi => h i (by omega)
    obtain ⟨x, hx⟩ := h m (by omega)
    refine ⟨l ++ [x], by simp [h1], fun i y hy => ?_⟩
    rcases Nat.lt_or_ge i l.length with h3 | h3
    · rw [List.getElem?_append_left h3] at hy
      exact h2 i y hy
    · rw [List.getElem?_append_right h3] at hy
      cases hd : i - l.length with
      | zero =>
        rw [hd] at hy
        simp at hy
        subst hy
        have : i = m := by omega
        subst this
        exact hx
      | succ k =>
        rw [hd] at hy
        simp at hy
theorem flat_dec {α : Type} (f : α → List Value) (c : Nat) (hc : ∀ x, (f x).length = c) : ∀ (l : List α) (j : Nat) (q : Value), (l.flatMap f)[j]? = some q → ∃ i x k, l[i]? = some x ∧ (f x)[k]? = some q ∧ j = i * c + k
  | [], j, q, h => by simp at h
  | x :: l, j, q, h => by
    rw [List.flatMap_cons] at h
    rcases Nat.lt_or_ge j (f x).length with h1 | h1
    · rw [List.getElem?_append_left h1] at h
      exact ⟨0, x, j, rfl, h, by omega⟩
    · rw [List.getElem?_append_right h1, hc] at h
      obtain ⟨i, y, k, h2, h3, h4⟩ := flat_dec f c hc l _ q h
      rw [hc] at h1
      exact ⟨i + 1, y, k, by simpa using h2, h3, by rw [Nat.succ_mul]; omega⟩
theorem cells_rule {W : World} {a : Addr} {B : Nat} {i : Nat} {xs : List Value} (h2 : ∀ j, j < 5 → W.cell? ((a.add (i * 5)).add j) = xs[j]?) (hf : Fit TT W B 7 36 xs) : ∃ r : Rw, r.fits ∧ ∀ j u, (rcells r)[j]? = some u → W.cell? (a.add (i * 5 + j)) = some u := by
  obtain ⟨hl, h1, h3, _⟩ := hf
  obtain ⟨_, p1, p2, _⟩ := h1
  obtain ⟨_, g1, g2, g3, _⟩ := p1
  match xs, hl with
  | [x0, x1, x2, x3, x4], _ =>
    obtain ⟨v6, e1⟩ := g1
    obtain ⟨hi, e2, r2⟩ := g2
    obtain ⟨lo, e3, r3⟩ := g3
    obtain ⟨bits, e4, r4⟩ := p2
    obtain ⟨act, e5, r5⟩ := h3
    simp at e1 e2 e3 e4 e5
    subst e1 e2 e3 e4 e5
    have b2 := bounds_u64 r2
    have b3 := bounds_u64 r3
    refine ⟨⟨v6, hi, lo, bits, act⟩, ⟨b2.1, b2.2, b3.1, b3.2⟩, fun j u hu => ?_⟩
    have hj : j < 5 := by
      rcases Nat.lt_or_ge j 5 with h1 | h1
      · exact h1
      · rw [List.getElem?_eq_none (by simpa [rcells] using h1)] at hu; cases hu
    rw [← add_add, h2 j hj]
    exact hu
theorem cells_addr {W : World} {a : Addr} {B : Nat} {i : Nat} {xs : List Value} (h2 : ∀ j, j < 3 → W.cell? ((a.add (i * 3)).add j) = xs[j]?) (hf : Fit TT W B 7 32 xs) : ∃ r : Bool × Int × Int, ((0 ≤ r.2.1 ∧ r.2.1 ≤ 18446744073709551615) ∧ 0 ≤ r.2.2 ∧ r.2.2 ≤ 18446744073709551615) ∧ ∀ j u, (acells r)[j]? = some u → W.cell? (a.add (i * 3 + j)) = some u := by
  obtain ⟨hl, g1, g2, g3, _⟩ := hf
  match xs, hl with
  | [x0, x1, x2], _ =>
    obtain ⟨v6, e1⟩ := g1
    obtain ⟨hi, e2, r2⟩ := g2
    obtain ⟨lo, e3, r3⟩ := g3
    simp at e1 e2 e3
    subst e1 e2 e3
    refine ⟨(v6, hi, lo), ⟨bounds_u64 r2, bounds_u64 r3⟩, fun j u hu => ?_⟩
    have hj : j < 3 := by
      rcases Nat.lt_or_ge j 3 with h1 | h1
      · exact h1
      · rw [List.getElem?_eq_none (by simpa [acells] using h1)] at hu; cases hu
    rw [← add_add, h2 j hj]
    exact hu
theorem fit_rules {W : World} {B : Nat} {v : Value} (h : FitV TT W B 22 v) : ∃ rs : List Rw, (∀ r, r ∈ rs → r.fits) ∧ rs.length ≤ B ∧ SlAt W v rs.length (rs.flatMap rcells) := by
  obtain ⟨cs, hf, rfl⟩ := h
  rcases hf with rfl | ⟨a, m, cap, rfl, _, hB, _, hc⟩
  · exact ⟨[], fun r hr => by simp at hr, by simp, .inl ⟨rfl, _, _, rfl⟩⟩
  · obtain ⟨rs, h1, h2⟩ := list_of (P := fun i r => r.fits ∧ ∀ j u, (rcells r)[j]? = some u → W.cell? (a.add (i * 5 + j)) = some u) m fun i hi => by
      obtain ⟨xs, _, g2, g3⟩ := hc i hi
      exact cells_rule g2 g3
    subst h1
    refine ⟨rs, fun r hr => ?_, hB, .inr ⟨a, cap, rfl, fun j q hq => ?_⟩⟩
    · obtain ⟨i, hi⟩ := List.mem_iff_getElem?.1 hr
      exact (h2 i r hi).1
    · obtain ⟨i, r, k, g1, g2, rfl⟩ := flat_dec rcells 5 (fun _ => rfl) rs j q hq
      exact (h2 i r g1).2 k q g2
theorem fit_addrs {W : World} {B : Nat} {v : Value} (h : FitV TT W B 23 v) : ∃ (al : List (Bool × Int × Int)) (ad : Option Addr) (cap : Nat), v = .slice ad al.length cap ∧ (∀ a, a ∈ al → (0 ≤ a.2.1 ∧ a.2.1 ≤ 18446744073709551615) ∧ 0 ≤ a.2.2 ∧ a.2.2 ≤ 18446744073709551615) ∧ al.length ≤ B ∧ SlAt W v al.length (al.flatMap acells) := by
  obtain ⟨cs, hf, rfl⟩ := h
  rcases hf with rfl | ⟨a, m, cap, rfl, _, hB, _, hc⟩
  · exact ⟨[], none, 0, rfl, fun r hr => by simp at hr, by simp, .inl ⟨rfl, _, _, rfl⟩⟩
  · obtain ⟨rs, h1, h2⟩ := list_of (P := fun i (r : Bool × Int × Int) => ((0 ≤ r.2.1 ∧ r.2.1 ≤ 18446744073709551615) ∧ 0 ≤ r.2.2 ∧ r.2.2 ≤ 18446744073709551615) ∧ ∀ j u, (acells r)[j]? = some u → W.cell? (a.add (i * 3 + j)) = some u) m fun i hi => by
      obtain ⟨xs, _, g2, g3⟩ := hc i hi
      exact cells_addr g2 g3
    subst h1
    refine ⟨rs, some a, cap, rfl, fun r hr => ?_, hB, .inr ⟨a, cap, rfl, fun j q hq => ?_⟩⟩
    · obtain ⟨i, hi⟩ := List.mem_iff_getElem?.1 hr
      exact (h2 i r hi).1
    · obtain ⟨i, r, k, g1, g2, rfl⟩ := flat_dec acells 3 (fun _ => rfl) rs j q hq
      exact (h2 i r g1).2 k q g2
namespace aclFinds
def inv (W : World) : Prop := I13 W
theorem inv_of {W : World} (h : laidMet Tryd.prog Rows.aclFindsUptoRow.laid W) (hs : W.ShapedOpen Tryd.prog) : inv W :=
  I13_of h (List.mem_of_getElem? (i := 2) (by kernel_rfl)) (List.mem_of_getElem? (i := 1) (by kernel_rfl))
theorem returns (W : World) (args : Array Value) (hI : inv W) (hF : FitAll TT W 1048576 Tryd.f3.params.toList args.toList) : Ret Tryd.prog 3 args.toList W (.bool true) := by
  rw [show Tryd.f3.params.toList = [22, 23] by kernel_rfl] at hF
  generalize args.toList = l at hF
  obtain ⟨a, l, rfl, ha, hF⟩ := fitAll_cons hF
  obtain ⟨t, l, rfl, ht, hF⟩ := fitAll_cons hF
  obtain rfl := fitAll_nil hF
  obtain ⟨rs, h1, h2, h3⟩ := fit_rules ha
  obtain ⟨al, ad, cap, rfl, h4, h5, h6⟩ := fit_addrs ht
  exact finds_ret a rs ad cap al W ⟨hI, h3, h6⟩ h1 h2 h4 h5
end aclFinds
end Go.Proofs.YtopadpgpmkkpgaaDoor
set_option maxRecDepth 100000
namespace Go.Proofs.YtopadpgpmkkpgaaDoor
open Go.SX
theorem slAt_slice {W : World} {B : Nat} {v : Value} {rs : List Rw} (h : FitV TT W B 22 v) (hs : SlAt W v rs.length (rs.flatMap rcells)) : ∃ ad cap, v = .slice ad rs.length cap := by
  rcases hs with ⟨h0, a, c, rfl⟩ | ⟨ad, c, rfl, _⟩
  · exact ⟨a, c, by rw [h0]⟩
  · exact ⟨some ad, c, rfl⟩
theorem fit_rule1 {W : World} {B : Nat} {v : Value} (h : FitV TT W B 36 v) : ∃ (v6 : Bool) (hi lo bits act : Int), v = .agg #[.bool v6, .int .u64 hi, .int .u64 lo, .int .i64 bits, .int .i64 act] ∧ Rw.fits ⟨v6, hi, lo, bits, act⟩ := by
  obtain ⟨cs, hf, rfl⟩ := h
  obtain ⟨hl, h1, h3, _⟩ := hf
  obtain ⟨_, p1, p2, _⟩ := h1
  obtain ⟨_, g1, g2, g3, _⟩ := p1
  match cs, hl with
  | [x0, x1, x2, x3, x4], _ =>
    obtain ⟨v6, e1⟩ := g1
    obtain ⟨hi, e2, r2⟩ := g2
    obtain ⟨lo, e3, r3⟩ := g3
    obtain ⟨bits, e4, r4⟩ := p2
    obtain ⟨act, e5, r5⟩ := h3
    simp at e1 e2 e3 e4 e5
    subst e1 e2 e3 e4 e5
    have b2 := bounds_u64 r2
    have b3 := bounds_u64 r3
    exact ⟨v6, hi, lo, bits, act, rfl, ⟨b2.1, b2.2, b3.1, b3.2⟩⟩
namespace aclMore
def inv (W : World) : Prop := I13 W
theorem inv_of {W : World} (h : laidMet Tryd.prog Rows.aclMoreUptoRow.laid W) (hs : W.ShapedOpen Tryd.prog) : inv W :=
  I13_of h (List.mem_of_getElem? (i := 2) (by kernel_rfl)) (List.mem_of_getElem? (i := 1) (by kernel_rfl))
theorem returns (W : World) (args : Array Value) (hI : inv W) (hF : FitAll TT W 1048576 Tryd.f7.params.toList args.toList) : Ret Tryd.prog 7 args.toList W (.bool true) := by
  rw [show Tryd.f7.params.toList = [22, 36, 32] by kernel_rfl] at hF
  generalize args.toList = l at hF
  obtain ⟨a, l, rfl, ha, hF⟩ := fitAll_cons hF
  obtain ⟨o, l, rfl, ho, hF⟩ := fitAll_cons hF
  obtain ⟨t, l, rfl, ht, hF⟩ := fitAll_cons hF
  obtain rfl := fitAll_nil hF
  obtain ⟨rs, h1, h2, h3⟩ := fit_rules ha
  obtain ⟨ad, cap, rfl⟩ := slAt_slice ha h3
  obtain ⟨v6, hi, lo, bits, act, rfl, h4⟩ := fit_rule1 ho
  obtain ⟨av6, ahi, alo, rfl, r4, r5⟩ := fit_addr ht
  exact more_ret ad cap rs v6 hi lo bits act av6 ahi alo W ⟨hI, h3⟩ h1 h2 h4 r4 r5
end aclMore
end Go.Proofs.YtopadpgpmkkpgaaDoor
