/-
  AclTexts: whatever the address and the text (of at most 1048576 bytes), the statement's function hands back true.
-/
import Derived.Test.YtopadpgpmkkpgaaGreatDoorTextsb
import Derived.Test.YtopadpgpmkkpgaaGreatDoorRows
import Derived.Test.YtopadpgpmkkpgaaGreatDoorSxb
set_option linter.unusedVariables false
set_option linter.unusedSimpArgs false
set_option linter.unnecessarySimpa false
set_option maxRecDepth 100000
namespace Go.Proofs.YtopadpgpmkkpgaaGreatDoor
open Go.SX
/-! ### Plain laws: bytes of addresses -/
def sp (N : Int) : Int × Int := (N / 18446744073709551616, N % 18446744073709551616)
theorem sp_step (N k : Int) (h : 0 ≤ N ∧ N < 1329227995784915872903807060280344576) (hk : 0 ≤ k ∧ k < 256) : stepU false (sp N) k = sp (N * 256 + k) := by
  unfold sp
  rw [step4 _ _ _ (by omega) hk]
  apply Prod.ext <;> simp only <;> omega
theorem sp_fold : ∀ (l : List Int) (N : Int) (m : Nat), (0 ≤ N ∧ N < 256 ^ m) → m + l.length ≤ 16 → (∀ k, k ∈ l → 0 ≤ k ∧ k < 256) → l.foldl (stepU false) (sp N) = sp (l.foldl (fun N k => N * 256 + k) N)
  | [], N, m, _, _, _ => rfl
  | k :: l, N, m, hN, hm, hk => by
    have h1 := hk k (List.mem_cons_self ..)
    have hp : (256 : Int) ^ m ≤ 256 ^ 15 := by
      have : (256 ^ m : Nat) ≤ 256 ^ 15 := Nat.pow_le_pow_right (by omega) (by simp at hm; omega)
      exact_mod_cast this
    have hp2 : (256 : Int) ^ 15 = 1329227995784915872903807060280344576 := by decide
    rw [List.foldl_cons, sp_step N k (by omega) h1, List.foldl_cons]
    refine sp_fold l _ (m + 1) ?_ (by simp at hm; omega) fun x hx => hk x (List.mem_cons_of_mem _ hx)
    have e : (256 : Int) ^ (m + 1) = 256 ^ m * 256 := Int.pow_succ ..
    rw [e]
    omega
theorem B8_range (x : Int) (n : Int) (h : n ∈ B8 x) : 0 ≤ n ∧ n < 256 := by
  simp only [B8, w8, List.mem_cons, List.not_mem_nil, or_false] at h
  omega
theorem bits_range (v6 : Bool) (hi lo n : Int) (h : n ∈ bitsOf v6 hi lo) : 0 ≤ n ∧ n < 256 := by
  unfold bitsOf at h
  split at h
  · rcases List.mem_append.1 h with h | h
    · exact B8_range _ _ h
    · exact B8_range _ _ h
  · exact B8_range lo n (List.mem_of_mem_drop h)
theorem B8_val (x N : Int) (hx : 0 ≤ x ∧ x ≤ 18446744073709551615) : (B8 x).foldl (fun N k => N * 256 + k) N = N * 18446744073709551616 + x := by
  simp only [B8, w8, List.foldl_cons, List.foldl_nil]
  omega
theorem sInts_bits (v6 : Bool) (hi lo : Int) : sInts (strOfNums (bitsOf v6 hi lo)) = bitsOf v6 hi lo := sInts_str _ fun n hn => by have := bits_range v6 hi lo n hn; omega
theorem cand_bits6 (hi lo : Int) (hh : 0 ≤ hi ∧ hi ≤ 18446744073709551615) (hl : 0 ≤ lo ∧ lo ≤ 18446744073709551615) : candU false (bitsOf true hi lo) = (hi, lo) := by
  unfold candU
  have h := sp_fold (bitsOf true hi lo) 0 0 (by decide) (by simp [bitsOf, B8]) (bits_range true hi lo)
  have e : sp 0 = (0, 0) := rfl
  rw [e] at h
  rw [h]
  have e2 : bitsOf true hi lo = B8 hi ++ B8 lo := rfl
  rw [e2, List.foldl_append, B8_val hi 0 hh, B8_val lo _ hl]
  unfold sp
  apply Prod.ext <;> simp only <;> omega
theorem cand_bits4 (lo : Int) (hl : 0 ≤ lo ∧ lo < 4294967296) : candU false (bitsOf false 0 lo) = (0, lo) := by
  unfold candU
  have h := sp_fold (bitsOf false 0 lo) 0 0 (by decide) (by simp [bitsOf, B8]) (bits_range false 0 lo)
  have e : sp 0 = (0, 0) := rfl
  rw [e] at h
  rw [h]
  simp only [bitsOf, B8, w8, Bool.false_eq_true, if_false, List.drop, List.foldl_cons, List.foldl_nil]
  unfold sp
  apply Prod.ext <;> simp only <;> omega
theorem strOf_sInts (d : ByteArray) : strOfNums (sInts d) = d := sInts_inj (sInts_str _ (sInts_range d))
theorem any4 (d : ByteArray) (hd : d.size = 4) : ∃ lo, (0 ≤ lo ∧ lo < 4294967296) ∧ d = strOfNums (bitsOf false 0 lo) := by
  have hl : (sInts d).length = 4 := by rw [sInts_length, hd]
  have hr := sInts_range d
  have hs := strOf_sInts d
  obtain ⟨b0, b1, b2, b3, hb⟩ := list4 hl
  rw [hb] at hr hs
  have r0 := hr b0 (by simp)
  have r1 := hr b1 (by simp)
  have r2 := hr b2 (by simp)
  have r3 := hr b3 (by simp)
  refine ⟨b0 * 16777216 + b1 * 65536 + b2 * 256 + b3, by omega, ?_⟩
  rw [← hs]
  congr 1
  simp only [bitsOf, B8, w8, Bool.false_eq_true, if_false, List.drop, List.cons.injEq, and_true]
  omega
theorem list16 {α : Type} {l : List α} (h : l.length = 16) : ∃ a0 a1 a2 a3 a4 a5 a6 a7 b0 b1 b2 b3 b4 b5 b6 b7, l = [a0, a1, a2, a3, a4, a5, a6, a7, b0, b1, b2, b3, b4, b5, b6, b7] := by
  match l, h with
  | [a0, a1, a2, a3, a4, a5, a6, a7, b0, b1, b2, b3, b4, b5, b6, b7], _ => exact ⟨_, _, _, _, _, _, _, _, _, _, _, _, _, _, _, _, rfl⟩
theorem any8 (b0 b1 b2 b3 b4 b5 b6 b7 : Int) (r0 : 0 ≤ b0 ∧ b0 ≤ 255) (r1 : 0 ≤ b1 ∧ b1 ≤ 255) (r2 : 0 ≤ b2 ∧ b2 ≤ 255) (r3 : 0 ≤ b3 ∧ b3 ≤ 255) (r4 : 0 ≤ b4 ∧ b4 ≤ 255) (r5 : 0 ≤ b5 ∧ b5 ≤ 255) (r6 : 0 ≤ b6 ∧ b6 ≤ 255) (r7 : 0 ≤ b7 ∧ b7 ≤ 255) :
    ∃ x, (0 ≤ x ∧ x ≤ 18446744073709551615) ∧ B8 x = [b0, b1, b2, b3, b4, b5, b6, b7] := by
  refine ⟨b0 * 72057594037927936 + b1 * 281474976710656 + b2 * 1099511627776 + b3 * 4294967296 + b4 * 16777216 + b5 * 65536 + b6 * 256 + b7, by omega, ?_⟩
  simp only [B8, w8, List.cons.injEq, and_true]
  refine ⟨?_, ?_, ?_, ?_, ?_, ?_, ?_, ?_⟩ <;> omega
theorem any6 (d : ByteArray) (hd : d.size = 16) : ∃ hi lo, (0 ≤ hi ∧ hi ≤ 18446744073709551615) ∧ (0 ≤ lo ∧ lo ≤ 18446744073709551615) ∧ d = strOfNums (bitsOf true hi lo) := by
  have hl : (sInts d).length = 16 := by rw [sInts_length, hd]
  have hr := sInts_range d
  have hs := strOf_sInts d
  obtain ⟨a0, a1, a2, a3, a4, a5, a6, a7, b0, b1, b2, b3, b4, b5, b6, b7, hb⟩ := list16 hl
  rw [hb] at hr hs
  obtain ⟨hi, h1, h2⟩ := any8 a0 a1 a2 a3 a4 a5 a6 a7 (hr _ (by simp)) (hr _ (by simp)) (hr _ (by simp)) (hr _ (by simp)) (hr _ (by simp)) (hr _ (by simp)) (hr _ (by simp)) (hr _ (by simp))
  obtain ⟨lo, h3, h4⟩ := any8 b0 b1 b2 b3 b4 b5 b6 b7 (hr _ (by simp)) (hr _ (by simp)) (hr _ (by simp)) (hr _ (by simp)) (hr _ (by simp)) (hr _ (by simp)) (hr _ (by simp)) (hr _ (by simp))
  refine ⟨hi, lo, h1, h3, ?_⟩
  rw [← hs]
  congr 1
  show _ = B8 hi ++ B8 lo
  rw [h2, h4]
  rfl
theorem a4_text (hi lo : Int) : a4 (strOfNums (bitsOf false hi lo)) = addrText false hi lo := by
  have hb : bitsOf false hi lo = [lo / 16777216 % 256, lo / 65536 % 256, lo / 256 % 256, lo / 1 % 256] := by simp only [bitsOf, B8, w8, Bool.false_eq_true, if_false, List.drop]
  rw [hb]
  unfold a4
  have e0 : bAt (strOfNums [lo / 16777216 % 256, lo / 65536 % 256, lo / 256 % 256, lo / 1 % 256]) (0) = lo / 16777216 % 256 := bAt_nums [lo / 16777216 % 256, lo / 65536 % 256, lo / 256 % 256, lo / 1 % 256] 0 _ rfl (by omega)
  have e1 : bAt (strOfNums [lo / 16777216 % 256, lo / 65536 % 256, lo / 256 % 256, lo / 1 % 256]) (0 + 1) = lo / 65536 % 256 := bAt_nums [lo / 16777216 % 256, lo / 65536 % 256, lo / 256 % 256, lo / 1 % 256] 1 _ rfl (by omega)
  have e2 : bAt (strOfNums [lo / 16777216 % 256, lo / 65536 % 256, lo / 256 % 256, lo / 1 % 256]) (0 + 1 + 1) = lo / 256 % 256 := bAt_nums [lo / 16777216 % 256, lo / 65536 % 256, lo / 256 % 256, lo / 1 % 256] 2 _ rfl (by omega)
  have e3 : bAt (strOfNums [lo / 16777216 % 256, lo / 65536 % 256, lo / 256 % 256, lo / 1 % 256]) (0 + 1 + 1 + 1) = lo / 1 % 256 := bAt_nums [lo / 16777216 % 256, lo / 65536 % 256, lo / 256 % 256, lo / 1 % 256] 3 _ rfl (by omega)
  rw [e0, e1, e2, e3]
  apply ByteArray.ext
  apply Array.toList_inj.1
  rw [addr_data]
  simp only [ByteArray.data_append, Array.toList_append, partsS, grp4, Bool.false_eq_true, if_false, List.map_cons, List.map_nil, Lib.join_cons, Lib.joinTail, List.flatten_cons, List.flatten_nil, sepC]
  simp
theorem a6_text (hi lo : Int) : a6 (strOfNums (bitsOf true hi lo)) = addrText true hi lo := by
  have hb : bitsOf true hi lo = [hi / 72057594037927936 % 256, hi / 281474976710656 % 256, hi / 1099511627776 % 256, hi / 4294967296 % 256, hi / 16777216 % 256, hi / 65536 % 256, hi / 256 % 256, hi / 1 % 256, lo / 72057594037927936 % 256, lo / 281474976710656 % 256, lo / 1099511627776 % 256, lo / 4294967296 % 256, lo / 16777216 % 256, lo / 65536 % 256, lo / 256 % 256, lo / 1 % 256] := by simp only [bitsOf, B8, w8, if_true, List.cons_append, List.nil_append]
  rw [hb]
  unfold a6
  have e0 : 256 * bAt (strOfNums [hi / 72057594037927936 % 256, hi / 281474976710656 % 256, hi / 1099511627776 % 256, hi / 4294967296 % 256, hi / 16777216 % 256, hi / 65536 % 256, hi / 256 % 256, hi / 1 % 256, lo / 72057594037927936 % 256, lo / 281474976710656 % 256, lo / 1099511627776 % 256, lo / 4294967296 % 256, lo / 16777216 % 256, lo / 65536 % 256, lo / 256 % 256, lo / 1 % 256]) (0) + bAt (strOfNums [hi / 72057594037927936 % 256, hi / 281474976710656 % 256, hi / 1099511627776 % 256, hi / 4294967296 % 256, hi / 16777216 % 256, hi / 65536 % 256, hi / 256 % 256, hi / 1 % 256, lo / 72057594037927936 % 256, lo / 281474976710656 % 256, lo / 1099511627776 % 256, lo / 4294967296 % 256, lo / 16777216 % 256, lo / 65536 % 256, lo / 256 % 256, lo / 1 % 256]) (0 + 1) = hi / 281474976710656 % 65536 := by
    have h1 := bAt_nums [hi / 72057594037927936 % 256, hi / 281474976710656 % 256, hi / 1099511627776 % 256, hi / 4294967296 % 256, hi / 16777216 % 256, hi / 65536 % 256, hi / 256 % 256, hi / 1 % 256, lo / 72057594037927936 % 256, lo / 281474976710656 % 256, lo / 1099511627776 % 256, lo / 4294967296 % 256, lo / 16777216 % 256, lo / 65536 % 256, lo / 256 % 256, lo / 1 % 256] 0 (hi / 72057594037927936 % 256) rfl (by omega)
    have h2 := bAt_nums [hi / 72057594037927936 % 256, hi / 281474976710656 % 256, hi / 1099511627776 % 256, hi / 4294967296 % 256, hi / 16777216 % 256, hi / 65536 % 256, hi / 256 % 256, hi / 1 % 256, lo / 72057594037927936 % 256, lo / 281474976710656 % 256, lo / 1099511627776 % 256, lo / 4294967296 % 256, lo / 16777216 % 256, lo / 65536 % 256, lo / 256 % 256, lo / 1 % 256] 1 (hi / 281474976710656 % 256) rfl (by omega)
    have h1' : bAt (strOfNums [hi / 72057594037927936 % 256, hi / 281474976710656 % 256, hi / 1099511627776 % 256, hi / 4294967296 % 256, hi / 16777216 % 256, hi / 65536 % 256, hi / 256 % 256, hi / 1 % 256, lo / 72057594037927936 % 256, lo / 281474976710656 % 256, lo / 1099511627776 % 256, lo / 4294967296 % 256, lo / 16777216 % 256, lo / 65536 % 256, lo / 256 % 256, lo / 1 % 256]) (0) = hi / 72057594037927936 % 256 := h1
    have h2' : bAt (strOfNums [hi / 72057594037927936 % 256, hi / 281474976710656 % 256, hi / 1099511627776 % 256, hi / 4294967296 % 256, hi / 16777216 % 256, hi / 65536 % 256, hi / 256 % 256, hi / 1 % 256, lo / 72057594037927936 % 256, lo / 281474976710656 % 256, lo / 1099511627776 % 256, lo / 4294967296 % 256, lo / 16777216 % 256, lo / 65536 % 256, lo / 256 % 256, lo / 1 % 256]) (0 + 1) = hi / 281474976710656 % 256 := h2
    rw [h1', h2']
    omega
  have e1 : 256 * bAt (strOfNums [hi / 72057594037927936 % 256, hi / 281474976710656 % 256, hi / 1099511627776 % 256, hi / 4294967296 % 256, hi / 16777216 % 256, hi / 65536 % 256, hi / 256 % 256, hi / 1 % 256, lo / 72057594037927936 % 256, lo / 281474976710656 % 256, lo / 1099511627776 % 256, lo / 4294967296 % 256, lo / 16777216 % 256, lo / 65536 % 256, lo / 256 % 256, lo / 1 % 256]) (0 + 2) + bAt (strOfNums [hi / 72057594037927936 % 256, hi / 281474976710656 % 256, hi / 1099511627776 % 256, hi / 4294967296 % 256, hi / 16777216 % 256, hi / 65536 % 256, hi / 256 % 256, hi / 1 % 256, lo / 72057594037927936 % 256, lo / 281474976710656 % 256, lo / 1099511627776 % 256, lo / 4294967296 % 256, lo / 16777216 % 256, lo / 65536 % 256, lo / 256 % 256, lo / 1 % 256]) (0 + 2 + 1) = hi / 4294967296 % 65536 := by
    have h1 := bAt_nums [hi / 72057594037927936 % 256, hi / 281474976710656 % 256, hi / 1099511627776 % 256, hi / 4294967296 % 256, hi / 16777216 % 256, hi / 65536 % 256, hi / 256 % 256, hi / 1 % 256, lo / 72057594037927936 % 256, lo / 281474976710656 % 256, lo / 1099511627776 % 256, lo / 4294967296 % 256, lo / 16777216 % 256, lo / 65536 % 256, lo / 256 % 256, lo / 1 % 256] 2 (hi / 1099511627776 % 256) rfl (by omega)
    have h2 := bAt_nums [hi / 72057594037927936 % 256, hi / 281474976710656 % 256, hi / 1099511627776 % 256, hi / 4294967296 % 256, hi / 16777216 % 256, hi / 65536 % 256, hi / 256 % 256, hi / 1 % 256, lo / 72057594037927936 % 256, lo / 281474976710656 % 256, lo / 1099511627776 % 256, lo / 4294967296 % 256, lo / 16777216 % 256, lo / 65536 % 256, lo / 256 % 256, lo / 1 % 256] 3 (hi / 4294967296 % 256) rfl (by omega)
    have h1' : bAt (strOfNums [hi / 72057594037927936 % 256, hi / 281474976710656 % 256, hi / 1099511627776 % 256, hi / 4294967296 % 256, hi / 16777216 % 256, hi / 65536 % 256, hi / 256 % 256, hi / 1 % 256, lo / 72057594037927936 % 256, lo / 281474976710656 % 256, lo / 1099511627776 % 256, lo / 4294967296 % 256, lo / 16777216 % 256, lo / 65536 % 256, lo / 256 % 256, lo / 1 % 256]) (0 + 2) = hi / 1099511627776 % 256 := h1
    have h2' : bAt (strOfNums [hi / 72057594037927936 % 256, hi / 281474976710656 % 256, hi / 1099511627776 % 256, hi / 4294967296 % 256, hi / 16777216 % 256, hi / 65536 % 256, hi / 256 % 256, hi / 1 % 256, lo / 72057594037927936 % 256, lo / 281474976710656 % 256, lo / 1099511627776 % 256, lo / 4294967296 % 256, lo / 16777216 % 256, lo / 65536 % 256, lo / 256 % 256, lo / 1 % 256]) (0 + 2 + 1) = hi / 4294967296 % 256 := h2
    rw [h1', h2']
    omega
  have e2 : 256 * bAt (strOfNums [hi / 72057594037927936 % 256, hi / 281474976710656 % 256, hi / 1099511627776 % 256, hi / 4294967296 % 256, hi / 16777216 % 256, hi / 65536 % 256, hi / 256 % 256, hi / 1 % 256, lo / 72057594037927936 % 256, lo / 281474976710656 % 256, lo / 1099511627776 % 256, lo / 4294967296 % 256, lo / 16777216 % 256, lo / 65536 % 256, lo / 256 % 256, lo / 1 % 256]) (0 + 2 + 2) + bAt (strOfNums [hi / 72057594037927936 % 256, hi / 281474976710656 % 256, hi / 1099511627776 % 256, hi / 4294967296 % 256, hi / 16777216 % 256, hi / 65536 % 256, hi / 256 % 256, hi / 1 % 256, lo / 72057594037927936 % 256, lo / 281474976710656 % 256, lo / 1099511627776 % 256, lo / 4294967296 % 256, lo / 16777216 % 256, lo / 65536 % 256, lo / 256 % 256, lo / 1 % 256]) (0 + 2 + 2 + 1) = hi / 65536 % 65536 := by
    have h1 := bAt_nums [hi / 72057594037927936 % 256, hi / 281474976710656 % 256, hi / 1099511627776 % 256, hi / 4294967296 % 256, hi / 16777216 % 256, hi / 65536 % 256, hi / 256 % 256, hi / 1 % 256, lo / 72057594037927936 % 256, lo / 281474976710656 % 256, lo / 1099511627776 % 256, lo / 4294967296 % 256, lo / 16777216 % 256, lo / 65536 % 256, lo / 256 % 256, lo / 1 % 256] 4 (hi / 16777216 % 256) rfl (by omega)
    have h2 := bAt_nums [hi / 72057594037927936 % 256, hi / 281474976710656 % 256, hi / 1099511627776 % 256, hi / 4294967296 % 256, hi / 16777216 % 256, hi / 65536 % 256, hi / 256 % 256, hi / 1 % 256, lo / 72057594037927936 % 256, lo / 281474976710656 % 256, lo / 1099511627776 % 256, lo / 4294967296 % 256, lo / 16777216 % 256, lo / 65536 % 256, lo / 256 % 256, lo / 1 % 256] 5 (hi / 65536 % 256) rfl (by omega)
    have h1' : bAt (strOfNums [hi / 72057594037927936 % 256, hi / 281474976710656 % 256, hi / 1099511627776 % 256, hi / 4294967296 % 256, hi / 16777216 % 256, hi / 65536 % 256, hi / 256 % 256, hi / 1 % 256, lo / 72057594037927936 % 256, lo / 281474976710656 % 256, lo / 1099511627776 % 256, lo / 4294967296 % 256, lo / 16777216 % 256, lo / 65536 % 256, lo / 256 % 256, lo / 1 % 256]) (0 + 2 + 2) = hi / 16777216 % 256 := h1
    have h2' : bAt (strOfNums [hi / 72057594037927936 % 256, hi / 281474976710656 % 256, hi / 1099511627776 % 256, hi / 4294967296 % 256, hi / 16777216 % 256, hi / 65536 % 256, hi / 256 % 256, hi / 1 % 256, lo / 72057594037927936 % 256, lo / 281474976710656 % 256, lo / 1099511627776 % 256, lo / 4294967296 % 256, lo / 16777216 % 256, lo / 65536 % 256, lo / 256 % 256, lo / 1 % 256]) (0 + 2 + 2 + 1) = hi / 65536 % 256 := h2
    rw [h1', h2']
    omega
  have e3 : 256 * bAt (strOfNums [hi / 72057594037927936 % 256, hi / 281474976710656 % 256, hi / 1099511627776 % 256, hi / 4294967296 % 256, hi / 16777216 % 256, hi / 65536 % 256, hi / 256 % 256, hi / 1 % 256, lo / 72057594037927936 % 256, lo / 281474976710656 % 256, lo / 1099511627776 % 256, lo / 4294967296 % 256, lo / 16777216 % 256, lo / 65536 % 256, lo / 256 % 256, lo / 1 % 256]) (0 + 2 + 2 + 2) + bAt (strOfNums [hi / 72057594037927936 % 256, hi / 281474976710656 % 256, hi / 1099511627776 % 256, hi / 4294967296 % 256, hi / 16777216 % 256, hi / 65536 % 256, hi / 256 % 256, hi / 1 % 256, lo / 72057594037927936 % 256, lo / 281474976710656 % 256, lo / 1099511627776 % 256, lo / 4294967296 % 256, lo / 16777216 % 256, lo / 65536 % 256, lo / 256 % 256, lo / 1 % 256]) (0 + 2 + 2 + 2 + 1) = hi / 1 % 65536 := by
    have h1 := bAt_nums [hi / 72057594037927936 % 256, hi / 281474976710656 % 256, hi / 1099511627776 % 256, hi / 4294967296 % 256, hi / 16777216 % 256, hi / 65536 % 256, hi / 256 % 256, hi / 1 % 256, lo / 72057594037927936 % 256, lo / 281474976710656 % 256, lo / 1099511627776 % 256, lo / 4294967296 % 256, lo / 16777216 % 256, lo / 65536 % 256, lo / 256 % 256, lo / 1 % 256] 6 (hi / 256 % 256) rfl (by omega)
    have h2 := bAt_nums [hi / 72057594037927936 % 256, hi / 281474976710656 % 256, hi / 1099511627776 % 256, hi / 4294967296 % 256, hi / 16777216 % 256, hi / 65536 % 256, hi / 256 % 256, hi / 1 % 256, lo / 72057594037927936 % 256, lo / 281474976710656 % 256, lo / 1099511627776 % 256, lo / 4294967296 % 256, lo / 16777216 % 256, lo / 65536 % 256, lo / 256 % 256, lo / 1 % 256] 7 (hi / 1 % 256) rfl (by omega)
    have h1' : bAt (strOfNums [hi / 72057594037927936 % 256, hi / 281474976710656 % 256, hi / 1099511627776 % 256, hi / 4294967296 % 256, hi / 16777216 % 256, hi / 65536 % 256, hi / 256 % 256, hi / 1 % 256, lo / 72057594037927936 % 256, lo / 281474976710656 % 256, lo / 1099511627776 % 256, lo / 4294967296 % 256, lo / 16777216 % 256, lo / 65536 % 256, lo / 256 % 256, lo / 1 % 256]) (0 + 2 + 2 + 2) = hi / 256 % 256 := h1
    have h2' : bAt (strOfNums [hi / 72057594037927936 % 256, hi / 281474976710656 % 256, hi / 1099511627776 % 256, hi / 4294967296 % 256, hi / 16777216 % 256, hi / 65536 % 256, hi / 256 % 256, hi / 1 % 256, lo / 72057594037927936 % 256, lo / 281474976710656 % 256, lo / 1099511627776 % 256, lo / 4294967296 % 256, lo / 16777216 % 256, lo / 65536 % 256, lo / 256 % 256, lo / 1 % 256]) (0 + 2 + 2 + 2 + 1) = hi / 1 % 256 := h2
    rw [h1', h2']
    omega
  have e4 : 256 * bAt (strOfNums [hi / 72057594037927936 % 256, hi / 281474976710656 % 256, hi / 1099511627776 % 256, hi / 4294967296 % 256, hi / 16777216 % 256, hi / 65536 % 256, hi / 256 % 256, hi / 1 % 256, lo / 72057594037927936 % 256, lo / 281474976710656 % 256, lo / 1099511627776 % 256, lo / 4294967296 % 256, lo / 16777216 % 256, lo / 65536 % 256, lo / 256 % 256, lo / 1 % 256]) (0 + 2 + 2 + 2 + 2) + bAt (strOfNums [hi / 72057594037927936 % 256, hi / 281474976710656 % 256, hi / 1099511627776 % 256, hi / 4294967296 % 256, hi / 16777216 % 256, hi / 65536 % 256, hi / 256 % 256, hi / 1 % 256, lo / 72057594037927936 % 256, lo / 281474976710656 % 256, lo / 1099511627776 % 256, lo / 4294967296 % 256, lo / 16777216 % 256, lo / 65536 % 256, lo / 256 % 256, lo / 1 % 256]) (0 + 2 + 2 + 2 + 2 + 1) = lo / 281474976710656 % 65536 := by
    have h1 := bAt_nums [hi / 72057594037927936 % 256, hi / 281474976710656 % 256, hi / 1099511627776 % 256, hi / 4294967296 % 256, hi / 16777216 % 256, hi / 65536 % 256, hi / 256 % 256, hi / 1 % 256, lo / 72057594037927936 % 256, lo / 281474976710656 % 256, lo / 1099511627776 % 256, lo / 4294967296 % 256, lo / 16777216 % 256, lo / 65536 % 256, lo / 256 % 256, lo / 1 % 256] 8 (lo / 72057594037927936 % 256) rfl (by omega)
    have h2 := bAt_nums [hi / 72057594037927936 % 256, hi / 281474976710656 % 256, hi / 1099511627776 % 256, hi / 4294967296 % 256, hi / 16777216 % 256, hi / 65536 % 256, hi / 256 % 256, hi / 1 % 256, lo / 72057594037927936 % 256, lo / 281474976710656 % 256, lo / 1099511627776 % 256, lo / 4294967296 % 256, lo / 16777216 % 256, lo / 65536 % 256, lo / 256 % 256, lo / 1 % 256] 9 (lo / 281474976710656 % 256) rfl (by omega)
    have h1' : bAt (strOfNums [hi / 72057594037927936 % 256, hi / 281474976710656 % 256, hi / 1099511627776 % 256, hi / 4294967296 % 256, hi / 16777216 % 256, hi / 65536 % 256, hi / 256 % 256, hi / 1 % 256, lo / 72057594037927936 % 256, lo / 281474976710656 % 256, lo / 1099511627776 % 256, lo / 4294967296 % 256, lo / 16777216 % 256, lo / 65536 % 256, lo / 256 % 256, lo / 1 % 256]) (0 + 2 + 2 + 2 + 2) = lo / 72057594037927936 % 256 := h1
    have h2' : bAt (strOfNums [hi / 72057594037927936 % 256, hi / 281474976710656 % 256, hi / 1099511627776 % 256, hi / 4294967296 % 256, hi / 16777216 % 256, hi / 65536 % 256, hi / 256 % 256, hi / 1 % 256, lo / 72057594037927936 % 256, lo / 281474976710656 % 256, lo / 1099511627776 % 256, lo / 4294967296 % 256, lo / 16777216 % 256, lo / 65536 % 256, lo / 256 % 256, lo / 1 % 256]) (0 + 2 + 2 + 2 + 2 + 1) = lo / 281474976710656 % 256 := h2
    rw [h1', h2']
    omega
  have e5 : 256 * bAt (strOfNums [hi / 72057594037927936 % 256, hi / 281474976710656 % 256, hi / 1099511627776 % 256, hi / 4294967296 % 256, hi / 16777216 % 256, hi / 65536 % 256, hi / 256 % 256, hi / 1 % 256, lo / 72057594037927936 % 256, lo / 281474976710656 % 256, lo / 1099511627776 % 256, lo / 4294967296 % 256, lo / 16777216 % 256, lo / 65536 % 256, lo / 256 % 256, lo / 1 % 256]) (0 + 2 + 2 + 2 + 2 + 2) + bAt (strOfNums [hi / 72057594037927936 % 256, hi / 281474976710656 % 256, hi / 1099511627776 % 256, hi / 4294967296 % 256, hi / 16777216 % 256, hi / 65536 % 256, hi / 256 % 256, hi / 1 % 256, lo / 72057594037927936 % 256, lo / 281474976710656 % 256, lo / 1099511627776 % 256, lo / 4294967296 % 256, lo / 16777216 % 256, lo / 65536 % 256, lo / 256 % 256, lo / 1 % 256]) (0 + 2 + 2 + 2 + 2 + 2 + 1) = lo / 4294967296 % 65536 := by
    have h1 := bAt_nums [hi / 72057594037927936 % 256, hi / 281474976710656 % 256, hi / 1099511627776 % 256, hi / 4294967296 % 256, hi / 16777216 % 256, hi / 65536 % 256, hi / 256 % 256, hi / 1 % 256, lo / 72057594037927936 % 256, lo / 281474976710656 % 256, lo / 1099511627776 % 256, lo / 4294967296 % 256, lo / 16777216 % 256, lo / 65536 % 256, lo / 256 % 256, lo / 1 % 256] 10 (lo / 1099511627776 % 256) rfl (by omega)
    have h2 := bAt_nums [hi / 72057594037927936 % 256, hi / 281474976710656 % 256, hi / 1099511627776 % 256, hi / 4294967296 % 256, hi / 16777216 % 256, hi / 65536 % 256, hi / 256 % 256, hi / 1 % 256, lo / 72057594037927936 % 256, lo / 281474976710656 % 256, lo / 1099511627776 % 256, lo / 4294967296 % 256, lo / 16777216 % 256, lo / 65536 % 256, lo / 256 % 256, lo / 1 % 256] 11 (lo / 4294967296 % 256) rfl (by omega)
    have h1' : bAt (strOfNums [hi / 72057594037927936 % 256, hi / 281474976710656 % 256, hi / 1099511627776 % 256, hi / 4294967296 % 256, hi / 16777216 % 256, hi / 65536 % 256, hi / 256 % 256, hi / 1 % 256, lo / 72057594037927936 % 256, lo / 281474976710656 % 256, lo / 1099511627776 % 256, lo / 4294967296 % 256, lo / 16777216 % 256, lo / 65536 % 256, lo / 256 % 256, lo / 1 % 256]) (0 + 2 + 2 + 2 + 2 + 2) = lo / 1099511627776 % 256 := h1
    have h2' : bAt (strOfNums [hi / 72057594037927936 % 256, hi / 281474976710656 % 256, hi / 1099511627776 % 256, hi / 4294967296 % 256, hi / 16777216 % 256, hi / 65536 % 256, hi / 256 % 256, hi / 1 % 256, lo / 72057594037927936 % 256, lo / 281474976710656 % 256, lo / 1099511627776 % 256, lo / 4294967296 % 256, lo / 16777216 % 256, lo / 65536 % 256, lo / 256 % 256, lo / 1 % 256]) (0 + 2 + 2 + 2 + 2 + 2 + 1) = lo / 4294967296 % 256 := h2
    rw [h1', h2']
    omega
  have e6 : 256 * bAt (strOfNums [hi / 72057594037927936 % 256, hi / 281474976710656 % 256, hi / 1099511627776 % 256, hi / 4294967296 % 256, hi / 16777216 % 256, hi / 65536 % 256, hi / 256 % 256, hi / 1 % 256, lo / 72057594037927936 % 256, lo / 281474976710656 % 256, lo / 1099511627776 % 256, lo / 4294967296 % 256, lo / 16777216 % 256, lo / 65536 % 256, lo / 256 % 256, lo / 1 % 256]) (0 + 2 + 2 + 2 + 2 + 2 + 2) + bAt (strOfNums [hi / 72057594037927936 % 256, hi / 281474976710656 % 256, hi / 1099511627776 % 256, hi / 4294967296 % 256, hi / 16777216 % 256, hi / 65536 % 256, hi / 256 % 256, hi / 1 % 256, lo / 72057594037927936 % 256, lo / 281474976710656 % 256, lo / 1099511627776 % 256, lo / 4294967296 % 256, lo / 16777216 % 256, lo / 65536 % 256, lo / 256 % 256, lo / 1 % 256]) (0 + 2 + 2 + 2 + 2 + 2 + 2 + 1) = lo / 65536 % 65536 := by
    have h1 := bAt_nums [hi / 72057594037927936 % 256, hi / 281474976710656 % 256, hi / 1099511627776 % 256, hi / 4294967296 % 256, hi / 16777216 % 256, hi / 65536 % 256, hi / 256 % 256, hi / 1 % 256, lo / 72057594037927936 % 256, lo / 281474976710656 % 256, lo / 1099511627776 % 256, lo / 4294967296 % 256, lo / 16777216 % 256, lo / 65536 % 256, lo / 256 % 256, lo / 1 % 256] 12 (lo / 16777216 % 256) rfl (by omega)
    have h2 := bAt_nums [hi / 72057594037927936 % 256, hi / 281474976710656 % 256, hi / 1099511627776 % 256, hi / 4294967296 % 256, hi / 16777216 % 256, hi / 65536 % 256, hi / 256 % 256, hi / 1 % 256, lo / 72057594037927936 % 256, lo / 281474976710656 % 256, lo / 1099511627776 % 256, lo / 4294967296 % 256, lo / 16777216 % 256, lo / 65536 % 256, lo / 256 % 256, lo / 1 % 256] 13 (lo / 65536 % 256) rfl (by omega)
    have h1' : bAt (strOfNums [hi / 72057594037927936 % 256, hi / 281474976710656 % 256, hi / 1099511627776 % 256, hi / 4294967296 % 256, hi / 16777216 % 256, hi / 65536 % 256, hi / 256 % 256, hi / 1 % 256, lo / 72057594037927936 % 256, lo / 281474976710656 % 256, lo / 1099511627776 % 256, lo / 4294967296 % 256, lo / 16777216 % 256, lo / 65536 % 256, lo / 256 % 256, lo / 1 % 256]) (0 + 2 + 2 + 2 + 2 + 2 + 2) = lo / 16777216 % 256 := h1
    have h2' : bAt (strOfNums [hi / 72057594037927936 % 256, hi / 281474976710656 % 256, hi / 1099511627776 % 256, hi / 4294967296 % 256, hi / 16777216 % 256, hi / 65536 % 256, hi / 256 % 256, hi / 1 % 256, lo / 72057594037927936 % 256, lo / 281474976710656 % 256, lo / 1099511627776 % 256, lo / 4294967296 % 256, lo / 16777216 % 256, lo / 65536 % 256, lo / 256 % 256, lo / 1 % 256]) (0 + 2 + 2 + 2 + 2 + 2 + 2 + 1) = lo / 65536 % 256 := h2
    rw [h1', h2']
    omega
  have e7 : 256 * bAt (strOfNums [hi / 72057594037927936 % 256, hi / 281474976710656 % 256, hi / 1099511627776 % 256, hi / 4294967296 % 256, hi / 16777216 % 256, hi / 65536 % 256, hi / 256 % 256, hi / 1 % 256, lo / 72057594037927936 % 256, lo / 281474976710656 % 256, lo / 1099511627776 % 256, lo / 4294967296 % 256, lo / 16777216 % 256, lo / 65536 % 256, lo / 256 % 256, lo / 1 % 256]) (0 + 2 + 2 + 2 + 2 + 2 + 2 + 2) + bAt (strOfNums [hi / 72057594037927936 % 256, hi / 281474976710656 % 256, hi / 1099511627776 % 256, hi / 4294967296 % 256, hi / 16777216 % 256, hi / 65536 % 256, hi / 256 % 256, hi / 1 % 256, lo / 72057594037927936 % 256, lo / 281474976710656 % 256, lo / 1099511627776 % 256, lo / 4294967296 % 256, lo / 16777216 % 256, lo / 65536 % 256, lo / 256 % 256, lo / 1 % 256]) (0 + 2 + 2 + 2 + 2 + 2 + 2 + 2 + 1) = lo / 1 % 65536 := by
    have h1 := bAt_nums [hi / 72057594037927936 % 256, hi / 281474976710656 % 256, hi / 1099511627776 % 256, hi / 4294967296 % 256, hi / 16777216 % 256, hi / 65536 % 256, hi / 256 % 256, hi / 1 % 256, lo / 72057594037927936 % 256, lo / 281474976710656 % 256, lo / 1099511627776 % 256, lo / 4294967296 % 256, lo / 16777216 % 256, lo / 65536 % 256, lo / 256 % 256, lo / 1 % 256] 14 (lo / 256 % 256) rfl (by omega)
    have h2 := bAt_nums [hi / 72057594037927936 % 256, hi / 281474976710656 % 256, hi / 1099511627776 % 256, hi / 4294967296 % 256, hi / 16777216 % 256, hi / 65536 % 256, hi / 256 % 256, hi / 1 % 256, lo / 72057594037927936 % 256, lo / 281474976710656 % 256, lo / 1099511627776 % 256, lo / 4294967296 % 256, lo / 16777216 % 256, lo / 65536 % 256, lo / 256 % 256, lo / 1 % 256] 15 (lo / 1 % 256) rfl (by omega)
    have h1' : bAt (strOfNums [hi / 72057594037927936 % 256, hi / 281474976710656 % 256, hi / 1099511627776 % 256, hi / 4294967296 % 256, hi / 16777216 % 256, hi / 65536 % 256, hi / 256 % 256, hi / 1 % 256, lo / 72057594037927936 % 256, lo / 281474976710656 % 256, lo / 1099511627776 % 256, lo / 4294967296 % 256, lo / 16777216 % 256, lo / 65536 % 256, lo / 256 % 256, lo / 1 % 256]) (0 + 2 + 2 + 2 + 2 + 2 + 2 + 2) = lo / 256 % 256 := h1
    have h2' : bAt (strOfNums [hi / 72057594037927936 % 256, hi / 281474976710656 % 256, hi / 1099511627776 % 256, hi / 4294967296 % 256, hi / 16777216 % 256, hi / 65536 % 256, hi / 256 % 256, hi / 1 % 256, lo / 72057594037927936 % 256, lo / 281474976710656 % 256, lo / 1099511627776 % 256, lo / 4294967296 % 256, lo / 16777216 % 256, lo / 65536 % 256, lo / 256 % 256, lo / 1 % 256]) (0 + 2 + 2 + 2 + 2 + 2 + 2 + 2 + 1) = lo / 1 % 256 := h2
    rw [h1', h2']
    omega
  rw [e0, e1, e2, e3, e4, e5, e6, e7]
  apply ByteArray.ext
  apply Array.toList_inj.1
  rw [addr_data]
  simp only [ByteArray.data_append, Array.toList_append, partsS, grp6, if_true, List.map_cons, List.map_nil, Lib.join_cons, Lib.joinTail, List.flatten_cons, List.flatten_nil, sepC]
  simp
end Go.Proofs.YtopadpgpmkkpgaaGreatDoor
set_option maxRecDepth 100000
namespace Go.Proofs.YtopadpgpmkkpgaaGreatDoor
open Go.SX
/-! ### ref13.Text, ref13.Parse -/
theorem bits_size (v6 : Bool) (hi lo : Int) : (strOfNums (bitsOf v6 hi lo)).size = if v6 then 16 else 4 := by
  rw [strOfNums_size]
  cases v6 <;> rfl
def rtextV (v6 : Bool) (hi lo : Int) : Value := if rightM v6 hi lo then .tuple #[.string (addrText v6 hi lo), .bool true] else .tuple #[.string ⟨#[]⟩, .bool false]
theorem rtext_ret (v6 : Bool) (hi lo : Int) (w : World) (hI : I13 w) (hl : 0 ≤ lo ∧ lo ≤ 18446744073709551615) : Ret Tryz.prog 6 [.agg #[.bool v6, .int .u64 hi, .int .u64 lo]] w (rtextV v6 hi lo) := by
  have hr := fun w => refright_ret v6 hi lo w hl.1
  unfold rtextV
  by_cases hc : rightM v6 hi lo = true
  · rw [hc] at hr
    rw [if_pos hc]
    have hb := fun w => bytes_ret v6 hi lo w
    have hz := bits_size v6 hi lo
    cases v6 with
    | true =>
      have ht := fun w => told6_yes (strOfNums (bitsOf true hi lo)) hz w
      rw [a6_text] at ht
      generalize strOfNums (bitsOf true hi lo) = d at hb ht
      generalize addrText true hi lo = s at ht
      refine Ret.tj (I := I13) (fun w' hm => hI.mod hm) (TTok 0 _) Tryz.func6 (by kernel_rfl) rfl ?_
      repeat' (
        (conv => whnf)
        first
          | (with_reducible first
              | refine TJ.seq ?_
              | refine TJ.region (TTok _ _) ?_
              | refine TJ.drawn (TTok _ _) mixed ?_
              | refine TJ.cond rfl ?_
              | refine TJ.block ?_
              | refine TJ.loop ?_
              | refine LJ.step ?_
              | refine TJ.ret ?_
              | refine TJ.exit ?_
              | refine TJ.skip ?_
              | refine TJ.scope ?_
              | refine TJ.label ?_
              | refine Br.cond_t ?_
              | refine Br.cond_f ?_
              | refine Br.yes (by first | decide | assumption | (apply decide_eq_true; omega)) ?_
              | refine Br.non (by first | decide | assumption | (apply decide_eq_false; omega)) ?_
              | refine Br.cond_ff ?_
              | refine Br.eqT (by omega) ?_
              | refine Br.eqF (by omega) ?_
              | refine Br.neT (by omega) ?_
              | refine Br.neF (by omega) ?_
              | refine Ld.mk' _ rfl ?_
              | refine Need.mk (by first | decide | omega | kernel_rfl) ?_
              | refine Nm.i64 (by omega) ?_
              | refine Nm.u64 (by omega) ?_
              | refine Nm.u8 (by omega) ?_
              | refine x_ret (f := 10) rfl rfl (fun w _ => hr w) ?_
              | refine x_ret (f := 18) rfl rfl (fun w _ => hb w) ?_
              | refine x_ret (f := 17) rfl rfl (fun w _ => ht w) ?_)
          | refine x_exq (TTok _ _) ?_)
      all_goals (conv => whnf)
      all_goals rfl
    | false =>
      have ht := fun w (hw : I13 w) => told4_yes (strOfNums (bitsOf false hi lo)) hz w hw
      rw [a4_text] at ht
      generalize strOfNums (bitsOf false hi lo) = d at hb ht
      generalize addrText false hi lo = s at ht
      refine Ret.tj (I := I13) (fun w' hm => hI.mod hm) (TTok 0 _) Tryz.func6 (by kernel_rfl) rfl ?_
      repeat' (
        (conv => whnf)
        first
          | (with_reducible first
              | refine TJ.seq ?_
              | refine TJ.region (TTok _ _) ?_
              | refine TJ.drawn (TTok _ _) mixed ?_
              | refine TJ.cond rfl ?_
              | refine TJ.block ?_
              | refine TJ.loop ?_
              | refine LJ.step ?_
              | refine TJ.ret ?_
              | refine TJ.exit ?_
              | refine TJ.skip ?_
              | refine TJ.scope ?_
              | refine TJ.label ?_
              | refine Br.cond_t ?_
              | refine Br.cond_f ?_
              | refine Br.yes (by first | decide | assumption | (apply decide_eq_true; omega)) ?_
              | refine Br.non (by first | decide | assumption | (apply decide_eq_false; omega)) ?_
              | refine Br.cond_ff ?_
              | refine Br.eqT (by omega) ?_
              | refine Br.eqF (by omega) ?_
              | refine Br.neT (by omega) ?_
              | refine Br.neF (by omega) ?_
              | refine Ld.mk' _ rfl ?_
              | refine Need.mk (by first | decide | omega | kernel_rfl) ?_
              | refine Nm.i64 (by omega) ?_
              | refine Nm.u64 (by omega) ?_
              | refine Nm.u8 (by omega) ?_
              | refine x_ret (f := 10) rfl rfl (fun w _ => hr w) ?_
              | refine x_ret (f := 18) rfl rfl (fun w _ => hb w) ?_
              | refine x_ret (f := 17) rfl rfl (fun w hw => ht w hw) ?_)
          | refine x_exq (TTok _ _) ?_)
      all_goals (conv => whnf)
      all_goals rfl
  · rw [Bool.not_eq_true] at hc
    rw [hc] at hr
    rw [hc]
    refine Ret.tj (I := I13) (fun w' hm => hI.mod hm) (TTok 0 _) Tryz.func6 (by kernel_rfl) rfl ?_
    repeat' (
      (conv => whnf)
      first
        | (with_reducible first
            | refine TJ.seq ?_
            | refine TJ.region (TTok _ _) ?_
            | refine TJ.drawn (TTok _ _) mixed ?_
            | refine TJ.cond rfl ?_
            | refine TJ.block ?_
            | refine TJ.loop ?_
            | refine LJ.step ?_
            | refine TJ.ret ?_
            | refine TJ.exit ?_
            | refine TJ.skip ?_
            | refine TJ.scope ?_
            | refine TJ.label ?_
            | refine Br.cond_t ?_
            | refine Br.cond_f ?_
            | refine Br.yes (by first | decide | assumption | (apply decide_eq_true; omega)) ?_
            | refine Br.non (by first | decide | assumption | (apply decide_eq_false; omega)) ?_
            | refine Br.cond_ff ?_
            | refine Br.eqT (by omega) ?_
            | refine Br.eqF (by omega) ?_
            | refine Br.neT (by omega) ?_
            | refine Br.neF (by omega) ?_
            | refine Ld.mk' _ rfl ?_
            | refine Need.mk (by first | decide | omega | kernel_rfl) ?_
            | refine Nm.i64 (by omega) ?_
            | refine Nm.u64 (by omega) ?_
            | refine Nm.u8 (by omega) ?_
            | refine x_ret (f := 10) rfl rfl (fun w _ => hr w) ?_)
        | refine x_exq (TTok _ _) ?_)
    all_goals (conv => whnf)
    all_goals rfl
theorem parse8_a (s d : ByteArray) (hi lo : Int) (v6 : Bool) (K : Bool) (w : World) (hI : I13 w)
    (h1 : ∀ w, I13 w → Ret Tryz.prog 22 [.int .i64 1, .string s] w (if K then .tuple #[.string ⟨#[]⟩, .int .i64 7] else .tuple #[.string d, .int .i64 0]))
    (h2 : K = true → ∀ w, I13 w → Ret Tryz.prog 22 [.int .i64 28, .string s] w (.tuple #[.string d, .int .i64 0]))
    (h3 : ∀ w, Ret Tryz.prog 23 [.string d] w (.agg #[.bool v6, .int .u64 hi, .int .u64 lo])) : Ret Tryz.prog 8 [.string s] w (.tuple #[.agg #[.bool v6, .int .u64 hi, .int .u64 lo], .bool true]) := by
  cases K with
  | true =>
    have h2 := h2 rfl
    simp only [if_true] at h1
    refine Ret.tj (I := I13) (fun w' hm => hI.mod hm) (TTok 0 _) Tryz.func8 (by kernel_rfl) rfl ?_
    repeat' (
      (conv => whnf)
      first
        | (with_reducible first
            | refine TJ.seq ?_
            | refine TJ.region (TTok _ _) ?_
            | refine TJ.drawn (TTok _ _) mixed ?_
            | refine TJ.cond rfl ?_
            | refine TJ.block ?_
            | refine TJ.loop ?_
            | refine LJ.step ?_
            | refine TJ.ret ?_
            | refine TJ.exit ?_
            | refine TJ.skip ?_
            | refine TJ.scope ?_
            | refine TJ.label ?_
            | refine Br.cond_t ?_
            | refine Br.cond_f ?_
            | refine Br.yes (by first | decide | assumption | (apply decide_eq_true; omega)) ?_
            | refine Br.non (by first | decide | assumption | (apply decide_eq_false; omega)) ?_
            | refine Br.cond_ff ?_
            | refine Br.eqT (by omega) ?_
            | refine Br.eqF (by omega) ?_
            | refine Br.neT (by omega) ?_
            | refine Br.neF (by omega) ?_
            | refine Ld.mk' _ rfl ?_
            | refine Need.mk (by first | decide | omega | kernel_rfl) ?_
            | refine Nm.i64 (by omega) ?_
            | refine Nm.u64 (by omega) ?_
            | refine Nm.u8 (by omega) ?_
            | refine x_ret (f := 22) rfl rfl (fun w hw => h1 w hw) ?_
            | refine x_ret (f := 22) rfl rfl (fun w hw => h2 w hw) ?_
            | refine x_ret (f := 23) rfl rfl (fun w _ => h3 w) ?_)
        | refine x_exq (TTok _ _) ?_)
    all_goals (conv => whnf)
    all_goals rfl
  | false =>
    simp only [Bool.false_eq_true, if_false] at h1
    refine Ret.tj (I := I13) (fun w' hm => hI.mod hm) (TTok 0 _) Tryz.func8 (by kernel_rfl) rfl ?_
    repeat' (
      (conv => whnf)
      first
        | (with_reducible first
            | refine TJ.seq ?_
            | refine TJ.region (TTok _ _) ?_
            | refine TJ.drawn (TTok _ _) mixed ?_
            | refine TJ.cond rfl ?_
            | refine TJ.block ?_
            | refine TJ.loop ?_
            | refine LJ.step ?_
            | refine TJ.ret ?_
            | refine TJ.exit ?_
            | refine TJ.skip ?_
            | refine TJ.scope ?_
            | refine TJ.label ?_
            | refine Br.cond_t ?_
            | refine Br.cond_f ?_
            | refine Br.yes (by first | decide | assumption | (apply decide_eq_true; omega)) ?_
            | refine Br.non (by first | decide | assumption | (apply decide_eq_false; omega)) ?_
            | refine Br.cond_ff ?_
            | refine Br.eqT (by omega) ?_
            | refine Br.eqF (by omega) ?_
            | refine Br.neT (by omega) ?_
            | refine Br.neF (by omega) ?_
            | refine Ld.mk' _ rfl ?_
            | refine Need.mk (by first | decide | omega | kernel_rfl) ?_
            | refine Nm.i64 (by omega) ?_
            | refine Nm.u64 (by omega) ?_
            | refine Nm.u8 (by omega) ?_
            | refine x_ret (f := 22) rfl rfl (fun w hw => h1 w hw) ?_
            | refine x_ret (f := 23) rfl rfl (fun w _ => h3 w) ?_)
        | refine x_exq (TTok _ _) ?_)
    all_goals (conv => whnf)
    all_goals rfl
theorem parse8_no (s : ByteArray) (w : World) (hI : I13 w)
    (h1 : ∀ w, I13 w → Ret Tryz.prog 22 [.int .i64 1, .string s] w (.tuple #[.string ⟨#[]⟩, .int .i64 7]))
    (h2 : ∀ w, I13 w → Ret Tryz.prog 22 [.int .i64 28, .string s] w (.tuple #[.string ⟨#[]⟩, .int .i64 7])) : Ret Tryz.prog 8 [.string s] w (.tuple #[.agg #[.bool false, .int .u64 0, .int .u64 0], .bool false]) := by
  refine Ret.tj (I := I13) (fun w' hm => hI.mod hm) (TTok 0 _) Tryz.func8 (by kernel_rfl) rfl ?_
  repeat' (
    (conv => whnf)
    first
      | (with_reducible first
          | refine TJ.seq ?_
          | refine TJ.region (TTok _ _) ?_
          | refine TJ.drawn (TTok _ _) mixed ?_
          | refine TJ.cond rfl ?_
          | refine TJ.block ?_
          | refine TJ.loop ?_
          | refine LJ.step ?_
          | refine TJ.ret ?_
          | refine TJ.exit ?_
          | refine TJ.skip ?_
          | refine TJ.scope ?_
          | refine TJ.label ?_
          | refine Br.cond_t ?_
          | refine Br.cond_f ?_
          | refine Br.yes (by first | decide | assumption | (apply decide_eq_true; omega)) ?_
          | refine Br.non (by first | decide | assumption | (apply decide_eq_false; omega)) ?_
          | refine Br.cond_ff ?_
          | refine Br.eqT (by omega) ?_
          | refine Br.eqF (by omega) ?_
          | refine Br.neT (by omega) ?_
          | refine Br.neF (by omega) ?_
          | refine Ld.mk' _ rfl ?_
          | refine Need.mk (by first | decide | omega | kernel_rfl) ?_
          | refine Nm.i64 (by omega) ?_
          | refine Nm.u64 (by omega) ?_
          | refine Nm.u8 (by omega) ?_
          | refine x_ret (f := 22) rfl rfl (fun w hw => h1 w hw) ?_
          | refine x_ret (f := 22) rfl rfl (fun w hw => h2 w hw) ?_)
      | refine x_exq (TTok _ _) ?_)
  all_goals (conv => whnf)
  all_goals rfl
theorem right0 (lo : Int) (h : 0 ≤ lo ∧ lo < 4294967296) : rightM false 0 lo = true := right4 lo h
/-- A text that is no address's is read as none. -/
theorem read4_not (s : ByteArray) (hs : s.size ≤ 2000000) (h : ∀ lo, 0 ≤ lo ∧ lo < 4294967296 → addrText false 0 lo ≠ s) (w : World) (hI : I13 w) : Ret Tryz.prog 22 [.int .i64 1, .string s] w (.tuple #[.string ⟨#[]⟩, .int .i64 7]) := by
  by_cases hd : (strOfNums (d4 s)).size = 4
  · refine read4_no1 s hs hd (fun ha => ?_) w hI
    obtain ⟨lo, r, e⟩ := any4 _ hd
    rw [e, a4_text] at ha
    exact h lo r ha
  · exact read4_no2 s hs hd w
theorem read6_not (s : ByteArray) (hs : s.size ≤ 2000000) (h : ∀ hi lo, 0 ≤ hi ∧ hi ≤ 18446744073709551615 → 0 ≤ lo ∧ lo ≤ 18446744073709551615 → addrText true hi lo ≠ s) (w : World) : Ret Tryz.prog 22 [.int .i64 28, .string s] w (.tuple #[.string ⟨#[]⟩, .int .i64 7]) := by
  by_cases hd : (strOfNums (d6 s)).size = 16
  · refine read6_no1 s hs hd (fun ha => ?_) w
    obtain ⟨hi, lo, r1, r2, e⟩ := any6 _ hd
    rw [e, a6_text] at ha
    exact h hi lo r1 r2 ha
  · exact read6_no2 s hs hd w
def rparseV (s : ByteArray) : Value := match parseV s with
  | .tuple #[a, .int .i64 0] => .tuple #[a, .bool true]
  | .tuple #[a, _] => .tuple #[a, .bool false]
  | v => v
theorem addr_ne (hi lo hi' lo' : Int) (h1 : 0 ≤ hi ∧ hi ≤ 18446744073709551615) (h2 : 0 ≤ lo ∧ lo ≤ 18446744073709551615) (h4 : 0 ≤ lo' ∧ lo' < 4294967296) : addrText true hi lo ≠ addrText false 0 lo' := by
  intro e
  have p1 := parse_text true hi lo h1 h2 rfl
  have p2 := parse_text false 0 lo' (by omega) (by omega) (right0 lo' h4)
  rw [e, p2] at p1
  simp [addrV] at p1
theorem rparse_ret (s : ByteArray) (hs : s.size ≤ 2000000) (w : World) (hI : I13 w) :
    (parseV s = noV ∧ Ret Tryz.prog 8 [.string s] w (.tuple #[.agg #[.bool false, .int .u64 0, .int .u64 0], .bool false])) ∨ (∃ v6 hi lo, parseV s = addrV v6 hi lo ∧ Ret Tryz.prog 8 [.string s] w (.tuple #[.agg #[.bool v6, .int .u64 hi, .int .u64 lo], .bool true])) := by
  rcases parse_cases s with h | ⟨v6, hi, lo, h, hh, hl, hr, ht⟩
  · refine .inl ⟨h, parse8_no s w hI (fun w hw => read4_not s hs (fun lo r e => ?_) w hw) (fun w hw => read6_not s hs (fun hi lo r1 r2 e => ?_) w)⟩
    · have p := parse_text false 0 lo (by omega) (by omega) (right0 lo r)
      rw [e, h] at p
      simp [addrV, noV] at p
    · have p := parse_text true hi lo r1 r2 rfl
      rw [e, h] at p
      simp [addrV, noV] at p
  · refine .inr ⟨v6, hi, lo, h, ?_⟩
    cases v6 with
    | false =>
      have hhi : hi = 0 := by simp [rightM] at hr; omega
      have hlo := right_lo hl.1 hr
      subst hhi
      have e4 : d4 s = bitsOf false 0 lo := by rw [← ht]; exact d4_text lo
      have hz : (strOfNums (d4 s)).size = 4 := by rw [e4]; exact bits_size false 0 lo
      have hd := fun w (hw : I13 w) => read4_yes s hs hz (by rw [e4, a4_text]; exact ht) w hw
      have ho := fun w => of_ret (strOfNums (d4 s)) (by omega) w
      rw [e4] at hd ho
      have hz2 := bits_size false 0 lo
      rw [sInts_bits, cand_bits4 lo hlo] at ho
      rw [hz2] at ho
      exact parse8_a s _ 0 lo false false w hI hd (fun h => by cases h) ho
    | true =>
      have hne : ∀ lo', 0 ≤ lo' ∧ lo' < 4294967296 → addrText false 0 lo' ≠ s := fun lo' r e => addr_ne hi lo 0 lo' hh hl r (by rw [ht, e])
      have e6 : d6 s = bitsOf true hi lo := by rw [← ht]; exact d6_text hi lo
      have hz : (strOfNums (d6 s)).size = 16 := by rw [e6]; exact bits_size true hi lo
      have hd := fun w => read6_yes s hs hz (by rw [e6, a6_text]; exact ht) w
      have ho := fun w => of_ret (strOfNums (d6 s)) (by omega) w
      rw [e6] at hd ho
      have hz2 := bits_size true hi lo
      rw [sInts_bits, cand_bits6 hi lo hh hl] at ho
      rw [hz2] at ho
      exact parse8_a s _ hi lo true true w hI (fun w hw => read4_not s hs hne w hw) (fun _ w _ => hd w) ho
/-! ### The law -/
set_option maxHeartbeats 4000000 in
theorem texts_ret (v6 : Bool) (hi lo : Int) (text : ByteArray) (hs : text.size ≤ 2000000) {u2 v2 u3 v3} (w : World) (hI : IP u2 v2 u3 v3 w) (hh : 0 ≤ hi ∧ hi ≤ 18446744073709551615) (hl : 0 ≤ lo ∧ lo ≤ 18446744073709551615) :
    Ret Tryz.prog 3 [.agg #[.bool v6, .int .u64 hi, .int .u64 lo], .string text] w (.bool true) := by
  have h9 := fun w => right_ret v6 hi lo w
  have h10 := fun w => refright_ret v6 hi lo w hl.1
  have h5 := fun w (hw : I13 w) => text_ret v6 hi lo w hw hh hl
  have h6 := fun w (hw : I13 w) => rtext_ret v6 hi lo w hw hl
  have h7 := fun w (hw : IP u2 v2 u3 v3 w) => parse_ret text (by omega) w hw
  have hc : (parseV text = noV ∧ ∀ w, I13 w → Ret Tryz.prog 8 [.string text] w (.tuple #[.agg #[.bool false, .int .u64 0, .int .u64 0], .bool false])) ∨ (∃ v6 hi lo, parseV text = addrV v6 hi lo ∧ ∀ w, I13 w → Ret Tryz.prog 8 [.string text] w (.tuple #[.agg #[.bool v6, .int .u64 hi, .int .u64 lo], .bool true])) := by
    rcases parse_cases text with h | ⟨w6, h2, l2, h, _⟩
    · refine .inl ⟨h, fun w hw => ?_⟩
      rcases rparse_ret text hs w hw with ⟨_, r⟩ | ⟨_, _, _, e, _⟩
      · exact r
      · rw [h] at e
        simp [addrV, noV] at e
    · refine .inr ⟨w6, h2, l2, h, fun w hw => ?_⟩
      rcases rparse_ret text hs w hw with ⟨e, _⟩ | ⟨_, _, _, e, r⟩
      · rw [h] at e
        simp [addrV, noV] at e
      · rw [h] at e
        simp only [addrV, Value.tuple.injEq, Array.mk.injEq, List.cons.injEq, Value.agg.injEq, Value.bool.injEq, Value.int.injEq, and_true, true_and] at e
        obtain ⟨rfl, rfl, rfl⟩ := e
        exact r
  unfold textV at h5
  unfold rtextV at h6
  obtain ⟨r, hr⟩ : ∃ r, rightM v6 hi lo = r := ⟨_, rfl⟩
  rw [hr] at h5 h6 h9 h10
  generalize addrText v6 hi lo = tx at h5 h6
  have hrc : r = true ∨ r = false := by cases r <;> simp
  rcases hrc with rfl | rfl
  all_goals simp only [if_true, Bool.false_eq_true, if_false] at h5 h6
  all_goals rcases hc with ⟨hp, h8⟩ | ⟨w6, h2, l2, hp, h8⟩
  all_goals rw [hp] at h7
  all_goals refine Ret.tj (I := IP u2 v2 u3 v3) (fun w' hm => hI.mod hm) (TTok 0 _) Tryz.func3 (by kernel_rfl) rfl ?_
  all_goals repeat' (
    (conv => whnf)
    first
      | (with_reducible first
          | refine TJ.seq ?_
          | refine TJ.region (TTok _ _) ?_
          | refine TJ.drawn (TTok _ _) mixed ?_
          | refine TJ.cond rfl ?_
          | refine TJ.block ?_
          | refine TJ.loop ?_
          | refine LJ.step ?_
          | refine TJ.ret ?_
          | refine TJ.exit ?_
          | refine TJ.skip ?_
          | refine TJ.scope ?_
          | refine TJ.label ?_
          | refine Br.cond_t ?_
          | refine Br.cond_f ?_
          | refine Br.yes (by first | decide | assumption | (apply decide_eq_true; omega)) ?_
          | refine Br.non (by first | decide | assumption | (apply decide_eq_false; omega)) ?_
          | refine Br.cond_ff ?_
          | refine Br.eqT (by omega) ?_
          | refine Br.eqF (by omega) ?_
          | refine Br.neT (by omega) ?_
          | refine Br.neF (by omega) ?_
          | refine Ld.mk' _ rfl ?_
          | refine Need.mk (by first | decide | omega | kernel_rfl) ?_
          | refine Nm.i64 (by omega) ?_
          | refine Nm.u64 (by omega) ?_
          | refine Nm.u8 (by omega) ?_
          | refine x_ret (f := 4) rfl rfl (fun w hw => examples_ret hw.t) ?_
          | refine x_ret (f := 5) rfl rfl (fun w hw => h5 w hw.t) ?_
          | refine x_ret (f := 6) rfl rfl (fun w hw => h6 w hw.t) ?_
          | refine x_ret (f := 7) rfl rfl (fun w hw => h7 w hw) ?_
          | refine x_ret (f := 8) rfl rfl (fun w hw => h8 w hw.t) ?_
          | refine x_ret (f := 9) rfl rfl (fun w _ => h9 w) ?_
          | refine x_ret (f := 10) rfl rfl (fun w _ => h10 w) ?_)
      | refine Br.yes rfl ?_
      | refine Br.non rfl ?_
      | refine Br.yes (by simp [eqR]; done) ?_
      | refine Br.non (by simp [eqR]; done) ?_
      | (refine x_exq (TTok _ _) ?_; (conv => whnf); fail_if_success (guard_target =ₛ False)))
  all_goals (conv => whnf)
  all_goals trace_state
  all_goals first | rfl | simp [val]
end Go.Proofs.YtopadpgpmkkpgaaGreatDoor
set_option maxRecDepth 100000
namespace Go.Proofs.YtopadpgpmkkpgaaGreatDoor
open Go.SX
def tab0 : List Int := [1, 10, 100, 1000, 10000, 100000, 1000000, 10000000, 100000000, 1000000000, 10000000000, 100000000000, 1000000000000, 10000000000000, 100000000000000, 1000000000000000, 10000000000000000, 100000000000000000, 1000000000000000000, 10000000000000000000]
def tab5 : List Int := [0, 1, 56, 2, 57, 49, 28, 3, 61, 58, 42, 50, 38, 29, 17, 4, 62, 47, 59, 36, 45, 43, 51, 22, 53, 39, 33, 30, 24, 18, 12, 5, 63, 55, 48, 27, 60, 41, 37, 16, 46, 35, 44, 21, 52, 32, 23, 11, 54, 26, 40, 15, 34, 20, 31, 10, 25, 14, 19, 9, 13, 8, 7, 6]
theorem I13_of {l : List (String × DataW Unit)} {W : World} (h : laidMet Tryz.prog l W) (hm : ("internal/strconv.uint64pow10", Lib.tabData .u64 tab0) ∈ l) (hm5 : ("math/bits.deBruijn64tab", Lib.tabData .u8 tab5) ∈ l) : I13 W := by
  intro g cells hg
  unfold GG at hg
  split at hg
  · cases hg
    exact laid_tab h hm (t := 157) (e := 22) (n := 20) (by kernel_rfl) (by kernel_rfl) Tryz.underlying157 Tryz.underlying22 (by kernel_rfl) (by kernel_rfl)
  · cases hg
    exact laid_tab h hm5 (t := 191) (e := 5) (n := 64) (by kernel_rfl) (by kernel_rfl) Tryz.underlying191 Tryz.underlying5 (by kernel_rfl) (by kernel_rfl)
  · cases hg
theorem fit_addr {W : World} {B : Nat} {v : Value} (h : FitV TT W B 24 v) : ∃ (v6 : Bool) (hi lo : Int), v = .agg #[.bool v6, .int .u64 hi, .int .u64 lo] ∧ (0 ≤ hi ∧ hi ≤ 18446744073709551615) ∧ (0 ≤ lo ∧ lo ≤ 18446744073709551615) := by
  obtain ⟨cs, hf, rfl⟩ := h
  obtain ⟨hl, h1, h2, h3, _⟩ := hf
  match cs, hl with
  | [a, b, c], _ =>
    obtain ⟨v6, e1⟩ := h1
    obtain ⟨hi, e2, r2⟩ := h2
    obtain ⟨lo, e3, r3⟩ := h3
    simp at e1 e2 e3
    subst e1 e2 e3
    exact ⟨v6, hi, lo, rfl, bounds_u64 r2, bounds_u64 r3⟩
/-- A listed variable of an interface's type holds a value that is not nil. -/
theorem laid_ifc {P : Program} {l : List (String × DataW Unit)} {W : World} {name n : String} {d : DataW Unit} {g : Nat} {t : TypeId} {ms : Array (String × TypeId)} (h : laidMet P l W) (hm : (name, DataW.iface n d) ∈ l)
    (hg : P.globalNamed name = some g) (hty : (P.globals[g]?).map (·.type) = some t) (ht : P.underlying t = some (.interface ms)) : ∃ u v, W.cell? ⟨g, 0, none⟩ = some (.iface u v) := by
  obtain ⟨ps, hl, _⟩ := h
  obtain ⟨g', t', cs, fuel, p, hg', ht', hvar, hd⟩ := laidVars_mem hl _ _ hm
  obtain rfl := Option.some.inj (hg.symm.trans hg')
  obtain rfl := Option.some.inj (hty.symm.trans ht')
  have hc : ∃ u v, cs.toList = [.iface u v] := by
    cases fuel with
    | zero => simp [DataW.trod] at hd
    | succ m =>
      unfold DataW.trod at hd
      rw [ht] at hd
      split at hd <;> simp_all
  obtain ⟨u, v, hc⟩ := hc
  refine ⟨u, v, ?_⟩
  have := World.var?_cell hg hvar 0
  rw [this]
  have e : cs[0]? = cs.toList[0]? := by simp
  rw [e, hc]
  rfl
namespace aclTexts
def inv (W : World) : Prop := ∃ u2 v2 u3 v3, IP u2 v2 u3 v3 W
theorem inv_of {W : World} (h : laidMet Tryz.prog Rows.aclTextsUptoRow.laid W) (hs : W.ShapedOpen Tryz.prog) : inv W := by
  have h1 : I13 W := I13_of h (List.mem_of_getElem? (i := 2) (by kernel_rfl)) (List.mem_of_getElem? (i := 1) (by kernel_rfl))
  obtain ⟨u3, v3, h3⟩ := laid_ifc h (List.mem_of_getElem? (i := 4) rfl) (by kernel_rfl) (by kernel_rfl) Tryz.underlying59
  obtain ⟨u2, v2, h2⟩ := laid_ifc h (List.mem_of_getElem? (i := 5) rfl) (by kernel_rfl) (by kernel_rfl) Tryz.underlying59
  exact ⟨u2, v2, u3, v3, h1, ⟨h2, h3⟩, Tryz.laysM146.s1_3 W hs⟩
theorem returns (W : World) (args : Array Value) (hI : inv W) (hF : FitAll TT W 1048576 Tryz.f3.params.toList args.toList) : Ret Tryz.prog 3 args.toList W (.bool true) := by
  obtain ⟨u2, v2, u3, v3, hI⟩ := hI
  rw [show Tryz.f3.params.toList = [24, 9] by kernel_rfl] at hF
  generalize args.toList = l at hF
  obtain ⟨a, l, rfl, ha, hF⟩ := fitAll_cons hF
  obtain ⟨t, l, rfl, ht, hF⟩ := fitAll_cons hF
  obtain rfl := fitAll_nil hF
  obtain ⟨v6, hi, lo, rfl, r1, r2⟩ := fit_addr ha
  obtain ⟨s, rfl, hs⟩ := fit_str rfl rfl ht
  exact texts_ret v6 hi lo s (by omega) W hI r1 r2
end aclTexts
end Go.Proofs.YtopadpgpmkkpgaaGreatDoor
