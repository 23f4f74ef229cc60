/-
  What the laws of these data stand on: contracts of functions, and plain laws.
-/
import Derived.Test.YtbladfkakmdigaaGreatDoorRXa
import Derived.Test.YtbladfkakmdigaaGreatDoorRXb
import Derived.Test.YtbladfkakmdigaaGreatDoorRXc
import Derived.Test.YtbladfkakmdigaaGreatDoorRXd
import Derived.Test.YtbladfkakmdigaaGreatDoorRBa
set_option linter.unusedVariables false
set_option linter.unusedSimpArgs false
set_option linter.unnecessarySimpa false
set_option maxRecDepth 100000
set_option linter.unusedVariables false
set_option linter.unusedSimpArgs false
namespace Go.Proofs.YtbladfkakmdigaaGreatDoor
open Go.SX
def zAt (l : List Int) (i : Nat) : Int := l.getD i 0
def tbD (l : List Int) (wr : Bool) : Nat → Bool
  | 0 => wr
  | i + 1 => tbD l wr i || (!fit (zAt l i) 65536 || (decide (0 < i) && decide (zAt l i ≤ zAt l (i - 1))))
def orU8 (a b : Int) : Int := IntKind.u8.wrap (BitVec.ofInt IntKind.u8.bits a ||| BitVec.ofInt IntKind.u8.bits b).toNat
theorem setZ_len : ∀ (l : List Int) (i : Nat) (z : Int), (setZ l i z).length = l.length
  | [], _, _ => rfl
  | _ :: _, 0, _ => rfl
  | _ :: r, n + 1, z => by simp [setZ, setZ_len r n z]
def bset (b : List Int) (k : Int) : List Int := setZ b (k % 256 / 8).toNat (orU8 (zAt b (k % 256 / 8).toNat) (128 / 2 ^ (k % 8).toNat))
def bmp (l : List Int) (w : Int) : Nat → List Int
  | 0 => List.replicate 32 0
  | j + 1 => if zAt l j / 256 = w then bset (bmp l w j) (zAt l j) else bmp l w j
def bnm (l : List Int) (w : Int) : Nat → Int
  | 0 => 0
  | j + 1 => if zAt l j / 256 = w then zAt l j % 256 / 8 + 1 else bnm l w j
theorem bmp_len (l : List Int) (w : Int) : ∀ j, (bmp l w j).length = 32
  | 0 => by simp [bmp]
  | j + 1 => by
    unfold bmp
    split
    · simp [bset, setZ_len, bmp_len l w j]
    · exact bmp_len l w j
theorem bnm_range (l : List Int) (w : Int) : ∀ j, 0 ≤ bnm l w j ∧ bnm l w j ≤ 32
  | 0 => by simp [bnm]
  | j + 1 => by
    have := bnm_range l w j
    unfold bnm
    split <;> omega
def winR (l : List Int) (w : Int) : List Int := if 0 < bnm l w l.length then be1 w ++ be1 (bnm l w l.length) ++ (bmp l w l.length).take (bnm l w l.length).toNat else []
def wins (o l : List Int) : Nat → List Int
  | 0 => o
  | k + 1 => wins o l k ++ winR l k
theorem winR_len (l : List Int) (w : Int) : (winR l w).length ≤ 34 := by
  unfold winR
  split
  · have := bnm_range l w l.length
    simp [be1, List.length_take, bmp_len]
    omega
  · simp
theorem wins_len (o l : List Int) : ∀ k, (wins o l k).length ≤ o.length + 34 * k
  | 0 => by simp [wins]
  | k + 1 => by
    have := wins_len o l k
    have := winR_len l k
    simp only [wins, List.length_append]
    omega
theorem bmp_succ (l : List Int) (w : Int) (j : Nat) : bmp l w (j + 1) = if zAt l j / 256 = w then bset (bmp l w j) (zAt l j) else bmp l w j := rfl
theorem bnm_succ (l : List Int) (w : Int) (j : Nat) : bnm l w (j + 1) = if zAt l j / 256 = w then zAt l j % 256 / 8 + 1 else bnm l w j := rfl
theorem tbD_rise {l : List Int} {wr : Bool} : ∀ {n : Nat}, tbD l wr n = false → wr = false ∧ ∀ j, j < n → 0 ≤ zAt l j ∧ zAt l j < 65536 ∧ ∀ k, k < j → zAt l k < zAt l j
  | 0, h => ⟨h, fun j hj => absurd hj (by omega)⟩
  | n + 1, h => by
    unfold tbD at h
    simp only [Bool.or_eq_false_iff, Bool.and_eq_false_iff, decide_eq_false_iff_not, Bool.not_eq_false'] at h
    obtain ⟨h1, h2, h3⟩ := h
    obtain ⟨g1, g2⟩ := tbD_rise h1
    refine ⟨g1, fun j hj => ?_⟩
    by_cases e : j = n
    · subst e
      have h2' : 0 ≤ zAt l j ∧ zAt l j < 65536 := by simpa [fit] using h2
      refine ⟨h2'.1, h2'.2, fun k hk => ?_⟩
      have h4 : zAt l (j - 1) < zAt l j := by omega
      by_cases e2 : k = j - 1
      · rw [e2]; exact h4
      · have := (g2 (j - 1) (by omega)).2.2 k (by omega)
        omega
    · exact g2 j (by omega)
theorem bmp_none {l : List Int} {w : Int} : ∀ {j : Nat}, (∀ k, k < j → zAt l k / 256 ≠ w) → bmp l w j = List.replicate 32 0 ∧ bnm l w j = 0
  | 0, _ => ⟨rfl, rfl⟩
  | j + 1, h => by
    have g := bmp_none (j := j) fun k hk => h k (by omega)
    unfold bmp bnm
    rw [if_neg (h j (by omega)), if_neg (h j (by omega))]
    exact g
theorem bmp_rest {l : List Int} {w : Int} {i : Nat} : ∀ {d : Nat}, (∀ k, i ≤ k → k < i + d → zAt l k / 256 ≠ w) → bmp l w (i + d) = bmp l w i ∧ bnm l w (i + d) = bnm l w i
  | 0, _ => ⟨rfl, rfl⟩
  | d + 1, h => by
    have g := bmp_rest (d := d) fun k h1 h2 => h k h1 (by omega)
    rw [show i + (d + 1) = i + d + 1 from rfl, bmp_succ, bnm_succ, if_neg (h _ (by omega) (by omega)), if_neg (h _ (by omega) (by omega))]
    exact g
theorem wins_skip {o l : List Int} {a : Nat} : ∀ {d : Nat}, (∀ w, a ≤ w → w < a + d → ∀ k, k < l.length → zAt l k / 256 ≠ (w : Int)) → wins o l (a + d) = wins o l a
  | 0, _ => rfl
  | d + 1, h => by
    have g := wins_skip (o := o) (d := d) fun w h1 h2 => h w h1 (by omega)
    show wins o l (a + d) ++ winR l (a + d : Nat) = _
    have e := (bmp_none (l := l) (w := ((a + d : Nat) : Int)) (j := l.length) fun k hk => h (a + d) (by omega) (by omega) k hk).2
    unfold winR
    rw [e, if_neg (by omega), List.append_nil, g]
theorem zAt_get {l : List Int} {k : Nat} (h : k < l.length) : l[k]? = some (zAt l k) := by
  simp [zAt, List.getD, List.getElem?_eq_getElem h]
theorem ld_its {l : List Int} {k : Nat} (h : k < l.length) : subL (its l) (0 * 1 + ((k : Int)).toNat * 1) 1 = some [AV.v (Value.int IntKind.i64 (zAt l k))] := by
  simpa using subL_its l k _ (zAt_get h)
end Go.Proofs.YtbladfkakmdigaaGreatDoor
set_option maxRecDepth 100000
set_option linter.unusedVariables false
set_option linter.unusedSimpArgs false
namespace Go.Proofs.YtbladfkakmdigaaGreatDoor
open Go.SX
def bitK (x : Int) (k : Nat) : Bool := decide (x / 2 ^ (7 - k) % 2 = 1)
theorem half_ext {a b : Int} (h : a / 2 = b / 2) (hb : (a % 2 = 1) ↔ (b % 2 = 1)) : a = b := by omega
theorem bit_ext {x y : Int} (hx : 0 ≤ x ∧ x ≤ 255) (hy : 0 ≤ y ∧ y ≤ 255) (h : ∀ k, k < 8 → bitK x k = bitK y k) : x = y := by
  have g : ∀ k, k ≤ 8 → x / 2 ^ (8 - k) = y / 2 ^ (8 - k) := by
    intro k
    induction k with
    | zero => intro _; simp only [Nat.sub_zero, Int.reducePow]; omega
    | succ k ih =>
      intro hk
      have h1 := ih (by omega)
      have h2 := h k (by omega)
      simp only [bitK, decide_eq_decide] at h2
      have e : 8 - k = (8 - (k + 1)) + 1 := by omega
      rw [e, Int.pow_succ, ← Int.ediv_ediv_of_nonneg (Int.le_of_lt (Int.pow_pos (by decide))), ← Int.ediv_ediv_of_nonneg (Int.le_of_lt (Int.pow_pos (by decide)))] at h1
      rw [show 7 - k = 8 - (k + 1) by omega] at h2
      exact half_ext h1 h2
  have := g 8 (by omega)
  simpa using this
theorem bit_zero (k : Nat) : bitK 0 k = false := by simp [bitK]
theorem bit_some {x : Int} (hx : 0 ≤ x ∧ x ≤ 255) (h : x ≠ 0) : ∃ k, k < 8 ∧ bitK x k = true := by
  by_cases g : ∃ k, k < 8 ∧ bitK x k = true
  · exact g
  · refine (h (bit_ext hx (by omega) fun k hk => ?_)).elim
    rw [bit_zero]
    cases e : bitK x k with
    | false => rfl
    | true => exact (g ⟨k, hk, e⟩).elim
theorem or_bit_fin : ∀ (a : Fin 256) (k : Fin 8), orU8 (a.val : Int) (128 / 2 ^ k.val) = if bitK (a.val : Int) k.val = true then (a.val : Int) else (a.val : Int) + 128 / 2 ^ k.val := by
  decide +kernel
theorem or_bit {x : Int} {k : Nat} (hx : 0 ≤ x ∧ x ≤ 255) (hk : k < 8) : orU8 x (128 / 2 ^ k) = if bitK x k = true then x else x + 128 / 2 ^ k := by
  have h := or_bit_fin ⟨x.toNat, by omega⟩ ⟨k, hk⟩
  simp only [show ((x.toNat : Nat) : Int) = x by omega] at h
  exact h
theorem or_range {x : Int} {k : Nat} (hx : 0 ≤ x ∧ x ≤ 255) (hk : k < 8) : 0 ≤ orU8 x (128 / 2 ^ k) ∧ orU8 x (128 / 2 ^ k) ≤ 255 := by
  rw [or_bit hx hk]
  have hc : k = 0 ∨ k = 1 ∨ k = 2 ∨ k = 3 ∨ k = 4 ∨ k = 5 ∨ k = 6 ∨ k = 7 := by omega
  rcases hc with rfl | rfl | rfl | rfl | rfl | rfl | rfl | rfl <;> simp [bitK] <;> split <;> omega
theorem or_bitK {x : Int} {k j : Nat} (hx : 0 ≤ x ∧ x ≤ 255) (hk : k < 8) (hj : j < 8) : bitK (orU8 x (128 / 2 ^ k)) j = (bitK x j || decide (j = k)) := by
  rw [or_bit hx hk]
  have hc : k = 0 ∨ k = 1 ∨ k = 2 ∨ k = 3 ∨ k = 4 ∨ k = 5 ∨ k = 6 ∨ k = 7 := by omega
  have hd : j = 0 ∨ j = 1 ∨ j = 2 ∨ j = 3 ∨ j = 4 ∨ j = 5 ∨ j = 6 ∨ j = 7 := by omega
  rcases hc with rfl | rfl | rfl | rfl | rfl | rfl | rfl | rfl <;> rcases hd with rfl | rfl | rfl | rfl | rfl | rfl | rfl | rfl <;> simp [bitK] <;> split <;> (try simp) <;> omega
theorem zAt_set (l : List Int) : ∀ (i : Nat) (z : Int) (j : Nat), i < l.length → zAt (setZ l i z) j = if j = i then z else zAt l j := by
  induction l with
  | nil => intro i z j h; simp at h
  | cons a r ih =>
    intro i z j h
    cases i with
    | zero => cases j <;> simp [setZ, zAt]
    | succ i =>
      cases j with
      | zero => simp [setZ, zAt]
      | succ j =>
        have := ih i z j (by simpa using h)
        simpa [setZ, zAt] using this
theorem bmp_range (l : List Int) (w : Int) : ∀ j i, 0 ≤ zAt (bmp l w j) i ∧ zAt (bmp l w j) i ≤ 255
  | 0, i => by
    unfold bmp zAt
    rw [List.getD_eq_getElem?_getD, List.getElem?_replicate]
    split <;> simp
  | j + 1, i => by
    rw [bmp_succ]
    split
    · unfold bset
      rw [zAt_set _ _ _ _ (by rw [bmp_len]; omega)]
      split
      · exact or_range (bmp_range l w j _) (by omega)
      · exact bmp_range l w j i
    · exact bmp_range l w j i
theorem bmp_bit (l : List Int) (w : Int) : ∀ (j : Nat) (i k : Nat), i < 32 → k < 8 → (bitK (zAt (bmp l w j) i) k = true ↔ ∃ m, m < j ∧ zAt l m = 256 * w + 8 * i + k)
  | 0, i, k, hi, hk => by
    have : zAt (bmp l w 0) i = 0 := by unfold bmp zAt; rw [List.getD_eq_getElem?_getD, List.getElem?_replicate, if_pos hi]; rfl
    rw [this, bit_zero]
    constructor
    · intro h; cases h
    · rintro ⟨m, hm, _⟩; omega
  | j + 1, i, k, hi, hk => by
    have ih := bmp_bit l w j i k hi hk
    rw [bmp_succ]
    by_cases hw : zAt l j / 256 = w
    · rw [if_pos hw]
      unfold bset
      rw [zAt_set _ _ _ _ (by rw [bmp_len]; omega)]
      by_cases hq : i = (zAt l j % 256 / 8).toNat
      · rw [if_pos hq, or_bitK (bmp_range _ _ _ _) (by omega) hk, ← hq]
        simp only [Bool.or_eq_true, decide_eq_true_eq, ih]
        constructor
        · rintro (⟨m, h1, h2⟩ | h)
          · exact ⟨m, by omega, h2⟩
          · exact ⟨j, by omega, by omega⟩
        · rintro ⟨m, h1, h2⟩
          by_cases e : m = j
          · subst e; right; omega
          · exact .inl ⟨m, by omega, h2⟩
      · rw [if_neg hq, ih]
        constructor
        · rintro ⟨m, h1, h2⟩; exact ⟨m, by omega, h2⟩
        · rintro ⟨m, h1, h2⟩
          refine ⟨m, ?_, h2⟩
          by_cases e : m = j
          · subst e; exfalso; omega
          · omega
    · rw [if_neg hw, ih]
      constructor
      · rintro ⟨m, h1, h2⟩; exact ⟨m, by omega, h2⟩
      · rintro ⟨m, h1, h2⟩
        refine ⟨m, ?_, h2⟩
        by_cases e : m = j
        · subst e; exfalso; omega
        · omega
theorem mem_zAt {l : List Int} {z : Int} : z ∈ l ↔ ∃ m, m < l.length ∧ zAt l m = z := by
  rw [List.mem_iff_getElem]
  constructor
  · rintro ⟨m, h, e⟩; exact ⟨m, h, by simp [zAt, List.getD, h, e]⟩
  · rintro ⟨m, h, e⟩; exact ⟨m, h, by simpa [zAt, List.getD, h] using e⟩
theorem bmp_mem (l : List Int) (w : Int) (i k : Nat) (hi : i < 32) (hk : k < 8) : bitK (zAt (bmp l w l.length) i) k = true ↔ (256 * w + 8 * i + k : Int) ∈ l := by
  rw [bmp_bit l w _ i k hi hk, mem_zAt]
def Inc (l : List Int) : Prop := l.Pairwise (· < ·)
theorem inc_zAt {l : List Int} (h : Inc l) {a b : Nat} (h1 : a < b) (h2 : b < l.length) : zAt l a < zAt l b := by
  have := List.pairwise_iff_getElem.1 h a b (by omega) h2 h1
  simpa [zAt, List.getD, h2, show a < l.length by omega] using this
theorem bnm_ub {l : List Int} (hl : Inc l) (w : Int) : ∀ j, j ≤ l.length → ∀ m, m < j → zAt l m / 256 = w → zAt l m % 256 / 8 + 1 ≤ bnm l w j
  | 0, _, m, hm, _ => by omega
  | j + 1, hj, m, hm, hw => by
    rw [bnm_succ]
    by_cases e : m = j
    · subst e; rw [if_pos hw]; omega
    · have ih := bnm_ub hl w j (by omega) m (by omega) hw
      have hlt := inc_zAt hl (show m < j by omega) (by omega)
      split
      · omega
      · exact ih
theorem bnm_att (l : List Int) (w : Int) : ∀ j, bnm l w j = 0 ∨ ∃ m, m < j ∧ zAt l m / 256 = w ∧ bnm l w j = zAt l m % 256 / 8 + 1
  | 0 => .inl rfl
  | j + 1 => by
    rw [bnm_succ]
    by_cases hw : zAt l j / 256 = w
    · rw [if_pos hw]; exact .inr ⟨j, by omega, hw, rfl⟩
    · rw [if_neg hw]
      rcases bnm_att l w j with h | ⟨m, h1, h2, h3⟩
      · exact .inl h
      · exact .inr ⟨m, by omega, h2, h3⟩
theorem bitsAt_mem (w x i z : Int) : ∀ k, z ∈ bitsAt w x i k ↔ ∃ j, j < k ∧ bitK x j = true ∧ z = 256 * w + 8 * i + j
  | 0 => by simp [bitsAt]
  | k + 1 => by
    simp only [bitsAt, List.mem_append, bitsAt_mem w x i z k]
    by_cases hb : x / 2 ^ (7 - k) % 2 = 1
    · rw [if_pos hb]
      simp only [List.mem_singleton]
      constructor
      · rintro (⟨j, h1, h2, h3⟩ | h)
        · exact ⟨j, by omega, h2, h3⟩
        · exact ⟨k, by omega, decide_eq_true hb, h⟩
      · rintro ⟨j, h1, h2, h3⟩
        by_cases e : j = k
        · subst e; exact .inr h3
        · exact .inl ⟨j, by omega, h2, h3⟩
    · rw [if_neg hb]
      simp only [List.not_mem_nil, or_false]
      constructor
      · rintro ⟨j, h1, h2, h3⟩; exact ⟨j, by omega, h2, h3⟩
      · rintro ⟨j, h1, h2, h3⟩
        refine ⟨j, ?_, h2, h3⟩
        by_cases e : j = k
        · subst e; exact (hb (of_decide_eq_true h2)).elim
        · omega
theorem bitsTo_mem (w : Int) (b : ByteArray) (z : Int) : ∀ n, z ∈ bitsTo w b n ↔ ∃ i k, i < n ∧ k < 8 ∧ bitK (bAt b (i : Nat)) k = true ∧ z = 256 * w + 8 * i + k
  | 0 => by simp [bitsTo]
  | n + 1 => by
    simp only [bitsTo, List.mem_append, bitsTo_mem w b z n, bitsAt_mem]
    constructor
    · rintro (⟨i, k, h1, h2, h3, h4⟩ | ⟨k, h2, h3, h4⟩)
      · exact ⟨i, k, by omega, h2, h3, h4⟩
      · exact ⟨n, k, by omega, h2, h3, h4⟩
    · rintro ⟨i, k, h1, h2, h3, h4⟩
      by_cases e : i = n
      · subst e; exact .inr ⟨k, h2, h3, h4⟩
      · exact .inl ⟨i, k, by omega, h2, h3, h4⟩
theorem inc_app {a b : List Int} (ha : Inc a) (hb : Inc b) (h : ∀ x, x ∈ a → ∀ y, y ∈ b → x < y) : Inc (a ++ b) := List.pairwise_append.2 ⟨ha, hb, h⟩
theorem bitsAt_inc (w x i : Int) : ∀ k, Inc (bitsAt w x i k)
  | 0 => List.Pairwise.nil
  | k + 1 => by
    unfold bitsAt
    refine inc_app (bitsAt_inc w x i k) ?_ ?_
    · split
      · exact List.pairwise_singleton _ _
      · exact List.Pairwise.nil
    · intro a ha b hb
      obtain ⟨j, h1, h2, h3⟩ := (bitsAt_mem w x i a k).1 ha
      split at hb
      · simp only [List.mem_singleton] at hb; omega
      · simp at hb
theorem bitsTo_inc (w : Int) (b : ByteArray) : ∀ n, Inc (bitsTo w b n)
  | 0 => List.Pairwise.nil
  | n + 1 => by
    unfold bitsTo
    refine inc_app (bitsTo_inc w b n) (bitsAt_inc _ _ _ _) ?_
    intro x hx y hy
    obtain ⟨i, k, h1, h2, h3, h4⟩ := (bitsTo_mem w b x n).1 hx
    obtain ⟨j, g1, g2, g3⟩ := (bitsAt_mem w _ _ y 8).1 hy
    omega
theorem inc_ext : ∀ (a b : List Int), Inc a → Inc b → (∀ z, z ∈ a ↔ z ∈ b) → a = b
  | [], [], _, _, _ => rfl
  | [], y :: b, _, _, h => by have := (h y).2 (by simp); simp at this
  | x :: a, [], _, _, h => by have := (h x).1 (by simp); simp at this
  | x :: a, y :: b, ha, hb, h => by
    obtain ⟨ha1, ha2⟩ := List.pairwise_cons.1 ha
    obtain ⟨hb1, hb2⟩ := List.pairwise_cons.1 hb
    have exy : x = y := by
      have h1 := (h x).1 (by simp)
      have h2 := (h y).2 (by simp)
      simp only [List.mem_cons] at h1 h2
      rcases h1 with h1 | h1
      · exact h1
      · rcases h2 with h2 | h2
        · exact h2.symm
        · have := hb1 x h1; have := ha1 y h2; omega
    subst exy
    rw [inc_ext a b ha2 hb2 fun z => ?_]
    have hz := h z
    simp only [List.mem_cons] at hz
    constructor
    · intro g
      rcases hz.1 (.inr g) with e | e
      · subst e; have := ha1 _ g; omega
      · exact e
    · intro g
      rcases hz.2 (.inr g) with e | e
      · subst e; have := hb1 _ g; omega
      · exact e
end Go.Proofs.YtbladfkakmdigaaGreatDoor
set_option maxRecDepth 100000
set_option linter.unusedVariables false
set_option linter.unusedSimpArgs false
namespace Go.Proofs.YtbladfkakmdigaaGreatDoor
open Go.SX
theorem sInts_ext (s : ByteArray) (i j : Nat) : sInts (s.extract i j) = ((sInts s).drop i).take (j - i) := by
  unfold sInts
  rw [ByteArray.data_extract]
  simp [List.map_take, List.map_drop, List.take_drop]
  try (congr 1; omega)
theorem sInts_inj {s t : ByteArray} (h : sInts s = sInts t) : s = t := by
  rw [← strOf_sInts s, ← strOf_sInts t, h]
theorem tk_of {s : ByteArray} {p q : List Int} (h : sInts s = p ++ q) : ∃ b r, tkO p.length s = some (b, r) ∧ sInts b = p ∧ sInts r = q := by
  have hz : s.size = p.length + q.length := by rw [← sInts_length, h, List.length_append]
  refine ⟨s.extract 0 p.length, s.extract p.length s.size, by unfold tkO; rw [if_pos (by omega)], ?_, ?_⟩
  · rw [sInts_ext, h]; simp
  · rw [sInts_ext, h]
    rw [List.drop_left, List.take_of_length_le (by omega)]
theorem num1_of {s : ByteArray} {x : Int} {t : List Int} (h : sInts s = x :: t) : ∃ r, numO 1 s = some (x, r) ∧ sInts r = t := by
  obtain ⟨b, r, h1, h2, h3⟩ := tk_of (p := [x]) (q := t) (by simpa using h)
  refine ⟨r, ?_, h3⟩
  unfold numO
  rw [show (1 : Nat) = [x].length from rfl, h1]
  simp [h2, numL]
def blkB (p : Int × ByteArray) : List Int := p.1 :: (p.2.size : Int) :: sInts p.2
def blkT (p : Int × ByteArray) : List Int := bitsTo p.1 p.2 p.2.size
def blksB : List (Int × ByteArray) → List Int
  | [] => []
  | p :: r => blkB p ++ blksB r
def blksT : List (Int × ByteArray) → List Int
  | [] => []
  | p :: r => blkT p ++ blksT r
def Ws : Int → List (Int × ByteArray) → Prop
  | _, [] => True
  | last, p :: r => last < p.1 ∧ p.1 ≤ 255 ∧ 0 < p.2.size ∧ p.2.size ≤ 32 ∧ bAt p.2 (p.2.size - 1) ≠ 0 ∧ Ws p.1 r
theorem tyStep_of {s : ByteArray} {w last : Int} {b : ByteArray} {t : List Int} (h : sInts s = blkB (w, b) ++ t) (c : last < w ∧ w ≤ 255 ∧ 0 < b.size ∧ b.size ≤ 32 ∧ bAt b (b.size - 1) ≠ 0) : ∃ r, tyStep s last = some (w, b, r) ∧ sInts r = t := by
  obtain ⟨s1, h1, g1⟩ := num1_of (x := w) (t := (b.size : Int) :: (sInts b ++ t)) (by rw [h]; rfl)
  obtain ⟨s2, h2, g2⟩ := num1_of g1
  obtain ⟨b', s3, h3, g3, g4⟩ := tk_of g2
  obtain rfl := sInts_inj g3
  rw [sInts_length] at h3
  refine ⟨s3, ?_, g4⟩
  unfold tyStep
  rw [h1]
  simp only [Option.bind_some]
  rw [h2]
  simp only [Option.bind_some, Int.toNat_natCast]
  rw [h3]
  simp only [Option.bind_some]
  rw [if_pos ⟨c.1, c.2.2⟩]
theorem blks_typesO : ∀ (f : Nat) (bs : List (Int × ByteArray)) (s : ByteArray) (last : Int) (out : List Int), Ws last bs → sInts s = blksB bs → s.size < f → typesO f s last out = some (out ++ blksT bs)
  | 0, bs, s, last, out, _, _, hf => by omega
  | f + 1, [], s, last, out, _, h, hf => by
    have hz : s.size = 0 := by rw [← sInts_length, h]; rfl
    unfold typesO
    rw [if_pos hz]
    simp [blksT]
  | f + 1, (w, b) :: bs, s, last, out, hw, h, hf => by
    obtain ⟨h1, h2, h3, h4, h5, h6⟩ := hw
    obtain ⟨r, g1, g2⟩ := tyStep_of (s := s) (w := w) (b := b) (t := blksB bs) (last := last) h ⟨h1, h2, h3, h4, h5⟩
    have hz : s.size = 2 + b.size + r.size := by
      have := congrArg List.length h
      simp only [blksB, blkB, List.length_append, List.length_cons, sInts_length, ← g2] at this
      omega
    unfold typesO
    rw [if_neg (by omega), g1]
    simp only [Option.bind_some]
    rw [blks_typesO f bs r w _ h6 g2 (by omega), List.append_assoc]
    rfl
theorem blkT_mem {p : Int × ByteArray} {z : Int} (h : z ∈ blkT p) (hs : p.2.size ≤ 32) : z / 256 = p.1 := by
  obtain ⟨i, k, h1, h2, h3, h4⟩ := (bitsTo_mem _ _ _ _).1 h
  omega
theorem blksT_mem : ∀ {bs : List (Int × ByteArray)} {last : Int} {z : Int}, Ws last bs → z ∈ blksT bs → last < z / 256 ∧ z / 256 ≤ 255
  | [], _, z, _, h => by simp [blksT] at h
  | p :: bs, last, z, hw, h => by
    obtain ⟨h1, h2, h3, h4, h5, h6⟩ := hw
    simp only [blksT, List.mem_append] at h
    rcases h with h | h
    · have := blkT_mem h h4; omega
    · have := blksT_mem h6 h; omega
theorem blksT_inc : ∀ {bs : List (Int × ByteArray)} {last : Int}, Ws last bs → Inc (blksT bs)
  | [], _, _ => List.Pairwise.nil
  | p :: bs, last, hw => by
    obtain ⟨h1, h2, h3, h4, h5, h6⟩ := hw
    refine inc_app (bitsTo_inc _ _ _) (blksT_inc h6) ?_
    intro x hx y hy
    have := blkT_mem hx h4
    have := blksT_mem h6 hy
    omega
end Go.Proofs.YtbladfkakmdigaaGreatDoor
set_option maxRecDepth 100000
set_option linter.unusedVariables false
set_option linter.unusedSimpArgs false
namespace Go.Proofs.YtbladfkakmdigaaGreatDoor
open Go.SX
theorem sInts_strN (l : List Int) (h : ∀ n, n ∈ l → 0 ≤ n ∧ n ≤ 255) : sInts (strOfNums l) = l := by
  unfold sInts
  rw [strOfNums_data, List.map_map]
  induction l with
  | nil => rfl
  | cons x r ih =>
    have hx := h x (by simp)
    simp only [List.map_cons, Function.comp_def]
    congr 1
    · simp
      omega
    · exact ih fun n hn => h n (List.mem_cons_of_mem _ hn)
def blkOf (l : List Int) (w : Int) : Int × ByteArray := (w, strOfNums ((bmp l w l.length).take (bnm l w l.length).toNat))
def blksOf (l : List Int) : Nat → List (Int × ByteArray)
  | 0 => []
  | k + 1 => blksOf l k ++ (if 0 < bnm l k l.length then [blkOf l k] else [])
theorem blksB_app : ∀ (a b : List (Int × ByteArray)), blksB (a ++ b) = blksB a ++ blksB b
  | [], b => rfl
  | p :: a, b => by simp only [List.cons_append, blksB, blksB_app a b, List.append_assoc]
theorem blksT_app : ∀ (a b : List (Int × ByteArray)), blksT (a ++ b) = blksT a ++ blksT b
  | [], b => rfl
  | p :: a, b => by simp only [List.cons_append, blksT, blksT_app a b, List.append_assoc]
theorem Ws_snoc : ∀ {bs : List (Int × ByteArray)} {last : Int} {p : Int × ByteArray}, Ws last bs → (∀ q, q ∈ bs → q.1 < p.1) → last < p.1 → p.1 ≤ 255 ∧ 0 < p.2.size ∧ p.2.size ≤ 32 ∧ bAt p.2 (p.2.size - 1) ≠ 0 → Ws last (bs ++ [p])
  | [], last, p, _, _, h, g => ⟨h, g.1, g.2.1, g.2.2.1, g.2.2.2, trivial⟩
  | q :: bs, last, p, hw, hq, h, g => by
    obtain ⟨h1, h2, h3, h4, h5, h6⟩ := hw
    exact ⟨h1, h2, h3, h4, h5, Ws_snoc h6 (fun r hr => hq r (List.mem_cons_of_mem _ hr)) (hq q (by simp)) g⟩
theorem zAt_range {l : List Int} {n : Int} (h : n ∈ l) : ∃ i, i < l.length ∧ zAt l i = n := mem_zAt.1 h
theorem blkOf_sInts (l : List Int) (w : Int) : sInts (blkOf l w).2 = (bmp l w l.length).take (bnm l w l.length).toNat := by
  refine sInts_strN _ fun n hn => ?_
  obtain ⟨i, _, rfl⟩ := zAt_range (List.mem_of_mem_take hn)
  exact bmp_range _ _ _ _
theorem blkOf_size (l : List Int) (w : Int) : ((blkOf l w).2.size : Int) = bnm l w l.length := by
  rw [← sInts_length, blkOf_sInts, List.length_take, bmp_len]
  have := bnm_range l w l.length
  omega
theorem blkOf_bAt (l : List Int) (w : Int) (i : Nat) (h : (i : Int) < bnm l w l.length) : bAt (blkOf l w).2 i = zAt (bmp l w l.length) i := by
  have hz := blkOf_size l w
  have := sInts_get (blkOf l w).2 i (by omega)
  rw [blkOf_sInts, List.getElem?_take_of_lt (by omega)] at this
  have e : zAt (bmp l w l.length) i = bAt (blkOf l w).2 i := by
    unfold zAt
    rw [List.getD_eq_getElem?_getD, this]
    rfl
  exact e.symm
theorem winR_of (l : List Int) (w : Nat) (hw : w ≤ 255) : winR l w = blksB (if 0 < bnm l w l.length then [blkOf l w] else []) := by
  unfold winR
  split
  · have hr := bnm_range l w l.length
    have e1 : be1 (w : Int) = [(w : Int)] := by
      unfold be1 by8
      rw [Int.ediv_one, wrap_u8 (by omega)]
    have e2 : be1 (bnm l w l.length) = [bnm l w l.length] := by
      unfold be1 by8
      rw [Int.ediv_one, wrap_u8 (by omega)]
    simp only [blksB, blkB]
    rw [e1, e2, blkOf_sInts, blkOf_size]
    simp [blkOf]
  · rfl
theorem wins_of (o l : List Int) : ∀ k, k ≤ 256 → wins o l k = o ++ blksB (blksOf l k)
  | 0, _ => by simp [wins, blksOf, blksB]
  | k + 1, hk => by
    show wins o l k ++ winR l k = _
    rw [wins_of o l k (by omega), winR_of l k (by omega), List.append_assoc, ← blksB_app]
    rfl
theorem blkOf_mem {l : List Int} (hl : Inc l) (w z : Int) : z ∈ blkT (blkOf l w) ↔ z ∈ l ∧ z / 256 = w := by
  have hr := bnm_range l w l.length
  have hz := blkOf_size l w
  unfold blkT
  rw [bitsTo_mem]
  constructor
  · rintro ⟨i, k, h1, h2, h3, h4⟩
    rw [blkOf_bAt l w i (by omega)] at h3
    have h5 := (bmp_mem l w i k (by omega) h2).1 h3
    have e : (blkOf l w).1 = w := rfl
    rw [e] at h4
    rw [← h4] at h5
    exact ⟨h5, by omega⟩
  · rintro ⟨h1, h2⟩
    obtain ⟨m, g1, g2⟩ := mem_zAt.1 h1
    have hu := bnm_ub hl w _ (Nat.le_refl _) m g1 (by rw [g2]; exact h2)
    rw [g2] at hu
    have e : (blkOf l w).1 = w := rfl
    refine ⟨(z % 256 / 8).toNat, (z % 8).toNat, by omega, by omega, ?_, by rw [e]; omega⟩
    rw [blkOf_bAt l w _ (by omega)]
    refine (bmp_mem l w _ _ (by omega) (by omega)).2 ?_
    rw [show (256 * w + 8 * (((z % 256 / 8).toNat : Nat) : Int) + (((z % 8).toNat : Nat) : Int)) = z by omega]
    exact h1
theorem blkOf_ok {l : List Int} {w : Int} (h : 0 < bnm l w l.length) : 0 < (blkOf l w).2.size ∧ (blkOf l w).2.size ≤ 32 ∧ bAt (blkOf l w).2 ((blkOf l w).2.size - 1) ≠ 0 := by
  have hr := bnm_range l w l.length
  have hz := blkOf_size l w
  refine ⟨by omega, by omega, fun h0 => ?_⟩
  rcases bnm_att l w l.length with g | ⟨m, g1, g2, g3⟩
  · omega
  · have hb := (bmp_mem l w (zAt l m % 256 / 8).toNat (zAt l m % 8).toNat (by omega) (by omega)).2 (by
      rw [show (256 * w + 8 * (((zAt l m % 256 / 8).toNat : Nat) : Int) + (((zAt l m % 8).toNat : Nat) : Int)) = zAt l m by omega]
      exact mem_zAt.2 ⟨m, g1, rfl⟩)
    rw [← blkOf_bAt l w _ (by omega)] at hb
    rw [show (((zAt l m % 256 / 8).toNat : Nat) : Int) = ((blkOf l w).2.size : Int) - 1 by omega, h0, bit_zero] at hb
    cases hb
theorem blksOf_fst {l : List Int} : ∀ {k : Nat} {q : Int × ByteArray}, q ∈ blksOf l k → q.1 < k
  | 0, q, h => by simp [blksOf] at h
  | k + 1, q, h => by
    simp only [blksOf, List.mem_append] at h
    rcases h with h | h
    · have := blksOf_fst h; omega
    · split at h
      · simp only [List.mem_singleton] at h
        subst h
        show (k : Int) < _
        omega
      · simp at h
theorem blksOf_Ws (l : List Int) : ∀ k, k ≤ 256 → Ws (-1) (blksOf l k)
  | 0, _ => trivial
  | k + 1, hk => by
    unfold blksOf
    split
    · rename_i h
      refine Ws_snoc (blksOf_Ws l k (by omega)) (fun q hq => blksOf_fst hq) (by show (-1 : Int) < (k : Int); omega) ⟨by show (k : Int) ≤ 255; omega, blkOf_ok h⟩
    · rw [List.append_nil]
      exact blksOf_Ws l k (by omega)
theorem bnm_pos {l : List Int} (hl : Inc l) {w z : Int} (hz : z ∈ l) (hw : z / 256 = w) : 0 < bnm l w l.length := by
  obtain ⟨m, g1, g2⟩ := mem_zAt.1 hz
  have hu := bnm_ub hl w _ (Nat.le_refl _) m g1 (by rw [g2]; exact hw)
  omega
theorem blksOf_mem {l : List Int} (hl : Inc l) (z : Int) : ∀ k : Nat, z ∈ blksT (blksOf l k) ↔ z ∈ l ∧ 0 ≤ z ∧ z / 256 < k
  | 0 => by
    simp only [blksOf, blksT, List.not_mem_nil, false_iff]
    rintro ⟨_, h1, h2⟩
    omega
  | k + 1 => by
    unfold blksOf
    rw [blksT_app, List.mem_append, blksOf_mem hl z k]
    split
    · simp only [blksT, List.append_nil, blkOf_mem hl]
      constructor
      · rintro (⟨h1, h2, h3⟩ | ⟨h1, h2⟩)
        · exact ⟨h1, h2, by omega⟩
        · exact ⟨h1, by omega, by omega⟩
      · rintro ⟨h1, h2, h3⟩
        by_cases e : z / 256 = (k : Int)
        · exact .inr ⟨h1, e⟩
        · exact .inl ⟨h1, h2, by omega⟩
    · rename_i hn
      simp only [blksT, List.not_mem_nil, or_false]
      constructor
      · rintro ⟨h1, h2, h3⟩; exact ⟨h1, h2, by omega⟩
      · rintro ⟨h1, h2, h3⟩
        refine ⟨h1, h2, ?_⟩
        by_cases e : z / 256 = (k : Int)
        · exact (hn (bnm_pos hl h1 e)).elim
        · omega
theorem typesO_wins {s : ByteArray} {l : List Int} {f : Nat} (hl : Inc l) (hr : ∀ z, z ∈ l → 0 ≤ z ∧ z < 65536) (hs : sInts s = wins [] l 256) (hf : s.size < f) : typesO f s (-1) [] = some l := by
  obtain ⟨K, hK⟩ : ∃ K, K = 256 := ⟨_, rfl⟩
  rw [← hK] at hs
  have hw := blksOf_Ws l K (by omega)
  rw [wins_of [] l K (by omega), List.nil_append] at hs
  rw [blks_typesO f (blksOf l K) s (-1) [] hw hs hf, List.nil_append]
  congr 1
  refine inc_ext _ _ (blksT_inc hw) hl fun z => ?_
  rw [blksOf_mem hl]
  constructor
  · exact fun h => h.1
  · intro h
    have := hr z h
    exact ⟨h, by omega, by omega⟩
theorem tbD_true {l : List Int} {wr : Bool} {i : Nat} : ∀ {n : Nat}, tbD l wr i = true → i ≤ n → tbD l wr n = true
  | 0, h, hi => by
    obtain rfl : i = 0 := by omega
    exact h
  | n + 1, h, hi => by
    by_cases e : i = n + 1
    · subst e; exact h
    · unfold tbD
      rw [tbD_true (n := n) h (by omega)]
      rfl
theorem tbD_false {l : List Int} (hl : Inc l) (hr : ∀ z, z ∈ l → 0 ≤ z ∧ z < 65536) : ∀ n, n ≤ l.length → tbD l false n = false
  | 0, _ => rfl
  | n + 1, h => by
    have hz := hr (zAt l n) (mem_zAt.2 ⟨n, by omega, rfl⟩)
    have hf : fit (zAt l n) 65536 = true := decide_eq_true hz
    unfold tbD
    rw [tbD_false hl hr n (by omega), hf]
    by_cases h0 : 0 < n
    · have := inc_zAt hl (show n - 1 < n by omega) (by omega)
      rw [decide_eq_false (show ¬ zAt l n ≤ zAt l (n - 1) by omega)]
      simp
    · rw [decide_eq_false h0]
      simp
end Go.Proofs.YtbladfkakmdigaaGreatDoor
set_option maxRecDepth 100000
set_option linter.unusedVariables false
set_option linter.unusedSimpArgs false
namespace Go.Proofs.YtbladfkakmdigaaGreatDoor
open Go.SX
def styO (o : List Int) (wr : Bool) (l : List Int) : List Int := if tbD l wr l.length = true then o else wins o l 256
def stH (o : List Int) (wr : Bool) (v : Nat) (l : List Int) (vl : Nat) (s : Nat → Nat) : List (Option Chunk) := [some ⟨.own, 141, 2, 0, [.sl (s 1) v 0 o.length, .v (.bool wr)]⟩, some ⟨.row, 5, 1, v, byt o⟩, some ⟨.row, 3, 1, vl, its l⟩]
theorem stH_cl (o : List Int) (wr : Bool) (v : Nat) (l : List Int) (vl : Nat) : refsInC (stH o wr v l vl id) (stH o wr v l vl id) = true := by
  simp [stH, refsInC, refsInL, refsIn, hasO, refsInL_byt, refsInL_its]
theorem stH_nat (o : List Int) (wr : Bool) (v : Nat) (l : List Int) (vl : Nat) (σ : List Nat) : mapR σ (stH o wr v l vl id) = stH o wr v l vl (getN σ) := by
  simp [stH, mapR, renK, renL, renA, renL_byt, renL_its]
set_option maxHeartbeats 16000000 in
theorem stypes_con (o : List Int) (wr : Bool) (v : Nat) (l : List Int) (vl : Nat) (ho : o.length < 1099511627776) (hl : l.length < 1099511627776) : Con Tryz.prog (fun _ => True) 99 (fun s => [.ref (s 0) 0 0, .sl (s 2) vl 0 l.length]) (stH o wr v l vl) (fun _ : Nat => True) (fun _ _ => .tup []) (fun v' => stH (styO o wr l) (tbD l wr l.length) v' l vl) (fun _ => False) := by
  refine Con.of (TTok _ _) Tryz.func99 (by kernel_rfl) rfl (stH_cl _ _ _ _ _) rfl (fun σ => rfl) (stH_nat _ _ _ _ _) (fun _ _ _ => rfl) (fun _ σ _ => stH_nat _ _ _ _ _ σ) (fun _ _ => CEnd.of rfl rfl (stH_cl _ _ _ _ _)) ?_
  unfold stH
  repeat' ((conv => whnf); first | (with_reducible first | refine TR.seq ?_ | refine TR.regionL ?_ | refine TR.drawn (TTok _ _) mixed ?_ | refine TR.block ?_ | refine TR.ret ?_ | refine TR.exit ?_ | refine TR.skip ?_ | refine TR.condB rfl ?_ | refine TRL.nil ?_ | refine Br.cond_t ?_ | refine Br.cond_f ?_ | refine Br.yes (by first | decide | assumption | (apply decide_eq_true; omega)) ?_ | refine Br.non (by first | decide | assumption | (apply decide_eq_false; omega)) ?_ | refine Br.cond_ff ?_ | refine Br.eqT (by omega) ?_ | refine Br.eqF (by omega) ?_ | refine Br.neT (by omega) ?_ | refine Br.neF (by omega) ?_ | refine Ld.mk' _ rfl ?_ | refine Need.mk (by first | decide | omega | kernel_rfl) ?_ | refine Nm.i64 (by omega) ?_ | refine Nm.u64 (by omega) ?_ | refine Nm.u8 (by omega) ?_ | refine Nm.keep ?_ | refine Need.mk (by dsimp only; omega) ?_) | refine TRL.step (TTok _ _) ?_ | (refine x_exq (TTok _ _) ?_; (conv => whnf); fail_if_success (guard_target =ₛ False)))
  refine TR.loopH (fun k : Nat => [(12, .v (.int .i64 k))]) (fun k => [(0, ⟨.own, 141, 2, 0, [.sl 1 v 0 o.length, .v (.bool (tbD l wr k))]⟩)]) (fun k => k ≤ l.length) (fun k => l.length - k) 0 (Nat.zero_le _) ?_ ?_
  · repeat' ((conv => whnf); first | exact trivial | exact Fgt.nil | exact Fgt.mk rfl rfl rfl | exact Fgt.mk rfl (by simp only [noRefC, nr_app, nr_map, nr_its, nr_byt', noRefL, noRef, Bool.and_self] <;> rfl) rfl | refine And.intro rfl ?_ | refine And.intro ?_ ?_)
  · intro k hk
    by_cases hkn : k < l.length
    · have hld := ld_its hkn
      have hb : fit (zAt l k) 65536 = true ↔ 0 ≤ zAt l k ∧ zAt l k < 65536 := by simp [fit]
      have hW : tbD l wr (k + 1) = (tbD l wr k || (!fit (zAt l k) 65536 || (decide (0 < k) && decide (zAt l k ≤ zAt l (k - 1))))) := rfl
      have hx := fun w => istype_ret (zAt l k) _ hb w
      generalize tbD l wr k = W at hW ⊢
      generalize fit (zAt l k) 65536 = F at hW hx hb
      cases W with
      | true =>
        have hW1 : tbD l wr (k + 1) = true := hW.trans rfl
        repeat' ((conv => whnf); first | (with_reducible first | refine TR.seq ?_ | refine TR.regionL ?_ | refine TR.drawn (TTok _ _) mixed ?_ | refine TR.block ?_ | refine TR.ret ?_ | refine TR.exit ?_ | refine TR.skip ?_ | refine TR.condB rfl ?_ | refine TRL.nil ?_ | refine Br.cond_t ?_ | refine Br.cond_f ?_ | refine Br.yes (by first | decide | assumption | (apply decide_eq_true; omega)) ?_ | refine Br.non (by first | decide | assumption | (apply decide_eq_false; omega)) ?_ | refine Br.cond_ff ?_ | refine Br.eqT (by omega) ?_ | refine Br.eqF (by omega) ?_ | refine Br.neT (by omega) ?_ | refine Br.neF (by omega) ?_ | refine Ld.mk' _ rfl ?_ | refine Need.mk (by first | decide | omega | kernel_rfl) ?_ | refine Nm.i64 (by omega) ?_ | refine Nm.u64 (by omega) ?_ | refine Nm.u8 (by omega) ?_ | refine Nm.keep ?_ | refine Need.mk (by dsimp only; omega) ?_) | refine Ld.mk' _ hld ?_ | refine TRL.step (TTok _ _) ?_ | (refine x_exq (TTok _ _) ?_; (conv => whnf); fail_if_success (guard_target =ₛ False)))
        all_goals (conv => whnf)
        refine ⟨k + 1, by omega, by omega, ?_⟩
        repeat' ((conv => whnf); first | exact trivial | exact Fgt.nil | exact Fgt.mk rfl rfl rfl | exact Fgt.mk rfl (by simp only [noRefC, nr_app, nr_map, nr_its, nr_byt', noRefL, noRef, Bool.and_self] <;> rfl) rfl | refine And.intro rfl ?_ | refine And.intro ?_ ?_)
        all_goals first | (rw [hW1]; done) | (rw [hW1]; rfl) | (rw [hW1]; simp [h1]) | (rw [hW1]; simp)
      | false =>
        cases F with
        | false =>
          have hW1 : tbD l wr (k + 1) = true := hW.trans rfl
          repeat' ((conv => whnf); first | (with_reducible first | refine TR.seq ?_ | refine TR.regionL ?_ | refine TR.drawn (TTok _ _) mixed ?_ | refine TR.block ?_ | refine TR.ret ?_ | refine TR.exit ?_ | refine TR.skip ?_ | refine TR.condB rfl ?_ | refine TRL.nil ?_ | refine Br.cond_t ?_ | refine Br.cond_f ?_ | refine Br.yes (by first | decide | assumption | (apply decide_eq_true; omega)) ?_ | refine Br.non (by first | decide | assumption | (apply decide_eq_false; omega)) ?_ | refine Br.cond_ff ?_ | refine Br.eqT (by omega) ?_ | refine Br.eqF (by omega) ?_ | refine Br.neT (by omega) ?_ | refine Br.neF (by omega) ?_ | refine Ld.mk' _ rfl ?_ | refine Need.mk (by first | decide | omega | kernel_rfl) ?_ | refine Nm.i64 (by omega) ?_ | refine Nm.u64 (by omega) ?_ | refine Nm.u8 (by omega) ?_ | refine Nm.keep ?_ | refine Need.mk (by dsimp only; omega) ?_ | refine x_ret (f := 56) rfl rfl (fun w _ => hx w) ?_) | refine Ld.mk' _ hld ?_ | refine TRL.step (TTok _ _) ?_ | (refine x_exq (TTok _ _) ?_; (conv => whnf); fail_if_success (guard_target =ₛ False)))
          all_goals (conv => whnf)
          refine ⟨k + 1, by omega, by omega, ?_⟩
          repeat' ((conv => whnf); first | exact trivial | exact Fgt.nil | exact Fgt.mk rfl rfl rfl | exact Fgt.mk rfl (by simp only [noRefC, nr_app, nr_map, nr_its, nr_byt', noRefL, noRef, Bool.and_self] <;> rfl) rfl | refine And.intro rfl ?_ | refine And.intro ?_ ?_)
          all_goals first | (rw [hW1]; done) | (rw [hW1]; rfl) | (rw [hW1]; simp [h1]) | (rw [hW1]; simp)
        | true =>
          by_cases h0 : 0 < k
          · have hld2 := ld_its (l := l) (k := k - 1) (by omega)
            have ek : (((k - 1 : Nat) : Int)).toNat = ((k : Int) - 1).toNat := by omega
            rw [ek] at hld2
            by_cases h1 : zAt l k ≤ zAt l (k - 1)
            · have hW1 : tbD l wr (k + 1) = true := by rw [hW]; simp [h0, h1]
              repeat' ((conv => whnf); first | (with_reducible first | refine TR.seq ?_ | refine TR.regionL ?_ | refine TR.drawn (TTok _ _) mixed ?_ | refine TR.block ?_ | refine TR.ret ?_ | refine TR.exit ?_ | refine TR.skip ?_ | refine TR.condB rfl ?_ | refine TRL.nil ?_ | refine Br.cond_t ?_ | refine Br.cond_f ?_ | refine Br.yes (by first | decide | assumption | (apply decide_eq_true; omega)) ?_ | refine Br.non (by first | decide | assumption | (apply decide_eq_false; omega)) ?_ | refine Br.cond_ff ?_ | refine Br.eqT (by omega) ?_ | refine Br.eqF (by omega) ?_ | refine Br.neT (by omega) ?_ | refine Br.neF (by omega) ?_ | refine Ld.mk' _ rfl ?_ | refine Need.mk (by first | decide | omega | kernel_rfl) ?_ | refine Nm.i64 (by omega) ?_ | refine Nm.u64 (by omega) ?_ | refine Nm.u8 (by omega) ?_ | refine Nm.keep ?_ | refine Need.mk (by dsimp only; omega) ?_ | refine x_ret (f := 56) rfl rfl (fun w _ => hx w) ?_) | refine Ld.mk' _ hld ?_ | refine Ld.mk' _ hld2 ?_ | refine TRL.step (TTok _ _) ?_ | (refine x_exq (TTok _ _) ?_; (conv => whnf); fail_if_success (guard_target =ₛ False)))
              all_goals (conv => whnf)
              refine ⟨k + 1, by omega, by omega, ?_⟩
              repeat' ((conv => whnf); first | exact trivial | exact Fgt.nil | exact Fgt.mk rfl rfl rfl | exact Fgt.mk rfl (by simp only [noRefC, nr_app, nr_map, nr_its, nr_byt', noRefL, noRef, Bool.and_self] <;> rfl) rfl | refine And.intro rfl ?_ | refine And.intro ?_ ?_)
              all_goals first | (rw [hW1]; done) | (rw [hW1]; rfl) | (rw [hW1]; simp [h1]) | (rw [hW1]; simp)
            · have hW1 : tbD l wr (k + 1) = false := by rw [hW]; simp [h0, h1]
              repeat' ((conv => whnf); first | (with_reducible first | refine TR.seq ?_ | refine TR.regionL ?_ | refine TR.drawn (TTok _ _) mixed ?_ | refine TR.block ?_ | refine TR.ret ?_ | refine TR.exit ?_ | refine TR.skip ?_ | refine TR.condB rfl ?_ | refine TRL.nil ?_ | refine Br.cond_t ?_ | refine Br.cond_f ?_ | refine Br.yes (by first | decide | assumption | (apply decide_eq_true; omega)) ?_ | refine Br.non (by first | decide | assumption | (apply decide_eq_false; omega)) ?_ | refine Br.cond_ff ?_ | refine Br.eqT (by omega) ?_ | refine Br.eqF (by omega) ?_ | refine Br.neT (by omega) ?_ | refine Br.neF (by omega) ?_ | refine Ld.mk' _ rfl ?_ | refine Need.mk (by first | decide | omega | kernel_rfl) ?_ | refine Nm.i64 (by omega) ?_ | refine Nm.u64 (by omega) ?_ | refine Nm.u8 (by omega) ?_ | refine Nm.keep ?_ | refine Need.mk (by dsimp only; omega) ?_ | refine x_ret (f := 56) rfl rfl (fun w _ => hx w) ?_) | refine Ld.mk' _ hld ?_ | refine Ld.mk' _ hld2 ?_ | refine TRL.step (TTok _ _) ?_ | (refine x_exq (TTok _ _) ?_; (conv => whnf); fail_if_success (guard_target =ₛ False)))
              all_goals (conv => whnf)
              refine ⟨k + 1, by omega, by omega, ?_⟩
              repeat' ((conv => whnf); first | exact trivial | exact Fgt.nil | exact Fgt.mk rfl rfl rfl | exact Fgt.mk rfl (by simp only [noRefC, nr_app, nr_map, nr_its, nr_byt', noRefL, noRef, Bool.and_self] <;> rfl) rfl | refine And.intro rfl ?_ | refine And.intro ?_ ?_)
              all_goals first | (rw [hW1]; done) | (rw [hW1]; rfl) | (rw [hW1]; simp [h1]) | (rw [hW1]; simp)
          · obtain rfl : k = 0 := by omega
            have hW1 : tbD l wr (0 + 1) = false := hW.trans rfl
            repeat' ((conv => whnf); first | (with_reducible first | refine TR.seq ?_ | refine TR.regionL ?_ | refine TR.drawn (TTok _ _) mixed ?_ | refine TR.block ?_ | refine TR.ret ?_ | refine TR.exit ?_ | refine TR.skip ?_ | refine TR.condB rfl ?_ | refine TRL.nil ?_ | refine Br.cond_t ?_ | refine Br.cond_f ?_ | refine Br.yes (by first | decide | assumption | (apply decide_eq_true; omega)) ?_ | refine Br.non (by first | decide | assumption | (apply decide_eq_false; omega)) ?_ | refine Br.cond_ff ?_ | refine Br.eqT (by omega) ?_ | refine Br.eqF (by omega) ?_ | refine Br.neT (by omega) ?_ | refine Br.neF (by omega) ?_ | refine Ld.mk' _ rfl ?_ | refine Need.mk (by first | decide | omega | kernel_rfl) ?_ | refine Nm.i64 (by omega) ?_ | refine Nm.u64 (by omega) ?_ | refine Nm.u8 (by omega) ?_ | refine Nm.keep ?_ | refine Need.mk (by dsimp only; omega) ?_ | refine x_ret (f := 56) rfl rfl (fun w _ => hx w) ?_) | refine Ld.mk' _ hld ?_ | refine TRL.step (TTok _ _) ?_ | (refine x_exq (TTok _ _) ?_; (conv => whnf); fail_if_success (guard_target =ₛ False)))
            all_goals (conv => whnf)
            refine ⟨0 + 1, by omega, by omega, ?_⟩
            repeat' ((conv => whnf); first | exact trivial | exact Fgt.nil | exact Fgt.mk rfl rfl rfl | exact Fgt.mk rfl (by simp only [noRefC, nr_app, nr_map, nr_its, nr_byt', noRefL, noRef, Bool.and_self] <;> rfl) rfl | refine And.intro rfl ?_ | refine And.intro ?_ ?_)
            all_goals first | (rw [hW1]; done) | (rw [hW1]; rfl) | (rw [hW1]; simp [h1]) | (rw [hW1]; simp)
    · obtain rfl : k = l.length := by omega
      repeat' ((conv => whnf); first | (with_reducible first | refine TR.seq ?_ | refine TR.regionL ?_ | refine TR.drawn (TTok _ _) mixed ?_ | refine TR.block ?_ | refine TR.ret ?_ | refine TR.exit ?_ | refine TR.skip ?_ | refine TR.condB rfl ?_ | refine TRL.nil ?_ | refine Br.cond_t ?_ | refine Br.cond_f ?_ | refine Br.yes (by first | decide | assumption | (apply decide_eq_true; omega)) ?_ | refine Br.non (by first | decide | assumption | (apply decide_eq_false; omega)) ?_ | refine Br.cond_ff ?_ | refine Br.eqT (by omega) ?_ | refine Br.eqF (by omega) ?_ | refine Br.neT (by omega) ?_ | refine Br.neF (by omega) ?_ | refine Ld.mk' _ rfl ?_ | refine Need.mk (by first | decide | omega | kernel_rfl) ?_ | refine Nm.i64 (by omega) ?_ | refine Nm.u64 (by omega) ?_ | refine Nm.u8 (by omega) ?_ | refine Nm.keep ?_ | refine Need.mk (by dsimp only; omega) ?_) | refine TRL.step (TTok _ _) ?_ | (refine x_exq (TTok _ _) ?_; (conv => whnf); fail_if_success (guard_target =ₛ False)))
      cases hT : tbD l wr l.length with
      | true =>
        have hS : styO o wr l = o := by simp [styO, hT]
        rw [hS]
        refine TR.loopH (fun k : Nat => [(6, .v (.int .i64 0))]) (fun k => []) (fun k => True) (fun k => 0) 0 trivial ?_ ?_
        · repeat' ((conv => whnf); first | exact trivial | exact Fgt.nil | exact Fgt.mk rfl rfl rfl | exact Fgt.mk rfl (by simp only [noRefC, nr_app, nr_map, nr_its, nr_byt', noRefL, noRef, Bool.and_self] <;> rfl) rfl | refine And.intro rfl ?_ | refine And.intro ?_ ?_)
        · intro k hk
          by_cases h0 : 0 < l.length
          · skip
            repeat' ((conv => whnf); first | (with_reducible first | refine TR.seq ?_ | refine TR.regionL ?_ | refine TR.drawn (TTok _ _) mixed ?_ | refine TR.block ?_ | refine TR.ret ?_ | refine TR.exit ?_ | refine TR.skip ?_ | refine TR.condB rfl ?_ | refine TRL.nil ?_ | refine Br.cond_t ?_ | refine Br.cond_f ?_ | refine Br.yes (by first | decide | assumption | (apply decide_eq_true; omega)) ?_ | refine Br.non (by first | decide | assumption | (apply decide_eq_false; omega)) ?_ | refine Br.cond_ff ?_ | refine Br.eqT (by omega) ?_ | refine Br.eqF (by omega) ?_ | refine Br.neT (by omega) ?_ | refine Br.neF (by omega) ?_ | refine Ld.mk' _ rfl ?_ | refine Need.mk (by first | decide | omega | kernel_rfl) ?_ | refine Nm.i64 (by omega) ?_ | refine Nm.u64 (by omega) ?_ | refine Nm.u8 (by omega) ?_ | refine Nm.keep ?_ | refine Need.mk (by dsimp only; omega) ?_) | refine TRL.step (TTok _ _) ?_ | (refine x_exq (TTok _ _) ?_; (conv => whnf); fail_if_success (guard_target =ₛ False)))
            all_goals (conv => whnf)
            all_goals exact ⟨v, trivial, rfl, rfl, rfl, rfl, trivial⟩
          · skip
            repeat' ((conv => whnf); first | (with_reducible first | refine TR.seq ?_ | refine TR.regionL ?_ | refine TR.drawn (TTok _ _) mixed ?_ | refine TR.block ?_ | refine TR.ret ?_ | refine TR.exit ?_ | refine TR.skip ?_ | refine TR.condB rfl ?_ | refine TRL.nil ?_ | refine Br.cond_t ?_ | refine Br.cond_f ?_ | refine Br.yes (by first | decide | assumption | (apply decide_eq_true; omega)) ?_ | refine Br.non (by first | decide | assumption | (apply decide_eq_false; omega)) ?_ | refine Br.cond_ff ?_ | refine Br.eqT (by omega) ?_ | refine Br.eqF (by omega) ?_ | refine Br.neT (by omega) ?_ | refine Br.neF (by omega) ?_ | refine Ld.mk' _ rfl ?_ | refine Need.mk (by first | decide | omega | kernel_rfl) ?_ | refine Nm.i64 (by omega) ?_ | refine Nm.u64 (by omega) ?_ | refine Nm.u8 (by omega) ?_ | refine Nm.keep ?_ | refine Need.mk (by dsimp only; omega) ?_) | refine TRL.step (TTok _ _) ?_ | (refine x_exq (TTok _ _) ?_; (conv => whnf); fail_if_success (guard_target =ₛ False)))
            all_goals (conv => whnf)
            all_goals exact ⟨v, trivial, rfl, rfl, rfl, rfl, trivial⟩
      | false =>
        obtain ⟨hw, hr⟩ := tbD_rise hT
        have hS : styO o wr l = wins o l 256 := by simp [styO, hT]
        rw [hS]
        refine TR.loopH (fun x : Nat × Nat × Nat => [(6, .v (.int .i64 x.2.1))]) (fun x => [(0, ⟨.own, 141, 2, 0, [.sl 1 x.2.2 0 (wins o l x.1).length, .v (.bool false)]⟩), (1, ⟨.row, 5, 1, x.2.2, byt (wins o l x.1)⟩)]) (fun x => x.2.1 ≤ l.length ∧ x.1 ≤ 256 ∧ (∀ j, j < x.2.1 → zAt l j / 256 < x.1) ∧ (∀ j, x.2.1 ≤ j → j < l.length → (x.1 : Int) ≤ zAt l j / 256)) (fun x => l.length - x.2.1) (0, 0, v) ⟨Nat.zero_le _, Nat.zero_le _, fun j hj => absurd hj (Nat.not_lt_zero j), fun j _ hj => by have := hr j hj; dsimp only; omega⟩ ?_ ?_
        · repeat' ((conv => whnf); first | exact trivial | exact Fgt.nil | exact Fgt.mk rfl rfl rfl | exact Fgt.mk rfl (by simp only [noRefC, nr_app, nr_map, nr_its, nr_byt', noRefL, noRef, Bool.and_self] <;> rfl) rfl | refine And.intro rfl ?_ | refine And.intro ?_ ?_)
        · rintro ⟨k, i, v1⟩ ⟨g1, g2, g3, g4⟩
          dsimp only at g1 g2 g3 g4 ⊢
          have hwl := wins_len o l k
          by_cases hil : i < l.length
          · have hld := ld_its hil
            have hz := hr i hil
            repeat' ((conv => whnf); first | (with_reducible first | refine TR.seq ?_ | refine TR.regionL ?_ | refine TR.drawn (TTok _ _) mixed ?_ | refine TR.block ?_ | refine TR.ret ?_ | refine TR.exit ?_ | refine TR.skip ?_ | refine TR.condB rfl ?_ | refine TRL.nil ?_ | refine Br.cond_t ?_ | refine Br.cond_f ?_ | refine Br.yes (by first | decide | assumption | (apply decide_eq_true; omega)) ?_ | refine Br.non (by first | decide | assumption | (apply decide_eq_false; omega)) ?_ | refine Br.cond_ff ?_ | refine Br.eqT (by omega) ?_ | refine Br.eqF (by omega) ?_ | refine Br.neT (by omega) ?_ | refine Br.neF (by omega) ?_ | refine Ld.mk' _ rfl ?_ | refine Need.mk (by first | decide | omega | kernel_rfl) ?_ | refine Nm.i64 (by omega) ?_ | refine Nm.u64 (by omega) ?_ | refine Nm.u8 (by omega) ?_ | refine Sh.shrL ?_ | refine Sh.shlL ?_ | refine Nm.fd (by decide) ?_ | refine Nm.keep ?_ | refine Need.mk (by dsimp only; omega) ?_) | refine Ld.mk' _ hld ?_ | refine TRL.step (TTok _ _) ?_ | (refine x_exq (TTok _ _) ?_; (conv => whnf); fail_if_success (guard_target =ₛ False)))
            all_goals (conv => whnf)
            have hwz : ∃ w : Nat, zAt l i / 256 = (w : Int) ∧ k ≤ w ∧ w < 256 := ⟨(zAt l i / 256).toNat, by have := g4 i (Nat.le_refl _) hil; omega⟩
            obtain ⟨w, hw1, hw2, hw3⟩ := hwz
            rw [hw1]
            have hws : wins o l k = wins o l w := by
              have h := wins_skip (o := o) (l := l) (a := k) (d := w - k) fun w' h1 h2 j hj => by
                by_cases hji : j < i
                · have := g3 j hji; omega
                · by_cases e : j = i
                  · subst e; omega
                  · have := (hr j hj).2.2 i (by omega); omega
              rw [← h]
              congr 1
              omega
            rw [hws]
            have hwl := wins_len o l w
            have hb0 := bmp_none (l := l) (w := (w : Int)) (j := i) fun j hj => by have := g3 j hj; omega
            refine TR.loopH (fun x : Nat × List Int × Int => [(6, .v (.int .i64 x.1)), (9, .v (.int .i64 x.2.2))]) (fun x => [(8, ⟨.own, 194, 1, 0, byt x.2.1⟩)]) (fun x => i ≤ x.1 ∧ x.1 ≤ l.length ∧ x.2.1 = bmp l w x.1 ∧ (x.1 = i ∧ x.2.2 = 0 ∨ i < x.1 ∧ 0 ≤ x.2.2 ∧ x.2.2 + 1 = bnm l w x.1) ∧ (∀ j, i ≤ j → j < x.1 → zAt l j / 256 = w)) (fun x => l.length - x.1) (i, List.replicate 32 0, 0) ⟨Nat.le_refl _, g1, hb0.1.symm, .inl ⟨rfl, rfl⟩, fun j h1 h2 => by dsimp only at h2; omega⟩ ?_ ?_
            · repeat' ((conv => whnf); first | exact trivial | exact Fgt.nil | exact Fgt.mk rfl rfl rfl | exact Fgt.mk rfl (by simp only [noRefC, nr_app, nr_map, nr_its, nr_byt', noRefL, noRef, Bool.and_self] <;> rfl) rfl | refine And.intro rfl ?_ | refine And.intro ?_ ?_)
            · rintro ⟨j, b, n⟩ ⟨e1, e2, e3, e4, e5⟩
              dsimp only at e1 e2 e3 e4 e5 ⊢
              by_cases hjl : j < l.length
              · have hld := ld_its hjl
                have hz := hr j hjl
                by_cases hjw : zAt l j / 256 = w
                · have hzl : (zAt l j / 8 % 32).toNat = (zAt l j % 256 / 8).toNat := by omega
                  have hbl : b.length = 32 := by rw [e3, bmp_len]
                  have hlb : subL (byt b) (0 + (zAt l j / 8 % 32).toNat * 1) 1 = some [.v (.int .u8 (zAt b (zAt l j / 8 % 32).toNat))] := by
                    rw [Nat.zero_add, Nat.mul_one]
                    exact subL_byt_at b _ (by omega)
                  have hpb : putL (byt b) (0 + (zAt l j / 8 % 32).toNat * 1) [.v (.int .u8 (orU8 (zAt b (zAt l j / 8 % 32).toNat) (128 / 2 ^ (zAt l j % 8).toNat)))] = some (byt (setZ b (zAt l j / 8 % 32).toNat (orU8 (zAt b (zAt l j / 8 % 32).toNat) (128 / 2 ^ (zAt l j % 8).toNat)))) := by
                    rw [Nat.zero_add, Nat.mul_one]
                    exact putL_byt b _ _ (by omega)
                  have hbm : setZ b (zAt l j / 8 % 32).toNat (orU8 (zAt b (zAt l j / 8 % 32).toNat) (128 / 2 ^ (zAt l j % 8).toNat)) = bmp l w (j + 1) := by
                    rw [bmp_succ, if_pos hjw, ← e3, hzl]
                    rfl
                  have hbn : zAt l j / 8 % 32 + 1 = bnm l w (j + 1) := by
                    rw [bnm_succ, if_pos hjw]; omega
                  repeat' ((conv => whnf); first | (with_reducible first | refine TR.seq ?_ | refine TR.regionL ?_ | refine TR.drawn (TTok _ _) mixed ?_ | refine TR.block ?_ | refine TR.ret ?_ | refine TR.exit ?_ | refine TR.skip ?_ | refine TR.condB rfl ?_ | refine TRL.nil ?_ | refine Br.cond_t ?_ | refine Br.cond_f ?_ | refine Br.yes (by first | decide | assumption | (apply decide_eq_true; omega)) ?_ | refine Br.non (by first | decide | assumption | (apply decide_eq_false; omega)) ?_ | refine Br.cond_ff ?_ | refine Br.eqT (by omega) ?_ | refine Br.eqF (by omega) ?_ | refine Br.neT (by omega) ?_ | refine Br.neF (by omega) ?_ | refine Nm.and31 (by omega) ?_ | refine Nm.and7 (by omega) ?_ | refine Ld.mk' _ rfl ?_ | refine Need.mk (by first | decide | omega | kernel_rfl) ?_ | refine Nm.i64 (by omega) ?_ | refine Nm.u64 (by omega) ?_ | refine Nm.u8 (by omega) ?_ | (refine Sh.shrC (kd := .u8) (b := zAt l j % 8) ⟨by omega, by simp only [IntKind.bits]; omega⟩ ?_) | refine Sh.shrL ?_ | refine Sh.shlL ?_ | refine Nm.fd (by decide) ?_ | refine Nm.keep ?_ | refine Need.mk (by dsimp only; omega) ?_) | refine Ld.mk' _ hld ?_ | refine Ld.mk' _ hlb ?_ | refine Ld.mk' _ hpb ?_ | refine TRL.step (TTok _ _) ?_ | (refine x_exq (TTok _ _) ?_; (conv => whnf); fail_if_success (guard_target =ₛ False)))
                  all_goals (conv => whnf)
                  rw [hbm]
                  refine ⟨(j + 1, bmp l w (j + 1), zAt l j / 8 % 32), ⟨by dsimp only; omega, by dsimp only; omega, rfl, .inr ⟨by dsimp only; omega, by dsimp only; omega, hbn⟩, fun q h1 h2 => ?_⟩, by dsimp only; omega, ?_⟩
                  · dsimp only at h2
                    by_cases e : q = j
                    · subst e; exact hjw
                    · exact e5 q h1 (by omega)
                  repeat' ((conv => whnf); first | exact trivial | exact Fgt.nil | exact Fgt.mk rfl rfl rfl | exact Fgt.mk rfl (by simp only [noRefC, nr_app, nr_map, nr_its, nr_byt', noRefL, noRef, Bool.and_self] <;> rfl) rfl | refine And.intro rfl ?_ | refine And.intro ?_ ?_)
                · have hij : i < j := by
                    rcases e4 with e4 | e4
                    · exfalso; have := e4.1; subst this; omega
                    · exact e4.1
                  have hnn : n + 1 = bnm l w j := by
                    rcases e4 with e4 | e4
                    · omega
                    · exact e4.2.2
                  have hn0 : 0 ≤ n := by
                    rcases e4 with e4 | e4
                    · omega
                    · exact e4.2.1
                  have hrest := bmp_rest (l := l) (w := (w : Int)) (i := j) (d := l.length - j) fun q h1 h2 => by
                    by_cases e : q = j
                    · subst e; exact hjw
                    · have := (hr q (by omega)).2.2 j (by omega)
                      have h5 := e5 (j - 1) (by omega) (by omega)
                      have h6 := hz.2.2 (j - 1) (by omega)
                      omega
                  rw [show j + (l.length - j) = l.length by omega] at hrest
                  have hlt : (w : Int) < zAt l j / 256 := by
                    have h5 := e5 (j - 1) (by omega) (by omega)
                    have h6 := hz.2.2 (j - 1) (by omega)
                    omega
                  have hgt : ∀ q, j ≤ q → q < l.length → (w : Int) + 1 ≤ zAt l q / 256 := fun q h1 h2 => by
                    by_cases e : q = j
                    · subst e; omega
                    · have := (hr q h2).2.2 j (by omega); omega
                  have hlow : ∀ q, q < j → zAt l q / 256 < (w : Int) + 1 := fun q hq => by
                    by_cases e : q < i
                    · have := g3 q e; omega
                    · have := e5 q (by omega) hq; omega
                  have hbl : b.length = 32 := by rw [e3, bmp_len]
                  have hbr := bnm_range l w j
                  have hwf : (false || !fit (w : Int) 256) = false := by simp [fit]; omega
                  have c1 := number1_con (wins o l w) false v1 (w : Int) (by omega)
                  rw [hwf] at c1
                  have hsP : sInts (strOfNums (b.take (n + 1).toNat)) = b.take (n + 1).toNat := sInts_strN _ fun q hq => by
                    obtain ⟨r, _, rfl⟩ := mem_zAt.1 (List.mem_of_mem_take hq)
                    rw [e3]
                    exact bmp_range _ _ _ _
                  obtain ⟨P, hP⟩ : ∃ P, P = strOfNums (b.take (n + 1).toNat) := ⟨_, rfl⟩
                  have hPz : (P.size : Int) = n + 1 := by rw [hP, sz_nums, List.length_take, hbl]; omega
                  have hPf : ((false || !fit (P.size : Int) 256) || decide ((P.size : Int) < 1)) = false := by
                    have : ¬ ((P.size : Int) < 1) := by omega
                    simp [fit, this]; omega
                  have c2 := short_con (wins o l w ++ be1 w) false (v1 + 1) P 1 (by simp [be1]; omega) (by omega)
                  rw [hPf] at c2
                  have hwin : wins o l w ++ be1 w ++ be1 P.size ++ sInts P = wins o l (w + 1) := by
                    rw [hPz, hP, hsP, e3, hnn, ← hrest.1, ← hrest.2]
                    show _ = wins o l w ++ winR l w
                    unfold winR
                    rw [if_pos (by rw [hrest.2]; omega)]
                    simp only [List.append_assoc]
                  rw [hwin] at c2
                  subst hP
                  have hls : subL (byt b) (Int.toNat 0) ((n + 1).toNat - Int.toNat 0) = some (byt (b.take (n + 1).toNat)) := subL_byt_take b _ (by omega)
                  have hbb : (byt b).length = 32 := by simp [byt, hbl]
                  repeat' ((conv => whnf); first | (with_reducible first | refine TR.seq ?_ | refine TR.regionL ?_ | refine TR.drawn (TTok _ _) mixed ?_ | refine TR.block ?_ | refine TR.ret ?_ | refine TR.exit ?_ | refine TR.skip ?_ | refine TR.condB rfl ?_ | refine TRL.nil ?_ | refine Br.cond_t ?_ | refine Br.cond_f ?_ | refine Br.yes (by first | decide | assumption | (apply decide_eq_true; omega)) ?_ | refine Br.non (by first | decide | assumption | (apply decide_eq_false; omega)) ?_ | refine Br.cond_ff ?_ | refine Br.eqT (by omega) ?_ | refine Br.eqF (by omega) ?_ | refine Br.neT (by omega) ?_ | refine Br.neF (by omega) ?_ | refine Ld.mk' _ rfl ?_ | refine Need.mk (by first | decide | omega | kernel_rfl) ?_ | refine Nm.i64 (by omega) ?_ | refine Nm.u64 (by omega) ?_ | refine Nm.u8 (by omega) ?_ | refine Sh.shrL ?_ | refine Sh.shlL ?_ | refine Nm.fd (by decide) ?_ | refine Nm.keep ?_ | refine Need.mk (by dsimp only; omega) ?_) | refine Ld.mk' _ hld ?_ | refine Ld.mk' _ hls ?_ | (rw [bytL_byt]; conv => whnf) | (rw [hbb]; conv => whnf) | refine TRL.con [0, 1] [0, 1] c1 rfl rfl rfl rfl ⟨rfl, rfl, trivial⟩ rfl rfl (fun _ _ => ⟨trivial, ?_⟩) (fun _ h => h.elim) | refine TRL.con [0, 1] [0, 1] c2 rfl rfl rfl rfl ⟨rfl, rfl, trivial⟩ rfl rfl (fun _ _ => ⟨trivial, ?_⟩) (fun _ h => h.elim) | refine TRL.step (TTok _ _) ?_ | (refine x_exq (TTok _ _) ?_; (conv => whnf); fail_if_success (guard_target =ₛ False)))
                  all_goals (conv => whnf)
                  refine ⟨(w + 1, j, v1 + 1 + 1 + 1), ⟨by dsimp only; omega, by dsimp only; omega, fun q hq => by have := hlow q hq; dsimp only; omega, fun q h1 h2 => by have := hgt q h1 h2; dsimp only; omega⟩, by dsimp only; omega, ?_⟩
                  repeat' ((conv => whnf); first | exact trivial | exact Fgt.nil | exact Fgt.mk rfl rfl rfl | exact Fgt.mk rfl (by simp only [noRefC, nr_app, nr_map, nr_its, nr_byt', noRefL, noRef, Bool.and_self] <;> rfl) rfl | refine And.intro rfl ?_ | refine And.intro ?_ ?_)
                  all_goals trace_state
              · obtain rfl : j = l.length := by omega
                have hij : i < l.length := hil
                have hnn : n + 1 = bnm l w l.length := by
                  rcases e4 with e4 | e4
                  · omega
                  · exact e4.2.2
                have hn0 : 0 ≤ n := by
                  rcases e4 with e4 | e4
                  · omega
                  · exact e4.2.1
                have hrest : bmp l (w : Int) l.length = bmp l (w : Int) l.length ∧ bnm l (w : Int) l.length = bnm l (w : Int) l.length := ⟨rfl, rfl⟩
                have hgt : ∀ q, l.length ≤ q → q < l.length → (w : Int) + 1 ≤ zAt l q / 256 := fun q h1 h2 => by omega
                have hlow : ∀ q, q < l.length → zAt l q / 256 < (w : Int) + 1 := fun q hq => by
                  by_cases e : q < i
                  · have := g3 q e; omega
                  · have := e5 q (by omega) hq; omega
                have hbl : b.length = 32 := by rw [e3, bmp_len]
                have hbr := bnm_range l w l.length
                have hwf : (false || !fit (w : Int) 256) = false := by simp [fit]; omega
                have c1 := number1_con (wins o l w) false v1 (w : Int) (by omega)
                rw [hwf] at c1
                have hsP : sInts (strOfNums (b.take (n + 1).toNat)) = b.take (n + 1).toNat := sInts_strN _ fun q hq => by
                  obtain ⟨r, _, rfl⟩ := mem_zAt.1 (List.mem_of_mem_take hq)
                  rw [e3]
                  exact bmp_range _ _ _ _
                obtain ⟨P, hP⟩ : ∃ P, P = strOfNums (b.take (n + 1).toNat) := ⟨_, rfl⟩
                have hPz : (P.size : Int) = n + 1 := by rw [hP, sz_nums, List.length_take, hbl]; omega
                have hPf : ((false || !fit (P.size : Int) 256) || decide ((P.size : Int) < 1)) = false := by
                  have : ¬ ((P.size : Int) < 1) := by omega
                  simp [fit, this]; omega
                have c2 := short_con (wins o l w ++ be1 w) false (v1 + 1) P 1 (by simp [be1]; omega) (by omega)
                rw [hPf] at c2
                have hwin : wins o l w ++ be1 w ++ be1 P.size ++ sInts P = wins o l (w + 1) := by
                  rw [hPz, hP, hsP, e3, hnn, ← hrest.1, ← hrest.2]
                  show _ = wins o l w ++ winR l w
                  unfold winR
                  rw [if_pos (by rw [hrest.2]; omega)]
                  simp only [List.append_assoc]
                rw [hwin] at c2
                subst hP
                have hls : subL (byt b) (Int.toNat 0) ((n + 1).toNat - Int.toNat 0) = some (byt (b.take (n + 1).toNat)) := subL_byt_take b _ (by omega)
                have hbb : (byt b).length = 32 := by simp [byt, hbl]
                repeat' ((conv => whnf); first | (with_reducible first | refine TR.seq ?_ | refine TR.regionL ?_ | refine TR.drawn (TTok _ _) mixed ?_ | refine TR.block ?_ | refine TR.ret ?_ | refine TR.exit ?_ | refine TR.skip ?_ | refine TR.condB rfl ?_ | refine TRL.nil ?_ | refine Br.cond_t ?_ | refine Br.cond_f ?_ | refine Br.yes (by first | decide | assumption | (apply decide_eq_true; omega)) ?_ | refine Br.non (by first | decide | assumption | (apply decide_eq_false; omega)) ?_ | refine Br.cond_ff ?_ | refine Br.eqT (by omega) ?_ | refine Br.eqF (by omega) ?_ | refine Br.neT (by omega) ?_ | refine Br.neF (by omega) ?_ | refine Ld.mk' _ rfl ?_ | refine Need.mk (by first | decide | omega | kernel_rfl) ?_ | refine Nm.i64 (by omega) ?_ | refine Nm.u64 (by omega) ?_ | refine Nm.u8 (by omega) ?_ | refine Sh.shrL ?_ | refine Sh.shlL ?_ | refine Nm.fd (by decide) ?_ | refine Nm.keep ?_ | refine Need.mk (by dsimp only; omega) ?_) | refine Ld.mk' _ hld ?_ | refine Ld.mk' _ hls ?_ | (rw [bytL_byt]; conv => whnf) | (rw [hbb]; conv => whnf) | refine TRL.con [0, 1] [0, 1] c1 rfl rfl rfl rfl ⟨rfl, rfl, trivial⟩ rfl rfl (fun _ _ => ⟨trivial, ?_⟩) (fun _ h => h.elim) | refine TRL.con [0, 1] [0, 1] c2 rfl rfl rfl rfl ⟨rfl, rfl, trivial⟩ rfl rfl (fun _ _ => ⟨trivial, ?_⟩) (fun _ h => h.elim) | refine TRL.step (TTok _ _) ?_ | (refine x_exq (TTok _ _) ?_; (conv => whnf); fail_if_success (guard_target =ₛ False)))
                all_goals (conv => whnf)
                refine ⟨(w + 1, l.length, v1 + 1 + 1 + 1), ⟨by dsimp only; omega, by dsimp only; omega, fun q hq => by have := hlow q hq; dsimp only; omega, fun q h1 h2 => by have := hgt q h1 h2; dsimp only; omega⟩, by dsimp only; omega, ?_⟩
                repeat' ((conv => whnf); first | exact trivial | exact Fgt.nil | exact Fgt.mk rfl rfl rfl | exact Fgt.mk rfl (by simp only [noRefC, nr_app, nr_map, nr_its, nr_byt', noRefL, noRef, Bool.and_self] <;> rfl) rfl | refine And.intro rfl ?_ | refine And.intro ?_ ?_)
                all_goals trace_state
          · obtain rfl : i = l.length := by omega
            have hk : wins o l k = wins o l 256 := by
              have h := wins_skip (o := o) (l := l) (a := k) (d := 256 - k) fun w h1 h2 j hj => by have := g3 j hj; omega
              rw [← h]
              congr 1
              omega
            rw [hk] at hwl ⊢
            repeat' ((conv => whnf); first | (with_reducible first | refine TR.seq ?_ | refine TR.regionL ?_ | refine TR.drawn (TTok _ _) mixed ?_ | refine TR.block ?_ | refine TR.ret ?_ | refine TR.exit ?_ | refine TR.skip ?_ | refine TR.condB rfl ?_ | refine TRL.nil ?_ | refine Br.cond_t ?_ | refine Br.cond_f ?_ | refine Br.yes (by first | decide | assumption | (apply decide_eq_true; omega)) ?_ | refine Br.non (by first | decide | assumption | (apply decide_eq_false; omega)) ?_ | refine Br.cond_ff ?_ | refine Br.eqT (by omega) ?_ | refine Br.eqF (by omega) ?_ | refine Br.neT (by omega) ?_ | refine Br.neF (by omega) ?_ | refine Ld.mk' _ rfl ?_ | refine Need.mk (by first | decide | omega | kernel_rfl) ?_ | refine Nm.i64 (by omega) ?_ | refine Nm.u64 (by omega) ?_ | refine Nm.u8 (by omega) ?_ | refine Nm.keep ?_ | refine Need.mk (by dsimp only; omega) ?_) | refine TRL.step (TTok _ _) ?_ | (refine x_exq (TTok _ _) ?_; (conv => whnf); fail_if_success (guard_target =ₛ False)))
            all_goals (conv => whnf)
            all_goals exact ⟨v1, trivial, rfl, rfl, rfl, rfl, trivial⟩
end Go.Proofs.YtbladfkakmdigaaGreatDoor
