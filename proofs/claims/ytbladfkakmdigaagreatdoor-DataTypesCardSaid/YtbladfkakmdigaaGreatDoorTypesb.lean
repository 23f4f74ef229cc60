/-
  DataTypes: whatever the type's number and the text, the statement's function hands back true.
-/
import Derived.Lib.AtoiTie
import Derived.Test.YtbladfkakmdigaaGreatDoorTypesa
import Derived.Test.YtbladfkakmdigaaGreatDoorRows
import Derived.Test.YtbladfkakmdigaaGreatDoorSxc
set_option linter.unusedVariables false
set_option linter.unusedSimpArgs false
set_option linter.unnecessarySimpa false
set_option maxRecDepth 100000
namespace Go.Proofs.YtbladfkakmdigaaGreatDoor
open Go.SX
/-! ### Numbers in decimal digits: plain laws -/
theorem decFrom_app : ∀ (l r : List UInt8) (acc : Nat), Lib.decFrom acc (l ++ r) = (Lib.decFrom acc l).bind fun n => Lib.decFrom n r
  | [], r, acc => rfl
  | b :: l, r, acc => by
    simp only [List.cons_append, Lib.decFrom]
    cases Lib.digitVal b with
    | none => rfl
    | some d => exact decFrom_app l r _
theorem digit_of (d : Nat) (h : d < 10) : Lib.digitVal (UInt8.ofNat (48 + d)) = some d := by
  unfold Lib.digitVal
  have e : (UInt8.ofNat (48 + d)).toNat = 48 + d := by simp; omega
  rw [e, if_pos (by omega)]
  congr 1
  omega
theorem of_digit {b : UInt8} {d : Nat} (h : Lib.digitVal b = some d) : d < 10 ∧ b.toNat = 48 + d ∧ UInt8.ofNat (48 + d) = b := by
  unfold Lib.digitVal at h
  split at h
  · rename_i hc
    cases h
    refine ⟨by omega, by omega, UInt8.toNat_inj.1 ?_⟩
    simp
    omega
  · cases h
theorem decFrom_dec (u : Nat) : Lib.decFrom 0 (Lib.decDigits u) = some u := by
  induction u using Nat.strongRecOn with
  | _ u ih =>
    rw [Lib.decDigits]
    split
    · rename_i h
      simp only [Lib.decFrom, digit_of u h, Nat.zero_mul, Nat.zero_add]
    · rename_i h
      rw [decFrom_app, ih (u / 10) (by omega)]
      simp only [Option.bind_some, Lib.decFrom, digit_of (u % 10) (by omega)]
      congr 1
      omega
theorem decFrom_ge : ∀ (l : List UInt8) (acc n : Nat), Lib.decFrom acc l = some n → acc ≤ n
  | [], acc, n, h => by
    simp only [Lib.decFrom, Option.some.injEq] at h
    omega
  | b :: l, acc, n, h => by
    simp only [Lib.decFrom] at h
    split at h
    · have := decFrom_ge l _ n h
      omega
    · cases h
theorem dec_head (u : Nat) (h : 1 ≤ u) : ∃ b r, Lib.decDigits u = b :: r ∧ b.toNat ≠ 48 := by
  induction u using Nat.strongRecOn with
  | _ u ih =>
    rw [Lib.decDigits]
    split
    · rename_i h10
      refine ⟨_, [], rfl, ?_⟩
      simp
      omega
    · rename_i h10
      obtain ⟨b, r, e, hb⟩ := ih (u / 10) (by omega) (by omega)
      exact ⟨b, r ++ [UInt8.ofNat (48 + u % 10)], by rw [e]; rfl, hb⟩
theorem dec_canon : ∀ (k : Nat) (l : List UInt8), l.length = k → ∀ n, Lib.decFrom 0 l = some n → l ≠ [] → (1 < l.length → ∀ b r, l = b :: r → b.toNat ≠ 48) → Lib.decDigits n = l := by
  intro k
  induction k with
  | zero => intro l hl n _ hne _; exact absurd (List.eq_nil_of_length_eq_zero hl) hne
  | succ k ih =>
    intro l hl n hn hne hh
    obtain ⟨l', b, rfl⟩ : ∃ l' b, l = l' ++ [b] := ⟨l.dropLast, l.getLast hne, (List.dropLast_concat_getLast hne).symm⟩
    rw [decFrom_app] at hn
    cases hm : Lib.decFrom 0 l' with
    | none => rw [hm] at hn; cases hn
    | some m =>
      rw [hm] at hn
      simp only [Option.bind_some, Lib.decFrom] at hn
      cases hd : Lib.digitVal b with
      | none => rw [hd] at hn; cases hn
      | some d =>
        rw [hd] at hn
        simp only [Option.some.injEq] at hn
        obtain ⟨d1, d2, d3⟩ := of_digit hd
        cases l' with
        | nil =>
          simp only [Lib.decFrom, Option.some.injEq] at hm
          subst hm
          rw [Lib.decDigits, dif_pos (by omega)]
          have : n = d := by omega
          rw [this, d3]
          rfl
        | cons a r =>
          have hl1 : 1 < (a :: r ++ [b]).length := by simp
          have ha := hh hl1 a (r ++ [b]) rfl
          have hm1 : 1 ≤ m := by
            simp only [Lib.decFrom] at hm
            split at hm
            · rename_i e he
              have h1 := decFrom_ge _ _ _ hm
              have h2 := of_digit he
              omega
            · cases hm
          rw [Lib.decDigits, dif_neg (by omega), show n / 10 = m by omega, show n % 10 = d by omega, d3]
          congr 1
          refine ih (a :: r) (by simpa using hl) m hm (by simp) fun _ b' r' e => ?_
          cases e
          exact ha
/-! ### ref02.Number, at most 65535 -/
def numM : Int → List Int → Option Int
  | n, [] => some n
  | n, c :: r => if c < 48 ∨ 57 < c ∨ 65535 < n then none else numM (10 * n + (c - 48)) r
def numV (s : ByteArray) : Int := match numM 0 (sInts s) with
  | none => -1
  | some n => if s = ⟨#[]⟩ ∨ 65535 < n ∨ (1 < s.size ∧ bAt s 0 = 48) then -1 else n
theorem numM_dec : ∀ (l : List UInt8) (acc : Nat) (m : Int), numM acc (l.map fun b => (b.toNat : Int)) = some m → ∃ n : Nat, m = n ∧ Lib.decFrom acc l = some n
  | [], acc, m, h => by
    simp only [List.map_nil, numM, Option.some.injEq] at h
    exact ⟨acc, h.symm, rfl⟩
  | b :: l, acc, m, h => by
    simp only [List.map_cons, numM] at h
    split at h
    · cases h
    · rename_i hc
      have hd : Lib.digitVal b = some (b.toNat - 48) := by
        unfold Lib.digitVal
        rw [if_pos (by omega)]
      have e : (10 * (acc : Int) + ((b.toNat : Int) - 48)) = ((acc * 10 + (b.toNat - 48) : Nat) : Int) := by omega
      rw [e] at h
      obtain ⟨n, h1, h2⟩ := numM_dec l _ m h
      exact ⟨n, h1, by simp only [Lib.decFrom, hd, h2]⟩
theorem dec_numM : ∀ (l : List UInt8) (acc n : Nat), Lib.decFrom acc l = some n → n ≤ 65535 → numM acc (l.map fun b => (b.toNat : Int)) = some (n : Int)
  | [], acc, n, h, _ => by
    simp only [Lib.decFrom, Option.some.injEq] at h
    subst h
    rfl
  | b :: l, acc, n, h, hn => by
    have hge := decFrom_ge _ _ _ h
    simp only [Lib.decFrom] at h
    split at h
    · rename_i d hd
      obtain ⟨d1, d2, _⟩ := of_digit hd
      have ih := dec_numM l _ n h hn
      simp only [List.map_cons, numM]
      rw [if_neg (by omega), show (10 * (acc : Int) + ((b.toNat : Int) - 48)) = ((acc * 10 + d : Nat) : Int) by omega]
      exact ih
    · cases h
theorem itS_data (n : Int) (h : 0 ≤ n) : (itS n).data.toList = Lib.decDigits n.toNat := by
  unfold itS Lib.itoa
  rw [if_neg (by omega)]
theorem ba_ext {a b : ByteArray} (h : a.data.toList = b.data.toList) : a = b := ByteArray.ext (Array.toList_inj.1 h)
theorem numV_ge (s : ByteArray) : numV s = -1 ∨ 0 ≤ numV s := by
  unfold numV
  split
  · exact .inl rfl
  · rename_i n hn
    split
    · exact .inl rfl
    · obtain ⟨m, e, _⟩ := numM_dec s.data.toList 0 n hn
      exact .inr (by omega)
theorem numV_iff (s : ByteArray) (n : Int) (h0 : 0 ≤ n) : numV s = n ↔ n < 65536 ∧ s = itS n := by
  constructor
  · intro h
    unfold numV at h
    split at h
    · omega
    · rename_i m hm
      split at h
      · omega
      · rename_i hc
        subst h
        obtain ⟨k, e, hk⟩ := numM_dec s.data.toList 0 m hm
        have hs : s ≠ ⟨#[]⟩ := fun e => hc (.inl e)
        have hz : ¬ (1 < s.size ∧ bAt s 0 = 48) := fun e => hc (.inr (.inr e))
        have hne : s.data.toList ≠ [] := fun e => hs (ba_ext e)
        refine ⟨by omega, ba_ext ?_⟩
        rw [itS_data m h0, show m.toNat = k by omega]
        refine (dec_canon _ _ rfl k hk hne fun hl b r e => ?_).symm
        intro hb
        refine hz ⟨by simpa using hl, ?_⟩
        simp only [bAt, e]
        show ((b.toNat : Nat) : Int) = 48
        omega
  · rintro ⟨h1, rfl⟩
    have hd := itS_data n h0
    have hk := decFrom_dec n.toNat
    have hm : numM 0 (sInts (itS n)) = some n := by
      have := dec_numM _ 0 _ hk (by omega)
      unfold sInts
      rw [hd]
      rw [show ((n.toNat : Nat) : Int) = n by omega] at this
      exact this
    have hz := itS_size n ⟨h0, h1⟩
    unfold numV
    rw [hm]
    simp only
    rw [if_neg]
    rintro (e | e | ⟨e1, e2⟩)
    · rw [e] at hz
      have : (⟨#[]⟩ : ByteArray).size = 0 := rfl
      omega
    · omega
    · by_cases hu : 1 ≤ n.toNat
      · obtain ⟨b, r, e, hb⟩ := dec_head n.toNat hu
        simp only [bAt, hd, e] at e2
        simp at e2
        omega
      · have e0 : n.toNat = 0 := by omega
        have : (itS n).size = 1 := by
          show (itS n).data.size = 1
          rw [← Array.length_toList, hd, e0, Lib.decDigits]
          rfl
        omega
theorem atoi_it (n : Int) (h : 0 ≤ n ∧ n < 65536) : Lib.atoiAll (itS n).data.toList = .ok n := by
  have hz := itS_size n h
  have hl : (itS n).data.toList.length ≤ 18 := by
    have : (itS n).data.toList.length = (itS n).size := by rw [Array.length_toList]; rfl
    omega
  rw [Lib.atoiAll_short _ hl, itS_data n h.1]
  have hk := decFrom_dec n.toNat
  have hall : ∀ b, b ∈ Lib.decDigits n.toNat → 48 ≤ b.toNat ∧ b.toNat ≤ 57 := by
    intro b hb
    obtain ⟨i, hi⟩ := List.getElem?_of_mem hb
    obtain ⟨d, hd⟩ := Lib.digit_of_decFrom _ _ _ hk i b hi
    have := of_digit hd
    omega
  cases hc : Lib.decDigits n.toNat with
  | nil =>
    rw [hc] at hk
    have := itS_data n h.1
    rw [hc] at this
    have h2 : (itS n).size = 0 := by show (itS n).data.size = 0; rw [← Array.length_toList, this]; rfl
    omega
  | cons b r =>
    have hb := hall b (by rw [hc]; simp)
    unfold Lib.atoi
    have h45 : (b == 45) = false := by
      apply beq_false_of_ne
      rintro rfl
      simp at hb
    have h43 : (b == 43) = false := by
      apply beq_false_of_ne
      rintro rfl
      simp at hb
    simp only [h45, h43]
    unfold Lib.decNat
    rw [hc] at hk
    simp only [Bool.false_eq_true, if_false, List.isEmpty_cons, hk, Option.map_some, Lib.NumEnd.ofOption]
    congr 1
    omega
end Go.Proofs.YtbladfkakmdigaaGreatDoor
set_option maxRecDepth 100000
namespace Go.Proofs.YtbladfkakmdigaaGreatDoor
open Go.SX
/-! ### ref02: word, digits, Number, TypeText -/
set_option maxHeartbeats 4000000 in
theorem word_ret (kind : Int) (w : World) : Ret Tryz.prog 59 [.int .i64 kind] w (.string ((tyT kind).getD ⟨#[]⟩)) := by
  refine Ret.tj (I := fun _ => True) (fun _ _ => trivial) (TTok 0 _) Tryz.func59 (by kernel_rfl) rfl ?_
  repeat' (
    (conv => whnf)
    first
      | (with_reducible first
          | refine TJ.seq ?_
          | refine TJ.region (TTok _ _) ?_
          | refine TJ.drawn (TTok _ _) mixed ?_
          | refine TJ.cond rfl ?_
          | refine TJ.block ?_
          | refine TJ.loop ?_
          | refine LJ.step ?_
          | refine TJ.ret ?_
          | refine TJ.exit ?_
          | refine TJ.skip ?_
          | refine TJ.scope ?_
          | refine TJ.label ?_
          | refine Br.cond_t ?_
          | refine Br.cond_f ?_
          | refine Br.yes (by first | decide | assumption | (apply decide_eq_true; omega)) ?_
          | refine Br.non (by first | decide | assumption | (apply decide_eq_false; omega)) ?_
          | refine Br.cond_ff ?_
          | refine Br.eqT (by omega) ?_
          | refine Br.eqF (by omega) ?_
          | refine Br.neT (by omega) ?_
          | refine Br.neF (by omega) ?_
          | refine Br.eq (fun hc => ?_) (fun hc => ?_)
          | refine Ld.mk' _ rfl ?_
          | refine Need.mk (by first | decide | omega | kernel_rfl) ?_
          | refine Nm.i64 (by omega) ?_
          | refine Nm.u64 (by omega) ?_
          | refine Nm.u8 (by omega) ?_)
      | (refine x_exq (TTok _ _) ?_; (conv => whnf); fail_if_success (guard_target =ₛ False)))
  all_goals (conv => whnf)
  all_goals first
    | (subst hc; rfl)
    | (rw [show tyT kind = none by
        unfold tyT
        rw [if_neg (by omega), if_neg (by omega), if_neg (by omega), if_neg (by omega), if_neg (by omega), if_neg (by omega), if_neg (by omega), if_neg (by omega), if_neg (by omega), if_neg (by omega), if_neg (by omega), if_neg (by omega), if_neg (by omega), if_neg (by omega), if_neg (by omega)]]
       rfl)
def D10 : ByteArray := ⟨#[48, 49, 50, 51, 52, 53, 54, 55, 56, 57]⟩
theorem d10_cut (n : Int) (h : 0 ≤ n ∧ n < 10) : D10.extract n.toNat (n + 1).toNat = ⟨⟨[UInt8.ofNat (48 + n.toNat)]⟩⟩ := by
  have hc : n = 0 ∨ n = 1 ∨ n = 2 ∨ n = 3 ∨ n = 4 ∨ n = 5 ∨ n = 6 ∨ n = 7 ∨ n = 8 ∨ n = 9 := by omega
  rcases hc with rfl | rfl | rfl | rfl | rfl | rfl | rfl | rfl | rfl | rfl <;> rfl
theorem digits_ret (n : Nat) : n < 65536 → ∀ w, Ret Tryz.prog 60 [.int .i64 n] w (.string ⟨⟨Lib.decDigits n⟩⟩) := by
  induction n using Nat.strongRecOn with
  | _ n ih =>
    intro hn w
    have hz10 : D10.size = 10 := rfl
    rw [Lib.decDigits]
    split
    · rename_i h
      have hc := d10_cut n (by omega)
      rw [show ((n : Int).toNat) = n by omega] at hc
      refine Ret.tj (I := fun _ => True) (fun _ _ => trivial) (TTok 0 _) Tryz.func60 (by kernel_rfl) rfl ?_
      repeat' (
        (conv => whnf)
        first
          | (with_reducible first
              | refine TJ.seq ?_
              | refine TJ.region (TTok _ _) ?_
              | refine TJ.drawn (TTok _ _) mixed ?_
              | refine TJ.cond rfl ?_
              | refine TJ.block ?_
              | refine TJ.loop ?_
              | refine LJ.step ?_
              | refine TJ.ret ?_
              | refine TJ.exit ?_
              | refine TJ.skip ?_
              | refine TJ.scope ?_
              | refine TJ.label ?_
              | refine Br.cond_t ?_
              | refine Br.cond_f ?_
              | refine Br.yes (by first | decide | assumption | (apply decide_eq_true; omega)) ?_
              | refine Br.non (by first | decide | assumption | (apply decide_eq_false; omega)) ?_
              | refine Br.cond_ff ?_
              | refine Br.eqT (by omega) ?_
              | refine Br.eqF (by omega) ?_
              | refine Br.neT (by omega) ?_
              | refine Br.neF (by omega) ?_
              | refine Need.mk (by first | decide | omega | exact ⟨by omega, by omega, Int.le_trans (b := 10) (by omega) (by decide)⟩ | kernel_rfl) ?_
              | refine Ld.mk' _ rfl ?_
              | refine Nm.i64 (by omega) ?_)
          | refine Nm.mk' _ hc ?_
          | (refine x_exq (TTok _ _) ?_; (conv => whnf); fail_if_success (guard_target =ₛ False)))
      all_goals (conv => whnf)
      all_goals rfl
    · rename_i h
      have ih1 := ih (n / 10) (by omega) (by omega)
      have hc := d10_cut ((n : Int) % 10) (by omega)
      rw [show (((n : Int) % 10).toNat) = n % 10 by omega] at hc
      have hq : (n : Int).tdiv 10 = ((n / 10 : Nat) : Int) := by rw [Int.tdiv_eq_ediv_of_nonneg (by omega)]; omega
      have hr : (n : Int).tmod 10 = (n : Int) % 10 := Int.tmod_eq_emod_of_nonneg (by omega)
      have hq2 : IntKind.i64.wrap ((n : Int).tdiv 10) = ((n / 10 : Nat) : Int) := by rw [hq]; exact wrap_i64 (by omega)
      obtain ⟨T, hT⟩ : ∃ T : ByteArray, (⟨⟨Lib.decDigits (n / 10)⟩⟩ : ByteArray) ++ ⟨⟨[UInt8.ofNat (48 + n % 10)]⟩⟩ = T := ⟨_, rfl⟩
      have hTe : (⟨⟨Lib.decDigits (n / 10) ++ [UInt8.ofNat (48 + n % 10)]⟩⟩ : ByteArray) = T := by
        rw [← hT]
        apply ba_ext
        simp [ByteArray.data_append]
      rw [hTe]
      have hsz : (⟨⟨Lib.decDigits (n / 10)⟩⟩ : ByteArray).size ≤ 5 := by
        have := itS_size ((n / 10 : Nat) : Int) (by omega)
        have e : itS ((n / 10 : Nat) : Int) = ⟨⟨Lib.decDigits (n / 10)⟩⟩ := ba_ext (by rw [itS_data _ (by omega), Int.toNat_natCast])
        rw [e] at this
        exact this.2
      have hsz1 : (⟨⟨[UInt8.ofNat (48 + n % 10)]⟩⟩ : ByteArray).size = 1 := rfl
      generalize (⟨⟨Lib.decDigits (n / 10)⟩⟩ : ByteArray) = A at ih1 hT hsz
      generalize (⟨⟨[UInt8.ofNat (48 + n % 10)]⟩⟩ : ByteArray) = B at hc hT hsz1
      refine Ret.tj (I := fun _ => True) (fun _ _ => trivial) (TTok 0 _) Tryz.func60 (by kernel_rfl) rfl ?_
      repeat' (
        (conv => whnf)
        first
          | (with_reducible first
              | refine TJ.seq ?_
              | refine TJ.region (TTok _ _) ?_
              | refine TJ.drawn (TTok _ _) mixed ?_
              | refine TJ.cond rfl ?_
              | refine TJ.block ?_
              | refine TJ.loop ?_
              | refine LJ.step ?_
              | refine TJ.ret ?_
              | refine TJ.exit ?_
              | refine TJ.skip ?_
              | refine TJ.scope ?_
              | refine TJ.label ?_
              | refine Br.cond_t ?_
              | refine Br.cond_f ?_
              | refine Br.yes (by first | decide | assumption | (apply decide_eq_true; omega)) ?_
              | refine Br.non (by first | decide | assumption | (apply decide_eq_false; omega)) ?_
              | refine Br.cond_ff ?_
              | refine Br.eqT (by omega) ?_
              | refine Br.eqF (by omega) ?_
              | refine Br.neT (by omega) ?_
              | refine Br.neF (by omega) ?_
              | refine Need.mk (by first | decide | omega | exact ⟨by omega, by omega, Int.le_trans (b := 10) (by omega) (by decide)⟩ | kernel_rfl) ?_)
          | refine Nm.mk' _ hq2 ?_
          | refine Nm.mk' _ hq ?_
          | refine Nm.mk' _ hr ?_
          | refine Nm.mk' _ hc ?_
          | refine Nm.mk' T hT ?_
          | refine x_ret (f := 60) rfl rfl (fun w _ => ih1 w) ?_
          | refine Ld.mk' _ rfl ?_
          | refine Nm.i64 (by omega) ?_
          | (refine x_exq (TTok _ _) ?_; (conv => whnf); fail_if_success (guard_target =ₛ False)))
      all_goals (conv => whnf)
      all_goals rfl
set_option maxHeartbeats 4000000 in
theorem number_ret (s : ByteArray) (hs : s.size ≤ 9223372036854775803) (w : World) : Ret Tryz.prog 63 [.string s, .int .i64 65535] w (.int .i64 (numV s)) := by
  refine Ret.of (I := fun _ => True) (fun _ _ => trivial) (TTok 0 _) Tryz.func63 (by kernel_rfl) rfl rfl ?_
  repeat' (
    (conv => whnf)
    first
      | (with_reducible first
          | refine TR.seq ?_
          | refine TR.region (TTok _ _) ?_
          | refine TR.drawn (TTok _ _) mixed ?_
          | refine TR.block ?_
          | refine TR.ret ?_
          | refine TR.exit ?_
          | refine TR.skip ?_
          | refine TR.condB rfl ?_
          | refine Br.cond_t ?_
          | refine Br.cond_f ?_
          | refine Br.yes (by first | decide | assumption | (apply decide_eq_true; omega)) ?_
          | refine Br.non (by first | decide | assumption | (apply decide_eq_false; omega)) ?_
          | refine Br.cond_ff ?_
          | refine Br.eqT (by omega) ?_
          | refine Br.eqF (by omega) ?_
          | refine Br.neT (by omega) ?_
          | refine Br.neF (by omega) ?_
          | refine Ld.mk' _ rfl ?_
          | refine Need.mk (by first | decide | omega | kernel_rfl) ?_
          | refine Nm.i64 (by omega) ?_
          | refine Nm.u64 (by omega) ?_
          | refine Nm.u8 (by omega) ?_)
      | (refine x_exq (TTok _ _) ?_; (conv => whnf); fail_if_success (guard_target =ₛ False)))
  refine TR.loopH (fun x : Int × Int => [(5, .v (.int .i64 x.2)), (6, .v (.int .i64 x.1))]) (fun _ => []) (fun x => 0 ≤ x.1 ∧ x.1 ≤ s.size ∧ 0 ≤ x.2 ∧ x.2 ≤ 655359 ∧ numM x.2 ((sInts s).drop x.1.toNat) = numM 0 (sInts s)) (fun x => (s.size - x.1).toNat) (0, 0) ⟨by dsimp only; omega, by dsimp only; omega, by dsimp only; omega, by dsimp only; omega, rfl⟩ ?_ ?_
  · repeat' ((conv => whnf); first | exact trivial | exact Fgt.nil | exact Fgt.mk rfl rfl rfl | refine And.intro rfl ?_ | refine And.intro ?_ ?_)
  · rintro ⟨q, n⟩ ⟨q0, q1, n0, n1, hV⟩
    dsimp only at q0 q1 n0 n1 hV ⊢
    by_cases hq : q < s.size
    · have hd := drop_bAt s q q0 hq
      have hb := bAt_range s q
      rw [hd, numM] at hV
      by_cases c1 : bAt s q < 48
      · rw [if_pos (.inl c1)] at hV
        repeat' (
          (conv => whnf)
          first
            | (with_reducible first
                | refine TR.seq ?_
                | refine TR.region (TTok _ _) ?_
                | refine TR.drawn (TTok _ _) mixed ?_
                | refine TR.block ?_
                | refine TR.ret ?_
                | refine TR.exit ?_
                | refine TR.skip ?_
                | refine TR.condB rfl ?_
                | refine Br.cond_t ?_
                | refine Br.cond_f ?_
                | refine Br.yes (by first | decide | assumption | (apply decide_eq_true; omega)) ?_
                | refine Br.non (by first | decide | assumption | (apply decide_eq_false; omega)) ?_
                | refine Br.cond_ff ?_
                | refine Br.eqT (by omega) ?_
                | refine Br.eqF (by omega) ?_
                | refine Br.neT (by omega) ?_
                | refine Br.neF (by omega) ?_
                | refine Ld.mk' _ rfl ?_
                | refine Need.mk (by first | decide | omega | kernel_rfl) ?_
                | refine Nm.i64 (by omega) ?_
                | refine Nm.u64 (by omega) ?_
                | refine Nm.u8 (by omega) ?_)
            | (refine x_exq (TTok _ _) ?_; (conv => whnf); fail_if_success (guard_target =ₛ False)))
        all_goals (conv => whnf)
        all_goals (simp only [val, numV, ← hV])
      · by_cases c2 : 57 < bAt s q
        · rw [if_pos (.inr (.inl c2))] at hV
          repeat' (
            (conv => whnf)
            first
              | (with_reducible first
                  | refine TR.seq ?_
                  | refine TR.region (TTok _ _) ?_
                  | refine TR.drawn (TTok _ _) mixed ?_
                  | refine TR.block ?_
                  | refine TR.ret ?_
                  | refine TR.exit ?_
                  | refine TR.skip ?_
                  | refine TR.condB rfl ?_
                  | refine Br.cond_t ?_
                  | refine Br.cond_f ?_
                  | refine Br.yes (by first | decide | assumption | (apply decide_eq_true; omega)) ?_
                  | refine Br.non (by first | decide | assumption | (apply decide_eq_false; omega)) ?_
                  | refine Br.cond_ff ?_
                  | refine Br.eqT (by omega) ?_
                  | refine Br.eqF (by omega) ?_
                  | refine Br.neT (by omega) ?_
                  | refine Br.neF (by omega) ?_
                  | refine Ld.mk' _ rfl ?_
                  | refine Need.mk (by first | decide | omega | kernel_rfl) ?_
                  | refine Nm.i64 (by omega) ?_
                  | refine Nm.u64 (by omega) ?_
                  | refine Nm.u8 (by omega) ?_)
              | (refine x_exq (TTok _ _) ?_; (conv => whnf); fail_if_success (guard_target =ₛ False)))
          all_goals (conv => whnf)
          all_goals (simp only [val, numV, ← hV])
        · by_cases c3 : 65535 < n
          · rw [if_pos (.inr (.inr c3))] at hV
            repeat' (
              (conv => whnf)
              first
                | (with_reducible first
                    | refine TR.seq ?_
                    | refine TR.region (TTok _ _) ?_
                    | refine TR.drawn (TTok _ _) mixed ?_
                    | refine TR.block ?_
                    | refine TR.ret ?_
                    | refine TR.exit ?_
                    | refine TR.skip ?_
                    | refine TR.condB rfl ?_
                    | refine Br.cond_t ?_
                    | refine Br.cond_f ?_
                    | refine Br.yes (by first | decide | assumption | (apply decide_eq_true; omega)) ?_
                    | refine Br.non (by first | decide | assumption | (apply decide_eq_false; omega)) ?_
                    | refine Br.cond_ff ?_
                    | refine Br.eqT (by omega) ?_
                    | refine Br.eqF (by omega) ?_
                    | refine Br.neT (by omega) ?_
                    | refine Br.neF (by omega) ?_
                    | refine Ld.mk' _ rfl ?_
                    | refine Need.mk (by first | decide | omega | kernel_rfl) ?_
                    | refine Nm.i64 (by omega) ?_
                    | refine Nm.u64 (by omega) ?_
                    | refine Nm.u8 (by omega) ?_)
                | (refine x_exq (TTok _ _) ?_; (conv => whnf); fail_if_success (guard_target =ₛ False)))
            all_goals (conv => whnf)
            all_goals (simp only [val, numV, ← hV])
          · rw [if_neg (by omega)] at hV
            repeat' (
              (conv => whnf)
              first
                | (with_reducible first
                    | refine TR.seq ?_
                    | refine TR.region (TTok _ _) ?_
                    | refine TR.drawn (TTok _ _) mixed ?_
                    | refine TR.block ?_
                    | refine TR.ret ?_
                    | refine TR.exit ?_
                    | refine TR.skip ?_
                    | refine TR.condB rfl ?_
                    | refine Br.cond_t ?_
                    | refine Br.cond_f ?_
                    | refine Br.yes (by first | decide | assumption | (apply decide_eq_true; omega)) ?_
                    | refine Br.non (by first | decide | assumption | (apply decide_eq_false; omega)) ?_
                    | refine Br.cond_ff ?_
                    | refine Br.eqT (by omega) ?_
                    | refine Br.eqF (by omega) ?_
                    | refine Br.neT (by omega) ?_
                    | refine Br.neF (by omega) ?_
                    | refine Ld.mk' _ rfl ?_
                    | refine Need.mk (by first | decide | omega | kernel_rfl) ?_
                    | refine Nm.i64 (by omega) ?_
                    | refine Nm.u64 (by omega) ?_
                    | refine Nm.u8 (by omega) ?_)
                | (refine x_exq (TTok _ _) ?_; (conv => whnf); fail_if_success (guard_target =ₛ False)))
            all_goals (conv => whnf)
            refine ⟨(q + 1, 10 * n + (bAt s q - 48)), ⟨by dsimp only; omega, by dsimp only; omega, by dsimp only; omega, by dsimp only; omega, hV⟩, by dsimp only; omega, ?_⟩
            repeat' ((conv => whnf); first | exact trivial | exact Fgt.nil | exact Fgt.mk rfl rfl rfl | refine And.intro rfl ?_ | refine And.intro ?_ ?_)
    · have hnil : (sInts s).drop q.toNat = [] := List.drop_eq_nil_of_le (by rw [sInts_length]; omega)
      rw [hnil, numM] at hV
      by_cases c1 : s = ⟨#[]⟩
      · skip
        repeat' (
          (conv => whnf)
          first
            | (with_reducible first
                | refine TR.seq ?_
                | refine TR.region (TTok _ _) ?_
                | refine TR.drawn (TTok _ _) mixed ?_
                | refine TR.block ?_
                | refine TR.ret ?_
                | refine TR.exit ?_
                | refine TR.skip ?_
                | refine TR.condB rfl ?_
                | refine Br.cond_t ?_
                | refine Br.cond_f ?_
                | refine Br.yes (by first | decide | assumption | (apply decide_eq_true; omega)) ?_
                | refine Br.non (by first | decide | assumption | (apply decide_eq_false; omega)) ?_
                | refine Br.cond_ff ?_
                | refine Br.eqT (by omega) ?_
                | refine Br.eqF (by omega) ?_
                | refine Br.neT (by omega) ?_
                | refine Br.neF (by omega) ?_
                | refine Ld.mk' _ rfl ?_
                | refine Need.mk (by first | decide | omega | kernel_rfl) ?_
                | refine Nm.i64 (by omega) ?_
                | refine Nm.u64 (by omega) ?_
                | refine Nm.u8 (by omega) ?_
                | refine Br.yes (decide_eq_true c1) ?_)
            | (refine x_exq (TTok _ _) ?_; (conv => whnf); fail_if_success (guard_target =ₛ False)))
        all_goals (conv => whnf)
        all_goals (simp only [val, numV, ← hV]; rw [if_pos (.inl c1)])
      · by_cases c2 : 65535 < n
        · skip
          repeat' (
            (conv => whnf)
            first
              | (with_reducible first
                  | refine TR.seq ?_
                  | refine TR.region (TTok _ _) ?_
                  | refine TR.drawn (TTok _ _) mixed ?_
                  | refine TR.block ?_
                  | refine TR.ret ?_
                  | refine TR.exit ?_
                  | refine TR.skip ?_
                  | refine TR.condB rfl ?_
                  | refine Br.cond_t ?_
                  | refine Br.cond_f ?_
                  | refine Br.yes (by first | decide | assumption | (apply decide_eq_true; omega)) ?_
                  | refine Br.non (by first | decide | assumption | (apply decide_eq_false; omega)) ?_
                  | refine Br.cond_ff ?_
                  | refine Br.eqT (by omega) ?_
                  | refine Br.eqF (by omega) ?_
                  | refine Br.neT (by omega) ?_
                  | refine Br.neF (by omega) ?_
                  | refine Ld.mk' _ rfl ?_
                  | refine Need.mk (by first | decide | omega | kernel_rfl) ?_
                  | refine Nm.i64 (by omega) ?_
                  | refine Nm.u64 (by omega) ?_
                  | refine Nm.u8 (by omega) ?_
                  | refine Br.non (decide_eq_false c1) ?_)
              | (refine x_exq (TTok _ _) ?_; (conv => whnf); fail_if_success (guard_target =ₛ False)))
          all_goals (conv => whnf)
          all_goals (simp only [val, numV, ← hV, c2, true_or, or_true, if_true])
        · have hlen : s.size ≠ 0 := fun h => c1 (ByteArray.ext (Array.eq_empty_of_size_eq_zero h))
          by_cases c3 : 1 < s.size
          · by_cases c4 : bAt s 0 = 48
            · skip
              repeat' (
                (conv => whnf)
                first
                  | (with_reducible first
                      | refine TR.seq ?_
                      | refine TR.region (TTok _ _) ?_
                      | refine TR.drawn (TTok _ _) mixed ?_
                      | refine TR.block ?_
                      | refine TR.ret ?_
                      | refine TR.exit ?_
                      | refine TR.skip ?_
                      | refine TR.condB rfl ?_
                      | refine Br.cond_t ?_
                      | refine Br.cond_f ?_
                      | refine Br.yes (by first | decide | assumption | (apply decide_eq_true; omega)) ?_
                      | refine Br.non (by first | decide | assumption | (apply decide_eq_false; omega)) ?_
                      | refine Br.cond_ff ?_
                      | refine Br.eqT (by omega) ?_
                      | refine Br.eqF (by omega) ?_
                      | refine Br.neT (by omega) ?_
                      | refine Br.neF (by omega) ?_
                      | refine Ld.mk' _ rfl ?_
                      | refine Need.mk (by first | decide | omega | kernel_rfl) ?_
                      | refine Nm.i64 (by omega) ?_
                      | refine Nm.u64 (by omega) ?_
                      | refine Nm.u8 (by omega) ?_
                      | refine Br.non (decide_eq_false c1) ?_
                      | refine Br.yes (by simpa using c4) ?_)
                  | (refine x_exq (TTok _ _) ?_; (conv => whnf); fail_if_success (guard_target =ₛ False)))
              all_goals (conv => whnf)
              all_goals (simp only [val, numV, ← hV, c3, c4, and_self, or_true, if_true])
            · skip
              repeat' (
                (conv => whnf)
                first
                  | (with_reducible first
                      | refine TR.seq ?_
                      | refine TR.region (TTok _ _) ?_
                      | refine TR.drawn (TTok _ _) mixed ?_
                      | refine TR.block ?_
                      | refine TR.ret ?_
                      | refine TR.exit ?_
                      | refine TR.skip ?_
                      | refine TR.condB rfl ?_
                      | refine Br.cond_t ?_
                      | refine Br.cond_f ?_
                      | refine Br.yes (by first | decide | assumption | (apply decide_eq_true; omega)) ?_
                      | refine Br.non (by first | decide | assumption | (apply decide_eq_false; omega)) ?_
                      | refine Br.cond_ff ?_
                      | refine Br.eqT (by omega) ?_
                      | refine Br.eqF (by omega) ?_
                      | refine Br.neT (by omega) ?_
                      | refine Br.neF (by omega) ?_
                      | refine Ld.mk' _ rfl ?_
                      | refine Need.mk (by first | decide | omega | kernel_rfl) ?_
                      | refine Nm.i64 (by omega) ?_
                      | refine Nm.u64 (by omega) ?_
                      | refine Nm.u8 (by omega) ?_
                      | refine Br.non (decide_eq_false c1) ?_
                      | refine Br.non (by simpa using c4) ?_)
                  | (refine x_exq (TTok _ _) ?_; (conv => whnf); fail_if_success (guard_target =ₛ False)))
              all_goals (conv => whnf)
              all_goals (simp only [val, numV, ← hV, c1, c2, c4, and_false, or_self, if_false])
          · skip
            repeat' (
              (conv => whnf)
              first
                | (with_reducible first
                    | refine TR.seq ?_
                    | refine TR.region (TTok _ _) ?_
                    | refine TR.drawn (TTok _ _) mixed ?_
                    | refine TR.block ?_
                    | refine TR.ret ?_
                    | refine TR.exit ?_
                    | refine TR.skip ?_
                    | refine TR.condB rfl ?_
                    | refine Br.cond_t ?_
                    | refine Br.cond_f ?_
                    | refine Br.yes (by first | decide | assumption | (apply decide_eq_true; omega)) ?_
                    | refine Br.non (by first | decide | assumption | (apply decide_eq_false; omega)) ?_
                    | refine Br.cond_ff ?_
                    | refine Br.eqT (by omega) ?_
                    | refine Br.eqF (by omega) ?_
                    | refine Br.neT (by omega) ?_
                    | refine Br.neF (by omega) ?_
                    | refine Ld.mk' _ rfl ?_
                    | refine Need.mk (by first | decide | omega | kernel_rfl) ?_
                    | refine Nm.i64 (by omega) ?_
                    | refine Nm.u64 (by omega) ?_
                    | refine Nm.u8 (by omega) ?_
                    | refine Br.non (decide_eq_false c1) ?_)
                | (refine x_exq (TTok _ _) ?_; (conv => whnf); fail_if_success (guard_target =ₛ False)))
            all_goals (conv => whnf)
            all_goals (simp only [val, numV, ← hV, c1, c2, c3, false_and, or_self, if_false])
theorem it_ret (n : Int) (h : 0 ≤ n ∧ n < 65536) (w : World) : Ret Tryz.prog 60 [.int .i64 n] w (.string (itS n)) := by
  obtain ⟨m, rfl⟩ : ∃ m : Nat, n = m := ⟨n.toNat, by omega⟩
  have := digits_ret m (by omega) w
  rwa [show (⟨⟨Lib.decDigits m⟩⟩ : ByteArray) = itS m from ba_ext (by rw [itS_data _ (by omega)]; simp)] at this
def rttV (kind : Int) : Value := if 0 ≤ kind ∧ kind < 65536 then match tyT kind with
    | some s => .tuple #[.string s, .bool true]
    | none => .tuple #[.string (⟨#[84, 89, 80, 69]⟩ ++ itS kind), .bool true]
  else .tuple #[.string ⟨#[]⟩, .bool false]
theorem tyT_ne (kind : Int) (s : ByteArray) (h : tyT kind = some s) : s ≠ ⟨#[]⟩ := by
  rcases tyT_cases kind with ⟨k, s', hm, rfl, hs⟩ | ⟨hs, _⟩
  · rw [h] at hs
    cases hs
    simp only [List.mem_cons, List.not_mem_nil, or_false, Prod.mk.injEq] at hm
    rcases hm with ⟨_, rfl⟩ | ⟨_, rfl⟩ | ⟨_, rfl⟩ | ⟨_, rfl⟩ | ⟨_, rfl⟩ | ⟨_, rfl⟩ | ⟨_, rfl⟩ | ⟨_, rfl⟩ | ⟨_, rfl⟩ | ⟨_, rfl⟩ | ⟨_, rfl⟩ | ⟨_, rfl⟩ | ⟨_, rfl⟩ | ⟨_, rfl⟩ | ⟨_, rfl⟩ <;> decide
  · rw [h] at hs
    cases hs
theorem rttext_ret (kind : Int) (w : World) : Ret Tryz.prog 16 [.int .i64 kind] w (rttV kind) := by
  unfold rttV
  have hw := fun w => word_ret kind w
  by_cases hk : 0 ≤ kind ∧ kind < 65536
  · rw [if_pos hk]
    cases ht : tyT kind with
    | some s =>
      rw [ht] at hw
      have hne := tyT_ne kind s ht
      simp only [Option.getD_some] at hw
      have hb : decide (s = ⟨#[]⟩) = false := decide_eq_false hne
      refine Ret.tj (I := fun _ => True) (fun _ _ => trivial) (TTok 0 _) Tryz.func16 (by kernel_rfl) rfl ?_
      repeat' (
        (conv => whnf)
        first
          | (with_reducible first
              | refine TJ.seq ?_
              | refine TJ.region (TTok _ _) ?_
              | refine TJ.drawn (TTok _ _) mixed ?_
              | refine TJ.cond rfl ?_
              | refine TJ.block ?_
              | refine TJ.loop ?_
              | refine LJ.step ?_
              | refine TJ.ret ?_
              | refine TJ.exit ?_
              | refine TJ.skip ?_
              | refine TJ.scope ?_
              | refine TJ.label ?_
              | refine Br.cond_t ?_
              | refine Br.cond_f ?_
              | refine Br.yes (by first | decide | assumption | (apply decide_eq_true; omega)) ?_
              | refine Br.non (by first | decide | assumption | (apply decide_eq_false; omega)) ?_
              | refine Br.cond_ff ?_
              | refine Br.eqT (by omega) ?_
              | refine Br.eqF (by omega) ?_
              | refine Br.neT (by omega) ?_
              | refine Br.neF (by omega) ?_
              | refine Ld.mk' _ rfl ?_
              | refine Need.mk (by first | decide | omega | kernel_rfl) ?_
              | refine Nm.i64 (by omega) ?_
              | refine Nm.u64 (by omega) ?_
              | refine Nm.u8 (by omega) ?_
              | refine x_ret (f := 59) rfl rfl (fun w _ => hw w) ?_)
          | refine Br.non hb ?_
          | (refine x_exq (TTok _ _) ?_; (conv => whnf); fail_if_success (guard_target =ₛ False)))
      all_goals (conv => whnf)
      all_goals rfl
    | none =>
      rw [ht] at hw
      simp only [Option.getD_none] at hw
      have hi := fun w => it_ret kind hk w
      have hz := itS_size kind hk
      have hz4 : (⟨#[84, 89, 80, 69]⟩ : ByteArray).size = 4 := rfl
      generalize itS kind = it at hi hz
      refine Ret.tj (I := fun _ => True) (fun _ _ => trivial) (TTok 0 _) Tryz.func16 (by kernel_rfl) rfl ?_
      repeat' (
        (conv => whnf)
        first
          | (with_reducible first
              | refine TJ.seq ?_
              | refine TJ.region (TTok _ _) ?_
              | refine TJ.drawn (TTok _ _) mixed ?_
              | refine TJ.cond rfl ?_
              | refine TJ.block ?_
              | refine TJ.loop ?_
              | refine LJ.step ?_
              | refine TJ.ret ?_
              | refine TJ.exit ?_
              | refine TJ.skip ?_
              | refine TJ.scope ?_
              | refine TJ.label ?_
              | refine Br.cond_t ?_
              | refine Br.cond_f ?_
              | refine Br.yes (by first | decide | assumption | (apply decide_eq_true; omega)) ?_
              | refine Br.non (by first | decide | assumption | (apply decide_eq_false; omega)) ?_
              | refine Br.cond_ff ?_
              | refine Br.eqT (by omega) ?_
              | refine Br.eqF (by omega) ?_
              | refine Br.neT (by omega) ?_
              | refine Br.neF (by omega) ?_
              | refine Ld.mk' _ rfl ?_
              | refine Need.mk (by first | decide | omega | kernel_rfl) ?_
              | refine Nm.i64 (by omega) ?_
              | refine Nm.u64 (by omega) ?_
              | refine Nm.u8 (by omega) ?_
              | refine x_ret (f := 59) rfl rfl (fun w _ => hw w) ?_
              | refine x_ret (f := 60) rfl rfl (fun w _ => hi w) ?_)
          | refine Br.yes rfl ?_
          | refine Nm.keep ?_
          | (refine x_exq (TTok _ _) ?_; (conv => whnf); fail_if_success (guard_target =ₛ False)))
      all_goals (conv => whnf)
      all_goals rfl
  · rw [if_neg hk]
    rcases (by omega : kind < 0 ∨ (0 ≤ kind ∧ 65535 < kind)) with h | h
    all_goals refine Ret.tj (I := fun _ => True) (fun _ _ => trivial) (TTok 0 _) Tryz.func16 (by kernel_rfl) rfl ?_
    all_goals repeat' (
      (conv => whnf)
      first
        | (with_reducible first
            | refine TJ.seq ?_
            | refine TJ.region (TTok _ _) ?_
            | refine TJ.drawn (TTok _ _) mixed ?_
            | refine TJ.cond rfl ?_
            | refine TJ.block ?_
            | refine TJ.loop ?_
            | refine LJ.step ?_
            | refine TJ.ret ?_
            | refine TJ.exit ?_
            | refine TJ.skip ?_
            | refine TJ.scope ?_
            | refine TJ.label ?_
            | refine Br.cond_t ?_
            | refine Br.cond_f ?_
            | refine Br.yes (by first | decide | assumption | (apply decide_eq_true; omega)) ?_
            | refine Br.non (by first | decide | assumption | (apply decide_eq_false; omega)) ?_
            | refine Br.cond_ff ?_
            | refine Br.eqT (by omega) ?_
            | refine Br.eqF (by omega) ?_
            | refine Br.neT (by omega) ?_
            | refine Br.neF (by omega) ?_
            | refine Ld.mk' _ rfl ?_
            | refine Need.mk (by first | decide | omega | kernel_rfl) ?_
            | refine Nm.i64 (by omega) ?_
            | refine Nm.u64 (by omega) ?_
            | refine Nm.u8 (by omega) ?_)
        | (refine x_exq (TTok _ _) ?_; (conv => whnf); fail_if_success (guard_target =ₛ False)))
    all_goals (conv => whnf)
    all_goals rfl
end Go.Proofs.YtbladfkakmdigaaGreatDoor
set_option maxRecDepth 100000
set_option linter.unusedVariables false
namespace Go.Proofs.YtbladfkakmdigaaGreatDoor
open Go.SX
/-! ### TypeOf, twice -/
def tkT (s : ByteArray) : Option Int :=
  if ⟨#[65]⟩ = s then some 1 else
  if ⟨#[78, 83]⟩ = s then some 2 else
  if ⟨#[67, 78, 65, 77, 69]⟩ = s then some 5 else
  if ⟨#[83, 79, 65]⟩ = s then some 6 else
  if ⟨#[77, 88]⟩ = s then some 15 else
  if ⟨#[84, 88, 84]⟩ = s then some 16 else
  if ⟨#[65, 65, 65, 65]⟩ = s then some 28 else
  if ⟨#[68, 78, 65, 77, 69]⟩ = s then some 39 else
  if ⟨#[79, 80, 84]⟩ = s then some 41 else
  if ⟨#[68, 83]⟩ = s then some 43 else
  if ⟨#[82, 82, 83, 73, 71]⟩ = s then some 46 else
  if ⟨#[78, 83, 69, 67]⟩ = s then some 47 else
  if ⟨#[68, 78, 83, 75, 69, 89]⟩ = s then some 48 else
  if ⟨#[78, 83, 69, 67, 51]⟩ = s then some 50 else
  if ⟨#[65, 78, 89]⟩ = s then some 255 else
  none
theorem tkT_cases (s : ByteArray) : (∃ k, tkT s = some k ∧ tyT k = some s ∧ 0 ≤ k ∧ k < 256) ∨ (tkT s = none ∧ (∀ k, tyT k ≠ some s) ∧ ⟨#[65]⟩ ≠ s ∧ ⟨#[78, 83]⟩ ≠ s ∧ ⟨#[67, 78, 65, 77, 69]⟩ ≠ s ∧ ⟨#[83, 79, 65]⟩ ≠ s ∧ ⟨#[77, 88]⟩ ≠ s ∧ ⟨#[84, 88, 84]⟩ ≠ s ∧ ⟨#[65, 65, 65, 65]⟩ ≠ s ∧ ⟨#[68, 78, 65, 77, 69]⟩ ≠ s ∧ ⟨#[79, 80, 84]⟩ ≠ s ∧ ⟨#[68, 83]⟩ ≠ s ∧ ⟨#[82, 82, 83, 73, 71]⟩ ≠ s ∧ ⟨#[78, 83, 69, 67]⟩ ≠ s ∧ ⟨#[68, 78, 83, 75, 69, 89]⟩ ≠ s ∧ ⟨#[78, 83, 69, 67, 51]⟩ ≠ s ∧ ⟨#[65, 78, 89]⟩ ≠ s) := by
  by_cases h0 : ⟨#[65]⟩ = s
  · subst h0
    exact .inl ⟨1, rfl, rfl, by decide, by decide⟩
  by_cases h1 : ⟨#[78, 83]⟩ = s
  · subst h1
    exact .inl ⟨2, rfl, rfl, by decide, by decide⟩
  by_cases h2 : ⟨#[67, 78, 65, 77, 69]⟩ = s
  · subst h2
    exact .inl ⟨5, rfl, rfl, by decide, by decide⟩
  by_cases h3 : ⟨#[83, 79, 65]⟩ = s
  · subst h3
    exact .inl ⟨6, rfl, rfl, by decide, by decide⟩
  by_cases h4 : ⟨#[77, 88]⟩ = s
  · subst h4
    exact .inl ⟨15, rfl, rfl, by decide, by decide⟩
  by_cases h5 : ⟨#[84, 88, 84]⟩ = s
  · subst h5
    exact .inl ⟨16, rfl, rfl, by decide, by decide⟩
  by_cases h6 : ⟨#[65, 65, 65, 65]⟩ = s
  · subst h6
    exact .inl ⟨28, rfl, rfl, by decide, by decide⟩
  by_cases h7 : ⟨#[68, 78, 65, 77, 69]⟩ = s
  · subst h7
    exact .inl ⟨39, rfl, rfl, by decide, by decide⟩
  by_cases h8 : ⟨#[79, 80, 84]⟩ = s
  · subst h8
    exact .inl ⟨41, rfl, rfl, by decide, by decide⟩
  by_cases h9 : ⟨#[68, 83]⟩ = s
  · subst h9
    exact .inl ⟨43, rfl, rfl, by decide, by decide⟩
  by_cases h10 : ⟨#[82, 82, 83, 73, 71]⟩ = s
  · subst h10
    exact .inl ⟨46, rfl, rfl, by decide, by decide⟩
  by_cases h11 : ⟨#[78, 83, 69, 67]⟩ = s
  · subst h11
    exact .inl ⟨47, rfl, rfl, by decide, by decide⟩
  by_cases h12 : ⟨#[68, 78, 83, 75, 69, 89]⟩ = s
  · subst h12
    exact .inl ⟨48, rfl, rfl, by decide, by decide⟩
  by_cases h13 : ⟨#[78, 83, 69, 67, 51]⟩ = s
  · subst h13
    exact .inl ⟨50, rfl, rfl, by decide, by decide⟩
  by_cases h14 : ⟨#[65, 78, 89]⟩ = s
  · subst h14
    exact .inl ⟨255, rfl, rfl, by decide, by decide⟩
  refine .inr ⟨?_, fun k hk => ?_, h0, h1, h2, h3, h4, h5, h6, h7, h8, h9, h10, h11, h12, h13, h14⟩
  · unfold tkT
    rw [if_neg h0, if_neg h1, if_neg h2, if_neg h3, if_neg h4, if_neg h5, if_neg h6, if_neg h7, if_neg h8, if_neg h9, if_neg h10, if_neg h11, if_neg h12, if_neg h13, if_neg h14]
  · rcases tyT_cases k with ⟨k', s', hm, rfl, hs⟩ | ⟨hs, _⟩
    · rw [hk] at hs
      cases hs
      simp only [List.mem_cons, List.not_mem_nil, or_false, Prod.mk.injEq] at hm
      rcases hm with ⟨_, q⟩ | ⟨_, q⟩ | ⟨_, q⟩ | ⟨_, q⟩ | ⟨_, q⟩ | ⟨_, q⟩ | ⟨_, q⟩ | ⟨_, q⟩ | ⟨_, q⟩ | ⟨_, q⟩ | ⟨_, q⟩ | ⟨_, q⟩ | ⟨_, q⟩ | ⟨_, q⟩ | ⟨_, q⟩
      · exact h0 q.symm
      · exact h1 q.symm
      · exact h2 q.symm
      · exact h3 q.symm
      · exact h4 q.symm
      · exact h5 q.symm
      · exact h6 q.symm
      · exact h7 q.symm
      · exact h8 q.symm
      · exact h9 q.symm
      · exact h10 q.symm
      · exact h11 q.symm
      · exact h12 q.symm
      · exact h13 q.symm
      · exact h14 q.symm
    · rw [hk] at hs
      cases hs
def T4 : ByteArray := ⟨#[84, 89, 80, 69]⟩
theorem T4_size : T4.size = 4 := rfl
/-- The number that a text TYPEn tells. -/
def tnV (s : ByteArray) : Option Int := if 5 ≤ s.size ∧ s.extract 0 4 = T4 ∧ 0 ≤ numV (s.extract 4 s.size) ∧ tyT (numV (s.extract 4 s.size)) = none then some (numV (s.extract 4 s.size)) else none
theorem split4 (s : ByteArray) (h : s.extract 0 4 = T4) : s = T4 ++ s.extract 4 s.size := by
  rw [← h]
  apply ba_ext
  simp only [ByteArray.data_append, ByteArray.data_extract, Array.toList_append, Array.toList_extract, List.extract_eq_take_drop]
  have e : s.size = s.data.toList.length := by rw [Array.length_toList]; rfl
  rw [List.take_of_length_le (l := s.data.toList.drop 4) (by rw [List.length_drop, e]; exact Nat.le_refl _)]
  simp
theorem ext4 (r : ByteArray) : (T4 ++ r).extract 0 4 = T4 ∧ (T4 ++ r).extract 4 (T4 ++ r).size = r := by
  constructor
  · apply ba_ext
    simp [ByteArray.data_extract, ByteArray.data_append, T4]
  · apply ba_ext
    simp only [ByteArray.data_extract, ByteArray.data_append, ByteArray.size_append, T4_size, Array.toList_append, Array.toList_extract, List.extract_eq_take_drop]
    have e : r.size = r.data.toList.length := by rw [Array.length_toList]; rfl
    rw [show (T4.data.toList ++ r.data.toList).drop 4 = r.data.toList from rfl, List.take_of_length_le (by omega)]
theorem tnV_some (s : ByteArray) (n : Int) (h : tnV s = some n) : (0 ≤ n ∧ n < 65536) ∧ tyT n = none ∧ s = T4 ++ itS n := by
  unfold tnV at h
  split at h
  · rename_i hc
    cases h
    obtain ⟨h1, h2, h3, h4⟩ := hc
    have := (numV_iff (s.extract 4 s.size) _ h3).1 rfl
    refine ⟨⟨h3, this.1⟩, h4, ?_⟩
    rw [← this.2]
    exact split4 s h2
  · cases h
theorem tnV_of (n : Int) (h : 0 ≤ n ∧ n < 65536) (ht : tyT n = none) : tnV (T4 ++ itS n) = some n := by
  obtain ⟨e1, e2⟩ := ext4 (itS n)
  have hn := (numV_iff (itS n) n h.1).2 ⟨h.2, rfl⟩
  have hz := itS_size n h
  unfold tnV
  rw [e1, e2, hn, if_pos]
  exact ⟨by rw [ByteArray.size_append, T4_size]; omega, rfl, h.1, ht⟩

end Go.Proofs.YtbladfkakmdigaaGreatDoor
set_option maxRecDepth 100000
set_option linter.unusedVariables false
namespace Go.Proofs.YtbladfkakmdigaaGreatDoor
open Go.SX
def rV (s : ByteArray) : Value := match tkT s with
  | some k => .tuple #[.int .i64 k, .bool true]
  | none => match tnV s with
    | some n => .tuple #[.int .i64 n, .bool true]
    | none => .tuple #[.int .i64 0, .bool false]
set_option maxHeartbeats 4000000 in
theorem rtypeof_word (s : ByteArray) (k0 : Int) (h : tyT k0 = some s) (hk0 : 0 ≤ k0) (hk1 : k0 < 256) (w : World) : Ret Tryz.prog 18 [.string s] w (.tuple #[.int .i64 k0, .bool true]) := by
  have hne := tyT_ne k0 s h
  have huniq : ∀ k, tyT k = some s → k = k0 := by
    intro k hk
    rcases tyT_cases k with ⟨k1, s1, hm1, rfl, hs1⟩ | ⟨hs1, _⟩
    · rcases tyT_cases k0 with ⟨k2, s2, hm2, rfl, hs2⟩ | ⟨hs2, _⟩
      · rw [hk] at hs1
        rw [h] at hs2
        cases hs1
        cases hs2
        clear hk h hne
        simp only [List.mem_cons, List.not_mem_nil, or_false, Prod.mk.injEq] at hm1
        rcases hm1 with ⟨rfl, rfl⟩ | ⟨rfl, rfl⟩ | ⟨rfl, rfl⟩ | ⟨rfl, rfl⟩ | ⟨rfl, rfl⟩ | ⟨rfl, rfl⟩ | ⟨rfl, rfl⟩ | ⟨rfl, rfl⟩ | ⟨rfl, rfl⟩ | ⟨rfl, rfl⟩ | ⟨rfl, rfl⟩ | ⟨rfl, rfl⟩ | ⟨rfl, rfl⟩ | ⟨rfl, rfl⟩ | ⟨rfl, rfl⟩
        all_goals simp at hm2
        all_goals exact hm2.symm
      · rw [h] at hs2
        cases hs2
    · rw [hk] at hs1
      cases hs1
  refine Ret.of (I := fun _ => True) (fun _ _ => trivial) (TTok 0 _) Tryz.func18 (by kernel_rfl) rfl rfl ?_
  repeat' (
    (conv => whnf)
    first
      | (with_reducible first
          | refine TR.seq ?_
          | refine TR.region (TTok _ _) ?_
          | refine TR.drawn (TTok _ _) mixed ?_
          | refine TR.block ?_
          | refine TR.ret ?_
          | refine TR.exit ?_
          | refine TR.skip ?_
          | refine TR.condB rfl ?_
          | refine Br.cond_t ?_
          | refine Br.cond_f ?_
          | refine Br.yes (by first | decide | assumption | (apply decide_eq_true; omega)) ?_
          | refine Br.non (by first | decide | assumption | (apply decide_eq_false; omega)) ?_
          | refine Br.cond_ff ?_
          | refine Br.eqT (by omega) ?_
          | refine Br.eqF (by omega) ?_
          | refine Br.neT (by omega) ?_
          | refine Br.neF (by omega) ?_
          | refine Ld.mk' _ rfl ?_
          | refine Need.mk (by first | decide | omega | kernel_rfl) ?_
          | refine Nm.i64 (by omega) ?_
          | refine Nm.u64 (by omega) ?_
          | refine Nm.u8 (by omega) ?_)
      | (refine x_exq (TTok _ _) ?_; (conv => whnf); fail_if_success (guard_target =ₛ False)))
  refine TR.loopH (fun k : Int => [(4, .v (.int .i64 k))]) (fun _ => []) (fun k => 0 ≤ k ∧ k ≤ k0) (fun k => (256 - k).toNat) 0 ⟨by omega, by omega⟩ ?_ ?_
  · repeat' ((conv => whnf); first | exact trivial | exact Fgt.nil | exact Fgt.mk rfl rfl rfl | refine And.intro rfl ?_ | refine And.intro ?_ ?_)
  · rintro k ⟨k1, k2⟩
    by_cases hk : k = k0
    · subst hk
      have h59 := fun w => word_ret k w
      rw [h] at h59
      simp only [Option.getD_some] at h59
      have hb : decide (s = ⟨#[]⟩) = false := decide_eq_false hne
      have hb2 : (!decide (s = ⟨#[]⟩)) = true := by rw [hb]; rfl
      have hb1 : decide (s = s) = true := by simp
      repeat' (
        (conv => whnf)
        first
          | (with_reducible first
              | refine TR.seq ?_
              | refine TR.region (TTok _ _) ?_
              | refine TR.drawn (TTok _ _) mixed ?_
              | refine TR.block ?_
              | refine TR.ret ?_
              | refine TR.exit ?_
              | refine TR.skip ?_
              | refine TR.condB rfl ?_
              | refine Br.cond_t ?_
              | refine Br.cond_f ?_
              | refine Br.yes (by first | decide | assumption | (apply decide_eq_true; omega)) ?_
              | refine Br.non (by first | decide | assumption | (apply decide_eq_false; omega)) ?_
              | refine Br.cond_ff ?_
              | refine Br.eqT (by omega) ?_
              | refine Br.eqF (by omega) ?_
              | refine Br.neT (by omega) ?_
              | refine Br.neF (by omega) ?_
              | refine Ld.mk' _ rfl ?_
              | refine Need.mk (by first | decide | omega | kernel_rfl) ?_
              | refine Nm.i64 (by omega) ?_
              | refine Nm.u64 (by omega) ?_
              | refine Nm.u8 (by omega) ?_
              | refine x_ret (f := 59) rfl rfl (fun w _ => h59 w) ?_)
          | refine Br.yes hb1 ?_
          | refine Br.yes hb2 ?_
          | refine Br.non hb ?_
          | (refine x_exq (TTok _ _) ?_; (conv => whnf); fail_if_success (guard_target =ₛ False)))
      all_goals (conv => whnf)
      all_goals first | rfl | trace_state
    · have h59 := fun w => word_ret k w
      have hu : (tyT k).getD ⟨#[]⟩ ≠ s := by
        cases ht : tyT k with
        | none => exact fun e => hne e.symm
        | some s' =>
          simp only [Option.getD_some]
          rintro rfl
          exact hk (huniq k ht)
      generalize (tyT k).getD ⟨#[]⟩ = u at h59 hu
      have hb1 : decide (u = s) = false := decide_eq_false hu
      repeat' (
        (conv => whnf)
        first
          | (with_reducible first
              | refine TR.seq ?_
              | refine TR.region (TTok _ _) ?_
              | refine TR.drawn (TTok _ _) mixed ?_
              | refine TR.block ?_
              | refine TR.ret ?_
              | refine TR.exit ?_
              | refine TR.skip ?_
              | refine TR.condB rfl ?_
              | refine Br.cond_t ?_
              | refine Br.cond_f ?_
              | refine Br.yes (by first | decide | assumption | (apply decide_eq_true; omega)) ?_
              | refine Br.non (by first | decide | assumption | (apply decide_eq_false; omega)) ?_
              | refine Br.cond_ff ?_
              | refine Br.eqT (by omega) ?_
              | refine Br.eqF (by omega) ?_
              | refine Br.neT (by omega) ?_
              | refine Br.neF (by omega) ?_
              | refine Ld.mk' _ rfl ?_
              | refine Need.mk (by first | decide | omega | kernel_rfl) ?_
              | refine Nm.i64 (by omega) ?_
              | refine Nm.u64 (by omega) ?_
              | refine Nm.u8 (by omega) ?_
              | refine x_ret (f := 59) rfl rfl (fun w _ => h59 w) ?_)
          | refine Br.non hb1 ?_
          | (refine x_exq (TTok _ _) ?_; (conv => whnf); fail_if_success (guard_target =ₛ False)))
      all_goals (conv => whnf)
      refine ⟨k + 1, ⟨by omega, by omega⟩, by omega, ?_⟩
      repeat' ((conv => whnf); first | exact trivial | exact Fgt.nil | exact Fgt.mk rfl rfl rfl | refine And.intro rfl ?_ | refine And.intro ?_ ?_)
set_option maxHeartbeats 4000000 in
theorem rtypeof_none (s : ByteArray) (hs : s.size ≤ 9223372036854775807) (hw : ∀ k, tyT k ≠ some s) (w : World) : Ret Tryz.prog 18 [.string s] w (match tnV s with
    | some n => .tuple #[.int .i64 n, .bool true]
    | none => .tuple #[.int .i64 0, .bool false]) := by
  refine Ret.of (I := fun _ => True) (fun _ _ => trivial) (TTok 0 _) Tryz.func18 (by kernel_rfl) rfl rfl ?_
  repeat' (
    (conv => whnf)
    first
      | (with_reducible first
          | refine TR.seq ?_
          | refine TR.region (TTok _ _) ?_
          | refine TR.drawn (TTok _ _) mixed ?_
          | refine TR.block ?_
          | refine TR.ret ?_
          | refine TR.exit ?_
          | refine TR.skip ?_
          | refine TR.condB rfl ?_
          | refine Br.cond_t ?_
          | refine Br.cond_f ?_
          | refine Br.yes (by first | decide | assumption | (apply decide_eq_true; omega)) ?_
          | refine Br.non (by first | decide | assumption | (apply decide_eq_false; omega)) ?_
          | refine Br.cond_ff ?_
          | refine Br.eqT (by omega) ?_
          | refine Br.eqF (by omega) ?_
          | refine Br.neT (by omega) ?_
          | refine Br.neF (by omega) ?_
          | refine Ld.mk' _ rfl ?_
          | refine Need.mk (by first | decide | omega | kernel_rfl) ?_
          | refine Nm.i64 (by omega) ?_
          | refine Nm.u64 (by omega) ?_
          | refine Nm.u8 (by omega) ?_)
      | (refine x_exq (TTok _ _) ?_; (conv => whnf); fail_if_success (guard_target =ₛ False)))
  refine TR.loopH (fun k : Int => [(4, .v (.int .i64 k))]) (fun _ => []) (fun k => 0 ≤ k ∧ k ≤ 256) (fun k => (256 - k).toNat) 0 ⟨by omega, by omega⟩ ?_ ?_
  · repeat' ((conv => whnf); first | exact trivial | exact Fgt.nil | exact Fgt.mk rfl rfl rfl | refine And.intro rfl ?_ | refine And.intro ?_ ?_)
  · rintro k ⟨k1, k2⟩
    by_cases hk : k < 256
    · have h59 := fun w => word_ret k w
      by_cases hu : (tyT k).getD ⟨#[]⟩ = s
      · have hse : s = ⟨#[]⟩ := by
          cases ht : tyT k with
          | none => rw [ht] at hu; exact hu.symm
          | some s' =>
            rw [ht] at hu
            simp only [Option.getD_some] at hu
            exact absurd (by rw [ht, hu]) (hw k)
        rw [hu] at h59
        have hb1 : decide (s = s) = true := by simp
        have hb2 : (!decide (s = ⟨#[]⟩)) = false := by rw [decide_eq_true hse]; rfl
        repeat' (
          (conv => whnf)
          first
            | (with_reducible first
                | refine TR.seq ?_
                | refine TR.region (TTok _ _) ?_
                | refine TR.drawn (TTok _ _) mixed ?_
                | refine TR.block ?_
                | refine TR.ret ?_
                | refine TR.exit ?_
                | refine TR.skip ?_
                | refine TR.condB rfl ?_
                | refine Br.cond_t ?_
                | refine Br.cond_f ?_
                | refine Br.yes (by first | decide | assumption | (apply decide_eq_true; omega)) ?_
                | refine Br.non (by first | decide | assumption | (apply decide_eq_false; omega)) ?_
                | refine Br.cond_ff ?_
                | refine Br.eqT (by omega) ?_
                | refine Br.eqF (by omega) ?_
                | refine Br.neT (by omega) ?_
                | refine Br.neF (by omega) ?_
                | refine Ld.mk' _ rfl ?_
                | refine Need.mk (by first | decide | omega | kernel_rfl) ?_
                | refine Nm.i64 (by omega) ?_
                | refine Nm.u64 (by omega) ?_
                | refine Nm.u8 (by omega) ?_
                | refine x_ret (f := 59) rfl rfl (fun w _ => h59 w) ?_)
            | refine Br.yes hb1 ?_
            | refine Br.non hb2 ?_
            | (refine x_exq (TTok _ _) ?_; (conv => whnf); fail_if_success (guard_target =ₛ False)))
        all_goals (conv => whnf)
        refine ⟨k + 1, ⟨by omega, by omega⟩, by omega, ?_⟩
        repeat' ((conv => whnf); first | exact trivial | exact Fgt.nil | exact Fgt.mk rfl rfl rfl | refine And.intro rfl ?_ | refine And.intro ?_ ?_)
      · generalize (tyT k).getD ⟨#[]⟩ = u at h59 hu
        have hb1 : decide (u = s) = false := decide_eq_false hu
        repeat' (
          (conv => whnf)
          first
            | (with_reducible first
                | refine TR.seq ?_
                | refine TR.region (TTok _ _) ?_
                | refine TR.drawn (TTok _ _) mixed ?_
                | refine TR.block ?_
                | refine TR.ret ?_
                | refine TR.exit ?_
                | refine TR.skip ?_
                | refine TR.condB rfl ?_
                | refine Br.cond_t ?_
                | refine Br.cond_f ?_
                | refine Br.yes (by first | decide | assumption | (apply decide_eq_true; omega)) ?_
                | refine Br.non (by first | decide | assumption | (apply decide_eq_false; omega)) ?_
                | refine Br.cond_ff ?_
                | refine Br.eqT (by omega) ?_
                | refine Br.eqF (by omega) ?_
                | refine Br.neT (by omega) ?_
                | refine Br.neF (by omega) ?_
                | refine Ld.mk' _ rfl ?_
                | refine Need.mk (by first | decide | omega | kernel_rfl) ?_
                | refine Nm.i64 (by omega) ?_
                | refine Nm.u64 (by omega) ?_
                | refine Nm.u8 (by omega) ?_
                | refine x_ret (f := 59) rfl rfl (fun w _ => h59 w) ?_)
            | refine Br.non hb1 ?_
            | (refine x_exq (TTok _ _) ?_; (conv => whnf); fail_if_success (guard_target =ₛ False)))
        all_goals (conv => whnf)
        refine ⟨k + 1, ⟨by omega, by omega⟩, by omega, ?_⟩
        repeat' ((conv => whnf); first | exact trivial | exact Fgt.nil | exact Fgt.mk rfl rfl rfl | refine And.intro rfl ?_ | refine And.intro ?_ ?_)
    · skip
      by_cases c1 : s.size < 5
      · have ht : tnV s = none := by
          unfold tnV
          rw [if_neg (by omega)]
        rw [ht]
        repeat' (
          (conv => whnf)
          first
            | (with_reducible first
                | refine TR.seq ?_
                | refine TR.region (TTok _ _) ?_
                | refine TR.drawn (TTok _ _) mixed ?_
                | refine TR.block ?_
                | refine TR.ret ?_
                | refine TR.exit ?_
                | refine TR.skip ?_
                | refine TR.condB rfl ?_
                | refine Br.cond_t ?_
                | refine Br.cond_f ?_
                | refine Br.yes (by first | decide | assumption | (apply decide_eq_true; omega)) ?_
                | refine Br.non (by first | decide | assumption | (apply decide_eq_false; omega)) ?_
                | refine Br.cond_ff ?_
                | refine Br.eqT (by omega) ?_
                | refine Br.eqF (by omega) ?_
                | refine Br.neT (by omega) ?_
                | refine Br.neF (by omega) ?_
                | refine Ld.mk' _ rfl ?_
                | refine Need.mk (by first | decide | omega | kernel_rfl) ?_
                | refine Nm.i64 (by omega) ?_
                | refine Nm.u64 (by omega) ?_
                | refine Nm.u8 (by omega) ?_)
            | (refine x_exq (TTok _ _) ?_; (conv => whnf); fail_if_success (guard_target =ₛ False)))
        all_goals (conv => whnf)
        all_goals rfl
      · by_cases c2 : s.extract 0 4 = T4
        · have hN : ∃ r, s.extract 4 s.size = r := ⟨_, rfl⟩
          obtain ⟨r, hr⟩ := hN
          have hrz : r.size ≤ 9223372036854775803 := by
            rw [← hr, ByteArray.size_extract]
            omega
          have h63 := fun w => number_ret r hrz w
          have hT : tnV s = if 0 ≤ numV r ∧ tyT (numV r) = none then some (numV r) else none := by
            unfold tnV
            rw [hr]
            by_cases q : 0 ≤ numV r ∧ tyT (numV r) = none
            · rw [if_pos q, if_pos ⟨by omega, c2, q⟩]
            · rw [if_neg q, if_neg fun e => q e.2.2]
          have hb1 : (!decide (T4 = ⟨#[84, 89, 80, 69]⟩)) = false := by decide
          have hN1 : numV r = -1 ∨ 0 ≤ numV r := numV_ge r
          have hN2 : numV r < 65536 := by
            rcases hN1 with e | e
            · omega
            · exact ((numV_iff r _ e).1 rfl).1
          rw [hT]
          generalize numV r = n at h63 hN1 hN2
          have h59 := fun w => word_ret n w
          by_cases q0 : 0 ≤ n
          · by_cases q1 : tyT n = none
            · rw [if_pos ⟨q0, q1⟩]
              rw [q1] at h59
              simp only [Option.getD_none] at h59
              repeat' (
                (conv => whnf)
                first
                  | (with_reducible first
                      | refine TR.seq ?_
                      | refine TR.region (TTok _ _) ?_
                      | refine TR.drawn (TTok _ _) mixed ?_
                      | refine TR.block ?_
                      | refine TR.ret ?_
                      | refine TR.exit ?_
                      | refine TR.skip ?_
                      | refine TR.condB rfl ?_
                      | refine Br.cond_t ?_
                      | refine Br.cond_f ?_
                      | refine Br.yes (by first | decide | assumption | (apply decide_eq_true; omega)) ?_
                      | refine Br.non (by first | decide | assumption | (apply decide_eq_false; omega)) ?_
                      | refine Br.cond_ff ?_
                      | refine Br.eqT (by omega) ?_
                      | refine Br.eqF (by omega) ?_
                      | refine Br.neT (by omega) ?_
                      | refine Br.neF (by omega) ?_
                      | refine Ld.mk' _ rfl ?_
                      | refine Need.mk (by first | decide | omega | kernel_rfl) ?_
                      | refine Nm.i64 (by omega) ?_
                      | refine Nm.u64 (by omega) ?_
                      | refine Nm.u8 (by omega) ?_
                      | refine x_ret (f := 63) rfl rfl (fun w _ => h63 w) ?_
                      | refine x_ret (f := 59) rfl rfl (fun w _ => h59 w) ?_)
                  | refine Nm.mk' _ c2 ?_
                  | refine Nm.mk' _ hr ?_
                  | refine Br.non hb1 ?_
                  | refine Br.yes rfl ?_
                  | refine Br.non rfl ?_
                  | (refine x_exq (TTok _ _) ?_; (conv => whnf); fail_if_success (guard_target =ₛ False)))
              all_goals (conv => whnf)
              all_goals rfl
            · rw [if_neg fun e => q1 e.2]
              obtain ⟨u, hu⟩ := Option.ne_none_iff_exists'.1 q1
              have hne := tyT_ne n u hu
              rw [hu] at h59
              simp only [Option.getD_some] at h59
              have hb2 : (!decide (u = ⟨#[]⟩)) = true := by rw [decide_eq_false hne]; rfl
              repeat' (
                (conv => whnf)
                first
                  | (with_reducible first
                      | refine TR.seq ?_
                      | refine TR.region (TTok _ _) ?_
                      | refine TR.drawn (TTok _ _) mixed ?_
                      | refine TR.block ?_
                      | refine TR.ret ?_
                      | refine TR.exit ?_
                      | refine TR.skip ?_
                      | refine TR.condB rfl ?_
                      | refine Br.cond_t ?_
                      | refine Br.cond_f ?_
                      | refine Br.yes (by first | decide | assumption | (apply decide_eq_true; omega)) ?_
                      | refine Br.non (by first | decide | assumption | (apply decide_eq_false; omega)) ?_
                      | refine Br.cond_ff ?_
                      | refine Br.eqT (by omega) ?_
                      | refine Br.eqF (by omega) ?_
                      | refine Br.neT (by omega) ?_
                      | refine Br.neF (by omega) ?_
                      | refine Ld.mk' _ rfl ?_
                      | refine Need.mk (by first | decide | omega | kernel_rfl) ?_
                      | refine Nm.i64 (by omega) ?_
                      | refine Nm.u64 (by omega) ?_
                      | refine Nm.u8 (by omega) ?_
                      | refine x_ret (f := 63) rfl rfl (fun w _ => h63 w) ?_
                      | refine x_ret (f := 59) rfl rfl (fun w _ => h59 w) ?_)
                  | refine Nm.mk' _ c2 ?_
                  | refine Nm.mk' _ hr ?_
                  | refine Br.non hb1 ?_
                  | refine Br.yes hb2 ?_
                  | (refine x_exq (TTok _ _) ?_; (conv => whnf); fail_if_success (guard_target =ₛ False)))
              all_goals (conv => whnf)
              all_goals rfl
          · rw [if_neg fun e => q0 e.1]
            repeat' (
              (conv => whnf)
              first
                | (with_reducible first
                    | refine TR.seq ?_
                    | refine TR.region (TTok _ _) ?_
                    | refine TR.drawn (TTok _ _) mixed ?_
                    | refine TR.block ?_
                    | refine TR.ret ?_
                    | refine TR.exit ?_
                    | refine TR.skip ?_
                    | refine TR.condB rfl ?_
                    | refine Br.cond_t ?_
                    | refine Br.cond_f ?_
                    | refine Br.yes (by first | decide | assumption | (apply decide_eq_true; omega)) ?_
                    | refine Br.non (by first | decide | assumption | (apply decide_eq_false; omega)) ?_
                    | refine Br.cond_ff ?_
                    | refine Br.eqT (by omega) ?_
                    | refine Br.eqF (by omega) ?_
                    | refine Br.neT (by omega) ?_
                    | refine Br.neF (by omega) ?_
                    | refine Ld.mk' _ rfl ?_
                    | refine Need.mk (by first | decide | omega | kernel_rfl) ?_
                    | refine Nm.i64 (by omega) ?_
                    | refine Nm.u64 (by omega) ?_
                    | refine Nm.u8 (by omega) ?_
                    | refine x_ret (f := 63) rfl rfl (fun w _ => h63 w) ?_
                    | refine x_ret (f := 59) rfl rfl (fun w _ => h59 w) ?_)
                | refine Nm.mk' _ c2 ?_
                | refine Nm.mk' _ hr ?_
                | refine Br.non hb1 ?_
                | refine Br.yes rfl ?_
                | refine Br.non rfl ?_
                | (refine x_exq (TTok _ _) ?_; (conv => whnf); fail_if_success (guard_target =ₛ False)))
            all_goals (conv => whnf)
            all_goals rfl
        · have ht : tnV s = none := by
            unfold tnV
            rw [if_neg fun e => c2 e.2.1]
          have hb1 : (!decide (s.extract 0 4 = ⟨#[84, 89, 80, 69]⟩)) = true := by
            show (!decide (s.extract 0 4 = T4)) = true
            rw [decide_eq_false c2]
            rfl
          rw [ht]
          repeat' (
            (conv => whnf)
            first
              | (with_reducible first
                  | refine TR.seq ?_
                  | refine TR.region (TTok _ _) ?_
                  | refine TR.drawn (TTok _ _) mixed ?_
                  | refine TR.block ?_
                  | refine TR.ret ?_
                  | refine TR.exit ?_
                  | refine TR.skip ?_
                  | refine TR.condB rfl ?_
                  | refine Br.cond_t ?_
                  | refine Br.cond_f ?_
                  | refine Br.yes (by first | decide | assumption | (apply decide_eq_true; omega)) ?_
                  | refine Br.non (by first | decide | assumption | (apply decide_eq_false; omega)) ?_
                  | refine Br.cond_ff ?_
                  | refine Br.eqT (by omega) ?_
                  | refine Br.eqF (by omega) ?_
                  | refine Br.neT (by omega) ?_
                  | refine Br.neF (by omega) ?_
                  | refine Ld.mk' _ rfl ?_
                  | refine Need.mk (by first | decide | omega | kernel_rfl) ?_
                  | refine Nm.i64 (by omega) ?_
                  | refine Nm.u64 (by omega) ?_
                  | refine Nm.u8 (by omega) ?_)
              | refine Nm.keep ?_
              | refine Br.yes hb1 ?_
              | (refine x_exq (TTok _ _) ?_; (conv => whnf); fail_if_success (guard_target =ₛ False)))
          all_goals (conv => whnf)
          all_goals rfl
theorem rtypeof_ret (s : ByteArray) (hs : s.size ≤ 9223372036854775807) (w : World) : Ret Tryz.prog 18 [.string s] w (rV s) := by
  unfold rV
  rcases tkT_cases s with ⟨k, h1, h2, h3, h4⟩ | ⟨h1, h2, _⟩
  · rw [h1]
    exact rtypeof_word s k h2 h3 h4 w
  · rw [h1]
    exact rtypeof_none s hs h2 w
end Go.Proofs.YtbladfkakmdigaaGreatDoor
set_option maxRecDepth 100000
set_option linter.unusedVariables false
namespace Go.Proofs.YtbladfkakmdigaaGreatDoor
open Go.SX
def dV (s : ByteArray) : Value := match tkT s with
  | some k => .tuple #[.int .i64 k, .int .i64 0]
  | none => match tnV s with
    | some n => .tuple #[.int .i64 n, .int .i64 0]
    | none => .tuple #[.int .i64 0, .int .i64 7]
theorem mod_bytesWorld (w : World) (e : TypeId) (u : ByteArray) (O : Nat → Prop) : Mod w (Lib.bytesWorld w e u) O :=
  ⟨rfl, rfl, rfl, by rw [Lib.bytesWorld_size]; omega, fun b hb _ => Lib.bytesWorld_at_old w e u b hb⟩
theorem atoi_ret (s : ByteArray) (n : Int) (hl : s.size ≤ 18) (h : Lib.atoi s.data.toList = some n) (w : World) : Ret Tryz.prog 62 [.string s] w (.tuple #[.int .i64 n, .nilIface]) :=
  ⟨⟨_, Tryz.func62, by kernel_rfl, by kernel_rfl⟩, (Tryz.strconv_Atoi s n hl h w).mono fun e w' ⟨h1, t, h2⟩ => ⟨h1, by subst h2; exact mod_bytesWorld _ _ _ _⟩⟩
theorem atoi_err {u2 v2 u3 v3} (s : ByteArray) (hl : s.size ≤ 18) (h : Lib.atoi s.data.toList = none) (w : World) (hI : IC u2 v2 u3 v3 w) : RetA Tryz.prog 62 [.string s] w (.tup [.dead, .ifc 212 .dead]) :=
  ⟨⟨_, Tryz.func62, by kernel_rfl, by kernel_rfl⟩, (Tryz.strconv_Atoi_err s hl h _ w hI.e.1 (.inr ⟨_, _, rfl⟩)).mono fun e w' ⟨N, h1, _, _, h4⟩ => ⟨_, h1, fun vs ez ρ => by simp [rel, relL], Mod.of_below h4 _⟩⟩
theorem cut_ret (s : ByteArray) (w : World) : Ret Tryz.prog 61 [.string s, .string T4] w (if s.extract 0 4 = T4 then .tuple #[.string (s.extract 4 s.size), .bool true] else .tuple #[.string s, .bool false]) := by
  have h := Ret.shelf0 Tryz.func61 (by kernel_rfl) (by kernel_rfl) (Tryz.strings_CutPrefix s T4 w)
  have hp : Lib.hasPrefix s.data.toList T4.data.toList = decide (s.extract 0 4 = T4) := by
    by_cases hc : s.extract 0 4 = T4
    · rw [decide_eq_true hc]
      unfold Lib.hasPrefix
      rw [List.isPrefixOf_iff_prefix]
      have := split4 s hc
      exact ⟨(s.extract 4 s.size).data.toList, by conv => rhs; rw [this, ByteArray.data_append, Array.toList_append]⟩
    · rw [decide_eq_false hc]
      unfold Lib.hasPrefix
      rw [← Bool.not_eq_true, List.isPrefixOf_iff_prefix]
      rintro ⟨r, hr⟩
      refine hc ?_
      have : s = T4 ++ ⟨⟨r⟩⟩ := ba_ext (by rw [ByteArray.data_append, Array.toList_append]; exact hr.symm)
      rw [this]
      exact (ext4 _).1
  rw [hp] at h
  by_cases hc : s.extract 0 4 = T4
  · rw [if_pos hc]
    have e : (⟨(Lib.trimPrefix s.data.toList T4.data.toList).toArray⟩ : ByteArray) = s.extract 4 s.size := by
      unfold Lib.trimPrefix
      rw [hp, decide_eq_true hc, if_pos rfl]
      apply ba_ext
      conv => lhs; rw [split4 s hc]
      rw [ByteArray.data_append, Array.toList_append]
      rfl
    rw [e, decide_eq_true hc] at h
    exact h
  · rw [if_neg hc]
    have e : (⟨(Lib.trimPrefix s.data.toList T4.data.toList).toArray⟩ : ByteArray) = s := by
      unfold Lib.trimPrefix
      rw [hp, decide_eq_false hc]
      rfl
    rw [e, decide_eq_false hc] at h
    exact h
set_option maxHeartbeats 8000000 in
theorem dtypeof_word {u2 v2 u3 v3} (s : ByteArray) (k : Int) (h : tyT k = some s) (w : World) (hI : IC u2 v2 u3 v3 w) : Ret Tryz.prog 17 [.string s] w (.tuple #[.int .i64 k, .int .i64 0]) := by
  rcases tyT_cases k with ⟨k1, s1, hm, rfl, hs1⟩ | ⟨hs1, _⟩
  · rw [h] at hs1
    cases hs1
    clear h
    simp only [List.mem_cons, List.not_mem_nil, or_false, Prod.mk.injEq] at hm
    rcases hm with ⟨rfl, rfl⟩ | ⟨rfl, rfl⟩ | ⟨rfl, rfl⟩ | ⟨rfl, rfl⟩ | ⟨rfl, rfl⟩ | ⟨rfl, rfl⟩ | ⟨rfl, rfl⟩ | ⟨rfl, rfl⟩ | ⟨rfl, rfl⟩ | ⟨rfl, rfl⟩ | ⟨rfl, rfl⟩ | ⟨rfl, rfl⟩ | ⟨rfl, rfl⟩ | ⟨rfl, rfl⟩ | ⟨rfl, rfl⟩
    all_goals refine Ret.tj (I := IC u2 v2 u3 v3) (fun w' hm => hI.mod hm) (TTok 0 _) Tryz.func17 (by kernel_rfl) rfl ?_
    all_goals repeat' (
      (conv => whnf)
      first
        | (with_reducible first
            | refine TJ.seq ?_
            | refine TJ.region (TTok _ _) ?_
            | refine TJ.drawn (TTok _ _) mixed ?_
            | refine TJ.cond rfl ?_
            | refine TJ.block ?_
            | refine TJ.loop ?_
            | refine LJ.step ?_
            | refine TJ.ret ?_
            | refine TJ.exit ?_
            | refine TJ.skip ?_
            | refine TJ.scope ?_
            | refine TJ.label ?_
            | refine Br.cond_t ?_
            | refine Br.cond_f ?_
            | refine Br.yes (by first | decide | assumption | (apply decide_eq_true; omega)) ?_
            | refine Br.non (by first | decide | assumption | (apply decide_eq_false; omega)) ?_
            | refine Br.cond_ff ?_
            | refine Br.eqT (by omega) ?_
            | refine Br.eqF (by omega) ?_
            | refine Br.neT (by omega) ?_
            | refine Br.neF (by omega) ?_
            | refine Ld.mk' _ rfl ?_
            | refine Need.mk (by first | decide | omega | kernel_rfl) ?_
            | refine Nm.i64 (by omega) ?_
            | refine Nm.u64 (by omega) ?_
            | refine Nm.u8 (by omega) ?_)
        | refine Br.yes rfl ?_
        | refine Br.non rfl ?_
        | refine x_call (f := 57) (TTok _ _) rfl rfl Tryz.func57 (by kernel_rfl) rfl ?_
        | (refine x_exq (TTok _ _) ?_; (conv => whnf); fail_if_success (guard_target =ₛ False)))
    all_goals (conv => whnf)
    all_goals rfl
  · rw [h] at hs1
    cases hs1
end Go.Proofs.YtbladfkakmdigaaGreatDoor
set_option maxRecDepth 100000
set_option linter.unusedVariables false
namespace Go.Proofs.YtbladfkakmdigaaGreatDoor
open Go.SX
set_option maxHeartbeats 8000000 in
theorem dtypeof_none {u2 v2 u3 v3} (s : ByteArray) (hs : s.size ≤ 9223372036854775807) (hw : ∀ k, tyT k ≠ some s) (hx : ⟨#[65]⟩ ≠ s ∧ ⟨#[78, 83]⟩ ≠ s ∧ ⟨#[67, 78, 65, 77, 69]⟩ ≠ s ∧ ⟨#[83, 79, 65]⟩ ≠ s ∧ ⟨#[77, 88]⟩ ≠ s ∧ ⟨#[84, 88, 84]⟩ ≠ s ∧ ⟨#[65, 65, 65, 65]⟩ ≠ s ∧ ⟨#[68, 78, 65, 77, 69]⟩ ≠ s ∧ ⟨#[79, 80, 84]⟩ ≠ s ∧ ⟨#[68, 83]⟩ ≠ s ∧ ⟨#[82, 82, 83, 73, 71]⟩ ≠ s ∧ ⟨#[78, 83, 69, 67]⟩ ≠ s ∧ ⟨#[68, 78, 83, 75, 69, 89]⟩ ≠ s ∧ ⟨#[78, 83, 69, 67, 51]⟩ ≠ s ∧ ⟨#[65, 78, 89]⟩ ≠ s) (w : World) (hI : IC u2 v2 u3 v3 w) : Ret Tryz.prog 17 [.string s] w (match tnV s with
    | some n => .tuple #[.int .i64 n, .int .i64 0]
    | none => .tuple #[.int .i64 0, .int .i64 7]) := by
  obtain ⟨x0, x1, x2, x3, x4, x5, x6, x7, x8, x9, x10, x11, x12, x13, x14⟩ := hx
  have y0 := decide_eq_false x0
  have y1 := decide_eq_false x1
  have y2 := decide_eq_false x2
  have y3 := decide_eq_false x3
  have y4 := decide_eq_false x4
  have y5 := decide_eq_false x5
  have y6 := decide_eq_false x6
  have y7 := decide_eq_false x7
  have y8 := decide_eq_false x8
  have y9 := decide_eq_false x9
  have y10 := decide_eq_false x10
  have y11 := decide_eq_false x11
  have y12 := decide_eq_false x12
  have y13 := decide_eq_false x13
  have y14 := decide_eq_false x14
  have h61 := fun w => cut_ret s w
  by_cases c2 : s.extract 0 4 = T4
  · simp only [if_pos c2] at h61
    obtain ⟨r, hr⟩ : ∃ r, s.extract 4 s.size = r := ⟨_, rfl⟩
    rw [hr] at h61
    have hse : s = T4 ++ r := by rw [← hr]; exact split4 s c2
    by_cases c3 : r.size < 6
    · have hsz : r.size ≤ 18 := by omega
      cases ha : Lib.atoi r.data.toList with
      | some v =>
        have h62 := fun w => atoi_ret r v hsz ha w
        have h15 := fun w (hw : IC u2 v2 u3 v3 w) => ttext_ret v w hw
        unfold ttV at h15
        by_cases hv : 0 ≤ v ∧ v < 65536
        · rw [if_pos hv] at h15
          by_cases ht : tyT v = none
          · rw [ht] at h15
            simp only at h15
            by_cases he : T4 ++ itS v = s
            · have hn : tnV s = some v := by rw [← he]; exact tnV_of v hv ht
              rw [hn]
              simp only
              have h15' : ∀ w, IC u2 v2 u3 v3 w → Ret Tryz.prog 15 [.int .i64 v] w (.tuple #[.string s, .int .i64 0]) := by
                rw [← he]
                exact h15
              have hb1 : decide (s = s) = true := by simp
              refine Ret.tj (I := IC u2 v2 u3 v3) (fun w' hm => hI.mod hm) (TTok 0 _) Tryz.func17 (by kernel_rfl) rfl ?_
              repeat' (
                (conv => whnf)
                first
                  | (with_reducible first
                      | refine TJ.seq ?_
                      | refine TJ.region (TTok _ _) ?_
                      | refine TJ.drawn (TTok _ _) mixed ?_
                      | refine TJ.cond rfl ?_
                      | refine TJ.block ?_
                      | refine TJ.loop ?_
                      | refine LJ.step ?_
                      | refine TJ.ret ?_
                      | refine TJ.exit ?_
                      | refine TJ.skip ?_
                      | refine TJ.scope ?_
                      | refine TJ.label ?_
                      | refine Br.cond_t ?_
                      | refine Br.cond_f ?_
                      | refine Br.yes (by first | decide | assumption | (apply decide_eq_true; omega)) ?_
                      | refine Br.non (by first | decide | assumption | (apply decide_eq_false; omega)) ?_
                      | refine Br.cond_ff ?_
                      | refine Br.eqT (by omega) ?_
                      | refine Br.eqF (by omega) ?_
                      | refine Br.neT (by omega) ?_
                      | refine Br.neF (by omega) ?_
                      | refine Ld.mk' _ rfl ?_
                      | refine Need.mk (by first | decide | omega | kernel_rfl) ?_
                      | refine Nm.i64 (by omega) ?_
                      | refine Nm.u64 (by omega) ?_
                      | refine Nm.u8 (by omega) ?_
                      | refine x_ret (f := 61) rfl rfl (fun w _ => h61 w) ?_
                      | refine x_ret (f := 62) rfl rfl (fun w _ => h62 w) ?_
                      | refine x_ret (f := 15) rfl rfl (fun w hw => h15' w hw) ?_)
                  | refine Br.yes hb1 ?_
                  | refine Br.non y0 ?_
                  | refine Br.non y1 ?_
                  | refine Br.non y2 ?_
                  | refine Br.non y3 ?_
                  | refine Br.non y4 ?_
                  | refine Br.non y5 ?_
                  | refine Br.non y6 ?_
                  | refine Br.non y7 ?_
                  | refine Br.non y8 ?_
                  | refine Br.non y9 ?_
                  | refine Br.non y10 ?_
                  | refine Br.non y11 ?_
                  | refine Br.non y12 ?_
                  | refine Br.non y13 ?_
                  | refine Br.non y14 ?_
                  | refine Br.yes rfl ?_
                  | refine Br.non rfl ?_
                  | refine x_call (f := 57) (TTok _ _) rfl rfl Tryz.func57 (by kernel_rfl) rfl ?_
                  | (refine x_exq (TTok _ _) ?_; (conv => whnf); fail_if_success (guard_target =ₛ False)))
              all_goals (conv => whnf)
              all_goals rfl
            · have hn : tnV s = none := by
                cases hq : tnV s with
                | none => rfl
                | some n =>
                  obtain ⟨n1, n2, n3⟩ := tnV_some s n hq
                  exfalso
                  refine he ?_
                  have e : itS n = r := by
                    rw [← hr, n3]
                    exact (ext4 _).2.symm
                  have e2 := atoi_it n n1
                  rw [e, Lib.atoiAll_short _ (by rw [Array.length_toList]; exact hsz), ha] at e2
                  cases e2
                  exact n3.symm
              rw [hn]
              simp only
              generalize hu : (⟨#[84, 89, 80, 69]⟩ : ByteArray) ++ itS v = u at h15
              have hb1 : decide (u = s) = false := decide_eq_false (by rw [← hu]; exact he)
              refine Ret.tj (I := IC u2 v2 u3 v3) (fun w' hm => hI.mod hm) (TTok 0 _) Tryz.func17 (by kernel_rfl) rfl ?_
              repeat' (
                (conv => whnf)
                first
                  | (with_reducible first
                      | refine TJ.seq ?_
                      | refine TJ.region (TTok _ _) ?_
                      | refine TJ.drawn (TTok _ _) mixed ?_
                      | refine TJ.cond rfl ?_
                      | refine TJ.block ?_
                      | refine TJ.loop ?_
                      | refine LJ.step ?_
                      | refine TJ.ret ?_
                      | refine TJ.exit ?_
                      | refine TJ.skip ?_
                      | refine TJ.scope ?_
                      | refine TJ.label ?_
                      | refine Br.cond_t ?_
                      | refine Br.cond_f ?_
                      | refine Br.yes (by first | decide | assumption | (apply decide_eq_true; omega)) ?_
                      | refine Br.non (by first | decide | assumption | (apply decide_eq_false; omega)) ?_
                      | refine Br.cond_ff ?_
                      | refine Br.eqT (by omega) ?_
                      | refine Br.eqF (by omega) ?_
                      | refine Br.neT (by omega) ?_
                      | refine Br.neF (by omega) ?_
                      | refine Ld.mk' _ rfl ?_
                      | refine Need.mk (by first | decide | omega | kernel_rfl) ?_
                      | refine Nm.i64 (by omega) ?_
                      | refine Nm.u64 (by omega) ?_
                      | refine Nm.u8 (by omega) ?_
                      | refine x_ret (f := 61) rfl rfl (fun w _ => h61 w) ?_
                      | refine x_ret (f := 62) rfl rfl (fun w _ => h62 w) ?_
                      | refine x_ret (f := 15) rfl rfl (fun w hw => h15 w hw) ?_)
                  | refine Br.non hb1 ?_
                  | refine Br.non y0 ?_
                  | refine Br.non y1 ?_
                  | refine Br.non y2 ?_
                  | refine Br.non y3 ?_
                  | refine Br.non y4 ?_
                  | refine Br.non y5 ?_
                  | refine Br.non y6 ?_
                  | refine Br.non y7 ?_
                  | refine Br.non y8 ?_
                  | refine Br.non y9 ?_
                  | refine Br.non y10 ?_
                  | refine Br.non y11 ?_
                  | refine Br.non y12 ?_
                  | refine Br.non y13 ?_
                  | refine Br.non y14 ?_
                  | refine Br.yes rfl ?_
                  | refine Br.non rfl ?_
                  | refine x_call (f := 57) (TTok _ _) rfl rfl Tryz.func57 (by kernel_rfl) rfl ?_
                  | (refine x_exq (TTok _ _) ?_; (conv => whnf); fail_if_success (guard_target =ₛ False)))
              all_goals (conv => whnf)
              all_goals rfl
          · obtain ⟨u, hu⟩ := Option.ne_none_iff_exists'.1 ht
            rw [hu] at h15
            simp only at h15
            have hb1 : decide (u = s) = false := decide_eq_false (by rintro rfl; exact hw v hu)
            have hn : tnV s = none := by
              cases hq : tnV s with
              | none => rfl
              | some n =>
                obtain ⟨n1, n2, n3⟩ := tnV_some s n hq
                exfalso
                have e : itS n = r := by
                  rw [← hr, n3]
                  exact (ext4 _).2.symm
                have e2 := atoi_it n n1
                rw [e, Lib.atoiAll_short _ (by rw [Array.length_toList]; exact hsz), ha] at e2
                cases e2
                exact ht n2
            rw [hn]
            simp only
            refine Ret.tj (I := IC u2 v2 u3 v3) (fun w' hm => hI.mod hm) (TTok 0 _) Tryz.func17 (by kernel_rfl) rfl ?_
            repeat' (
              (conv => whnf)
              first
                | (with_reducible first
                    | refine TJ.seq ?_
                    | refine TJ.region (TTok _ _) ?_
                    | refine TJ.drawn (TTok _ _) mixed ?_
                    | refine TJ.cond rfl ?_
                    | refine TJ.block ?_
                    | refine TJ.loop ?_
                    | refine LJ.step ?_
                    | refine TJ.ret ?_
                    | refine TJ.exit ?_
                    | refine TJ.skip ?_
                    | refine TJ.scope ?_
                    | refine TJ.label ?_
                    | refine Br.cond_t ?_
                    | refine Br.cond_f ?_
                    | refine Br.yes (by first | decide | assumption | (apply decide_eq_true; omega)) ?_
                    | refine Br.non (by first | decide | assumption | (apply decide_eq_false; omega)) ?_
                    | refine Br.cond_ff ?_
                    | refine Br.eqT (by omega) ?_
                    | refine Br.eqF (by omega) ?_
                    | refine Br.neT (by omega) ?_
                    | refine Br.neF (by omega) ?_
                    | refine Ld.mk' _ rfl ?_
                    | refine Need.mk (by first | decide | omega | kernel_rfl) ?_
                    | refine Nm.i64 (by omega) ?_
                    | refine Nm.u64 (by omega) ?_
                    | refine Nm.u8 (by omega) ?_
                    | refine x_ret (f := 61) rfl rfl (fun w _ => h61 w) ?_
                    | refine x_ret (f := 62) rfl rfl (fun w _ => h62 w) ?_
                    | refine x_ret (f := 15) rfl rfl (fun w hw => h15 w hw) ?_)
                | refine Br.non hb1 ?_
                | refine Br.non y0 ?_
                | refine Br.non y1 ?_
                | refine Br.non y2 ?_
                | refine Br.non y3 ?_
                | refine Br.non y4 ?_
                | refine Br.non y5 ?_
                | refine Br.non y6 ?_
                | refine Br.non y7 ?_
                | refine Br.non y8 ?_
                | refine Br.non y9 ?_
                | refine Br.non y10 ?_
                | refine Br.non y11 ?_
                | refine Br.non y12 ?_
                | refine Br.non y13 ?_
                | refine Br.non y14 ?_
                | refine Br.yes rfl ?_
                | refine Br.non rfl ?_
                | refine x_call (f := 57) (TTok _ _) rfl rfl Tryz.func57 (by kernel_rfl) rfl ?_
                | (refine x_exq (TTok _ _) ?_; (conv => whnf); fail_if_success (guard_target =ₛ False)))
            all_goals (conv => whnf)
            all_goals rfl
        · rw [if_neg hv] at h15
          have hn : tnV s = none := by
            cases hq : tnV s with
            | none => rfl
            | some n =>
              obtain ⟨n1, n2, n3⟩ := tnV_some s n hq
              exfalso
              have e : itS n = r := by
                rw [← hr, n3]
                exact (ext4 _).2.symm
              have e2 := atoi_it n n1
              rw [e, Lib.atoiAll_short _ (by rw [Array.length_toList]; exact hsz), ha] at e2
              cases e2
              exact hv n1
          rw [hn]
          simp only
          refine Ret.tj (I := IC u2 v2 u3 v3) (fun w' hm => hI.mod hm) (TTok 0 _) Tryz.func17 (by kernel_rfl) rfl ?_
          repeat' (
            (conv => whnf)
            first
              | (with_reducible first
                  | refine TJ.seq ?_
                  | refine TJ.region (TTok _ _) ?_
                  | refine TJ.drawn (TTok _ _) mixed ?_
                  | refine TJ.cond rfl ?_
                  | refine TJ.block ?_
                  | refine TJ.loop ?_
                  | refine LJ.step ?_
                  | refine TJ.ret ?_
                  | refine TJ.exit ?_
                  | refine TJ.skip ?_
                  | refine TJ.scope ?_
                  | refine TJ.label ?_
                  | refine Br.cond_t ?_
                  | refine Br.cond_f ?_
                  | refine Br.yes (by first | decide | assumption | (apply decide_eq_true; omega)) ?_
                  | refine Br.non (by first | decide | assumption | (apply decide_eq_false; omega)) ?_
                  | refine Br.cond_ff ?_
                  | refine Br.eqT (by omega) ?_
                  | refine Br.eqF (by omega) ?_
                  | refine Br.neT (by omega) ?_
                  | refine Br.neF (by omega) ?_
                  | refine Ld.mk' _ rfl ?_
                  | refine Need.mk (by first | decide | omega | kernel_rfl) ?_
                  | refine Nm.i64 (by omega) ?_
                  | refine Nm.u64 (by omega) ?_
                  | refine Nm.u8 (by omega) ?_
                  | refine x_ret (f := 61) rfl rfl (fun w _ => h61 w) ?_
                  | refine x_ret (f := 62) rfl rfl (fun w _ => h62 w) ?_
                  | refine x_ret (f := 15) rfl rfl (fun w hw => h15 w hw) ?_)
              | refine Br.non y0 ?_
              | refine Br.non y1 ?_
              | refine Br.non y2 ?_
              | refine Br.non y3 ?_
              | refine Br.non y4 ?_
              | refine Br.non y5 ?_
              | refine Br.non y6 ?_
              | refine Br.non y7 ?_
              | refine Br.non y8 ?_
              | refine Br.non y9 ?_
              | refine Br.non y10 ?_
              | refine Br.non y11 ?_
              | refine Br.non y12 ?_
              | refine Br.non y13 ?_
              | refine Br.non y14 ?_
              | refine Br.yes rfl ?_
              | refine Br.non rfl ?_
              | refine x_call (f := 57) (TTok _ _) rfl rfl Tryz.func57 (by kernel_rfl) rfl ?_
              | (refine x_exq (TTok _ _) ?_; (conv => whnf); fail_if_success (guard_target =ₛ False)))
          all_goals (conv => whnf)
          all_goals rfl
      | none =>
        have hn : tnV s = none := by
          cases hq : tnV s with
          | none => rfl
          | some n =>
            obtain ⟨n1, n2, n3⟩ := tnV_some s n hq
            exfalso
            have e : itS n = r := by
              rw [← hr, n3]
              exact (ext4 _).2.symm
            have e2 := atoi_it n n1
            rw [e, Lib.atoiAll_short _ (by rw [Array.length_toList]; exact hsz), ha] at e2
            cases e2
        rw [hn]
        simp only
        have h62 := fun w (hw : IC u2 v2 u3 v3 w) => atoi_err r hsz ha w hw
        refine Ret.tj (I := IC u2 v2 u3 v3) (fun w' hm => hI.mod hm) (TTok 0 _) Tryz.func17 (by kernel_rfl) rfl ?_
        repeat' (
          (conv => whnf)
          first
            | (with_reducible first
                | refine TJ.seq ?_
                | refine TJ.region (TTok _ _) ?_
                | refine TJ.drawn (TTok _ _) mixed ?_
                | refine TJ.cond rfl ?_
                | refine TJ.block ?_
                | refine TJ.loop ?_
                | refine LJ.step ?_
                | refine TJ.ret ?_
                | refine TJ.exit ?_
                | refine TJ.skip ?_
                | refine TJ.scope ?_
                | refine TJ.label ?_
                | refine Br.cond_t ?_
                | refine Br.cond_f ?_
                | refine Br.yes (by first | decide | assumption | (apply decide_eq_true; omega)) ?_
                | refine Br.non (by first | decide | assumption | (apply decide_eq_false; omega)) ?_
                | refine Br.cond_ff ?_
                | refine Br.eqT (by omega) ?_
                | refine Br.eqF (by omega) ?_
                | refine Br.neT (by omega) ?_
                | refine Br.neF (by omega) ?_
                | refine Ld.mk' _ rfl ?_
                | refine Need.mk (by first | decide | omega | kernel_rfl) ?_
                | refine Nm.i64 (by omega) ?_
                | refine Nm.u64 (by omega) ?_
                | refine Nm.u8 (by omega) ?_
                | refine x_ret (f := 61) rfl rfl (fun w _ => h61 w) ?_
                | refine x_retA (f := 62) rfl rfl (fun w hw => h62 w hw) ?_
                | refine x_ne_ifc (TTok _ _) .eql (.inl rfl) rfl rfl rfl rfl ?_)
            | refine Br.non y0 ?_
            | refine Br.non y1 ?_
            | refine Br.non y2 ?_
            | refine Br.non y3 ?_
            | refine Br.non y4 ?_
            | refine Br.non y5 ?_
            | refine Br.non y6 ?_
            | refine Br.non y7 ?_
            | refine Br.non y8 ?_
            | refine Br.non y9 ?_
            | refine Br.non y10 ?_
            | refine Br.non y11 ?_
            | refine Br.non y12 ?_
            | refine Br.non y13 ?_
            | refine Br.non y14 ?_
            | refine Br.yes rfl ?_
            | refine Br.non rfl ?_
            | refine x_call (f := 57) (TTok _ _) rfl rfl Tryz.func57 (by kernel_rfl) rfl ?_
            | (refine x_exq (TTok _ _) ?_; (conv => whnf); fail_if_success (guard_target =ₛ False)))
        all_goals (conv => whnf)
        all_goals rfl
    · have hn : tnV s = none := by
        cases hq : tnV s with
        | none => rfl
        | some n =>
          obtain ⟨n1, n2, n3⟩ := tnV_some s n hq
          have e : itS n = r := by
            rw [← hr, n3]
            exact (ext4 _).2.symm
          have := itS_size n n1
          rw [e] at this
          omega
      rw [hn]
      simp only
      refine Ret.tj (I := IC u2 v2 u3 v3) (fun w' hm => hI.mod hm) (TTok 0 _) Tryz.func17 (by kernel_rfl) rfl ?_
      repeat' (
        (conv => whnf)
        first
          | (with_reducible first
              | refine TJ.seq ?_
              | refine TJ.region (TTok _ _) ?_
              | refine TJ.drawn (TTok _ _) mixed ?_
              | refine TJ.cond rfl ?_
              | refine TJ.block ?_
              | refine TJ.loop ?_
              | refine LJ.step ?_
              | refine TJ.ret ?_
              | refine TJ.exit ?_
              | refine TJ.skip ?_
              | refine TJ.scope ?_
              | refine TJ.label ?_
              | refine Br.cond_t ?_
              | refine Br.cond_f ?_
              | refine Br.yes (by first | decide | assumption | (apply decide_eq_true; omega)) ?_
              | refine Br.non (by first | decide | assumption | (apply decide_eq_false; omega)) ?_
              | refine Br.cond_ff ?_
              | refine Br.eqT (by omega) ?_
              | refine Br.eqF (by omega) ?_
              | refine Br.neT (by omega) ?_
              | refine Br.neF (by omega) ?_
              | refine Ld.mk' _ rfl ?_
              | refine Need.mk (by first | decide | omega | kernel_rfl) ?_
              | refine Nm.i64 (by omega) ?_
              | refine Nm.u64 (by omega) ?_
              | refine Nm.u8 (by omega) ?_
              | refine x_ret (f := 61) rfl rfl (fun w _ => h61 w) ?_)
          | refine Br.non y0 ?_
          | refine Br.non y1 ?_
          | refine Br.non y2 ?_
          | refine Br.non y3 ?_
          | refine Br.non y4 ?_
          | refine Br.non y5 ?_
          | refine Br.non y6 ?_
          | refine Br.non y7 ?_
          | refine Br.non y8 ?_
          | refine Br.non y9 ?_
          | refine Br.non y10 ?_
          | refine Br.non y11 ?_
          | refine Br.non y12 ?_
          | refine Br.non y13 ?_
          | refine Br.non y14 ?_
          | refine Br.yes rfl ?_
          | refine Br.non rfl ?_
          | refine x_call (f := 57) (TTok _ _) rfl rfl Tryz.func57 (by kernel_rfl) rfl ?_
          | (refine x_exq (TTok _ _) ?_; (conv => whnf); fail_if_success (guard_target =ₛ False)))
      all_goals (conv => whnf)
      all_goals rfl
  · simp only [if_neg c2] at h61
    have hn : tnV s = none := by
      unfold tnV
      rw [if_neg fun e => c2 e.2.1]
    rw [hn]
    simp only
    refine Ret.tj (I := IC u2 v2 u3 v3) (fun w' hm => hI.mod hm) (TTok 0 _) Tryz.func17 (by kernel_rfl) rfl ?_
    repeat' (
      (conv => whnf)
      first
        | (with_reducible first
            | refine TJ.seq ?_
            | refine TJ.region (TTok _ _) ?_
            | refine TJ.drawn (TTok _ _) mixed ?_
            | refine TJ.cond rfl ?_
            | refine TJ.block ?_
            | refine TJ.loop ?_
            | refine LJ.step ?_
            | refine TJ.ret ?_
            | refine TJ.exit ?_
            | refine TJ.skip ?_
            | refine TJ.scope ?_
            | refine TJ.label ?_
            | refine Br.cond_t ?_
            | refine Br.cond_f ?_
            | refine Br.yes (by first | decide | assumption | (apply decide_eq_true; omega)) ?_
            | refine Br.non (by first | decide | assumption | (apply decide_eq_false; omega)) ?_
            | refine Br.cond_ff ?_
            | refine Br.eqT (by omega) ?_
            | refine Br.eqF (by omega) ?_
            | refine Br.neT (by omega) ?_
            | refine Br.neF (by omega) ?_
            | refine Ld.mk' _ rfl ?_
            | refine Need.mk (by first | decide | omega | kernel_rfl) ?_
            | refine Nm.i64 (by omega) ?_
            | refine Nm.u64 (by omega) ?_
            | refine Nm.u8 (by omega) ?_
            | refine x_ret (f := 61) rfl rfl (fun w _ => h61 w) ?_)
        | refine Br.non y0 ?_
        | refine Br.non y1 ?_
        | refine Br.non y2 ?_
        | refine Br.non y3 ?_
        | refine Br.non y4 ?_
        | refine Br.non y5 ?_
        | refine Br.non y6 ?_
        | refine Br.non y7 ?_
        | refine Br.non y8 ?_
        | refine Br.non y9 ?_
        | refine Br.non y10 ?_
        | refine Br.non y11 ?_
        | refine Br.non y12 ?_
        | refine Br.non y13 ?_
        | refine Br.non y14 ?_
        | refine Br.yes rfl ?_
        | refine Br.non rfl ?_
        | refine x_call (f := 57) (TTok _ _) rfl rfl Tryz.func57 (by kernel_rfl) rfl ?_
        | (refine x_exq (TTok _ _) ?_; (conv => whnf); fail_if_success (guard_target =ₛ False)))
    all_goals (conv => whnf)
    all_goals rfl
theorem dtypeof_ret {u2 v2 u3 v3} (s : ByteArray) (hs : s.size ≤ 9223372036854775807) (w : World) (hI : IC u2 v2 u3 v3 w) : Ret Tryz.prog 17 [.string s] w (dV s) := by
  unfold dV
  rcases tkT_cases s with ⟨k, h1, h2, h3, h4⟩ | ⟨h1, h2, h3⟩
  · rw [h1]
    exact dtypeof_word s k h2 w hI
  · rw [h1]
    exact dtypeof_none s hs h2 h3 w hI
end Go.Proofs.YtbladfkakmdigaaGreatDoor
set_option maxRecDepth 100000
set_option linter.unusedVariables false
namespace Go.Proofs.YtbladfkakmdigaaGreatDoor
open Go.SX
/-! ### DataTypes -/
set_option maxHeartbeats 8000000 in
theorem types_ret {u2 v2 u3 v3} (kind : Int) (s : ByteArray) (hs : s.size ≤ 9223372036854775807) (w : World) (hI : IC u2 v2 u3 v3 w) : Ret Tryz.prog 3 [.int .i64 kind, .string s] w (.bool true) := by
  have h15 := fun w (hw : IC u2 v2 u3 v3 w) => ttext_ret kind w hw
  have h16 := fun w => rttext_ret kind w
  have h17 := fun w (hw : IC u2 v2 u3 v3 w) => dtypeof_ret s hs w hw
  have h18 := fun w => rtypeof_ret s hs w
  have A : (∃ x : ByteArray, ttV kind = .tuple #[.string x, .int .i64 0] ∧ rttV kind = .tuple #[.string x, .bool true]) ∨ (∃ x y : ByteArray, x = y ∧ ttV kind = .tuple #[.string x, .int .i64 1] ∧ rttV kind = .tuple #[.string y, .bool false]) := by
    unfold ttV rttV
    by_cases hk : 0 ≤ kind ∧ kind < 65536
    · rw [if_pos hk, if_pos hk]
      cases tyT kind with
      | none => exact .inl ⟨_, rfl, rfl⟩
      | some x => exact .inl ⟨_, rfl, rfl⟩
    · rw [if_neg hk, if_neg hk]
      exact .inr ⟨_, _, rfl, rfl, rfl⟩
  have B : (∃ n : Int, dV s = .tuple #[.int .i64 n, .int .i64 0] ∧ rV s = .tuple #[.int .i64 n, .bool true]) ∨ (dV s = .tuple #[.int .i64 0, .int .i64 7] ∧ rV s = .tuple #[.int .i64 0, .bool false]) := by
    unfold dV rV
    cases tkT s with
    | some k => exact .inl ⟨_, rfl, rfl⟩
    | none =>
      cases tnV s with
      | some n => exact .inl ⟨_, rfl, rfl⟩
      | none => exact .inr ⟨rfl, rfl⟩
  rcases A with ⟨x, a1, a2⟩ | ⟨x, y, hxy, a1, a2⟩ <;> rcases B with ⟨n, b1, b2⟩ | ⟨b1, b2⟩
  all_goals rw [a1] at h15
  all_goals rw [a2] at h16
  all_goals rw [b1] at h17
  all_goals rw [b2] at h18
  all_goals try subst hxy
  all_goals have hb1 : decide (x = x) = true := by simp
  all_goals refine Ret.tj (I := IC u2 v2 u3 v3) (fun w' hm => hI.mod hm) (TTok 0 _) Tryz.func3 (by kernel_rfl) rfl ?_
  all_goals repeat' (
    (conv => whnf)
    first
      | (with_reducible first
          | refine TJ.seq ?_
          | refine TJ.region (TTok _ _) ?_
          | refine TJ.drawn (TTok _ _) mixed ?_
          | refine TJ.cond rfl ?_
          | refine TJ.block ?_
          | refine TJ.loop ?_
          | refine LJ.step ?_
          | refine TJ.ret ?_
          | refine TJ.exit ?_
          | refine TJ.skip ?_
          | refine TJ.scope ?_
          | refine TJ.label ?_
          | refine Br.cond_t ?_
          | refine Br.cond_f ?_
          | refine Br.yes (by first | decide | assumption | (apply decide_eq_true; omega)) ?_
          | refine Br.non (by first | decide | assumption | (apply decide_eq_false; omega)) ?_
          | refine Br.cond_ff ?_
          | refine Br.eqT (by omega) ?_
          | refine Br.eqF (by omega) ?_
          | refine Br.neT (by omega) ?_
          | refine Br.neF (by omega) ?_
          | refine Ld.mk' _ rfl ?_
          | refine Need.mk (by first | decide | omega | kernel_rfl) ?_
          | refine Nm.i64 (by omega) ?_
          | refine Nm.u64 (by omega) ?_
          | refine Nm.u8 (by omega) ?_
          | refine x_ret (f := 14) rfl rfl (fun w hw => examples_ret hw) ?_
          | refine x_ret (f := 15) rfl rfl (fun w hw => h15 w hw) ?_
          | refine x_ret (f := 16) rfl rfl (fun w hw => h16 w) ?_
          | refine x_ret (f := 17) rfl rfl (fun w hw => h17 w hw) ?_
          | refine x_ret (f := 18) rfl rfl (fun w hw => h18 w) ?_)
      | refine Br.yes hb1 ?_
      | refine Br.yes rfl ?_
      | refine Br.non rfl ?_
      | (refine x_exq (TTok _ _) ?_; (conv => whnf); fail_if_success (guard_target =ₛ False)))
  all_goals (conv => whnf)
  all_goals first | rfl | simp [val]
end Go.Proofs.YtbladfkakmdigaaGreatDoor
set_option maxRecDepth 100000
namespace Go.Proofs.YtbladfkakmdigaaGreatDoor
open Go.SX
def tab0 : List Int := [1, 10, 100, 1000, 10000, 100000, 1000000, 10000000, 100000000, 1000000000, 10000000000, 100000000000, 1000000000000, 10000000000000, 100000000000000, 1000000000000000, 10000000000000000, 100000000000000000, 1000000000000000000, 10000000000000000000]
def tab5 : List Int := [0, 1, 56, 2, 57, 49, 28, 3, 61, 58, 42, 50, 38, 29, 17, 4, 62, 47, 59, 36, 45, 43, 51, 22, 53, 39, 33, 30, 24, 18, 12, 5, 63, 55, 48, 27, 60, 41, 37, 16, 46, 35, 44, 21, 52, 32, 23, 11, 54, 26, 40, 15, 34, 20, 31, 10, 25, 14, 19, 9, 13, 8, 7, 6]
theorem I13_of {l : List (String × DataW Unit)} {W : World} (h : laidMet Tryz.prog l W) (hm : ("internal/strconv.uint64pow10", Lib.tabData .u64 tab0) ∈ l) (hm5 : ("math/bits.deBruijn64tab", Lib.tabData .u8 tab5) ∈ l) : I13 W := by
  intro g cells hg
  unfold GG at hg
  split at hg
  · cases hg
    exact laid_tab h hm (t := 253) (e := 179) (n := 20) (by kernel_rfl) (by kernel_rfl) Tryz.underlying253 Tryz.underlying179 (by kernel_rfl) (by kernel_rfl)
  · cases hg
    exact laid_tab h hm5 (t := 268) (e := 5) (n := 64) (by kernel_rfl) (by kernel_rfl) Tryz.underlying268 Tryz.underlying5 (by kernel_rfl) (by kernel_rfl)
  · cases hg
/-- A listed variable of an interface's type holds a value that is not nil. -/
theorem laid_ifc {P : Program} {l : List (String × DataW Unit)} {W : World} {name n : String} {d : DataW Unit} {g : Nat} {t : TypeId} {ms : Array (String × TypeId)} (h : laidMet P l W) (hm : (name, DataW.iface n d) ∈ l)
    (hg : P.globalNamed name = some g) (hty : (P.globals[g]?).map (·.type) = some t) (ht : P.underlying t = some (.interface ms)) : ∃ u v, W.cell? ⟨g, 0, none⟩ = some (.iface u v) := by
  obtain ⟨ps, hl, _⟩ := h
  obtain ⟨g', t', cs, fuel, p, hg', ht', hvar, hd⟩ := laidVars_mem hl _ _ hm
  obtain rfl := Option.some.inj (hg.symm.trans hg')
  obtain rfl := Option.some.inj (hty.symm.trans ht')
  have hc : ∃ u v, cs.toList = [.iface u v] := by
    cases fuel with
    | zero => simp [DataW.trod] at hd
    | succ m =>
      unfold DataW.trod at hd
      rw [ht] at hd
      split at hd <;> simp_all
  obtain ⟨u, v, hc⟩ := hc
  refine ⟨u, v, ?_⟩
  have := World.var?_cell hg hvar 0
  rw [this]
  have e : cs[0]? = cs.toList[0]? := by simp
  rw [e, hc]
  rfl
/-- A listed table of numbers, whole. -/
theorem laid_tabIs {P : Program} {l : List (String × DataW Unit)} {W : World} {name : String} {k : IntKind} {zs : List Int} {g : Nat} {t e : TypeId} {n : Nat} (h : laidMet P l W) (hm : (name, Lib.tabData k zs) ∈ l)
    (hg : P.globalNamed name = some g) (hty : (P.globals[g]?).map (·.type) = some t) (ht : P.underlying t = some (.array n e)) (he : P.underlying e = some (.int k)) (hce : P.cellsOf e = 1) (hct : P.cellsOf t = n) : Lib.TabIs P W name k zs := by
  obtain ⟨ps, hl, _⟩ := h
  obtain ⟨g', t', cs, fuel, p, hg', ht', hvar, hd⟩ := laidVars_mem hl _ _ hm
  obtain rfl := Option.some.inj (hg.symm.trans hg')
  obtain rfl := Option.some.inj (hty.symm.trans ht')
  have hcs := Lib.cells_of_tab ht he hce hct hd
  unfold Lib.TabIs
  rw [hvar, ← hcs]
theorem tab0_pow : tab0 = Lib.pow10Tab := by decide
theorem ic_of {l : List (String × DataW Unit)} {W : World} (h : laidMet Tryz.prog l W) (hm : ("internal/strconv.uint64pow10", Lib.tabData .u64 tab0) ∈ l) (hm5 : ("math/bits.deBruijn64tab", Lib.tabData .u8 tab5) ∈ l)
    {n2 n3 : String} {d2 d3 : DataW Unit} (h2 : ("strconv.ErrSyntax", DataW.iface n2 d2) ∈ l) (h3 : ("strconv.ErrRange", DataW.iface n3 d3) ∈ l) : ∃ u2 v2 u3 v3, IC u2 v2 u3 v3 W := by
  obtain ⟨u2, v2, q2⟩ := laid_ifc h h2 (by kernel_rfl) (by kernel_rfl) Tryz.underlying105
  obtain ⟨u3, v3, q3⟩ := laid_ifc h h3 (by kernel_rfl) (by kernel_rfl) Tryz.underlying105
  refine ⟨u2, v2, u3, v3, I13_of h hm hm5, ⟨q2, q3⟩, ?_⟩
  rw [← tab0_pow]
  exact laid_tabIs h hm (g := 2) (t := 253) (e := 179) (n := 20) (by kernel_rfl) (by kernel_rfl) Tryz.underlying253 Tryz.underlying179 (by kernel_rfl) (by kernel_rfl)
end Go.Proofs.YtbladfkakmdigaaGreatDoor
set_option maxRecDepth 100000
namespace Go.Proofs.YtbladfkakmdigaaGreatDoor
open Go.SX
namespace dataTypes
def inv (W : World) : Prop := ∃ u2 v2 u3 v3, IC u2 v2 u3 v3 W
theorem inv_of {W : World} (h : laidMet Tryz.prog Rows.dataTypesRow.laid W) (_ : W.ShapedOpen Tryz.prog) : inv W :=
  ic_of h (List.mem_of_getElem? (i := 2) (by kernel_rfl)) (List.mem_of_getElem? (i := 1) (by kernel_rfl)) (List.mem_of_getElem? (i := 5) rfl) (List.mem_of_getElem? (i := 4) rfl)
theorem returns (W : World) (args : Array Value) (hI : inv W) (hF : FitAll TT W maxLen Tryz.f3.params.toList args.toList) : Ret Tryz.prog 3 args.toList W (.bool true) := by
  obtain ⟨u2, v2, u3, v3, hI⟩ := hI
  rw [show Tryz.f3.params.toList = [3, 9] by kernel_rfl] at hF
  generalize args.toList = l at hF
  obtain ⟨a, l, rfl, ha, hF⟩ := fitAll_cons hF
  obtain ⟨t, l, rfl, ht, hF⟩ := fitAll_cons hF
  obtain rfl := fitAll_nil hF
  obtain ⟨n, rfl, _⟩ := fit_int (k := .i64) rfl rfl ha
  obtain ⟨s, rfl, hs⟩ := fit_str rfl rfl ht
  exact types_ret n s hs W hI
end dataTypes
end Go.Proofs.YtbladfkakmdigaaGreatDoor
