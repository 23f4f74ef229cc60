/-
  Put together by the program and by the document, SOA, RRSIG, DNSKEY and DS are the same or refused alike, for arguments of at most 1048576 in all.
-/
import Derived.Lib.AtoiTie
import Derived.Test.YtbladfkakmdigaaGreatDoorMakesa
import Derived.Test.YtbladfkakmdigaaGreatDoorSxc
set_option linter.unusedVariables false
set_option linter.unusedSimpArgs false
set_option linter.unnecessarySimpa false
set_option maxRecDepth 100000
namespace Go.Proofs.YtbladfkakmdigaaGreatDoor
open Go.SX
/-! ### Numbers in decimal digits: plain laws -/
theorem decFrom_app : ∀ (l r : List UInt8) (acc : Nat), Lib.decFrom acc (l ++ r) = (Lib.decFrom acc l).bind fun n => Lib.decFrom n r
  | [], r, acc => rfl
  | b :: l, r, acc => by
    simp only [List.cons_append, Lib.decFrom]
    cases Lib.digitVal b with
    | none => rfl
    | some d => exact decFrom_app l r _
theorem digit_of (d : Nat) (h : d < 10) : Lib.digitVal (UInt8.ofNat (48 + d)) = some d := by
  unfold Lib.digitVal
  have e : (UInt8.ofNat (48 + d)).toNat = 48 + d := by simp; omega
  rw [e, if_pos (by omega)]
  congr 1
  omega
theorem of_digit {b : UInt8} {d : Nat} (h : Lib.digitVal b = some d) : d < 10 ∧ b.toNat = 48 + d ∧ UInt8.ofNat (48 + d) = b := by
  unfold Lib.digitVal at h
  split at h
  · rename_i hc
    cases h
    refine ⟨by omega, by omega, UInt8.toNat_inj.1 ?_⟩
    simp
    omega
  · cases h
theorem decFrom_dec (u : Nat) : Lib.decFrom 0 (Lib.decDigits u) = some u := by
  induction u using Nat.strongRecOn with
  | _ u ih =>
    rw [Lib.decDigits]
    split
    · rename_i h
      simp only [Lib.decFrom, digit_of u h, Nat.zero_mul, Nat.zero_add]
    · rename_i h
      rw [decFrom_app, ih (u / 10) (by omega)]
      simp only [Option.bind_some, Lib.decFrom, digit_of (u % 10) (by omega)]
      congr 1
      omega
theorem decFrom_ge : ∀ (l : List UInt8) (acc n : Nat), Lib.decFrom acc l = some n → acc ≤ n
  | [], acc, n, h => by
    simp only [Lib.decFrom, Option.some.injEq] at h
    omega
  | b :: l, acc, n, h => by
    simp only [Lib.decFrom] at h
    split at h
    · have := decFrom_ge l _ n h
      omega
    · cases h
theorem dec_head (u : Nat) (h : 1 ≤ u) : ∃ b r, Lib.decDigits u = b :: r ∧ b.toNat ≠ 48 := by
  induction u using Nat.strongRecOn with
  | _ u ih =>
    rw [Lib.decDigits]
    split
    · rename_i h10
      refine ⟨_, [], rfl, ?_⟩
      simp
      omega
    · rename_i h10
      obtain ⟨b, r, e, hb⟩ := ih (u / 10) (by omega) (by omega)
      exact ⟨b, r ++ [UInt8.ofNat (48 + u % 10)], by rw [e]; rfl, hb⟩
theorem dec_canon : ∀ (k : Nat) (l : List UInt8), l.length = k → ∀ n, Lib.decFrom 0 l = some n → l ≠ [] → (1 < l.length → ∀ b r, l = b :: r → b.toNat ≠ 48) → Lib.decDigits n = l := by
  intro k
  induction k with
  | zero => intro l hl n _ hne _; exact absurd (List.eq_nil_of_length_eq_zero hl) hne
  | succ k ih =>
    intro l hl n hn hne hh
    obtain ⟨l', b, rfl⟩ : ∃ l' b, l = l' ++ [b] := ⟨l.dropLast, l.getLast hne, (List.dropLast_concat_getLast hne).symm⟩
    rw [decFrom_app] at hn
    cases hm : Lib.decFrom 0 l' with
    | none => rw [hm] at hn; cases hn
    | some m =>
      rw [hm] at hn
      simp only [Option.bind_some, Lib.decFrom] at hn
      cases hd : Lib.digitVal b with
      | none => rw [hd] at hn; cases hn
      | some d =>
        rw [hd] at hn
        simp only [Option.some.injEq] at hn
        obtain ⟨d1, d2, d3⟩ := of_digit hd
        cases l' with
        | nil =>
          simp only [Lib.decFrom, Option.some.injEq] at hm
          subst hm
          rw [Lib.decDigits, dif_pos (by omega)]
          have : n = d := by omega
          rw [this, d3]
          rfl
        | cons a r =>
          have hl1 : 1 < (a :: r ++ [b]).length := by simp
          have ha := hh hl1 a (r ++ [b]) rfl
          have hm1 : 1 ≤ m := by
            simp only [Lib.decFrom] at hm
            split at hm
            · rename_i e he
              have h1 := decFrom_ge _ _ _ hm
              have h2 := of_digit he
              omega
            · cases hm
          rw [Lib.decDigits, dif_neg (by omega), show n / 10 = m by omega, show n % 10 = d by omega, d3]
          congr 1
          refine ih (a :: r) (by simpa using hl) m hm (by simp) fun _ b' r' e => ?_
          cases e
          exact ha
/-! ### ref02.Number, at most 65535 -/
def numM : Int → List Int → Option Int
  | n, [] => some n
  | n, c :: r => if c < 48 ∨ 57 < c ∨ 65535 < n then none else numM (10 * n + (c - 48)) r
def numV (s : ByteArray) : Int := match numM 0 (sInts s) with
  | none => -1
  | some n => if s = ⟨#[]⟩ ∨ 65535 < n ∨ (1 < s.size ∧ bAt s 0 = 48) then -1 else n
theorem numM_dec : ∀ (l : List UInt8) (acc : Nat) (m : Int), numM acc (l.map fun b => (b.toNat : Int)) = some m → ∃ n : Nat, m = n ∧ Lib.decFrom acc l = some n
  | [], acc, m, h => by
    simp only [List.map_nil, numM, Option.some.injEq] at h
    exact ⟨acc, h.symm, rfl⟩
  | b :: l, acc, m, h => by
    simp only [List.map_cons, numM] at h
    split at h
    · cases h
    · rename_i hc
      have hd : Lib.digitVal b = some (b.toNat - 48) := by
        unfold Lib.digitVal
        rw [if_pos (by omega)]
      have e : (10 * (acc : Int) + ((b.toNat : Int) - 48)) = ((acc * 10 + (b.toNat - 48) : Nat) : Int) := by omega
      rw [e] at h
      obtain ⟨n, h1, h2⟩ := numM_dec l _ m h
      exact ⟨n, h1, by simp only [Lib.decFrom, hd, h2]⟩
theorem dec_numM : ∀ (l : List UInt8) (acc n : Nat), Lib.decFrom acc l = some n → n ≤ 65535 → numM acc (l.map fun b => (b.toNat : Int)) = some (n : Int)
  | [], acc, n, h, _ => by
    simp only [Lib.decFrom, Option.some.injEq] at h
    subst h
    rfl
  | b :: l, acc, n, h, hn => by
    have hge := decFrom_ge _ _ _ h
    simp only [Lib.decFrom] at h
    split at h
    · rename_i d hd
      obtain ⟨d1, d2, _⟩ := of_digit hd
      have ih := dec_numM l _ n h hn
      simp only [List.map_cons, numM]
      rw [if_neg (by omega), show (10 * (acc : Int) + ((b.toNat : Int) - 48)) = ((acc * 10 + d : Nat) : Int) by omega]
      exact ih
    · cases h
theorem itS_data (n : Int) (h : 0 ≤ n) : (itS n).data.toList = Lib.decDigits n.toNat := by
  unfold itS Lib.itoa
  rw [if_neg (by omega)]
theorem ba_ext {a b : ByteArray} (h : a.data.toList = b.data.toList) : a = b := ByteArray.ext (Array.toList_inj.1 h)
theorem numV_ge (s : ByteArray) : numV s = -1 ∨ 0 ≤ numV s := by
  unfold numV
  split
  · exact .inl rfl
  · rename_i n hn
    split
    · exact .inl rfl
    · obtain ⟨m, e, _⟩ := numM_dec s.data.toList 0 n hn
      exact .inr (by omega)
theorem numV_iff (s : ByteArray) (n : Int) (h0 : 0 ≤ n) : numV s = n ↔ n < 65536 ∧ s = itS n := by
  constructor
  · intro h
    unfold numV at h
    split at h
    · omega
    · rename_i m hm
      split at h
      · omega
      · rename_i hc
        subst h
        obtain ⟨k, e, hk⟩ := numM_dec s.data.toList 0 m hm
        have hs : s ≠ ⟨#[]⟩ := fun e => hc (.inl e)
        have hz : ¬ (1 < s.size ∧ bAt s 0 = 48) := fun e => hc (.inr (.inr e))
        have hne : s.data.toList ≠ [] := fun e => hs (ba_ext e)
        refine ⟨by omega, ba_ext ?_⟩
        rw [itS_data m h0, show m.toNat = k by omega]
        refine (dec_canon _ _ rfl k hk hne fun hl b r e => ?_).symm
        intro hb
        refine hz ⟨by simpa using hl, ?_⟩
        simp only [bAt, e]
        show ((b.toNat : Nat) : Int) = 48
        omega
  · rintro ⟨h1, rfl⟩
    have hd := itS_data n h0
    have hk := decFrom_dec n.toNat
    have hm : numM 0 (sInts (itS n)) = some n := by
      have := dec_numM _ 0 _ hk (by omega)
      unfold sInts
      rw [hd]
      rw [show ((n.toNat : Nat) : Int) = n by omega] at this
      exact this
    have hz := itS_size n ⟨h0, h1⟩
    unfold numV
    rw [hm]
    simp only
    rw [if_neg]
    rintro (e | e | ⟨e1, e2⟩)
    · rw [e] at hz
      have : (⟨#[]⟩ : ByteArray).size = 0 := rfl
      omega
    · omega
    · by_cases hu : 1 ≤ n.toNat
      · obtain ⟨b, r, e, hb⟩ := dec_head n.toNat hu
        simp only [bAt, hd, e] at e2
        simp at e2
        omega
      · have e0 : n.toNat = 0 := by omega
        have : (itS n).size = 1 := by
          show (itS n).data.size = 1
          rw [← Array.length_toList, hd, e0, Lib.decDigits]
          rfl
        omega
theorem atoi_it (n : Int) (h : 0 ≤ n ∧ n < 65536) : Lib.atoiAll (itS n).data.toList = .ok n := by
  have hz := itS_size n h
  have hl : (itS n).data.toList.length ≤ 18 := by
    have : (itS n).data.toList.length = (itS n).size := by rw [Array.length_toList]; rfl
    omega
  rw [Lib.atoiAll_short _ hl, itS_data n h.1]
  have hk := decFrom_dec n.toNat
  have hall : ∀ b, b ∈ Lib.decDigits n.toNat → 48 ≤ b.toNat ∧ b.toNat ≤ 57 := by
    intro b hb
    obtain ⟨i, hi⟩ := List.getElem?_of_mem hb
    obtain ⟨d, hd⟩ := Lib.digit_of_decFrom _ _ _ hk i b hi
    have := of_digit hd
    omega
  cases hc : Lib.decDigits n.toNat with
  | nil =>
    rw [hc] at hk
    have := itS_data n h.1
    rw [hc] at this
    have h2 : (itS n).size = 0 := by show (itS n).data.size = 0; rw [← Array.length_toList, this]; rfl
    omega
  | cons b r =>
    have hb := hall b (by rw [hc]; simp)
    unfold Lib.atoi
    have h45 : (b == 45) = false := by
      apply beq_false_of_ne
      rintro rfl
      simp at hb
    have h43 : (b == 43) = false := by
      apply beq_false_of_ne
      rintro rfl
      simp at hb
    simp only [h45, h43]
    unfold Lib.decNat
    rw [hc] at hk
    simp only [Bool.false_eq_true, if_false, List.isEmpty_cons, hk, Option.map_some, Lib.NumEnd.ofOption]
    congr 1
    omega
end Go.Proofs.YtbladfkakmdigaaGreatDoor
set_option maxRecDepth 100000
namespace Go.Proofs.YtbladfkakmdigaaGreatDoor
open Go.SX
/-! ### ref02: word, digits, Number, TypeText -/
set_option maxHeartbeats 4000000 in
theorem word_ret (kind : Int) (w : World) : Ret Tryz.prog 59 [.int .i64 kind] w (.string ((tyT kind).getD ⟨#[]⟩)) := by
  refine Ret.tj (I := fun _ => True) (fun _ _ => trivial) (TTok 0 _) Tryz.func59 (by kernel_rfl) rfl ?_
  repeat' (
    (conv => whnf)
    first
      | (with_reducible first
          | refine TJ.seq ?_
          | refine TJ.region (TTok _ _) ?_
          | refine TJ.drawn (TTok _ _) mixed ?_
          | refine TJ.cond rfl ?_
          | refine TJ.block ?_
          | refine TJ.loop ?_
          | refine LJ.step ?_
          | refine TJ.ret ?_
          | refine TJ.exit ?_
          | refine TJ.skip ?_
          | refine TJ.scope ?_
          | refine TJ.label ?_
          | refine Br.cond_t ?_
          | refine Br.cond_f ?_
          | refine Br.yes (by first | decide | assumption | (apply decide_eq_true; omega)) ?_
          | refine Br.non (by first | decide | assumption | (apply decide_eq_false; omega)) ?_
          | refine Br.cond_ff ?_
          | refine Br.eqT (by omega) ?_
          | refine Br.eqF (by omega) ?_
          | refine Br.neT (by omega) ?_
          | refine Br.neF (by omega) ?_
          | refine Br.eq (fun hc => ?_) (fun hc => ?_)
          | refine Ld.mk' _ rfl ?_
          | refine Need.mk (by first | decide | omega | kernel_rfl) ?_
          | refine Nm.i64 (by omega) ?_
          | refine Nm.u64 (by omega) ?_
          | refine Nm.u8 (by omega) ?_)
      | (refine x_exq (TTok _ _) ?_; (conv => whnf); fail_if_success (guard_target =ₛ False)))
  all_goals (conv => whnf)
  all_goals first
    | (subst hc; rfl)
    | (rw [show tyT kind = none by
        unfold tyT
        rw [if_neg (by omega), if_neg (by omega), if_neg (by omega), if_neg (by omega), if_neg (by omega), if_neg (by omega), if_neg (by omega), if_neg (by omega), if_neg (by omega), if_neg (by omega), if_neg (by omega), if_neg (by omega), if_neg (by omega), if_neg (by omega), if_neg (by omega)]]
       rfl)
def D10 : ByteArray := ⟨#[48, 49, 50, 51, 52, 53, 54, 55, 56, 57]⟩
theorem d10_cut (n : Int) (h : 0 ≤ n ∧ n < 10) : D10.extract n.toNat (n + 1).toNat = ⟨⟨[UInt8.ofNat (48 + n.toNat)]⟩⟩ := by
  have hc : n = 0 ∨ n = 1 ∨ n = 2 ∨ n = 3 ∨ n = 4 ∨ n = 5 ∨ n = 6 ∨ n = 7 ∨ n = 8 ∨ n = 9 := by omega
  rcases hc with rfl | rfl | rfl | rfl | rfl | rfl | rfl | rfl | rfl | rfl <;> rfl
theorem digits_ret (n : Nat) : n < 65536 → ∀ w, Ret Tryz.prog 60 [.int .i64 n] w (.string ⟨⟨Lib.decDigits n⟩⟩) := by
  induction n using Nat.strongRecOn with
  | _ n ih =>
    intro hn w
    have hz10 : D10.size = 10 := rfl
    rw [Lib.decDigits]
    split
    · rename_i h
      have hc := d10_cut n (by omega)
      rw [show ((n : Int).toNat) = n by omega] at hc
      refine Ret.tj (I := fun _ => True) (fun _ _ => trivial) (TTok 0 _) Tryz.func60 (by kernel_rfl) rfl ?_
      repeat' (
        (conv => whnf)
        first
          | (with_reducible first
              | refine TJ.seq ?_
              | refine TJ.region (TTok _ _) ?_
              | refine TJ.drawn (TTok _ _) mixed ?_
              | refine TJ.cond rfl ?_
              | refine TJ.block ?_
              | refine TJ.loop ?_
              | refine LJ.step ?_
              | refine TJ.ret ?_
              | refine TJ.exit ?_
              | refine TJ.skip ?_
              | refine TJ.scope ?_
              | refine TJ.label ?_
              | refine Br.cond_t ?_
              | refine Br.cond_f ?_
              | refine Br.yes (by first | decide | assumption | (apply decide_eq_true; omega)) ?_
              | refine Br.non (by first | decide | assumption | (apply decide_eq_false; omega)) ?_
              | refine Br.cond_ff ?_
              | refine Br.eqT (by omega) ?_
              | refine Br.eqF (by omega) ?_
              | refine Br.neT (by omega) ?_
              | refine Br.neF (by omega) ?_
              | refine Need.mk (by first | decide | omega | exact ⟨by omega, by omega, Int.le_trans (b := 10) (by omega) (by decide)⟩ | kernel_rfl) ?_
              | refine Ld.mk' _ rfl ?_
              | refine Nm.i64 (by omega) ?_)
          | refine Nm.mk' _ hc ?_
          | (refine x_exq (TTok _ _) ?_; (conv => whnf); fail_if_success (guard_target =ₛ False)))
      all_goals (conv => whnf)
      all_goals rfl
    · rename_i h
      have ih1 := ih (n / 10) (by omega) (by omega)
      have hc := d10_cut ((n : Int) % 10) (by omega)
      rw [show (((n : Int) % 10).toNat) = n % 10 by omega] at hc
      have hq : (n : Int).tdiv 10 = ((n / 10 : Nat) : Int) := by rw [Int.tdiv_eq_ediv_of_nonneg (by omega)]; omega
      have hr : (n : Int).tmod 10 = (n : Int) % 10 := Int.tmod_eq_emod_of_nonneg (by omega)
      have hq2 : IntKind.i64.wrap ((n : Int).tdiv 10) = ((n / 10 : Nat) : Int) := by rw [hq]; exact wrap_i64 (by omega)
      obtain ⟨T, hT⟩ : ∃ T : ByteArray, (⟨⟨Lib.decDigits (n / 10)⟩⟩ : ByteArray) ++ ⟨⟨[UInt8.ofNat (48 + n % 10)]⟩⟩ = T := ⟨_, rfl⟩
      have hTe : (⟨⟨Lib.decDigits (n / 10) ++ [UInt8.ofNat (48 + n % 10)]⟩⟩ : ByteArray) = T := by
        rw [← hT]
        apply ba_ext
        simp [ByteArray.data_append]
      rw [hTe]
      have hsz : (⟨⟨Lib.decDigits (n / 10)⟩⟩ : ByteArray).size ≤ 5 := by
        have := itS_size ((n / 10 : Nat) : Int) (by omega)
        have e : itS ((n / 10 : Nat) : Int) = ⟨⟨Lib.decDigits (n / 10)⟩⟩ := ba_ext (by rw [itS_data _ (by omega), Int.toNat_natCast])
        rw [e] at this
        exact this.2
      have hsz1 : (⟨⟨[UInt8.ofNat (48 + n % 10)]⟩⟩ : ByteArray).size = 1 := rfl
      generalize (⟨⟨Lib.decDigits (n / 10)⟩⟩ : ByteArray) = A at ih1 hT hsz
      generalize (⟨⟨[UInt8.ofNat (48 + n % 10)]⟩⟩ : ByteArray) = B at hc hT hsz1
      refine Ret.tj (I := fun _ => True) (fun _ _ => trivial) (TTok 0 _) Tryz.func60 (by kernel_rfl) rfl ?_
      repeat' (
        (conv => whnf)
        first
          | (with_reducible first
              | refine TJ.seq ?_
              | refine TJ.region (TTok _ _) ?_
              | refine TJ.drawn (TTok _ _) mixed ?_
              | refine TJ.cond rfl ?_
              | refine TJ.block ?_
              | refine TJ.loop ?_
              | refine LJ.step ?_
              | refine TJ.ret ?_
              | refine TJ.exit ?_
              | refine TJ.skip ?_
              | refine TJ.scope ?_
              | refine TJ.label ?_
              | refine Br.cond_t ?_
              | refine Br.cond_f ?_
              | refine Br.yes (by first | decide | assumption | (apply decide_eq_true; omega)) ?_
              | refine Br.non (by first | decide | assumption | (apply decide_eq_false; omega)) ?_
              | refine Br.cond_ff ?_
              | refine Br.eqT (by omega) ?_
              | refine Br.eqF (by omega) ?_
              | refine Br.neT (by omega) ?_
              | refine Br.neF (by omega) ?_
              | refine Need.mk (by first | decide | omega | exact ⟨by omega, by omega, Int.le_trans (b := 10) (by omega) (by decide)⟩ | kernel_rfl) ?_)
          | refine Nm.mk' _ hq2 ?_
          | refine Nm.mk' _ hq ?_
          | refine Nm.mk' _ hr ?_
          | refine Nm.mk' _ hc ?_
          | refine Nm.mk' T hT ?_
          | refine x_ret (f := 60) rfl rfl (fun w _ => ih1 w) ?_
          | refine Ld.mk' _ rfl ?_
          | refine Nm.i64 (by omega) ?_
          | (refine x_exq (TTok _ _) ?_; (conv => whnf); fail_if_success (guard_target =ₛ False)))
      all_goals (conv => whnf)
      all_goals rfl
set_option maxHeartbeats 4000000 in
theorem number_ret (s : ByteArray) (hs : s.size ≤ 9223372036854775803) (w : World) : Ret Tryz.prog 63 [.string s, .int .i64 65535] w (.int .i64 (numV s)) := by
  refine Ret.of (I := fun _ => True) (fun _ _ => trivial) (TTok 0 _) Tryz.func63 (by kernel_rfl) rfl rfl ?_
  repeat' (
    (conv => whnf)
    first
      | (with_reducible first
          | refine TR.seq ?_
          | refine TR.region (TTok _ _) ?_
          | refine TR.drawn (TTok _ _) mixed ?_
          | refine TR.block ?_
          | refine TR.ret ?_
          | refine TR.exit ?_
          | refine TR.skip ?_
          | refine TR.condB rfl ?_
          | refine Br.cond_t ?_
          | refine Br.cond_f ?_
          | refine Br.yes (by first | decide | assumption | (apply decide_eq_true; omega)) ?_
          | refine Br.non (by first | decide | assumption | (apply decide_eq_false; omega)) ?_
          | refine Br.cond_ff ?_
          | refine Br.eqT (by omega) ?_
          | refine Br.eqF (by omega) ?_
          | refine Br.neT (by omega) ?_
          | refine Br.neF (by omega) ?_
          | refine Ld.mk' _ rfl ?_
          | refine Need.mk (by first | decide | omega | kernel_rfl) ?_
          | refine Nm.i64 (by omega) ?_
          | refine Nm.u64 (by omega) ?_
          | refine Nm.u8 (by omega) ?_)
      | (refine x_exq (TTok _ _) ?_; (conv => whnf); fail_if_success (guard_target =ₛ False)))
  refine TR.loopH (fun x : Int × Int => [(5, .v (.int .i64 x.2)), (6, .v (.int .i64 x.1))]) (fun _ => []) (fun x => 0 ≤ x.1 ∧ x.1 ≤ s.size ∧ 0 ≤ x.2 ∧ x.2 ≤ 655359 ∧ numM x.2 ((sInts s).drop x.1.toNat) = numM 0 (sInts s)) (fun x => (s.size - x.1).toNat) (0, 0) ⟨by dsimp only; omega, by dsimp only; omega, by dsimp only; omega, by dsimp only; omega, rfl⟩ ?_ ?_
  · repeat' ((conv => whnf); first | exact trivial | exact Fgt.nil | exact Fgt.mk rfl rfl rfl | refine And.intro rfl ?_ | refine And.intro ?_ ?_)
  · rintro ⟨q, n⟩ ⟨q0, q1, n0, n1, hV⟩
    dsimp only at q0 q1 n0 n1 hV ⊢
    by_cases hq : q < s.size
    · have hd := drop_bAt s q q0 hq
      have hb := bAt_range s q
      rw [hd, numM] at hV
      by_cases c1 : bAt s q < 48
      · rw [if_pos (.inl c1)] at hV
        repeat' (
          (conv => whnf)
          first
            | (with_reducible first
                | refine TR.seq ?_
                | refine TR.region (TTok _ _) ?_
                | refine TR.drawn (TTok _ _) mixed ?_
                | refine TR.block ?_
                | refine TR.ret ?_
                | refine TR.exit ?_
                | refine TR.skip ?_
                | refine TR.condB rfl ?_
                | refine Br.cond_t ?_
                | refine Br.cond_f ?_
                | refine Br.yes (by first | decide | assumption | (apply decide_eq_true; omega)) ?_
                | refine Br.non (by first | decide | assumption | (apply decide_eq_false; omega)) ?_
                | refine Br.cond_ff ?_
                | refine Br.eqT (by omega) ?_
                | refine Br.eqF (by omega) ?_
                | refine Br.neT (by omega) ?_
                | refine Br.neF (by omega) ?_
                | refine Ld.mk' _ rfl ?_
                | refine Need.mk (by first | decide | omega | kernel_rfl) ?_
                | refine Nm.i64 (by omega) ?_
                | refine Nm.u64 (by omega) ?_
                | refine Nm.u8 (by omega) ?_)
            | (refine x_exq (TTok _ _) ?_; (conv => whnf); fail_if_success (guard_target =ₛ False)))
        all_goals (conv => whnf)
        all_goals (simp only [val, numV, ← hV])
      · by_cases c2 : 57 < bAt s q
        · rw [if_pos (.inr (.inl c2))] at hV
          repeat' (
            (conv => whnf)
            first
              | (with_reducible first
                  | refine TR.seq ?_
                  | refine TR.region (TTok _ _) ?_
                  | refine TR.drawn (TTok _ _) mixed ?_
                  | refine TR.block ?_
                  | refine TR.ret ?_
                  | refine TR.exit ?_
                  | refine TR.skip ?_
                  | refine TR.condB rfl ?_
                  | refine Br.cond_t ?_
                  | refine Br.cond_f ?_
                  | refine Br.yes (by first | decide | assumption | (apply decide_eq_true; omega)) ?_
                  | refine Br.non (by first | decide | assumption | (apply decide_eq_false; omega)) ?_
                  | refine Br.cond_ff ?_
                  | refine Br.eqT (by omega) ?_
                  | refine Br.eqF (by omega) ?_
                  | refine Br.neT (by omega) ?_
                  | refine Br.neF (by omega) ?_
                  | refine Ld.mk' _ rfl ?_
                  | refine Need.mk (by first | decide | omega | kernel_rfl) ?_
                  | refine Nm.i64 (by omega) ?_
                  | refine Nm.u64 (by omega) ?_
                  | refine Nm.u8 (by omega) ?_)
              | (refine x_exq (TTok _ _) ?_; (conv => whnf); fail_if_success (guard_target =ₛ False)))
          all_goals (conv => whnf)
          all_goals (simp only [val, numV, ← hV])
        · by_cases c3 : 65535 < n
          · rw [if_pos (.inr (.inr c3))] at hV
            repeat' (
              (conv => whnf)
              first
                | (with_reducible first
                    | refine TR.seq ?_
                    | refine TR.region (TTok _ _) ?_
                    | refine TR.drawn (TTok _ _) mixed ?_
                    | refine TR.block ?_
                    | refine TR.ret ?_
                    | refine TR.exit ?_
                    | refine TR.skip ?_
                    | refine TR.condB rfl ?_
                    | refine Br.cond_t ?_
                    | refine Br.cond_f ?_
                    | refine Br.yes (by first | decide | assumption | (apply decide_eq_true; omega)) ?_
                    | refine Br.non (by first | decide | assumption | (apply decide_eq_false; omega)) ?_
                    | refine Br.cond_ff ?_
                    | refine Br.eqT (by omega) ?_
                    | refine Br.eqF (by omega) ?_
                    | refine Br.neT (by omega) ?_
                    | refine Br.neF (by omega) ?_
                    | refine Ld.mk' _ rfl ?_
                    | refine Need.mk (by first | decide | omega | kernel_rfl) ?_
                    | refine Nm.i64 (by omega) ?_
                    | refine Nm.u64 (by omega) ?_
                    | refine Nm.u8 (by omega) ?_)
                | (refine x_exq (TTok _ _) ?_; (conv => whnf); fail_if_success (guard_target =ₛ False)))
            all_goals (conv => whnf)
            all_goals (simp only [val, numV, ← hV])
          · rw [if_neg (by omega)] at hV
            repeat' (
              (conv => whnf)
              first
                | (with_reducible first
                    | refine TR.seq ?_
                    | refine TR.region (TTok _ _) ?_
                    | refine TR.drawn (TTok _ _) mixed ?_
                    | refine TR.block ?_
                    | refine TR.ret ?_
                    | refine TR.exit ?_
                    | refine TR.skip ?_
                    | refine TR.condB rfl ?_
                    | refine Br.cond_t ?_
                    | refine Br.cond_f ?_
                    | refine Br.yes (by first | decide | assumption | (apply decide_eq_true; omega)) ?_
                    | refine Br.non (by first | decide | assumption | (apply decide_eq_false; omega)) ?_
                    | refine Br.cond_ff ?_
                    | refine Br.eqT (by omega) ?_
                    | refine Br.eqF (by omega) ?_
                    | refine Br.neT (by omega) ?_
                    | refine Br.neF (by omega) ?_
                    | refine Ld.mk' _ rfl ?_
                    | refine Need.mk (by first | decide | omega | kernel_rfl) ?_
                    | refine Nm.i64 (by omega) ?_
                    | refine Nm.u64 (by omega) ?_
                    | refine Nm.u8 (by omega) ?_)
                | (refine x_exq (TTok _ _) ?_; (conv => whnf); fail_if_success (guard_target =ₛ False)))
            all_goals (conv => whnf)
            refine ⟨(q + 1, 10 * n + (bAt s q - 48)), ⟨by dsimp only; omega, by dsimp only; omega, by dsimp only; omega, by dsimp only; omega, hV⟩, by dsimp only; omega, ?_⟩
            repeat' ((conv => whnf); first | exact trivial | exact Fgt.nil | exact Fgt.mk rfl rfl rfl | refine And.intro rfl ?_ | refine And.intro ?_ ?_)
    · have hnil : (sInts s).drop q.toNat = [] := List.drop_eq_nil_of_le (by rw [sInts_length]; omega)
      rw [hnil, numM] at hV
      by_cases c1 : s = ⟨#[]⟩
      · skip
        repeat' (
          (conv => whnf)
          first
            | (with_reducible first
                | refine TR.seq ?_
                | refine TR.region (TTok _ _) ?_
                | refine TR.drawn (TTok _ _) mixed ?_
                | refine TR.block ?_
                | refine TR.ret ?_
                | refine TR.exit ?_
                | refine TR.skip ?_
                | refine TR.condB rfl ?_
                | refine Br.cond_t ?_
                | refine Br.cond_f ?_
                | refine Br.yes (by first | decide | assumption | (apply decide_eq_true; omega)) ?_
                | refine Br.non (by first | decide | assumption | (apply decide_eq_false; omega)) ?_
                | refine Br.cond_ff ?_
                | refine Br.eqT (by omega) ?_
                | refine Br.eqF (by omega) ?_
                | refine Br.neT (by omega) ?_
                | refine Br.neF (by omega) ?_
                | refine Ld.mk' _ rfl ?_
                | refine Need.mk (by first | decide | omega | kernel_rfl) ?_
                | refine Nm.i64 (by omega) ?_
                | refine Nm.u64 (by omega) ?_
                | refine Nm.u8 (by omega) ?_
                | refine Br.yes (decide_eq_true c1) ?_)
            | (refine x_exq (TTok _ _) ?_; (conv => whnf); fail_if_success (guard_target =ₛ False)))
        all_goals (conv => whnf)
        all_goals (simp only [val, numV, ← hV]; rw [if_pos (.inl c1)])
      · by_cases c2 : 65535 < n
        · skip
          repeat' (
            (conv => whnf)
            first
              | (with_reducible first
                  | refine TR.seq ?_
                  | refine TR.region (TTok _ _) ?_
                  | refine TR.drawn (TTok _ _) mixed ?_
                  | refine TR.block ?_
                  | refine TR.ret ?_
                  | refine TR.exit ?_
                  | refine TR.skip ?_
                  | refine TR.condB rfl ?_
                  | refine Br.cond_t ?_
                  | refine Br.cond_f ?_
                  | refine Br.yes (by first | decide | assumption | (apply decide_eq_true; omega)) ?_
                  | refine Br.non (by first | decide | assumption | (apply decide_eq_false; omega)) ?_
                  | refine Br.cond_ff ?_
                  | refine Br.eqT (by omega) ?_
                  | refine Br.eqF (by omega) ?_
                  | refine Br.neT (by omega) ?_
                  | refine Br.neF (by omega) ?_
                  | refine Ld.mk' _ rfl ?_
                  | refine Need.mk (by first | decide | omega | kernel_rfl) ?_
                  | refine Nm.i64 (by omega) ?_
                  | refine Nm.u64 (by omega) ?_
                  | refine Nm.u8 (by omega) ?_
                  | refine Br.non (decide_eq_false c1) ?_)
              | (refine x_exq (TTok _ _) ?_; (conv => whnf); fail_if_success (guard_target =ₛ False)))
          all_goals (conv => whnf)
          all_goals (simp only [val, numV, ← hV, c2, true_or, or_true, if_true])
        · have hlen : s.size ≠ 0 := fun h => c1 (ByteArray.ext (Array.eq_empty_of_size_eq_zero h))
          by_cases c3 : 1 < s.size
          · by_cases c4 : bAt s 0 = 48
            · skip
              repeat' (
                (conv => whnf)
                first
                  | (with_reducible first
                      | refine TR.seq ?_
                      | refine TR.region (TTok _ _) ?_
                      | refine TR.drawn (TTok _ _) mixed ?_
                      | refine TR.block ?_
                      | refine TR.ret ?_
                      | refine TR.exit ?_
                      | refine TR.skip ?_
                      | refine TR.condB rfl ?_
                      | refine Br.cond_t ?_
                      | refine Br.cond_f ?_
                      | refine Br.yes (by first | decide | assumption | (apply decide_eq_true; omega)) ?_
                      | refine Br.non (by first | decide | assumption | (apply decide_eq_false; omega)) ?_
                      | refine Br.cond_ff ?_
                      | refine Br.eqT (by omega) ?_
                      | refine Br.eqF (by omega) ?_
                      | refine Br.neT (by omega) ?_
                      | refine Br.neF (by omega) ?_
                      | refine Ld.mk' _ rfl ?_
                      | refine Need.mk (by first | decide | omega | kernel_rfl) ?_
                      | refine Nm.i64 (by omega) ?_
                      | refine Nm.u64 (by omega) ?_
                      | refine Nm.u8 (by omega) ?_
                      | refine Br.non (decide_eq_false c1) ?_
                      | refine Br.yes (by simpa using c4) ?_)
                  | (refine x_exq (TTok _ _) ?_; (conv => whnf); fail_if_success (guard_target =ₛ False)))
              all_goals (conv => whnf)
              all_goals (simp only [val, numV, ← hV, c3, c4, and_self, or_true, if_true])
            · skip
              repeat' (
                (conv => whnf)
                first
                  | (with_reducible first
                      | refine TR.seq ?_
                      | refine TR.region (TTok _ _) ?_
                      | refine TR.drawn (TTok _ _) mixed ?_
                      | refine TR.block ?_
                      | refine TR.ret ?_
                      | refine TR.exit ?_
                      | refine TR.skip ?_
                      | refine TR.condB rfl ?_
                      | refine Br.cond_t ?_
                      | refine Br.cond_f ?_
                      | refine Br.yes (by first | decide | assumption | (apply decide_eq_true; omega)) ?_
                      | refine Br.non (by first | decide | assumption | (apply decide_eq_false; omega)) ?_
                      | refine Br.cond_ff ?_
                      | refine Br.eqT (by omega) ?_
                      | refine Br.eqF (by omega) ?_
                      | refine Br.neT (by omega) ?_
                      | refine Br.neF (by omega) ?_
                      | refine Ld.mk' _ rfl ?_
                      | refine Need.mk (by first | decide | omega | kernel_rfl) ?_
                      | refine Nm.i64 (by omega) ?_
                      | refine Nm.u64 (by omega) ?_
                      | refine Nm.u8 (by omega) ?_
                      | refine Br.non (decide_eq_false c1) ?_
                      | refine Br.non (by simpa using c4) ?_)
                  | (refine x_exq (TTok _ _) ?_; (conv => whnf); fail_if_success (guard_target =ₛ False)))
              all_goals (conv => whnf)
              all_goals (simp only [val, numV, ← hV, c1, c2, c4, and_false, or_self, if_false])
          · skip
            repeat' (
              (conv => whnf)
              first
                | (with_reducible first
                    | refine TR.seq ?_
                    | refine TR.region (TTok _ _) ?_
                    | refine TR.drawn (TTok _ _) mixed ?_
                    | refine TR.block ?_
                    | refine TR.ret ?_
                    | refine TR.exit ?_
                    | refine TR.skip ?_
                    | refine TR.condB rfl ?_
                    | refine Br.cond_t ?_
                    | refine Br.cond_f ?_
                    | refine Br.yes (by first | decide | assumption | (apply decide_eq_true; omega)) ?_
                    | refine Br.non (by first | decide | assumption | (apply decide_eq_false; omega)) ?_
                    | refine Br.cond_ff ?_
                    | refine Br.eqT (by omega) ?_
                    | refine Br.eqF (by omega) ?_
                    | refine Br.neT (by omega) ?_
                    | refine Br.neF (by omega) ?_
                    | refine Ld.mk' _ rfl ?_
                    | refine Need.mk (by first | decide | omega | kernel_rfl) ?_
                    | refine Nm.i64 (by omega) ?_
                    | refine Nm.u64 (by omega) ?_
                    | refine Nm.u8 (by omega) ?_
                    | refine Br.non (decide_eq_false c1) ?_)
                | (refine x_exq (TTok _ _) ?_; (conv => whnf); fail_if_success (guard_target =ₛ False)))
            all_goals (conv => whnf)
            all_goals (simp only [val, numV, ← hV, c1, c2, c3, false_and, or_self, if_false])
theorem it_ret (n : Int) (h : 0 ≤ n ∧ n < 65536) (w : World) : Ret Tryz.prog 60 [.int .i64 n] w (.string (itS n)) := by
  obtain ⟨m, rfl⟩ : ∃ m : Nat, n = m := ⟨n.toNat, by omega⟩
  have := digits_ret m (by omega) w
  rwa [show (⟨⟨Lib.decDigits m⟩⟩ : ByteArray) = itS m from ba_ext (by rw [itS_data _ (by omega)]; simp)] at this
def rttV (kind : Int) : Value := if 0 ≤ kind ∧ kind < 65536 then match tyT kind with
    | some s => .tuple #[.string s, .bool true]
    | none => .tuple #[.string (⟨#[84, 89, 80, 69]⟩ ++ itS kind), .bool true]
  else .tuple #[.string ⟨#[]⟩, .bool false]
theorem tyT_ne (kind : Int) (s : ByteArray) (h : tyT kind = some s) : s ≠ ⟨#[]⟩ := by
  rcases tyT_cases kind with ⟨k, s', hm, rfl, hs⟩ | ⟨hs, _⟩
  · rw [h] at hs
    cases hs
    simp only [List.mem_cons, List.not_mem_nil, or_false, Prod.mk.injEq] at hm
    rcases hm with ⟨_, rfl⟩ | ⟨_, rfl⟩ | ⟨_, rfl⟩ | ⟨_, rfl⟩ | ⟨_, rfl⟩ | ⟨_, rfl⟩ | ⟨_, rfl⟩ | ⟨_, rfl⟩ | ⟨_, rfl⟩ | ⟨_, rfl⟩ | ⟨_, rfl⟩ | ⟨_, rfl⟩ | ⟨_, rfl⟩ | ⟨_, rfl⟩ | ⟨_, rfl⟩ <;> decide
  · rw [h] at hs
    cases hs
theorem rttext_ret (kind : Int) (w : World) : Ret Tryz.prog 16 [.int .i64 kind] w (rttV kind) := by
  unfold rttV
  have hw := fun w => word_ret kind w
  by_cases hk : 0 ≤ kind ∧ kind < 65536
  · rw [if_pos hk]
    cases ht : tyT kind with
    | some s =>
      rw [ht] at hw
      have hne := tyT_ne kind s ht
      simp only [Option.getD_some] at hw
      have hb : decide (s = ⟨#[]⟩) = false := decide_eq_false hne
      refine Ret.tj (I := fun _ => True) (fun _ _ => trivial) (TTok 0 _) Tryz.func16 (by kernel_rfl) rfl ?_
      repeat' (
        (conv => whnf)
        first
          | (with_reducible first
              | refine TJ.seq ?_
              | refine TJ.region (TTok _ _) ?_
              | refine TJ.drawn (TTok _ _) mixed ?_
              | refine TJ.cond rfl ?_
              | refine TJ.block ?_
              | refine TJ.loop ?_
              | refine LJ.step ?_
              | refine TJ.ret ?_
              | refine TJ.exit ?_
              | refine TJ.skip ?_
              | refine TJ.scope ?_
              | refine TJ.label ?_
              | refine Br.cond_t ?_
              | refine Br.cond_f ?_
              | refine Br.yes (by first | decide | assumption | (apply decide_eq_true; omega)) ?_
              | refine Br.non (by first | decide | assumption | (apply decide_eq_false; omega)) ?_
              | refine Br.cond_ff ?_
              | refine Br.eqT (by omega) ?_
              | refine Br.eqF (by omega) ?_
              | refine Br.neT (by omega) ?_
              | refine Br.neF (by omega) ?_
              | refine Ld.mk' _ rfl ?_
              | refine Need.mk (by first | decide | omega | kernel_rfl) ?_
              | refine Nm.i64 (by omega) ?_
              | refine Nm.u64 (by omega) ?_
              | refine Nm.u8 (by omega) ?_
              | refine x_ret (f := 59) rfl rfl (fun w _ => hw w) ?_)
          | refine Br.non hb ?_
          | (refine x_exq (TTok _ _) ?_; (conv => whnf); fail_if_success (guard_target =ₛ False)))
      all_goals (conv => whnf)
      all_goals rfl
    | none =>
      rw [ht] at hw
      simp only [Option.getD_none] at hw
      have hi := fun w => it_ret kind hk w
      have hz := itS_size kind hk
      have hz4 : (⟨#[84, 89, 80, 69]⟩ : ByteArray).size = 4 := rfl
      generalize itS kind = it at hi hz
      refine Ret.tj (I := fun _ => True) (fun _ _ => trivial) (TTok 0 _) Tryz.func16 (by kernel_rfl) rfl ?_
      repeat' (
        (conv => whnf)
        first
          | (with_reducible first
              | refine TJ.seq ?_
              | refine TJ.region (TTok _ _) ?_
              | refine TJ.drawn (TTok _ _) mixed ?_
              | refine TJ.cond rfl ?_
              | refine TJ.block ?_
              | refine TJ.loop ?_
              | refine LJ.step ?_
              | refine TJ.ret ?_
              | refine TJ.exit ?_
              | refine TJ.skip ?_
              | refine TJ.scope ?_
              | refine TJ.label ?_
              | refine Br.cond_t ?_
              | refine Br.cond_f ?_
              | refine Br.yes (by first | decide | assumption | (apply decide_eq_true; omega)) ?_
              | refine Br.non (by first | decide | assumption | (apply decide_eq_false; omega)) ?_
              | refine Br.cond_ff ?_
              | refine Br.eqT (by omega) ?_
              | refine Br.eqF (by omega) ?_
              | refine Br.neT (by omega) ?_
              | refine Br.neF (by omega) ?_
              | refine Ld.mk' _ rfl ?_
              | refine Need.mk (by first | decide | omega | kernel_rfl) ?_
              | refine Nm.i64 (by omega) ?_
              | refine Nm.u64 (by omega) ?_
              | refine Nm.u8 (by omega) ?_
              | refine x_ret (f := 59) rfl rfl (fun w _ => hw w) ?_
              | refine x_ret (f := 60) rfl rfl (fun w _ => hi w) ?_)
          | refine Br.yes rfl ?_
          | refine Nm.keep ?_
          | (refine x_exq (TTok _ _) ?_; (conv => whnf); fail_if_success (guard_target =ₛ False)))
      all_goals (conv => whnf)
      all_goals rfl
  · rw [if_neg hk]
    rcases (by omega : kind < 0 ∨ (0 ≤ kind ∧ 65535 < kind)) with h | h
    all_goals refine Ret.tj (I := fun _ => True) (fun _ _ => trivial) (TTok 0 _) Tryz.func16 (by kernel_rfl) rfl ?_
    all_goals repeat' (
      (conv => whnf)
      first
        | (with_reducible first
            | refine TJ.seq ?_
            | refine TJ.region (TTok _ _) ?_
            | refine TJ.drawn (TTok _ _) mixed ?_
            | refine TJ.cond rfl ?_
            | refine TJ.block ?_
            | refine TJ.loop ?_
            | refine LJ.step ?_
            | refine TJ.ret ?_
            | refine TJ.exit ?_
            | refine TJ.skip ?_
            | refine TJ.scope ?_
            | refine TJ.label ?_
            | refine Br.cond_t ?_
            | refine Br.cond_f ?_
            | refine Br.yes (by first | decide | assumption | (apply decide_eq_true; omega)) ?_
            | refine Br.non (by first | decide | assumption | (apply decide_eq_false; omega)) ?_
            | refine Br.cond_ff ?_
            | refine Br.eqT (by omega) ?_
            | refine Br.eqF (by omega) ?_
            | refine Br.neT (by omega) ?_
            | refine Br.neF (by omega) ?_
            | refine Ld.mk' _ rfl ?_
            | refine Need.mk (by first | decide | omega | kernel_rfl) ?_
            | refine Nm.i64 (by omega) ?_
            | refine Nm.u64 (by omega) ?_
            | refine Nm.u8 (by omega) ?_)
        | (refine x_exq (TTok _ _) ?_; (conv => whnf); fail_if_success (guard_target =ₛ False)))
    all_goals (conv => whnf)
    all_goals rfl
end Go.Proofs.YtbladfkakmdigaaGreatDoor
set_option maxRecDepth 100000
set_option linter.unusedVariables false
namespace Go.Proofs.YtbladfkakmdigaaGreatDoor
open Go.SX
/-! ### TypeOf, twice -/
def tkT (s : ByteArray) : Option Int :=
  if ⟨#[65]⟩ = s then some 1 else
  if ⟨#[78, 83]⟩ = s then some 2 else
  if ⟨#[67, 78, 65, 77, 69]⟩ = s then some 5 else
  if ⟨#[83, 79, 65]⟩ = s then some 6 else
  if ⟨#[77, 88]⟩ = s then some 15 else
  if ⟨#[84, 88, 84]⟩ = s then some 16 else
  if ⟨#[65, 65, 65, 65]⟩ = s then some 28 else
  if ⟨#[68, 78, 65, 77, 69]⟩ = s then some 39 else
  if ⟨#[79, 80, 84]⟩ = s then some 41 else
  if ⟨#[68, 83]⟩ = s then some 43 else
  if ⟨#[82, 82, 83, 73, 71]⟩ = s then some 46 else
  if ⟨#[78, 83, 69, 67]⟩ = s then some 47 else
  if ⟨#[68, 78, 83, 75, 69, 89]⟩ = s then some 48 else
  if ⟨#[78, 83, 69, 67, 51]⟩ = s then some 50 else
  if ⟨#[65, 78, 89]⟩ = s then some 255 else
  none
theorem tkT_cases (s : ByteArray) : (∃ k, tkT s = some k ∧ tyT k = some s ∧ 0 ≤ k ∧ k < 256) ∨ (tkT s = none ∧ (∀ k, tyT k ≠ some s) ∧ ⟨#[65]⟩ ≠ s ∧ ⟨#[78, 83]⟩ ≠ s ∧ ⟨#[67, 78, 65, 77, 69]⟩ ≠ s ∧ ⟨#[83, 79, 65]⟩ ≠ s ∧ ⟨#[77, 88]⟩ ≠ s ∧ ⟨#[84, 88, 84]⟩ ≠ s ∧ ⟨#[65, 65, 65, 65]⟩ ≠ s ∧ ⟨#[68, 78, 65, 77, 69]⟩ ≠ s ∧ ⟨#[79, 80, 84]⟩ ≠ s ∧ ⟨#[68, 83]⟩ ≠ s ∧ ⟨#[82, 82, 83, 73, 71]⟩ ≠ s ∧ ⟨#[78, 83, 69, 67]⟩ ≠ s ∧ ⟨#[68, 78, 83, 75, 69, 89]⟩ ≠ s ∧ ⟨#[78, 83, 69, 67, 51]⟩ ≠ s ∧ ⟨#[65, 78, 89]⟩ ≠ s) := by
  by_cases h0 : ⟨#[65]⟩ = s
  · subst h0
    exact .inl ⟨1, rfl, rfl, by decide, by decide⟩
  by_cases h1 : ⟨#[78, 83]⟩ = s
  · subst h1
    exact .inl ⟨2, rfl, rfl, by decide, by decide⟩
  by_cases h2 : ⟨#[67, 78, 65, 77, 69]⟩ = s
  · subst h2
    exact .inl ⟨5, rfl, rfl, by decide, by decide⟩
  by_cases h3 : ⟨#[83, 79, 65]⟩ = s
  · subst h3
    exact .inl ⟨6, rfl, rfl, by decide, by decide⟩
  by_cases h4 : ⟨#[77, 88]⟩ = s
  · subst h4
    exact .inl ⟨15, rfl, rfl, by decide, by decide⟩
  by_cases h5 : ⟨#[84, 88, 84]⟩ = s
  · subst h5
    exact .inl ⟨16, rfl, rfl, by decide, by decide⟩
  by_cases h6 : ⟨#[65, 65, 65, 65]⟩ = s
  · subst h6
    exact .inl ⟨28, rfl, rfl, by decide, by decide⟩
  by_cases h7 : ⟨#[68, 78, 65, 77, 69]⟩ = s
  · subst h7
    exact .inl ⟨39, rfl, rfl, by decide, by decide⟩
  by_cases h8 : ⟨#[79, 80, 84]⟩ = s
  · subst h8
    exact .inl ⟨41, rfl, rfl, by decide, by decide⟩
  by_cases h9 : ⟨#[68, 83]⟩ = s
  · subst h9
    exact .inl ⟨43, rfl, rfl, by decide, by decide⟩
  by_cases h10 : ⟨#[82, 82, 83, 73, 71]⟩ = s
  · subst h10
    exact .inl ⟨46, rfl, rfl, by decide, by decide⟩
  by_cases h11 : ⟨#[78, 83, 69, 67]⟩ = s
  · subst h11
    exact .inl ⟨47, rfl, rfl, by decide, by decide⟩
  by_cases h12 : ⟨#[68, 78, 83, 75, 69, 89]⟩ = s
  · subst h12
    exact .inl ⟨48, rfl, rfl, by decide, by decide⟩
  by_cases h13 : ⟨#[78, 83, 69, 67, 51]⟩ = s
  · subst h13
    exact .inl ⟨50, rfl, rfl, by decide, by decide⟩
  by_cases h14 : ⟨#[65, 78, 89]⟩ = s
  · subst h14
    exact .inl ⟨255, rfl, rfl, by decide, by decide⟩
  refine .inr ⟨?_, fun k hk => ?_, h0, h1, h2, h3, h4, h5, h6, h7, h8, h9, h10, h11, h12, h13, h14⟩
  · unfold tkT
    rw [if_neg h0, if_neg h1, if_neg h2, if_neg h3, if_neg h4, if_neg h5, if_neg h6, if_neg h7, if_neg h8, if_neg h9, if_neg h10, if_neg h11, if_neg h12, if_neg h13, if_neg h14]
  · rcases tyT_cases k with ⟨k', s', hm, rfl, hs⟩ | ⟨hs, _⟩
    · rw [hk] at hs
      cases hs
      simp only [List.mem_cons, List.not_mem_nil, or_false, Prod.mk.injEq] at hm
      rcases hm with ⟨_, q⟩ | ⟨_, q⟩ | ⟨_, q⟩ | ⟨_, q⟩ | ⟨_, q⟩ | ⟨_, q⟩ | ⟨_, q⟩ | ⟨_, q⟩ | ⟨_, q⟩ | ⟨_, q⟩ | ⟨_, q⟩ | ⟨_, q⟩ | ⟨_, q⟩ | ⟨_, q⟩ | ⟨_, q⟩
      · exact h0 q.symm
      · exact h1 q.symm
      · exact h2 q.symm
      · exact h3 q.symm
      · exact h4 q.symm
      · exact h5 q.symm
      · exact h6 q.symm
      · exact h7 q.symm
      · exact h8 q.symm
      · exact h9 q.symm
      · exact h10 q.symm
      · exact h11 q.symm
      · exact h12 q.symm
      · exact h13 q.symm
      · exact h14 q.symm
    · rw [hk] at hs
      cases hs
def T4 : ByteArray := ⟨#[84, 89, 80, 69]⟩
theorem T4_size : T4.size = 4 := rfl
/-- The number that a text TYPEn tells. -/
def tnV (s : ByteArray) : Option Int := if 5 ≤ s.size ∧ s.extract 0 4 = T4 ∧ 0 ≤ numV (s.extract 4 s.size) ∧ tyT (numV (s.extract 4 s.size)) = none then some (numV (s.extract 4 s.size)) else none
theorem split4 (s : ByteArray) (h : s.extract 0 4 = T4) : s = T4 ++ s.extract 4 s.size := by
  rw [← h]
  apply ba_ext
  simp only [ByteArray.data_append, ByteArray.data_extract, Array.toList_append, Array.toList_extract, List.extract_eq_take_drop]
  have e : s.size = s.data.toList.length := by rw [Array.length_toList]; rfl
  rw [List.take_of_length_le (l := s.data.toList.drop 4) (by rw [List.length_drop, e]; exact Nat.le_refl _)]
  simp
theorem ext4 (r : ByteArray) : (T4 ++ r).extract 0 4 = T4 ∧ (T4 ++ r).extract 4 (T4 ++ r).size = r := by
  constructor
  · apply ba_ext
    simp [ByteArray.data_extract, ByteArray.data_append, T4]
  · apply ba_ext
    simp only [ByteArray.data_extract, ByteArray.data_append, ByteArray.size_append, T4_size, Array.toList_append, Array.toList_extract, List.extract_eq_take_drop]
    have e : r.size = r.data.toList.length := by rw [Array.length_toList]; rfl
    rw [show (T4.data.toList ++ r.data.toList).drop 4 = r.data.toList from rfl, List.take_of_length_le (by omega)]
theorem tnV_some (s : ByteArray) (n : Int) (h : tnV s = some n) : (0 ≤ n ∧ n < 65536) ∧ tyT n = none ∧ s = T4 ++ itS n := by
  unfold tnV at h
  split at h
  · rename_i hc
    cases h
    obtain ⟨h1, h2, h3, h4⟩ := hc
    have := (numV_iff (s.extract 4 s.size) _ h3).1 rfl
    refine ⟨⟨h3, this.1⟩, h4, ?_⟩
    rw [← this.2]
    exact split4 s h2
  · cases h
theorem tnV_of (n : Int) (h : 0 ≤ n ∧ n < 65536) (ht : tyT n = none) : tnV (T4 ++ itS n) = some n := by
  obtain ⟨e1, e2⟩ := ext4 (itS n)
  have hn := (numV_iff (itS n) n h.1).2 ⟨h.2, rfl⟩
  have hz := itS_size n h
  unfold tnV
  rw [e1, e2, hn, if_pos]
  exact ⟨by rw [ByteArray.size_append, T4_size]; omega, rfl, h.1, ht⟩

end Go.Proofs.YtbladfkakmdigaaGreatDoor
set_option maxRecDepth 100000
set_option linter.unusedVariables false
namespace Go.Proofs.YtbladfkakmdigaaGreatDoor
open Go.SX
def rV (s : ByteArray) : Value := match tkT s with
  | some k => .tuple #[.int .i64 k, .bool true]
  | none => match tnV s with
    | some n => .tuple #[.int .i64 n, .bool true]
    | none => .tuple #[.int .i64 0, .bool false]
set_option maxHeartbeats 4000000 in
theorem rtypeof_word (s : ByteArray) (k0 : Int) (h : tyT k0 = some s) (hk0 : 0 ≤ k0) (hk1 : k0 < 256) (w : World) : Ret Tryz.prog 18 [.string s] w (.tuple #[.int .i64 k0, .bool true]) := by
  have hne := tyT_ne k0 s h
  have huniq : ∀ k, tyT k = some s → k = k0 := by
    intro k hk
    rcases tyT_cases k with ⟨k1, s1, hm1, rfl, hs1⟩ | ⟨hs1, _⟩
    · rcases tyT_cases k0 with ⟨k2, s2, hm2, rfl, hs2⟩ | ⟨hs2, _⟩
      · rw [hk] at hs1
        rw [h] at hs2
        cases hs1
        cases hs2
        clear hk h hne
        simp only [List.mem_cons, List.not_mem_nil, or_false, Prod.mk.injEq] at hm1
        rcases hm1 with ⟨rfl, rfl⟩ | ⟨rfl, rfl⟩ | ⟨rfl, rfl⟩ | ⟨rfl, rfl⟩ | ⟨rfl, rfl⟩ | ⟨rfl, rfl⟩ | ⟨rfl, rfl⟩ | ⟨rfl, rfl⟩ | ⟨rfl, rfl⟩ | ⟨rfl, rfl⟩ | ⟨rfl, rfl⟩ | ⟨rfl, rfl⟩ | ⟨rfl, rfl⟩ | ⟨rfl, rfl⟩ | ⟨rfl, rfl⟩
        all_goals simp at hm2
        all_goals exact hm2.symm
      · rw [h] at hs2
        cases hs2
    · rw [hk] at hs1
      cases hs1
  refine Ret.of (I := fun _ => True) (fun _ _ => trivial) (TTok 0 _) Tryz.func18 (by kernel_rfl) rfl rfl ?_
  repeat' (
    (conv => whnf)
    first
      | (with_reducible first
          | refine TR.seq ?_
          | refine TR.region (TTok _ _) ?_
          | refine TR.drawn (TTok _ _) mixed ?_
          | refine TR.block ?_
          | refine TR.ret ?_
          | refine TR.exit ?_
          | refine TR.skip ?_
          | refine TR.condB rfl ?_
          | refine Br.cond_t ?_
          | refine Br.cond_f ?_
          | refine Br.yes (by first | decide | assumption | (apply decide_eq_true; omega)) ?_
          | refine Br.non (by first | decide | assumption | (apply decide_eq_false; omega)) ?_
          | refine Br.cond_ff ?_
          | refine Br.eqT (by omega) ?_
          | refine Br.eqF (by omega) ?_
          | refine Br.neT (by omega) ?_
          | refine Br.neF (by omega) ?_
          | refine Ld.mk' _ rfl ?_
          | refine Need.mk (by first | decide | omega | kernel_rfl) ?_
          | refine Nm.i64 (by omega) ?_
          | refine Nm.u64 (by omega) ?_
          | refine Nm.u8 (by omega) ?_)
      | (refine x_exq (TTok _ _) ?_; (conv => whnf); fail_if_success (guard_target =ₛ False)))
  refine TR.loopH (fun k : Int => [(4, .v (.int .i64 k))]) (fun _ => []) (fun k => 0 ≤ k ∧ k ≤ k0) (fun k => (256 - k).toNat) 0 ⟨by omega, by omega⟩ ?_ ?_
  · repeat' ((conv => whnf); first | exact trivial | exact Fgt.nil | exact Fgt.mk rfl rfl rfl | refine And.intro rfl ?_ | refine And.intro ?_ ?_)
  · rintro k ⟨k1, k2⟩
    by_cases hk : k = k0
    · subst hk
      have h59 := fun w => word_ret k w
      rw [h] at h59
      simp only [Option.getD_some] at h59
      have hb : decide (s = ⟨#[]⟩) = false := decide_eq_false hne
      have hb2 : (!decide (s = ⟨#[]⟩)) = true := by rw [hb]; rfl
      have hb1 : decide (s = s) = true := by simp
      repeat' (
        (conv => whnf)
        first
          | (with_reducible first
              | refine TR.seq ?_
              | refine TR.region (TTok _ _) ?_
              | refine TR.drawn (TTok _ _) mixed ?_
              | refine TR.block ?_
              | refine TR.ret ?_
              | refine TR.exit ?_
              | refine TR.skip ?_
              | refine TR.condB rfl ?_
              | refine Br.cond_t ?_
              | refine Br.cond_f ?_
              | refine Br.yes (by first | decide | assumption | (apply decide_eq_true; omega)) ?_
              | refine Br.non (by first | decide | assumption | (apply decide_eq_false; omega)) ?_
              | refine Br.cond_ff ?_
              | refine Br.eqT (by omega) ?_
              | refine Br.eqF (by omega) ?_
              | refine Br.neT (by omega) ?_
              | refine Br.neF (by omega) ?_
              | refine Ld.mk' _ rfl ?_
              | refine Need.mk (by first | decide | omega | kernel_rfl) ?_
              | refine Nm.i64 (by omega) ?_
              | refine Nm.u64 (by omega) ?_
              | refine Nm.u8 (by omega) ?_
              | refine x_ret (f := 59) rfl rfl (fun w _ => h59 w) ?_)
          | refine Br.yes hb1 ?_
          | refine Br.yes hb2 ?_
          | refine Br.non hb ?_
          | (refine x_exq (TTok _ _) ?_; (conv => whnf); fail_if_success (guard_target =ₛ False)))
      all_goals (conv => whnf)
      all_goals first | rfl | trace_state
    · have h59 := fun w => word_ret k w
      have hu : (tyT k).getD ⟨#[]⟩ ≠ s := by
        cases ht : tyT k with
        | none => exact fun e => hne e.symm
        | some s' =>
          simp only [Option.getD_some]
          rintro rfl
          exact hk (huniq k ht)
      generalize (tyT k).getD ⟨#[]⟩ = u at h59 hu
      have hb1 : decide (u = s) = false := decide_eq_false hu
      repeat' (
        (conv => whnf)
        first
          | (with_reducible first
              | refine TR.seq ?_
              | refine TR.region (TTok _ _) ?_
              | refine TR.drawn (TTok _ _) mixed ?_
              | refine TR.block ?_
              | refine TR.ret ?_
              | refine TR.exit ?_
              | refine TR.skip ?_
              | refine TR.condB rfl ?_
              | refine Br.cond_t ?_
              | refine Br.cond_f ?_
              | refine Br.yes (by first | decide | assumption | (apply decide_eq_true; omega)) ?_
              | refine Br.non (by first | decide | assumption | (apply decide_eq_false; omega)) ?_
              | refine Br.cond_ff ?_
              | refine Br.eqT (by omega) ?_
              | refine Br.eqF (by omega) ?_
              | refine Br.neT (by omega) ?_
              | refine Br.neF (by omega) ?_
              | refine Ld.mk' _ rfl ?_
              | refine Need.mk (by first | decide | omega | kernel_rfl) ?_
              | refine Nm.i64 (by omega) ?_
              | refine Nm.u64 (by omega) ?_
              | refine Nm.u8 (by omega) ?_
              | refine x_ret (f := 59) rfl rfl (fun w _ => h59 w) ?_)
          | refine Br.non hb1 ?_
          | (refine x_exq (TTok _ _) ?_; (conv => whnf); fail_if_success (guard_target =ₛ False)))
      all_goals (conv => whnf)
      refine ⟨k + 1, ⟨by omega, by omega⟩, by omega, ?_⟩
      repeat' ((conv => whnf); first | exact trivial | exact Fgt.nil | exact Fgt.mk rfl rfl rfl | refine And.intro rfl ?_ | refine And.intro ?_ ?_)
set_option maxHeartbeats 4000000 in
theorem rtypeof_none (s : ByteArray) (hs : s.size ≤ 9223372036854775807) (hw : ∀ k, tyT k ≠ some s) (w : World) : Ret Tryz.prog 18 [.string s] w (match tnV s with
    | some n => .tuple #[.int .i64 n, .bool true]
    | none => .tuple #[.int .i64 0, .bool false]) := by
  refine Ret.of (I := fun _ => True) (fun _ _ => trivial) (TTok 0 _) Tryz.func18 (by kernel_rfl) rfl rfl ?_
  repeat' (
    (conv => whnf)
    first
      | (with_reducible first
          | refine TR.seq ?_
          | refine TR.region (TTok _ _) ?_
          | refine TR.drawn (TTok _ _) mixed ?_
          | refine TR.block ?_
          | refine TR.ret ?_
          | refine TR.exit ?_
          | refine TR.skip ?_
          | refine TR.condB rfl ?_
          | refine Br.cond_t ?_
          | refine Br.cond_f ?_
          | refine Br.yes (by first | decide | assumption | (apply decide_eq_true; omega)) ?_
          | refine Br.non (by first | decide | assumption | (apply decide_eq_false; omega)) ?_
          | refine Br.cond_ff ?_
          | refine Br.eqT (by omega) ?_
          | refine Br.eqF (by omega) ?_
          | refine Br.neT (by omega) ?_
          | refine Br.neF (by omega) ?_
          | refine Ld.mk' _ rfl ?_
          | refine Need.mk (by first | decide | omega | kernel_rfl) ?_
          | refine Nm.i64 (by omega) ?_
          | refine Nm.u64 (by omega) ?_
          | refine Nm.u8 (by omega) ?_)
      | (refine x_exq (TTok _ _) ?_; (conv => whnf); fail_if_success (guard_target =ₛ False)))
  refine TR.loopH (fun k : Int => [(4, .v (.int .i64 k))]) (fun _ => []) (fun k => 0 ≤ k ∧ k ≤ 256) (fun k => (256 - k).toNat) 0 ⟨by omega, by omega⟩ ?_ ?_
  · repeat' ((conv => whnf); first | exact trivial | exact Fgt.nil | exact Fgt.mk rfl rfl rfl | refine And.intro rfl ?_ | refine And.intro ?_ ?_)
  · rintro k ⟨k1, k2⟩
    by_cases hk : k < 256
    · have h59 := fun w => word_ret k w
      by_cases hu : (tyT k).getD ⟨#[]⟩ = s
      · have hse : s = ⟨#[]⟩ := by
          cases ht : tyT k with
          | none => rw [ht] at hu; exact hu.symm
          | some s' =>
            rw [ht] at hu
            simp only [Option.getD_some] at hu
            exact absurd (by rw [ht, hu]) (hw k)
        rw [hu] at h59
        have hb1 : decide (s = s) = true := by simp
        have hb2 : (!decide (s = ⟨#[]⟩)) = false := by rw [decide_eq_true hse]; rfl
        repeat' (
          (conv => whnf)
          first
            | (with_reducible first
                | refine TR.seq ?_
                | refine TR.region (TTok _ _) ?_
                | refine TR.drawn (TTok _ _) mixed ?_
                | refine TR.block ?_
                | refine TR.ret ?_
                | refine TR.exit ?_
                | refine TR.skip ?_
                | refine TR.condB rfl ?_
                | refine Br.cond_t ?_
                | refine Br.cond_f ?_
                | refine Br.yes (by first | decide | assumption | (apply decide_eq_true; omega)) ?_
                | refine Br.non (by first | decide | assumption | (apply decide_eq_false; omega)) ?_
                | refine Br.cond_ff ?_
                | refine Br.eqT (by omega) ?_
                | refine Br.eqF (by omega) ?_
                | refine Br.neT (by omega) ?_
                | refine Br.neF (by omega) ?_
                | refine Ld.mk' _ rfl ?_
                | refine Need.mk (by first | decide | omega | kernel_rfl) ?_
                | refine Nm.i64 (by omega) ?_
                | refine Nm.u64 (by omega) ?_
                | refine Nm.u8 (by omega) ?_
                | refine x_ret (f := 59) rfl rfl (fun w _ => h59 w) ?_)
            | refine Br.yes hb1 ?_
            | refine Br.non hb2 ?_
            | (refine x_exq (TTok _ _) ?_; (conv => whnf); fail_if_success (guard_target =ₛ False)))
        all_goals (conv => whnf)
        refine ⟨k + 1, ⟨by omega, by omega⟩, by omega, ?_⟩
        repeat' ((conv => whnf); first | exact trivial | exact Fgt.nil | exact Fgt.mk rfl rfl rfl | refine And.intro rfl ?_ | refine And.intro ?_ ?_)
      · generalize (tyT k).getD ⟨#[]⟩ = u at h59 hu
        have hb1 : decide (u = s) = false := decide_eq_false hu
        repeat' (
          (conv => whnf)
          first
            | (with_reducible first
                | refine TR.seq ?_
                | refine TR.region (TTok _ _) ?_
                | refine TR.drawn (TTok _ _) mixed ?_
                | refine TR.block ?_
                | refine TR.ret ?_
                | refine TR.exit ?_
                | refine TR.skip ?_
                | refine TR.condB rfl ?_
                | refine Br.cond_t ?_
                | refine Br.cond_f ?_
                | refine Br.yes (by first | decide | assumption | (apply decide_eq_true; omega)) ?_
                | refine Br.non (by first | decide | assumption | (apply decide_eq_false; omega)) ?_
                | refine Br.cond_ff ?_
                | refine Br.eqT (by omega) ?_
                | refine Br.eqF (by omega) ?_
                | refine Br.neT (by omega) ?_
                | refine Br.neF (by omega) ?_
                | refine Ld.mk' _ rfl ?_
                | refine Need.mk (by first | decide | omega | kernel_rfl) ?_
                | refine Nm.i64 (by omega) ?_
                | refine Nm.u64 (by omega) ?_
                | refine Nm.u8 (by omega) ?_
                | refine x_ret (f := 59) rfl rfl (fun w _ => h59 w) ?_)
            | refine Br.non hb1 ?_
            | (refine x_exq (TTok _ _) ?_; (conv => whnf); fail_if_success (guard_target =ₛ False)))
        all_goals (conv => whnf)
        refine ⟨k + 1, ⟨by omega, by omega⟩, by omega, ?_⟩
        repeat' ((conv => whnf); first | exact trivial | exact Fgt.nil | exact Fgt.mk rfl rfl rfl | refine And.intro rfl ?_ | refine And.intro ?_ ?_)
    · skip
      by_cases c1 : s.size < 5
      · have ht : tnV s = none := by
          unfold tnV
          rw [if_neg (by omega)]
        rw [ht]
        repeat' (
          (conv => whnf)
          first
            | (with_reducible first
                | refine TR.seq ?_
                | refine TR.region (TTok _ _) ?_
                | refine TR.drawn (TTok _ _) mixed ?_
                | refine TR.block ?_
                | refine TR.ret ?_
                | refine TR.exit ?_
                | refine TR.skip ?_
                | refine TR.condB rfl ?_
                | refine Br.cond_t ?_
                | refine Br.cond_f ?_
                | refine Br.yes (by first | decide | assumption | (apply decide_eq_true; omega)) ?_
                | refine Br.non (by first | decide | assumption | (apply decide_eq_false; omega)) ?_
                | refine Br.cond_ff ?_
                | refine Br.eqT (by omega) ?_
                | refine Br.eqF (by omega) ?_
                | refine Br.neT (by omega) ?_
                | refine Br.neF (by omega) ?_
                | refine Ld.mk' _ rfl ?_
                | refine Need.mk (by first | decide | omega | kernel_rfl) ?_
                | refine Nm.i64 (by omega) ?_
                | refine Nm.u64 (by omega) ?_
                | refine Nm.u8 (by omega) ?_)
            | (refine x_exq (TTok _ _) ?_; (conv => whnf); fail_if_success (guard_target =ₛ False)))
        all_goals (conv => whnf)
        all_goals rfl
      · by_cases c2 : s.extract 0 4 = T4
        · have hN : ∃ r, s.extract 4 s.size = r := ⟨_, rfl⟩
          obtain ⟨r, hr⟩ := hN
          have hrz : r.size ≤ 9223372036854775803 := by
            rw [← hr, ByteArray.size_extract]
            omega
          have h63 := fun w => number_ret r hrz w
          have hT : tnV s = if 0 ≤ numV r ∧ tyT (numV r) = none then some (numV r) else none := by
            unfold tnV
            rw [hr]
            by_cases q : 0 ≤ numV r ∧ tyT (numV r) = none
            · rw [if_pos q, if_pos ⟨by omega, c2, q⟩]
            · rw [if_neg q, if_neg fun e => q e.2.2]
          have hb1 : (!decide (T4 = ⟨#[84, 89, 80, 69]⟩)) = false := by decide
          have hN1 : numV r = -1 ∨ 0 ≤ numV r := numV_ge r
          have hN2 : numV r < 65536 := by
            rcases hN1 with e | e
            · omega
            · exact ((numV_iff r _ e).1 rfl).1
          rw [hT]
          generalize numV r = n at h63 hN1 hN2
          have h59 := fun w => word_ret n w
          by_cases q0 : 0 ≤ n
          · by_cases q1 : tyT n = none
            · rw [if_pos ⟨q0, q1⟩]
              rw [q1] at h59
              simp only [Option.getD_none] at h59
              repeat' (
                (conv => whnf)
                first
                  | (with_reducible first
                      | refine TR.seq ?_
                      | refine TR.region (TTok _ _) ?_
                      | refine TR.drawn (TTok _ _) mixed ?_
                      | refine TR.block ?_
                      | refine TR.ret ?_
                      | refine TR.exit ?_
                      | refine TR.skip ?_
                      | refine TR.condB rfl ?_
                      | refine Br.cond_t ?_
                      | refine Br.cond_f ?_
                      | refine Br.yes (by first | decide | assumption | (apply decide_eq_true; omega)) ?_
                      | refine Br.non (by first | decide | assumption | (apply decide_eq_false; omega)) ?_
                      | refine Br.cond_ff ?_
                      | refine Br.eqT (by omega) ?_
                      | refine Br.eqF (by omega) ?_
                      | refine Br.neT (by omega) ?_
                      | refine Br.neF (by omega) ?_
                      | refine Ld.mk' _ rfl ?_
                      | refine Need.mk (by first | decide | omega | kernel_rfl) ?_
                      | refine Nm.i64 (by omega) ?_
                      | refine Nm.u64 (by omega) ?_
                      | refine Nm.u8 (by omega) ?_
                      | refine x_ret (f := 63) rfl rfl (fun w _ => h63 w) ?_
                      | refine x_ret (f := 59) rfl rfl (fun w _ => h59 w) ?_)
                  | refine Nm.mk' _ c2 ?_
                  | refine Nm.mk' _ hr ?_
                  | refine Br.non hb1 ?_
                  | refine Br.yes rfl ?_
                  | refine Br.non rfl ?_
                  | (refine x_exq (TTok _ _) ?_; (conv => whnf); fail_if_success (guard_target =ₛ False)))
              all_goals (conv => whnf)
              all_goals rfl
            · rw [if_neg fun e => q1 e.2]
              obtain ⟨u, hu⟩ := Option.ne_none_iff_exists'.1 q1
              have hne := tyT_ne n u hu
              rw [hu] at h59
              simp only [Option.getD_some] at h59
              have hb2 : (!decide (u = ⟨#[]⟩)) = true := by rw [decide_eq_false hne]; rfl
              repeat' (
                (conv => whnf)
                first
                  | (with_reducible first
                      | refine TR.seq ?_
                      | refine TR.region (TTok _ _) ?_
                      | refine TR.drawn (TTok _ _) mixed ?_
                      | refine TR.block ?_
                      | refine TR.ret ?_
                      | refine TR.exit ?_
                      | refine TR.skip ?_
                      | refine TR.condB rfl ?_
                      | refine Br.cond_t ?_
                      | refine Br.cond_f ?_
                      | refine Br.yes (by first | decide | assumption | (apply decide_eq_true; omega)) ?_
                      | refine Br.non (by first | decide | assumption | (apply decide_eq_false; omega)) ?_
                      | refine Br.cond_ff ?_
                      | refine Br.eqT (by omega) ?_
                      | refine Br.eqF (by omega) ?_
                      | refine Br.neT (by omega) ?_
                      | refine Br.neF (by omega) ?_
                      | refine Ld.mk' _ rfl ?_
                      | refine Need.mk (by first | decide | omega | kernel_rfl) ?_
                      | refine Nm.i64 (by omega) ?_
                      | refine Nm.u64 (by omega) ?_
                      | refine Nm.u8 (by omega) ?_
                      | refine x_ret (f := 63) rfl rfl (fun w _ => h63 w) ?_
                      | refine x_ret (f := 59) rfl rfl (fun w _ => h59 w) ?_)
                  | refine Nm.mk' _ c2 ?_
                  | refine Nm.mk' _ hr ?_
                  | refine Br.non hb1 ?_
                  | refine Br.yes hb2 ?_
                  | (refine x_exq (TTok _ _) ?_; (conv => whnf); fail_if_success (guard_target =ₛ False)))
              all_goals (conv => whnf)
              all_goals rfl
          · rw [if_neg fun e => q0 e.1]
            repeat' (
              (conv => whnf)
              first
                | (with_reducible first
                    | refine TR.seq ?_
                    | refine TR.region (TTok _ _) ?_
                    | refine TR.drawn (TTok _ _) mixed ?_
                    | refine TR.block ?_
                    | refine TR.ret ?_
                    | refine TR.exit ?_
                    | refine TR.skip ?_
                    | refine TR.condB rfl ?_
                    | refine Br.cond_t ?_
                    | refine Br.cond_f ?_
                    | refine Br.yes (by first | decide | assumption | (apply decide_eq_true; omega)) ?_
                    | refine Br.non (by first | decide | assumption | (apply decide_eq_false; omega)) ?_
                    | refine Br.cond_ff ?_
                    | refine Br.eqT (by omega) ?_
                    | refine Br.eqF (by omega) ?_
                    | refine Br.neT (by omega) ?_
                    | refine Br.neF (by omega) ?_
                    | refine Ld.mk' _ rfl ?_
                    | refine Need.mk (by first | decide | omega | kernel_rfl) ?_
                    | refine Nm.i64 (by omega) ?_
                    | refine Nm.u64 (by omega) ?_
                    | refine Nm.u8 (by omega) ?_
                    | refine x_ret (f := 63) rfl rfl (fun w _ => h63 w) ?_
                    | refine x_ret (f := 59) rfl rfl (fun w _ => h59 w) ?_)
                | refine Nm.mk' _ c2 ?_
                | refine Nm.mk' _ hr ?_
                | refine Br.non hb1 ?_
                | refine Br.yes rfl ?_
                | refine Br.non rfl ?_
                | (refine x_exq (TTok _ _) ?_; (conv => whnf); fail_if_success (guard_target =ₛ False)))
            all_goals (conv => whnf)
            all_goals rfl
        · have ht : tnV s = none := by
            unfold tnV
            rw [if_neg fun e => c2 e.2.1]
          have hb1 : (!decide (s.extract 0 4 = ⟨#[84, 89, 80, 69]⟩)) = true := by
            show (!decide (s.extract 0 4 = T4)) = true
            rw [decide_eq_false c2]
            rfl
          rw [ht]
          repeat' (
            (conv => whnf)
            first
              | (with_reducible first
                  | refine TR.seq ?_
                  | refine TR.region (TTok _ _) ?_
                  | refine TR.drawn (TTok _ _) mixed ?_
                  | refine TR.block ?_
                  | refine TR.ret ?_
                  | refine TR.exit ?_
                  | refine TR.skip ?_
                  | refine TR.condB rfl ?_
                  | refine Br.cond_t ?_
                  | refine Br.cond_f ?_
                  | refine Br.yes (by first | decide | assumption | (apply decide_eq_true; omega)) ?_
                  | refine Br.non (by first | decide | assumption | (apply decide_eq_false; omega)) ?_
                  | refine Br.cond_ff ?_
                  | refine Br.eqT (by omega) ?_
                  | refine Br.eqF (by omega) ?_
                  | refine Br.neT (by omega) ?_
                  | refine Br.neF (by omega) ?_
                  | refine Ld.mk' _ rfl ?_
                  | refine Need.mk (by first | decide | omega | kernel_rfl) ?_
                  | refine Nm.i64 (by omega) ?_
                  | refine Nm.u64 (by omega) ?_
                  | refine Nm.u8 (by omega) ?_)
              | refine Nm.keep ?_
              | refine Br.yes hb1 ?_
              | (refine x_exq (TTok _ _) ?_; (conv => whnf); fail_if_success (guard_target =ₛ False)))
          all_goals (conv => whnf)
          all_goals rfl
theorem rtypeof_ret (s : ByteArray) (hs : s.size ≤ 9223372036854775807) (w : World) : Ret Tryz.prog 18 [.string s] w (rV s) := by
  unfold rV
  rcases tkT_cases s with ⟨k, h1, h2, h3, h4⟩ | ⟨h1, h2, _⟩
  · rw [h1]
    exact rtypeof_word s k h2 h3 h4 w
  · rw [h1]
    exact rtypeof_none s hs h2 w
end Go.Proofs.YtbladfkakmdigaaGreatDoor
set_option maxRecDepth 100000
set_option linter.unusedVariables false
namespace Go.Proofs.YtbladfkakmdigaaGreatDoor
open Go.SX
def dV (s : ByteArray) : Value := match tkT s with
  | some k => .tuple #[.int .i64 k, .int .i64 0]
  | none => match tnV s with
    | some n => .tuple #[.int .i64 n, .int .i64 0]
    | none => .tuple #[.int .i64 0, .int .i64 7]
theorem mod_bytesWorld (w : World) (e : TypeId) (u : ByteArray) (O : Nat → Prop) : Mod w (Lib.bytesWorld w e u) O :=
  ⟨rfl, rfl, rfl, by rw [Lib.bytesWorld_size]; omega, fun b hb _ => Lib.bytesWorld_at_old w e u b hb⟩
theorem atoi_ret (s : ByteArray) (n : Int) (hl : s.size ≤ 18) (h : Lib.atoi s.data.toList = some n) (w : World) : Ret Tryz.prog 62 [.string s] w (.tuple #[.int .i64 n, .nilIface]) :=
  ⟨⟨_, Tryz.func62, by kernel_rfl, by kernel_rfl⟩, (Tryz.strconv_Atoi s n hl h w).mono fun e w' ⟨h1, t, h2⟩ => ⟨h1, by subst h2; exact mod_bytesWorld _ _ _ _⟩⟩
theorem atoi_err {u2 v2 u3 v3} (s : ByteArray) (hl : s.size ≤ 18) (h : Lib.atoi s.data.toList = none) (w : World) (hI : IC u2 v2 u3 v3 w) : RetA Tryz.prog 62 [.string s] w (.tup [.dead, .ifc 212 .dead]) :=
  ⟨⟨_, Tryz.func62, by kernel_rfl, by kernel_rfl⟩, (Tryz.strconv_Atoi_err s hl h _ w hI.e.1 (.inr ⟨_, _, rfl⟩)).mono fun e w' ⟨N, h1, _, _, h4⟩ => ⟨_, h1, fun vs ez ρ => by simp [rel, relL], Mod.of_below h4 _⟩⟩
theorem cut_ret (s : ByteArray) (w : World) : Ret Tryz.prog 61 [.string s, .string T4] w (if s.extract 0 4 = T4 then .tuple #[.string (s.extract 4 s.size), .bool true] else .tuple #[.string s, .bool false]) := by
  have h := Ret.shelf0 Tryz.func61 (by kernel_rfl) (by kernel_rfl) (Tryz.strings_CutPrefix s T4 w)
  have hp : Lib.hasPrefix s.data.toList T4.data.toList = decide (s.extract 0 4 = T4) := by
    by_cases hc : s.extract 0 4 = T4
    · rw [decide_eq_true hc]
      unfold Lib.hasPrefix
      rw [List.isPrefixOf_iff_prefix]
      have := split4 s hc
      exact ⟨(s.extract 4 s.size).data.toList, by conv => rhs; rw [this, ByteArray.data_append, Array.toList_append]⟩
    · rw [decide_eq_false hc]
      unfold Lib.hasPrefix
      rw [← Bool.not_eq_true, List.isPrefixOf_iff_prefix]
      rintro ⟨r, hr⟩
      refine hc ?_
      have : s = T4 ++ ⟨⟨r⟩⟩ := ba_ext (by rw [ByteArray.data_append, Array.toList_append]; exact hr.symm)
      rw [this]
      exact (ext4 _).1
  rw [hp] at h
  by_cases hc : s.extract 0 4 = T4
  · rw [if_pos hc]
    have e : (⟨(Lib.trimPrefix s.data.toList T4.data.toList).toArray⟩ : ByteArray) = s.extract 4 s.size := by
      unfold Lib.trimPrefix
      rw [hp, decide_eq_true hc, if_pos rfl]
      apply ba_ext
      conv => lhs; rw [split4 s hc]
      rw [ByteArray.data_append, Array.toList_append]
      rfl
    rw [e, decide_eq_true hc] at h
    exact h
  · rw [if_neg hc]
    have e : (⟨(Lib.trimPrefix s.data.toList T4.data.toList).toArray⟩ : ByteArray) = s := by
      unfold Lib.trimPrefix
      rw [hp, decide_eq_false hc]
      rfl
    rw [e, decide_eq_false hc] at h
    exact h
set_option maxHeartbeats 8000000 in
theorem dtypeof_word {u2 v2 u3 v3} (s : ByteArray) (k : Int) (h : tyT k = some s) (w : World) (hI : IC u2 v2 u3 v3 w) : Ret Tryz.prog 17 [.string s] w (.tuple #[.int .i64 k, .int .i64 0]) := by
  rcases tyT_cases k with ⟨k1, s1, hm, rfl, hs1⟩ | ⟨hs1, _⟩
  · rw [h] at hs1
    cases hs1
    clear h
    simp only [List.mem_cons, List.not_mem_nil, or_false, Prod.mk.injEq] at hm
    rcases hm with ⟨rfl, rfl⟩ | ⟨rfl, rfl⟩ | ⟨rfl, rfl⟩ | ⟨rfl, rfl⟩ | ⟨rfl, rfl⟩ | ⟨rfl, rfl⟩ | ⟨rfl, rfl⟩ | ⟨rfl, rfl⟩ | ⟨rfl, rfl⟩ | ⟨rfl, rfl⟩ | ⟨rfl, rfl⟩ | ⟨rfl, rfl⟩ | ⟨rfl, rfl⟩ | ⟨rfl, rfl⟩ | ⟨rfl, rfl⟩
    all_goals refine Ret.tj (I := IC u2 v2 u3 v3) (fun w' hm => hI.mod hm) (TTok 0 _) Tryz.func17 (by kernel_rfl) rfl ?_
    all_goals repeat' (
      (conv => whnf)
      first
        | (with_reducible first
            | refine TJ.seq ?_
            | refine TJ.region (TTok _ _) ?_
            | refine TJ.drawn (TTok _ _) mixed ?_
            | refine TJ.cond rfl ?_
            | refine TJ.block ?_
            | refine TJ.loop ?_
            | refine LJ.step ?_
            | refine TJ.ret ?_
            | refine TJ.exit ?_
            | refine TJ.skip ?_
            | refine TJ.scope ?_
            | refine TJ.label ?_
            | refine Br.cond_t ?_
            | refine Br.cond_f ?_
            | refine Br.yes (by first | decide | assumption | (apply decide_eq_true; omega)) ?_
            | refine Br.non (by first | decide | assumption | (apply decide_eq_false; omega)) ?_
            | refine Br.cond_ff ?_
            | refine Br.eqT (by omega) ?_
            | refine Br.eqF (by omega) ?_
            | refine Br.neT (by omega) ?_
            | refine Br.neF (by omega) ?_
            | refine Ld.mk' _ rfl ?_
            | refine Need.mk (by first | decide | omega | kernel_rfl) ?_
            | refine Nm.i64 (by omega) ?_
            | refine Nm.u64 (by omega) ?_
            | refine Nm.u8 (by omega) ?_)
        | refine Br.yes rfl ?_
        | refine Br.non rfl ?_
        | refine x_call (f := 57) (TTok _ _) rfl rfl Tryz.func57 (by kernel_rfl) rfl ?_
        | (refine x_exq (TTok _ _) ?_; (conv => whnf); fail_if_success (guard_target =ₛ False)))
    all_goals (conv => whnf)
    all_goals rfl
  · rw [h] at hs1
    cases hs1
end Go.Proofs.YtbladfkakmdigaaGreatDoor
set_option maxRecDepth 100000
set_option linter.unusedVariables false
namespace Go.Proofs.YtbladfkakmdigaaGreatDoor
open Go.SX
set_option maxHeartbeats 8000000 in
theorem dtypeof_none {u2 v2 u3 v3} (s : ByteArray) (hs : s.size ≤ 9223372036854775807) (hw : ∀ k, tyT k ≠ some s) (hx : ⟨#[65]⟩ ≠ s ∧ ⟨#[78, 83]⟩ ≠ s ∧ ⟨#[67, 78, 65, 77, 69]⟩ ≠ s ∧ ⟨#[83, 79, 65]⟩ ≠ s ∧ ⟨#[77, 88]⟩ ≠ s ∧ ⟨#[84, 88, 84]⟩ ≠ s ∧ ⟨#[65, 65, 65, 65]⟩ ≠ s ∧ ⟨#[68, 78, 65, 77, 69]⟩ ≠ s ∧ ⟨#[79, 80, 84]⟩ ≠ s ∧ ⟨#[68, 83]⟩ ≠ s ∧ ⟨#[82, 82, 83, 73, 71]⟩ ≠ s ∧ ⟨#[78, 83, 69, 67]⟩ ≠ s ∧ ⟨#[68, 78, 83, 75, 69, 89]⟩ ≠ s ∧ ⟨#[78, 83, 69, 67, 51]⟩ ≠ s ∧ ⟨#[65, 78, 89]⟩ ≠ s) (w : World) (hI : IC u2 v2 u3 v3 w) : Ret Tryz.prog 17 [.string s] w (match tnV s with
    | some n => .tuple #[.int .i64 n, .int .i64 0]
    | none => .tuple #[.int .i64 0, .int .i64 7]) := by
  obtain ⟨x0, x1, x2, x3, x4, x5, x6, x7, x8, x9, x10, x11, x12, x13, x14⟩ := hx
  have y0 := decide_eq_false x0
  have y1 := decide_eq_false x1
  have y2 := decide_eq_false x2
  have y3 := decide_eq_false x3
  have y4 := decide_eq_false x4
  have y5 := decide_eq_false x5
  have y6 := decide_eq_false x6
  have y7 := decide_eq_false x7
  have y8 := decide_eq_false x8
  have y9 := decide_eq_false x9
  have y10 := decide_eq_false x10
  have y11 := decide_eq_false x11
  have y12 := decide_eq_false x12
  have y13 := decide_eq_false x13
  have y14 := decide_eq_false x14
  have h61 := fun w => cut_ret s w
  by_cases c2 : s.extract 0 4 = T4
  · simp only [if_pos c2] at h61
    obtain ⟨r, hr⟩ : ∃ r, s.extract 4 s.size = r := ⟨_, rfl⟩
    rw [hr] at h61
    have hse : s = T4 ++ r := by rw [← hr]; exact split4 s c2
    by_cases c3 : r.size < 6
    · have hsz : r.size ≤ 18 := by omega
      cases ha : Lib.atoi r.data.toList with
      | some v =>
        have h62 := fun w => atoi_ret r v hsz ha w
        have h15 := fun w (hw : IC u2 v2 u3 v3 w) => ttext_ret v w hw
        unfold ttV at h15
        by_cases hv : 0 ≤ v ∧ v < 65536
        · rw [if_pos hv] at h15
          by_cases ht : tyT v = none
          · rw [ht] at h15
            simp only at h15
            by_cases he : T4 ++ itS v = s
            · have hn : tnV s = some v := by rw [← he]; exact tnV_of v hv ht
              rw [hn]
              simp only
              have h15' : ∀ w, IC u2 v2 u3 v3 w → Ret Tryz.prog 15 [.int .i64 v] w (.tuple #[.string s, .int .i64 0]) := by
                rw [← he]
                exact h15
              have hb1 : decide (s = s) = true := by simp
              refine Ret.tj (I := IC u2 v2 u3 v3) (fun w' hm => hI.mod hm) (TTok 0 _) Tryz.func17 (by kernel_rfl) rfl ?_
              repeat' (
                (conv => whnf)
                first
                  | (with_reducible first
                      | refine TJ.seq ?_
                      | refine TJ.region (TTok _ _) ?_
                      | refine TJ.drawn (TTok _ _) mixed ?_
                      | refine TJ.cond rfl ?_
                      | refine TJ.block ?_
                      | refine TJ.loop ?_
                      | refine LJ.step ?_
                      | refine TJ.ret ?_
                      | refine TJ.exit ?_
                      | refine TJ.skip ?_
                      | refine TJ.scope ?_
                      | refine TJ.label ?_
                      | refine Br.cond_t ?_
                      | refine Br.cond_f ?_
                      | refine Br.yes (by first | decide | assumption | (apply decide_eq_true; omega)) ?_
                      | refine Br.non (by first | decide | assumption | (apply decide_eq_false; omega)) ?_
                      | refine Br.cond_ff ?_
                      | refine Br.eqT (by omega) ?_
                      | refine Br.eqF (by omega) ?_
                      | refine Br.neT (by omega) ?_
                      | refine Br.neF (by omega) ?_
                      | refine Ld.mk' _ rfl ?_
                      | refine Need.mk (by first | decide | omega | kernel_rfl) ?_
                      | refine Nm.i64 (by omega) ?_
                      | refine Nm.u64 (by omega) ?_
                      | refine Nm.u8 (by omega) ?_
                      | refine x_ret (f := 61) rfl rfl (fun w _ => h61 w) ?_
                      | refine x_ret (f := 62) rfl rfl (fun w _ => h62 w) ?_
                      | refine x_ret (f := 15) rfl rfl (fun w hw => h15' w hw) ?_)
                  | refine Br.yes hb1 ?_
                  | refine Br.non y0 ?_
                  | refine Br.non y1 ?_
                  | refine Br.non y2 ?_
                  | refine Br.non y3 ?_
                  | refine Br.non y4 ?_
                  | refine Br.non y5 ?_
                  | refine Br.non y6 ?_
                  | refine Br.non y7 ?_
                  | refine Br.non y8 ?_
                  | refine Br.non y9 ?_
                  | refine Br.non y10 ?_
                  | refine Br.non y11 ?_
                  | refine Br.non y12 ?_
                  | refine Br.non y13 ?_
                  | refine Br.non y14 ?_
                  | refine Br.yes rfl ?_
                  | refine Br.non rfl ?_
                  | refine x_call (f := 57) (TTok _ _) rfl rfl Tryz.func57 (by kernel_rfl) rfl ?_
                  | (refine x_exq (TTok _ _) ?_; (conv => whnf); fail_if_success (guard_target =ₛ False)))
              all_goals (conv => whnf)
              all_goals rfl
            · have hn : tnV s = none := by
                cases hq : tnV s with
                | none => rfl
                | some n =>
                  obtain ⟨n1, n2, n3⟩ := tnV_some s n hq
                  exfalso
                  refine he ?_
                  have e : itS n = r := by
                    rw [← hr, n3]
                    exact (ext4 _).2.symm
                  have e2 := atoi_it n n1
                  rw [e, Lib.atoiAll_short _ (by rw [Array.length_toList]; exact hsz), ha] at e2
                  cases e2
                  exact n3.symm
              rw [hn]
              simp only
              generalize hu : (⟨#[84, 89, 80, 69]⟩ : ByteArray) ++ itS v = u at h15
              have hb1 : decide (u = s) = false := decide_eq_false (by rw [← hu]; exact he)
              refine Ret.tj (I := IC u2 v2 u3 v3) (fun w' hm => hI.mod hm) (TTok 0 _) Tryz.func17 (by kernel_rfl) rfl ?_
              repeat' (
                (conv => whnf)
                first
                  | (with_reducible first
                      | refine TJ.seq ?_
                      | refine TJ.region (TTok _ _) ?_
                      | refine TJ.drawn (TTok _ _) mixed ?_
                      | refine TJ.cond rfl ?_
                      | refine TJ.block ?_
                      | refine TJ.loop ?_
                      | refine LJ.step ?_
                      | refine TJ.ret ?_
                      | refine TJ.exit ?_
                      | refine TJ.skip ?_
                      | refine TJ.scope ?_
                      | refine TJ.label ?_
                      | refine Br.cond_t ?_
                      | refine Br.cond_f ?_
                      | refine Br.yes (by first | decide | assumption | (apply decide_eq_true; omega)) ?_
                      | refine Br.non (by first | decide | assumption | (apply decide_eq_false; omega)) ?_
                      | refine Br.cond_ff ?_
                      | refine Br.eqT (by omega) ?_
                      | refine Br.eqF (by omega) ?_
                      | refine Br.neT (by omega) ?_
                      | refine Br.neF (by omega) ?_
                      | refine Ld.mk' _ rfl ?_
                      | refine Need.mk (by first | decide | omega | kernel_rfl) ?_
                      | refine Nm.i64 (by omega) ?_
                      | refine Nm.u64 (by omega) ?_
                      | refine Nm.u8 (by omega) ?_
                      | refine x_ret (f := 61) rfl rfl (fun w _ => h61 w) ?_
                      | refine x_ret (f := 62) rfl rfl (fun w _ => h62 w) ?_
                      | refine x_ret (f := 15) rfl rfl (fun w hw => h15 w hw) ?_)
                  | refine Br.non hb1 ?_
                  | refine Br.non y0 ?_
                  | refine Br.non y1 ?_
                  | refine Br.non y2 ?_
                  | refine Br.non y3 ?_
                  | refine Br.non y4 ?_
                  | refine Br.non y5 ?_
                  | refine Br.non y6 ?_
                  | refine Br.non y7 ?_
                  | refine Br.non y8 ?_
                  | refine Br.non y9 ?_
                  | refine Br.non y10 ?_
                  | refine Br.non y11 ?_
                  | refine Br.non y12 ?_
                  | refine Br.non y13 ?_
                  | refine Br.non y14 ?_
                  | refine Br.yes rfl ?_
                  | refine Br.non rfl ?_
                  | refine x_call (f := 57) (TTok _ _) rfl rfl Tryz.func57 (by kernel_rfl) rfl ?_
                  | (refine x_exq (TTok _ _) ?_; (conv => whnf); fail_if_success (guard_target =ₛ False)))
              all_goals (conv => whnf)
              all_goals rfl
          · obtain ⟨u, hu⟩ := Option.ne_none_iff_exists'.1 ht
            rw [hu] at h15
            simp only at h15
            have hb1 : decide (u = s) = false := decide_eq_false (by rintro rfl; exact hw v hu)
            have hn : tnV s = none := by
              cases hq : tnV s with
              | none => rfl
              | some n =>
                obtain ⟨n1, n2, n3⟩ := tnV_some s n hq
                exfalso
                have e : itS n = r := by
                  rw [← hr, n3]
                  exact (ext4 _).2.symm
                have e2 := atoi_it n n1
                rw [e, Lib.atoiAll_short _ (by rw [Array.length_toList]; exact hsz), ha] at e2
                cases e2
                exact ht n2
            rw [hn]
            simp only
            refine Ret.tj (I := IC u2 v2 u3 v3) (fun w' hm => hI.mod hm) (TTok 0 _) Tryz.func17 (by kernel_rfl) rfl ?_
            repeat' (
              (conv => whnf)
              first
                | (with_reducible first
                    | refine TJ.seq ?_
                    | refine TJ.region (TTok _ _) ?_
                    | refine TJ.drawn (TTok _ _) mixed ?_
                    | refine TJ.cond rfl ?_
                    | refine TJ.block ?_
                    | refine TJ.loop ?_
                    | refine LJ.step ?_
                    | refine TJ.ret ?_
                    | refine TJ.exit ?_
                    | refine TJ.skip ?_
                    | refine TJ.scope ?_
                    | refine TJ.label ?_
                    | refine Br.cond_t ?_
                    | refine Br.cond_f ?_
                    | refine Br.yes (by first | decide | assumption | (apply decide_eq_true; omega)) ?_
                    | refine Br.non (by first | decide | assumption | (apply decide_eq_false; omega)) ?_
                    | refine Br.cond_ff ?_
                    | refine Br.eqT (by omega) ?_
                    | refine Br.eqF (by omega) ?_
                    | refine Br.neT (by omega) ?_
                    | refine Br.neF (by omega) ?_
                    | refine Ld.mk' _ rfl ?_
                    | refine Need.mk (by first | decide | omega | kernel_rfl) ?_
                    | refine Nm.i64 (by omega) ?_
                    | refine Nm.u64 (by omega) ?_
                    | refine Nm.u8 (by omega) ?_
                    | refine x_ret (f := 61) rfl rfl (fun w _ => h61 w) ?_
                    | refine x_ret (f := 62) rfl rfl (fun w _ => h62 w) ?_
                    | refine x_ret (f := 15) rfl rfl (fun w hw => h15 w hw) ?_)
                | refine Br.non hb1 ?_
                | refine Br.non y0 ?_
                | refine Br.non y1 ?_
                | refine Br.non y2 ?_
                | refine Br.non y3 ?_
                | refine Br.non y4 ?_
                | refine Br.non y5 ?_
                | refine Br.non y6 ?_
                | refine Br.non y7 ?_
                | refine Br.non y8 ?_
                | refine Br.non y9 ?_
                | refine Br.non y10 ?_
                | refine Br.non y11 ?_
                | refine Br.non y12 ?_
                | refine Br.non y13 ?_
                | refine Br.non y14 ?_
                | refine Br.yes rfl ?_
                | refine Br.non rfl ?_
                | refine x_call (f := 57) (TTok _ _) rfl rfl Tryz.func57 (by kernel_rfl) rfl ?_
                | (refine x_exq (TTok _ _) ?_; (conv => whnf); fail_if_success (guard_target =ₛ False)))
            all_goals (conv => whnf)
            all_goals rfl
        · rw [if_neg hv] at h15
          have hn : tnV s = none := by
            cases hq : tnV s with
            | none => rfl
            | some n =>
              obtain ⟨n1, n2, n3⟩ := tnV_some s n hq
              exfalso
              have e : itS n = r := by
                rw [← hr, n3]
                exact (ext4 _).2.symm
              have e2 := atoi_it n n1
              rw [e, Lib.atoiAll_short _ (by rw [Array.length_toList]; exact hsz), ha] at e2
              cases e2
              exact hv n1
          rw [hn]
          simp only
          refine Ret.tj (I := IC u2 v2 u3 v3) (fun w' hm => hI.mod hm) (TTok 0 _) Tryz.func17 (by kernel_rfl) rfl ?_
          repeat' (
            (conv => whnf)
            first
              | (with_reducible first
                  | refine TJ.seq ?_
                  | refine TJ.region (TTok _ _) ?_
                  | refine TJ.drawn (TTok _ _) mixed ?_
                  | refine TJ.cond rfl ?_
                  | refine TJ.block ?_
                  | refine TJ.loop ?_
                  | refine LJ.step ?_
                  | refine TJ.ret ?_
                  | refine TJ.exit ?_
                  | refine TJ.skip ?_
                  | refine TJ.scope ?_
                  | refine TJ.label ?_
                  | refine Br.cond_t ?_
                  | refine Br.cond_f ?_
                  | refine Br.yes (by first | decide | assumption | (apply decide_eq_true; omega)) ?_
                  | refine Br.non (by first | decide | assumption | (apply decide_eq_false; omega)) ?_
                  | refine Br.cond_ff ?_
                  | refine Br.eqT (by omega) ?_
                  | refine Br.eqF (by omega) ?_
                  | refine Br.neT (by omega) ?_
                  | refine Br.neF (by omega) ?_
                  | refine Ld.mk' _ rfl ?_
                  | refine Need.mk (by first | decide | omega | kernel_rfl) ?_
                  | refine Nm.i64 (by omega) ?_
                  | refine Nm.u64 (by omega) ?_
                  | refine Nm.u8 (by omega) ?_
                  | refine x_ret (f := 61) rfl rfl (fun w _ => h61 w) ?_
                  | refine x_ret (f := 62) rfl rfl (fun w _ => h62 w) ?_
                  | refine x_ret (f := 15) rfl rfl (fun w hw => h15 w hw) ?_)
              | refine Br.non y0 ?_
              | refine Br.non y1 ?_
              | refine Br.non y2 ?_
              | refine Br.non y3 ?_
              | refine Br.non y4 ?_
              | refine Br.non y5 ?_
              | refine Br.non y6 ?_
              | refine Br.non y7 ?_
              | refine Br.non y8 ?_
              | refine Br.non y9 ?_
              | refine Br.non y10 ?_
              | refine Br.non y11 ?_
              | refine Br.non y12 ?_
              | refine Br.non y13 ?_
              | refine Br.non y14 ?_
              | refine Br.yes rfl ?_
              | refine Br.non rfl ?_
              | refine x_call (f := 57) (TTok _ _) rfl rfl Tryz.func57 (by kernel_rfl) rfl ?_
              | (refine x_exq (TTok _ _) ?_; (conv => whnf); fail_if_success (guard_target =ₛ False)))
          all_goals (conv => whnf)
          all_goals rfl
      | none =>
        have hn : tnV s = none := by
          cases hq : tnV s with
          | none => rfl
          | some n =>
            obtain ⟨n1, n2, n3⟩ := tnV_some s n hq
            exfalso
            have e : itS n = r := by
              rw [← hr, n3]
              exact (ext4 _).2.symm
            have e2 := atoi_it n n1
            rw [e, Lib.atoiAll_short _ (by rw [Array.length_toList]; exact hsz), ha] at e2
            cases e2
        rw [hn]
        simp only
        have h62 := fun w (hw : IC u2 v2 u3 v3 w) => atoi_err r hsz ha w hw
        refine Ret.tj (I := IC u2 v2 u3 v3) (fun w' hm => hI.mod hm) (TTok 0 _) Tryz.func17 (by kernel_rfl) rfl ?_
        repeat' (
          (conv => whnf)
          first
            | (with_reducible first
                | refine TJ.seq ?_
                | refine TJ.region (TTok _ _) ?_
                | refine TJ.drawn (TTok _ _) mixed ?_
                | refine TJ.cond rfl ?_
                | refine TJ.block ?_
                | refine TJ.loop ?_
                | refine LJ.step ?_
                | refine TJ.ret ?_
                | refine TJ.exit ?_
                | refine TJ.skip ?_
                | refine TJ.scope ?_
                | refine TJ.label ?_
                | refine Br.cond_t ?_
                | refine Br.cond_f ?_
                | refine Br.yes (by first | decide | assumption | (apply decide_eq_true; omega)) ?_
                | refine Br.non (by first | decide | assumption | (apply decide_eq_false; omega)) ?_
                | refine Br.cond_ff ?_
                | refine Br.eqT (by omega) ?_
                | refine Br.eqF (by omega) ?_
                | refine Br.neT (by omega) ?_
                | refine Br.neF (by omega) ?_
                | refine Ld.mk' _ rfl ?_
                | refine Need.mk (by first | decide | omega | kernel_rfl) ?_
                | refine Nm.i64 (by omega) ?_
                | refine Nm.u64 (by omega) ?_
                | refine Nm.u8 (by omega) ?_
                | refine x_ret (f := 61) rfl rfl (fun w _ => h61 w) ?_
                | refine x_retA (f := 62) rfl rfl (fun w hw => h62 w hw) ?_
                | refine x_ne_ifc (TTok _ _) .eql (.inl rfl) rfl rfl rfl rfl ?_)
            | refine Br.non y0 ?_
            | refine Br.non y1 ?_
            | refine Br.non y2 ?_
            | refine Br.non y3 ?_
            | refine Br.non y4 ?_
            | refine Br.non y5 ?_
            | refine Br.non y6 ?_
            | refine Br.non y7 ?_
            | refine Br.non y8 ?_
            | refine Br.non y9 ?_
            | refine Br.non y10 ?_
            | refine Br.non y11 ?_
            | refine Br.non y12 ?_
            | refine Br.non y13 ?_
            | refine Br.non y14 ?_
            | refine Br.yes rfl ?_
            | refine Br.non rfl ?_
            | refine x_call (f := 57) (TTok _ _) rfl rfl Tryz.func57 (by kernel_rfl) rfl ?_
            | (refine x_exq (TTok _ _) ?_; (conv => whnf); fail_if_success (guard_target =ₛ False)))
        all_goals (conv => whnf)
        all_goals rfl
    · have hn : tnV s = none := by
        cases hq : tnV s with
        | none => rfl
        | some n =>
          obtain ⟨n1, n2, n3⟩ := tnV_some s n hq
          have e : itS n = r := by
            rw [← hr, n3]
            exact (ext4 _).2.symm
          have := itS_size n n1
          rw [e] at this
          omega
      rw [hn]
      simp only
      refine Ret.tj (I := IC u2 v2 u3 v3) (fun w' hm => hI.mod hm) (TTok 0 _) Tryz.func17 (by kernel_rfl) rfl ?_
      repeat' (
        (conv => whnf)
        first
          | (with_reducible first
              | refine TJ.seq ?_
              | refine TJ.region (TTok _ _) ?_
              | refine TJ.drawn (TTok _ _) mixed ?_
              | refine TJ.cond rfl ?_
              | refine TJ.block ?_
              | refine TJ.loop ?_
              | refine LJ.step ?_
              | refine TJ.ret ?_
              | refine TJ.exit ?_
              | refine TJ.skip ?_
              | refine TJ.scope ?_
              | refine TJ.label ?_
              | refine Br.cond_t ?_
              | refine Br.cond_f ?_
              | refine Br.yes (by first | decide | assumption | (apply decide_eq_true; omega)) ?_
              | refine Br.non (by first | decide | assumption | (apply decide_eq_false; omega)) ?_
              | refine Br.cond_ff ?_
              | refine Br.eqT (by omega) ?_
              | refine Br.eqF (by omega) ?_
              | refine Br.neT (by omega) ?_
              | refine Br.neF (by omega) ?_
              | refine Ld.mk' _ rfl ?_
              | refine Need.mk (by first | decide | omega | kernel_rfl) ?_
              | refine Nm.i64 (by omega) ?_
              | refine Nm.u64 (by omega) ?_
              | refine Nm.u8 (by omega) ?_
              | refine x_ret (f := 61) rfl rfl (fun w _ => h61 w) ?_)
          | refine Br.non y0 ?_
          | refine Br.non y1 ?_
          | refine Br.non y2 ?_
          | refine Br.non y3 ?_
          | refine Br.non y4 ?_
          | refine Br.non y5 ?_
          | refine Br.non y6 ?_
          | refine Br.non y7 ?_
          | refine Br.non y8 ?_
          | refine Br.non y9 ?_
          | refine Br.non y10 ?_
          | refine Br.non y11 ?_
          | refine Br.non y12 ?_
          | refine Br.non y13 ?_
          | refine Br.non y14 ?_
          | refine Br.yes rfl ?_
          | refine Br.non rfl ?_
          | refine x_call (f := 57) (TTok _ _) rfl rfl Tryz.func57 (by kernel_rfl) rfl ?_
          | (refine x_exq (TTok _ _) ?_; (conv => whnf); fail_if_success (guard_target =ₛ False)))
      all_goals (conv => whnf)
      all_goals rfl
  · simp only [if_neg c2] at h61
    have hn : tnV s = none := by
      unfold tnV
      rw [if_neg fun e => c2 e.2.1]
    rw [hn]
    simp only
    refine Ret.tj (I := IC u2 v2 u3 v3) (fun w' hm => hI.mod hm) (TTok 0 _) Tryz.func17 (by kernel_rfl) rfl ?_
    repeat' (
      (conv => whnf)
      first
        | (with_reducible first
            | refine TJ.seq ?_
            | refine TJ.region (TTok _ _) ?_
            | refine TJ.drawn (TTok _ _) mixed ?_
            | refine TJ.cond rfl ?_
            | refine TJ.block ?_
            | refine TJ.loop ?_
            | refine LJ.step ?_
            | refine TJ.ret ?_
            | refine TJ.exit ?_
            | refine TJ.skip ?_
            | refine TJ.scope ?_
            | refine TJ.label ?_
            | refine Br.cond_t ?_
            | refine Br.cond_f ?_
            | refine Br.yes (by first | decide | assumption | (apply decide_eq_true; omega)) ?_
            | refine Br.non (by first | decide | assumption | (apply decide_eq_false; omega)) ?_
            | refine Br.cond_ff ?_
            | refine Br.eqT (by omega) ?_
            | refine Br.eqF (by omega) ?_
            | refine Br.neT (by omega) ?_
            | refine Br.neF (by omega) ?_
            | refine Ld.mk' _ rfl ?_
            | refine Need.mk (by first | decide | omega | kernel_rfl) ?_
            | refine Nm.i64 (by omega) ?_
            | refine Nm.u64 (by omega) ?_
            | refine Nm.u8 (by omega) ?_
            | refine x_ret (f := 61) rfl rfl (fun w _ => h61 w) ?_)
        | refine Br.non y0 ?_
        | refine Br.non y1 ?_
        | refine Br.non y2 ?_
        | refine Br.non y3 ?_
        | refine Br.non y4 ?_
        | refine Br.non y5 ?_
        | refine Br.non y6 ?_
        | refine Br.non y7 ?_
        | refine Br.non y8 ?_
        | refine Br.non y9 ?_
        | refine Br.non y10 ?_
        | refine Br.non y11 ?_
        | refine Br.non y12 ?_
        | refine Br.non y13 ?_
        | refine Br.non y14 ?_
        | refine Br.yes rfl ?_
        | refine Br.non rfl ?_
        | refine x_call (f := 57) (TTok _ _) rfl rfl Tryz.func57 (by kernel_rfl) rfl ?_
        | (refine x_exq (TTok _ _) ?_; (conv => whnf); fail_if_success (guard_target =ₛ False)))
    all_goals (conv => whnf)
    all_goals rfl
theorem dtypeof_ret {u2 v2 u3 v3} (s : ByteArray) (hs : s.size ≤ 9223372036854775807) (w : World) (hI : IC u2 v2 u3 v3 w) : Ret Tryz.prog 17 [.string s] w (dV s) := by
  unfold dV
  rcases tkT_cases s with ⟨k, h1, h2, h3, h4⟩ | ⟨h1, h2, h3⟩
  · rw [h1]
    exact dtypeof_word s k h2 w hI
  · rw [h1]
    exact dtypeof_none s hs h2 h3 w hI
end Go.Proofs.YtbladfkakmdigaaGreatDoor
set_option maxRecDepth 100000
set_option linter.unusedVariables false
namespace Go.Proofs.YtbladfkakmdigaaGreatDoor
open Go.SX
/-! ### DataTypes -/
set_option maxHeartbeats 8000000 in
theorem types_ret {u2 v2 u3 v3} (kind : Int) (s : ByteArray) (hs : s.size ≤ 9223372036854775807) (w : World) (hI : IC u2 v2 u3 v3 w) : Ret Tryz.prog 3 [.int .i64 kind, .string s] w (.bool true) := by
  have h15 := fun w (hw : IC u2 v2 u3 v3 w) => ttext_ret kind w hw
  have h16 := fun w => rttext_ret kind w
  have h17 := fun w (hw : IC u2 v2 u3 v3 w) => dtypeof_ret s hs w hw
  have h18 := fun w => rtypeof_ret s hs w
  have A : (∃ x : ByteArray, ttV kind = .tuple #[.string x, .int .i64 0] ∧ rttV kind = .tuple #[.string x, .bool true]) ∨ (∃ x y : ByteArray, x = y ∧ ttV kind = .tuple #[.string x, .int .i64 1] ∧ rttV kind = .tuple #[.string y, .bool false]) := by
    unfold ttV rttV
    by_cases hk : 0 ≤ kind ∧ kind < 65536
    · rw [if_pos hk, if_pos hk]
      cases tyT kind with
      | none => exact .inl ⟨_, rfl, rfl⟩
      | some x => exact .inl ⟨_, rfl, rfl⟩
    · rw [if_neg hk, if_neg hk]
      exact .inr ⟨_, _, rfl, rfl, rfl⟩
  have B : (∃ n : Int, dV s = .tuple #[.int .i64 n, .int .i64 0] ∧ rV s = .tuple #[.int .i64 n, .bool true]) ∨ (dV s = .tuple #[.int .i64 0, .int .i64 7] ∧ rV s = .tuple #[.int .i64 0, .bool false]) := by
    unfold dV rV
    cases tkT s with
    | some k => exact .inl ⟨_, rfl, rfl⟩
    | none =>
      cases tnV s with
      | some n => exact .inl ⟨_, rfl, rfl⟩
      | none => exact .inr ⟨rfl, rfl⟩
  rcases A with ⟨x, a1, a2⟩ | ⟨x, y, hxy, a1, a2⟩ <;> rcases B with ⟨n, b1, b2⟩ | ⟨b1, b2⟩
  all_goals rw [a1] at h15
  all_goals rw [a2] at h16
  all_goals rw [b1] at h17
  all_goals rw [b2] at h18
  all_goals try subst hxy
  all_goals have hb1 : decide (x = x) = true := by simp
  all_goals refine Ret.tj (I := IC u2 v2 u3 v3) (fun w' hm => hI.mod hm) (TTok 0 _) Tryz.func3 (by kernel_rfl) rfl ?_
  all_goals repeat' (
    (conv => whnf)
    first
      | (with_reducible first
          | refine TJ.seq ?_
          | refine TJ.region (TTok _ _) ?_
          | refine TJ.drawn (TTok _ _) mixed ?_
          | refine TJ.cond rfl ?_
          | refine TJ.block ?_
          | refine TJ.loop ?_
          | refine LJ.step ?_
          | refine TJ.ret ?_
          | refine TJ.exit ?_
          | refine TJ.skip ?_
          | refine TJ.scope ?_
          | refine TJ.label ?_
          | refine Br.cond_t ?_
          | refine Br.cond_f ?_
          | refine Br.yes (by first | decide | assumption | (apply decide_eq_true; omega)) ?_
          | refine Br.non (by first | decide | assumption | (apply decide_eq_false; omega)) ?_
          | refine Br.cond_ff ?_
          | refine Br.eqT (by omega) ?_
          | refine Br.eqF (by omega) ?_
          | refine Br.neT (by omega) ?_
          | refine Br.neF (by omega) ?_
          | refine Ld.mk' _ rfl ?_
          | refine Need.mk (by first | decide | omega | kernel_rfl) ?_
          | refine Nm.i64 (by omega) ?_
          | refine Nm.u64 (by omega) ?_
          | refine Nm.u8 (by omega) ?_
          | refine x_ret (f := 14) rfl rfl (fun w hw => examples_ret hw) ?_
          | refine x_ret (f := 15) rfl rfl (fun w hw => h15 w hw) ?_
          | refine x_ret (f := 16) rfl rfl (fun w hw => h16 w) ?_
          | refine x_ret (f := 17) rfl rfl (fun w hw => h17 w hw) ?_
          | refine x_ret (f := 18) rfl rfl (fun w hw => h18 w) ?_)
      | refine Br.yes hb1 ?_
      | refine Br.yes rfl ?_
      | refine Br.non rfl ?_
      | (refine x_exq (TTok _ _) ?_; (conv => whnf); fail_if_success (guard_target =ₛ False)))
  all_goals (conv => whnf)
  all_goals first | rfl | simp [val]
end Go.Proofs.YtbladfkakmdigaaGreatDoor
set_option maxRecDepth 100000
set_option linter.unusedVariables false
namespace Go.Proofs.YtbladfkakmdigaaGreatDoor
open Go.SX
/-! ### A name's labels -/
def lbOk (s : ByteArray) (p : Int) : Prop := p < s.size ∧ bAt s p ≠ 0 ∧ bAt s p ≤ 63 ∧ p + 1 + bAt s p ≤ s.size
def lbPos (s : ByteArray) : Nat → Int
  | 0 => 0
  | k + 1 => lbPos s k + 1 + bAt s (lbPos s k)
structure LbN (s : ByteArray) (N : Nat) : Prop where
  ok : ∀ k, k < N → lbOk s (lbPos s k)
  stop : ¬ lbOk s (lbPos s N)
theorem lbPos_nn (s : ByteArray) : ∀ k, 0 ≤ lbPos s k
  | 0 => by simp [lbPos]
  | k + 1 => by
    have := lbPos_nn s k
    have := bAt_range s (lbPos s k)
    simp only [lbPos]
    omega
theorem lbN_from (s : ByteArray) : ∀ (f k : Nat), (∀ j, j < k → lbOk s (lbPos s j)) → (s.size - lbPos s k).toNat < f → ∃ N, LbN s N
  | 0, k, _, h => by omega
  | f + 1, k, hk, h => by
    by_cases hc : lbOk s (lbPos s k)
    · refine lbN_from s f (k + 1) (fun j hj => ?_) ?_
      · by_cases e : j = k
        · subst e; exact hc
        · exact hk j (by omega)
      · have := bAt_range s (lbPos s k)
        have h0 := hc.1
        simp only [lbPos]
        omega
    · exact ⟨k, hk, hc⟩
theorem lbN_ex (s : ByteArray) : ∃ N, LbN s N := lbN_from s ((s.size - lbPos s 0).toNat + 1) 0 (fun j hj => by omega) (by omega)
theorem LbN.le {s : ByteArray} {N : Nat} (h : LbN s N) : ∀ k, k ≤ N → lbPos s k ≤ s.size
  | 0, _ => by simp [lbPos]
  | k + 1, hk => by
    have := (h.ok k (by omega)).2.2.2
    simp only [lbPos]
    exact this
def lbS (s : ByteArray) (k : Nat) : ByteArray := s.extract (lbPos s k + 1).toNat (lbPos s k + 1 + bAt s (lbPos s k)).toNat
def lbXs (s : ByteArray) (k : Nat) : List Value := [.int .i64 (lbPos s k), .string (lbS s k)]
theorem yf_box {J : (Nat → Prop) → World → Prop} {B : Nat} {u : Value} (h : ∀ D w, J D w → w.cell? ⟨B, 0, none⟩ = some u ∧ D B) : ∀ bl D w, YF J bl D w → ∀ i x, [u][i]? = some x → w.cell? ⟨B, 0 + i, none⟩ = some x := by
  rintro bl D w ⟨w2, h1, h2⟩ i x hx
  obtain ⟨g1, g2⟩ := h D w2 h1
  match i, hx with
  | 0, hx =>
    cases hx
    rw [← g1]
    simp only [World.cell?, h2 B g2]
set_option maxHeartbeats 4000000 in
theorem labels_it (s : ByteArray) (hs : s.size < 4294967281) (N : Nat) (hN : LbN s N) : IterOk Tryz.prog 237 (.string s) N (lbXs s) := by
  intro W B l J D hK hB hY h0 hD
  refine (iter_of (P := Tryz.prog) (T := TT) (W := W) (f := 237) (args := [.func (.yield l) #[] #[], .pointer (some ⟨B, 0, none⟩)]) (J0 := J 0) (good := fun J' => J' = J N) (D := D) (TTok 0 _) Tryz.func237 rfl h0 hD (fun J' e => e ▸ hK N (Nat.le_refl _)) rfl ?_).mono ?_
  rotate_left
  · rintro e w' ⟨h1, J', D', rfl, h2, h3⟩
    exact ⟨h1, D', h2, h3⟩
  repeat' (
    (conv => whnf)
    first
      | (with_reducible first
          | refine TR.seq ?_
          | refine TR.region (TTok _ _) ?_
          | refine TR.drawn (TTok _ _) mixed ?_
          | refine TR.block ?_
          | refine TR.ret ?_
          | refine TR.exit ?_
          | refine TR.skip ?_
          | refine TR.condB rfl ?_
          | refine Br.cond_t ?_
          | refine Br.cond_f ?_
          | refine Br.yes (by first | decide | assumption | (apply decide_eq_true; omega)) ?_
          | refine Br.non (by first | decide | assumption | (apply decide_eq_false; omega)) ?_
          | refine Br.cond_ff ?_
          | refine Br.eqT (by omega) ?_
          | refine Br.eqF (by omega) ?_
          | refine Br.neT (by omega) ?_
          | refine Br.neF (by omega) ?_
          | refine Ld.mk' _ rfl ?_
          | refine Need.mk (by first | decide | omega | kernel_rfl) ?_
          | refine Nm.i64 (by omega) ?_
          | refine Nm.u64 (by omega) ?_
          | refine Nm.u8 (by omega) ?_)
      | (refine x_exq (TTok _ _) ?_; (conv => whnf); fail_if_success (guard_target =ₛ False)))
  refine TR.loopH (fun k : Nat => [(3, .v (.int .i64 (lbPos s k)))]) (fun k => [(0, ⟨.tab (YF (J k)), 0, 0, k, []⟩)]) (fun k => k ≤ N) (fun k => N - k) 0 (Nat.zero_le _) ?_ ?_
  · repeat' ((conv => whnf); first | exact trivial | exact Fgt.nil | exact Fgt.mk rfl rfl rfl | refine And.intro rfl ?_ | refine And.intro ?_ ?_)
  · intro k hk
    have hbx := yf_box (J := J k) (B := B) (u := .string s) fun D w h => hB k D w hk h
    have p0 := lbPos_nn s k
    have p1 := hN.le k hk
    have hb := bAt_range s (lbPos s k)
    have hsb : (s.size : Int) < 4294967281 := by omega
    have hKk := hK k hk
    by_cases hkN : k < N
    · have hok := hN.ok k hkN
      have hy := hY k hkN
      have hnx : lbPos s (k + 1) = lbPos s k + 1 + bAt s (lbPos s k) := rfl
      obtain ⟨lab, hlab⟩ : ∃ lab, lbS s k = lab := ⟨_, rfl⟩
      unfold lbXs at hy
      rw [hlab] at hy
      unfold lbS at hlab
      obtain ⟨o1, o2, o3, o4⟩ := hok
      have n1 := hnx
      generalize lbPos s (k + 1) = pn at n1 hnx
      have hn2 : (fun k : Nat => lbPos s k) (k + 1) = pn := n1 ▸ rfl
      repeat' (
        (conv => whnf)
        first
          | (with_reducible first
              | refine TR.seq ?_
              | refine TR.region (TTok _ _) ?_
              | refine TR.drawn (TTok _ _) mixed ?_
              | refine TR.block ?_
              | refine TR.ret ?_
              | refine TR.exit ?_
              | refine TR.skip ?_
              | refine TR.condB rfl ?_
              | refine Br.cond_t ?_
              | refine Br.cond_f ?_
              | refine Br.yes (by first | decide | assumption | (apply decide_eq_true; omega)) ?_
              | refine Br.non (by first | decide | assumption | (apply decide_eq_false; omega)) ?_
              | refine Br.cond_ff ?_
              | refine Br.eqT (by omega) ?_
              | refine Br.eqF (by omega) ?_
              | refine Br.neT (by omega) ?_
              | refine Br.neF (by omega) ?_
              | refine Ld.mk' _ rfl ?_
              | refine Need.mk (by first | decide | omega | kernel_rfl) ?_
              | refine Nm.i64 (by omega) ?_
              | refine Nm.u64 (by omega) ?_
              | refine Nm.u8 (by omega) ?_)
          | refine x_load_tab (TTok _ _) (c := 0) (ck := ⟨.tab (YF (J k)), 0, 0, k, []⟩) (F := YF (J k)) (us := [.string s]) rfl rfl rfl rfl rfl (fun _ => rfl) rfl hbx ?_
          | refine x_yield (W := W) (l := l) (c := 0) (ck := ⟨.tab (YF (J k)), 0, 0, k, []⟩) (J := J k) (J' := J (k + 1)) (r := true) rfl rfl rfl (fun w h => h) hKk rfl rfl hy ?_
          | refine Nm.mk' lab hlab ?_
          | (refine x_exq (TTok _ _) ?_; (conv => whnf); fail_if_success (guard_target =ₛ False)))
      all_goals (conv => whnf)
      refine ⟨k + 1, by omega, by omega, ?_⟩
      repeat' ((conv => whnf); first | exact trivial | exact Fgt.nil | exact Fgt.mk rfl rfl rfl | refine And.intro rfl ?_ | refine And.intro ?_ ?_)
    · obtain rfl : k = N := by omega
      have hst := hN.stop
      generalize hp : lbPos s k = p at p0 p1 hb hst
      by_cases q1 : p < s.size
      · by_cases q2 : bAt s p = 0
        · skip
          repeat' (
            (conv => whnf)
            first
              | (with_reducible first
                  | refine TR.seq ?_
                  | refine TR.region (TTok _ _) ?_
                  | refine TR.drawn (TTok _ _) mixed ?_
                  | refine TR.block ?_
                  | refine TR.ret ?_
                  | refine TR.exit ?_
                  | refine TR.skip ?_
                  | refine TR.condB rfl ?_
                  | refine Br.cond_t ?_
                  | refine Br.cond_f ?_
                  | refine Br.yes (by first | decide | assumption | (apply decide_eq_true; omega)) ?_
                  | refine Br.non (by first | decide | assumption | (apply decide_eq_false; omega)) ?_
                  | refine Br.cond_ff ?_
                  | refine Br.eqT (by omega) ?_
                  | refine Br.eqF (by omega) ?_
                  | refine Br.neT (by omega) ?_
                  | refine Br.neF (by omega) ?_
                  | refine Ld.mk' _ rfl ?_
                  | refine Need.mk (by first | decide | omega | kernel_rfl) ?_
                  | refine Nm.i64 (by omega) ?_
                  | refine Nm.u64 (by omega) ?_
                  | refine Nm.u8 (by omega) ?_)
              | refine x_load_tab (TTok _ _) (c := 0) (ck := ⟨.tab (YF (J k)), 0, 0, k, []⟩) (F := YF (J k)) (us := [.string s]) rfl rfl rfl rfl rfl (fun _ => rfl) rfl hbx ?_
              | refine Br.non (by simp [q2]) ?_
              | (refine x_exq (TTok _ _) ?_; (conv => whnf); fail_if_success (guard_target =ₛ False)))
          all_goals (conv => whnf)
          all_goals exact ⟨_, _, rfl, rfl, rfl⟩
        · by_cases q3 : bAt s p ≤ 63
          · have q4 : (s.size : Int) < p + 1 + bAt s p := by
              by_cases h : p + 1 + bAt s p ≤ s.size
              · exact (hst ⟨q1, q2, q3, h⟩).elim
              · omega
            repeat' (
              (conv => whnf)
              first
                | (with_reducible first
                    | refine TR.seq ?_
                    | refine TR.region (TTok _ _) ?_
                    | refine TR.drawn (TTok _ _) mixed ?_
                    | refine TR.block ?_
                    | refine TR.ret ?_
                    | refine TR.exit ?_
                    | refine TR.skip ?_
                    | refine TR.condB rfl ?_
                    | refine Br.cond_t ?_
                    | refine Br.cond_f ?_
                    | refine Br.yes (by first | decide | assumption | (apply decide_eq_true; omega)) ?_
                    | refine Br.non (by first | decide | assumption | (apply decide_eq_false; omega)) ?_
                    | refine Br.cond_ff ?_
                    | refine Br.eqT (by omega) ?_
                    | refine Br.eqF (by omega) ?_
                    | refine Br.neT (by omega) ?_
                    | refine Br.neF (by omega) ?_
                    | refine Ld.mk' _ rfl ?_
                    | refine Need.mk (by first | decide | omega | kernel_rfl) ?_
                    | refine Nm.i64 (by omega) ?_
                    | refine Nm.u64 (by omega) ?_
                    | refine Nm.u8 (by omega) ?_)
                | refine x_load_tab (TTok _ _) (c := 0) (ck := ⟨.tab (YF (J k)), 0, 0, k, []⟩) (F := YF (J k)) (us := [.string s]) rfl rfl rfl rfl rfl (fun _ => rfl) rfl hbx ?_
                | (refine x_exq (TTok _ _) ?_; (conv => whnf); fail_if_success (guard_target =ₛ False)))
            all_goals (conv => whnf)
            all_goals exact ⟨_, _, rfl, rfl, rfl⟩
          · skip
            repeat' (
              (conv => whnf)
              first
                | (with_reducible first
                    | refine TR.seq ?_
                    | refine TR.region (TTok _ _) ?_
                    | refine TR.drawn (TTok _ _) mixed ?_
                    | refine TR.block ?_
                    | refine TR.ret ?_
                    | refine TR.exit ?_
                    | refine TR.skip ?_
                    | refine TR.condB rfl ?_
                    | refine Br.cond_t ?_
                    | refine Br.cond_f ?_
                    | refine Br.yes (by first | decide | assumption | (apply decide_eq_true; omega)) ?_
                    | refine Br.non (by first | decide | assumption | (apply decide_eq_false; omega)) ?_
                    | refine Br.cond_ff ?_
                    | refine Br.eqT (by omega) ?_
                    | refine Br.eqF (by omega) ?_
                    | refine Br.neT (by omega) ?_
                    | refine Br.neF (by omega) ?_
                    | refine Ld.mk' _ rfl ?_
                    | refine Need.mk (by first | decide | omega | kernel_rfl) ?_
                    | refine Nm.i64 (by omega) ?_
                    | refine Nm.u64 (by omega) ?_
                    | refine Nm.u8 (by omega) ?_)
                | refine x_load_tab (TTok _ _) (c := 0) (ck := ⟨.tab (YF (J k)), 0, 0, k, []⟩) (F := YF (J k)) (us := [.string s]) rfl rfl rfl rfl rfl (fun _ => rfl) rfl hbx ?_
                | (refine x_exq (TTok _ _) ?_; (conv => whnf); fail_if_success (guard_target =ₛ False)))
            all_goals (conv => whnf)
            all_goals exact ⟨_, _, rfl, rfl, rfl⟩
      · skip
        repeat' (
          (conv => whnf)
          first
            | (with_reducible first
                | refine TR.seq ?_
                | refine TR.region (TTok _ _) ?_
                | refine TR.drawn (TTok _ _) mixed ?_
                | refine TR.block ?_
                | refine TR.ret ?_
                | refine TR.exit ?_
                | refine TR.skip ?_
                | refine TR.condB rfl ?_
                | refine Br.cond_t ?_
                | refine Br.cond_f ?_
                | refine Br.yes (by first | decide | assumption | (apply decide_eq_true; omega)) ?_
                | refine Br.non (by first | decide | assumption | (apply decide_eq_false; omega)) ?_
                | refine Br.cond_ff ?_
                | refine Br.eqT (by omega) ?_
                | refine Br.eqF (by omega) ?_
                | refine Br.neT (by omega) ?_
                | refine Br.neF (by omega) ?_
                | refine Ld.mk' _ rfl ?_
                | refine Need.mk (by first | decide | omega | kernel_rfl) ?_
                | refine Nm.i64 (by omega) ?_
                | refine Nm.u64 (by omega) ?_
                | refine Nm.u8 (by omega) ?_)
            | refine x_load_tab (TTok _ _) (c := 0) (ck := ⟨.tab (YF (J k)), 0, 0, k, []⟩) (F := YF (J k)) (us := [.string s]) rfl rfl rfl rfl rfl (fun _ => rfl) rfl hbx ?_
            | (refine x_exq (TTok _ _) ?_; (conv => whnf); fail_if_success (guard_target =ₛ False)))
        all_goals (conv => whnf)
        all_goals exact ⟨_, _, rfl, rfl, rfl⟩
end Go.Proofs.YtbladfkakmdigaaGreatDoor
set_option maxRecDepth 100000
set_option linter.unusedVariables false
namespace Go.Proofs.YtbladfkakmdigaaGreatDoor
open Go.SX
/-! ### name.Right -/
def rtB (s : ByteArray) (N : Nat) : Bool := decide (0 < s.size ∧ s.size ≤ 255 ∧ lbPos s N = s.size - 1 ∧ bAt s (lbPos s N) = 0)
def rtC (s : ByteArray) (z : Int) : List (Option Chunk) := [none, none, none, some ⟨.own, 3, 1, 0, [.v (.int .i64 z)]⟩, some ⟨.own, 9, 1, 0, [.v (.string s)]⟩]
set_option maxHeartbeats 4000000 in
theorem nright_ret (s : ByteArray) (hs : s.size < 4294967281) (N : Nat) (hN : LbN s N) (w : World) : Ret Tryz.prog 115 [.string s] w (.bool (rtB s N)) := by
  refine Ret.ofW (I := fun _ => True) (T := TT) (fun _ _ => trivial) Tryz.func115 (by kernel_rfl) rfl rfl ?_
  by_cases z0 : s.size = 0
  · have hb : rtB s N = false := decide_eq_false (by omega)
    rw [hb]
    repeat' (
      (conv => whnf)
      first
        | (with_reducible first
            | refine TR.seq ?_
            | refine TR.region (TTok _ _) ?_
            | refine TR.drawn (TTok _ _) mixed ?_
            | refine TR.block ?_
            | refine TR.ret ?_
            | refine TR.exit ?_
            | refine TR.skip ?_
            | refine TR.condB rfl ?_
            | refine Br.cond_t ?_
            | refine Br.cond_f ?_
            | refine Br.yes (by first | decide | assumption | (apply decide_eq_true; omega)) ?_
            | refine Br.non (by first | decide | assumption | (apply decide_eq_false; omega)) ?_
            | refine Br.cond_ff ?_
            | refine Br.eqT (by omega) ?_
            | refine Br.eqF (by omega) ?_
            | refine Br.neT (by omega) ?_
            | refine Br.neF (by omega) ?_
            | refine Ld.mk' _ rfl ?_
            | refine Need.mk (by first | decide | omega | kernel_rfl) ?_
            | refine Nm.i64 (by omega) ?_
            | refine Nm.u64 (by omega) ?_
            | refine Nm.u8 (by omega) ?_
            | refine TW.seq (TTok _ _) ?_)
        | (refine x_exq (TTok _ _) ?_; (conv => whnf); fail_if_success (guard_target =ₛ False)))
    all_goals (conv => whnf)
    all_goals rfl
  · by_cases z1 : 255 < s.size
    · have hb : rtB s N = false := decide_eq_false (by omega)
      rw [hb]
      repeat' (
        (conv => whnf)
        first
          | (with_reducible first
              | refine TR.seq ?_
              | refine TR.region (TTok _ _) ?_
              | refine TR.drawn (TTok _ _) mixed ?_
              | refine TR.block ?_
              | refine TR.ret ?_
              | refine TR.exit ?_
              | refine TR.skip ?_
              | refine TR.condB rfl ?_
              | refine Br.cond_t ?_
              | refine Br.cond_f ?_
              | refine Br.yes (by first | decide | assumption | (apply decide_eq_true; omega)) ?_
              | refine Br.non (by first | decide | assumption | (apply decide_eq_false; omega)) ?_
              | refine Br.cond_ff ?_
              | refine Br.eqT (by omega) ?_
              | refine Br.eqF (by omega) ?_
              | refine Br.neT (by omega) ?_
              | refine Br.neF (by omega) ?_
              | refine Ld.mk' _ rfl ?_
              | refine Need.mk (by first | decide | omega | kernel_rfl) ?_
              | refine Nm.i64 (by omega) ?_
              | refine Nm.u64 (by omega) ?_
              | refine Nm.u8 (by omega) ?_
              | refine TW.seq (TTok _ _) ?_)
          | (refine x_exq (TTok _ _) ?_; (conv => whnf); fail_if_success (guard_target =ₛ False)))
      all_goals (conv => whnf)
      all_goals rfl
    · conv => whnf
      refine TW.seq (TTok _ _) ?_
      repeat' (
        (conv => whnf)
        first
          | (with_reducible first
              | refine TR.seq ?_
              | refine TR.region (TTok _ _) ?_
              | refine TR.drawn (TTok _ _) mixed ?_
              | refine TR.block ?_
              | refine TR.ret ?_
              | refine TR.exit ?_
              | refine TR.skip ?_
              | refine TR.condB rfl ?_
              | refine Br.cond_t ?_
              | refine Br.cond_f ?_
              | refine Br.yes (by first | decide | assumption | (apply decide_eq_true; omega)) ?_
              | refine Br.non (by first | decide | assumption | (apply decide_eq_false; omega)) ?_
              | refine Br.cond_ff ?_
              | refine Br.eqT (by omega) ?_
              | refine Br.eqF (by omega) ?_
              | refine Br.neT (by omega) ?_
              | refine Br.neF (by omega) ?_
              | refine Ld.mk' _ rfl ?_
              | refine Need.mk (by first | decide | omega | kernel_rfl) ?_
              | refine Nm.i64 (by omega) ?_
              | refine Nm.u64 (by omega) ?_
              | refine Nm.u8 (by omega) ?_)
          | (refine x_exq (TTok _ _) ?_; (conv => whnf); fail_if_success (guard_target =ₛ False)))
      refine TW.seq (TTok _ _) ?_
      repeat' (
        (conv => whnf)
        first
          | (with_reducible first
              | refine TR.seq ?_
              | refine TR.region (TTok _ _) ?_
              | refine TR.drawn (TTok _ _) mixed ?_
              | refine TR.block ?_
              | refine TR.ret ?_
              | refine TR.exit ?_
              | refine TR.skip ?_
              | refine TR.condB rfl ?_
              | refine Br.cond_t ?_
              | refine Br.cond_f ?_
              | refine Br.yes (by first | decide | assumption | (apply decide_eq_true; omega)) ?_
              | refine Br.non (by first | decide | assumption | (apply decide_eq_false; omega)) ?_
              | refine Br.cond_ff ?_
              | refine Br.eqT (by omega) ?_
              | refine Br.eqF (by omega) ?_
              | refine Br.neT (by omega) ?_
              | refine Br.neF (by omega) ?_
              | refine Ld.mk' _ rfl ?_
              | refine Need.mk (by first | decide | omega | kernel_rfl) ?_
              | refine Nm.i64 (by omega) ?_
              | refine Nm.u64 (by omega) ?_
              | refine Nm.u8 (by omega) ?_)
          | (refine x_exq (TTok _ _) ?_; (conv => whnf); fail_if_success (guard_target =ₛ False)))
      refine TW.seq (TTok _ _) ?_
      repeat' (
        (conv => whnf)
        first
          | (with_reducible first
              | refine TR.seq ?_
              | refine TR.region (TTok _ _) ?_
              | refine TR.drawn (TTok _ _) mixed ?_
              | refine TR.block ?_
              | refine TR.ret ?_
              | refine TR.exit ?_
              | refine TR.skip ?_
              | refine TR.condB rfl ?_
              | refine Br.cond_t ?_
              | refine Br.cond_f ?_
              | refine Br.yes (by first | decide | assumption | (apply decide_eq_true; omega)) ?_
              | refine Br.non (by first | decide | assumption | (apply decide_eq_false; omega)) ?_
              | refine Br.cond_ff ?_
              | refine Br.eqT (by omega) ?_
              | refine Br.eqF (by omega) ?_
              | refine Br.neT (by omega) ?_
              | refine Br.neF (by omega) ?_
              | refine Ld.mk' _ rfl ?_
              | refine Need.mk (by first | decide | omega | kernel_rfl) ?_
              | refine Nm.i64 (by omega) ?_
              | refine Nm.u64 (by omega) ?_
              | refine Nm.u8 (by omega) ?_)
          | (refine x_exq (TTok _ _) ?_; (conv => whnf); fail_if_success (guard_target =ₛ False)))
      refine TW.seq2 (TWK.seq (TTok _ _) ?_)
      repeat' (
        (conv => whnf)
        first
          | (with_reducible first
              | refine TR.seq ?_
              | refine TR.region (TTok _ _) ?_
              | refine TR.drawn (TTok _ _) mixed ?_
              | refine TR.block ?_
              | refine TR.ret ?_
              | refine TR.exit ?_
              | refine TR.skip ?_
              | refine TR.condB rfl ?_
              | refine TJ.seq ?_
              | refine TJ.region (TTok _ _) ?_
              | refine TJ.drawn (TTok _ _) mixed ?_
              | refine TJ.cond rfl ?_
              | refine TJ.block ?_
              | refine TJ.loop ?_
              | refine LJ.step ?_
              | refine TJ.ret ?_
              | refine TJ.exit ?_
              | refine TJ.skip ?_
              | refine TJ.scope ?_
              | refine TJ.label ?_
              | refine Br.cond_t ?_
              | refine Br.cond_f ?_
              | refine Br.yes (by first | decide | assumption | (apply decide_eq_true; omega)) ?_
              | refine Br.non (by first | decide | assumption | (apply decide_eq_false; omega)) ?_
              | refine Br.cond_ff ?_
              | refine Br.eqT (by omega) ?_
              | refine Br.eqF (by omega) ?_
              | refine Br.neT (by omega) ?_
              | refine Br.neF (by omega) ?_
              | refine Ld.mk' _ rfl ?_
              | refine Need.mk (by first | decide | omega | kernel_rfl) ?_
              | refine Nm.i64 (by omega) ?_
              | refine Nm.u64 (by omega) ?_
              | refine Nm.u8 (by omega) ?_)
          | refine x_call (f := 188) (TTok _ _) rfl rfl Tryz.func188 (by kernel_rfl) rfl ?_
          | (refine x_exq (TTok _ _) ?_; (conv => whnf); fail_if_success (guard_target =ₛ False)))
      refine TWK.range (TTok _ _) (gf := 237) (c0 := 4) (v0 := 0) (ty := 9) (u := .string s) (N := N) (n := 8) (xs := lbXs s) (C := (fun k => rtC s (lbPos s k))) rfl (fun k _ => ⟨1, rfl⟩) rfl (fun k _ => own_all rfl (Nat.le_of_ble_eq_true rfl)) ⟨Tryz.f237, Tryz.func237, by kernel_rfl, by kernel_rfl⟩ (labels_it s hs N hN) (fun k _ => rfl) (res_one (t := 2) (by kernel_rfl)) (fun k hk => ?_) ?_
      · have p0 := lbPos_nn s k
        have p1 := hN.le k (by omega)
        obtain ⟨o1, o2, o3, o4⟩ := hN.ok k hk
        have hb := bAt_range s (lbPos s k)
        have hsb : (s.size : Int) < 4294967281 := by omega
        have hlz : ((lbS s k).size : Int) = bAt s (lbPos s k) := by
          unfold lbS
          rw [ByteArray.size_extract]
          omega
        have hpn : lbPos s k + 1 + ((lbS s k).size : Int) = lbPos s (k + 1) := by
          rw [hlz]
          rfl
        unfold lbXs
        generalize lbS s k = lab at hlz hpn
        repeat' (
          (conv => whnf)
          first
            | (with_reducible first
                | refine TR.seq ?_
                | refine TR.region (TTok _ _) ?_
                | refine TR.drawn (TTok _ _) mixed ?_
                | refine TR.block ?_
                | refine TR.ret ?_
                | refine TR.exit ?_
                | refine TR.skip ?_
                | refine TR.condB rfl ?_
                | refine Br.cond_t ?_
                | refine Br.cond_f ?_
                | refine Br.yes (by first | decide | assumption | (apply decide_eq_true; omega)) ?_
                | refine Br.non (by first | decide | assumption | (apply decide_eq_false; omega)) ?_
                | refine Br.cond_ff ?_
                | refine Br.eqT (by omega) ?_
                | refine Br.eqF (by omega) ?_
                | refine Br.neT (by omega) ?_
                | refine Br.neF (by omega) ?_
                | refine Ld.mk' _ rfl ?_
                | refine Need.mk (by first | decide | omega | kernel_rfl) ?_
                | refine Nm.i64 (by omega) ?_
                | refine Nm.u64 (by omega) ?_
                | refine Nm.u8 (by omega) ?_)
            | refine And.intro rfl ?_
            | (refine x_exq (TTok _ _) ?_; (conv => whnf); fail_if_success (guard_target =ₛ False)))
        all_goals (conv => whnf)
        all_goals exact congrArg (rtC s) hpn
      · have p0 := lbPos_nn s N
        have p1 := hN.le N (by omega)
        have hb := bAt_range s (lbPos s N)
        by_cases q1 : lbPos s N = s.size - 1
        · by_cases q2 : bAt s (lbPos s N) = 0
          · have hr : rtB s N = true := decide_eq_true ⟨by omega, by omega, q1, q2⟩
            rw [hr]
            generalize lbPos s N = p at p0 p1 hb q1 q2
            repeat' (
              (conv => whnf)
              first
                | (with_reducible first
                    | refine TR.seq ?_
                    | refine TR.region (TTok _ _) ?_
                    | refine TR.drawn (TTok _ _) mixed ?_
                    | refine TR.block ?_
                    | refine TR.ret ?_
                    | refine TR.exit ?_
                    | refine TR.skip ?_
                    | refine TR.condB rfl ?_
                    | refine Br.cond_t ?_
                    | refine Br.cond_f ?_
                    | refine Br.yes (by first | decide | assumption | (apply decide_eq_true; omega)) ?_
                    | refine Br.non (by first | decide | assumption | (apply decide_eq_false; omega)) ?_
                    | refine Br.cond_ff ?_
                    | refine Br.eqT (by omega) ?_
                    | refine Br.eqF (by omega) ?_
                    | refine Br.neT (by omega) ?_
                    | refine Br.neF (by omega) ?_
                    | refine Ld.mk' _ rfl ?_
                    | refine Need.mk (by first | decide | omega | kernel_rfl) ?_
                    | refine Nm.i64 (by omega) ?_
                    | refine Nm.u64 (by omega) ?_
                    | refine Nm.u8 (by omega) ?_)
                | refine Br.yes (by simp [q2]) ?_
                | (refine x_exq (TTok _ _) ?_; (conv => whnf); fail_if_success (guard_target =ₛ False)))
            all_goals (conv => whnf)
            all_goals first | rfl | simp [val, q2]
          · have hr : rtB s N = false := decide_eq_false fun h => q2 h.2.2.2
            rw [hr]
            generalize lbPos s N = p at p0 p1 hb q1 q2
            repeat' (
              (conv => whnf)
              first
                | (with_reducible first
                    | refine TR.seq ?_
                    | refine TR.region (TTok _ _) ?_
                    | refine TR.drawn (TTok _ _) mixed ?_
                    | refine TR.block ?_
                    | refine TR.ret ?_
                    | refine TR.exit ?_
                    | refine TR.skip ?_
                    | refine TR.condB rfl ?_
                    | refine Br.cond_t ?_
                    | refine Br.cond_f ?_
                    | refine Br.yes (by first | decide | assumption | (apply decide_eq_true; omega)) ?_
                    | refine Br.non (by first | decide | assumption | (apply decide_eq_false; omega)) ?_
                    | refine Br.cond_ff ?_
                    | refine Br.eqT (by omega) ?_
                    | refine Br.eqF (by omega) ?_
                    | refine Br.neT (by omega) ?_
                    | refine Br.neF (by omega) ?_
                    | refine Ld.mk' _ rfl ?_
                    | refine Need.mk (by first | decide | omega | kernel_rfl) ?_
                    | refine Nm.i64 (by omega) ?_
                    | refine Nm.u64 (by omega) ?_
                    | refine Nm.u8 (by omega) ?_)
                | (refine x_exq (TTok _ _) ?_; (conv => whnf); fail_if_success (guard_target =ₛ False)))
            all_goals (conv => whnf)
            all_goals first | rfl | simp [val, q2]
        · have hr : rtB s N = false := decide_eq_false fun h => q1 h.2.2.1
          rw [hr]
          generalize lbPos s N = p at p0 p1 hb q1
          repeat' (
            (conv => whnf)
            first
              | (with_reducible first
                  | refine TR.seq ?_
                  | refine TR.region (TTok _ _) ?_
                  | refine TR.drawn (TTok _ _) mixed ?_
                  | refine TR.block ?_
                  | refine TR.ret ?_
                  | refine TR.exit ?_
                  | refine TR.skip ?_
                  | refine TR.condB rfl ?_
                  | refine Br.cond_t ?_
                  | refine Br.cond_f ?_
                  | refine Br.yes (by first | decide | assumption | (apply decide_eq_true; omega)) ?_
                  | refine Br.non (by first | decide | assumption | (apply decide_eq_false; omega)) ?_
                  | refine Br.cond_ff ?_
                  | refine Br.eqT (by omega) ?_
                  | refine Br.eqF (by omega) ?_
                  | refine Br.neT (by omega) ?_
                  | refine Br.neF (by omega) ?_
                  | refine Ld.mk' _ rfl ?_
                  | refine Need.mk (by first | decide | omega | kernel_rfl) ?_
                  | refine Nm.i64 (by omega) ?_
                  | refine Nm.u64 (by omega) ?_
                  | refine Nm.u8 (by omega) ?_)
              | (refine x_exq (TTok _ _) ?_; (conv => whnf); fail_if_success (guard_target =ₛ False)))
          all_goals (conv => whnf)
          all_goals rfl
end Go.Proofs.YtbladfkakmdigaaGreatDoor
set_option maxRecDepth 100000
set_option linter.unusedVariables false
namespace Go.Proofs.YtbladfkakmdigaaGreatDoor
open Go.SX
/-! ### ref01.Labels, ref01.Right -/
def tuQ (b : Bool) (v : Value) : Prop := ∃ x, v = .tuple #[x, .bool b]
theorem Fin.tu {w0 : World} {b : Bool} {a : AV} {s : St} : Fin w0 (fun _ v => tuQ b v) (.tup [a, .v (.bool b)]) s :=
  ⟨fun w' ρ v _ hr => by
    simp only [rel] at hr
    obtain ⟨xs, rfl, hr⟩ := hr
    obtain ⟨l⟩ := xs
    match l, hr with
    | [x, y], hr =>
      simp only [relL, rel] at hr
      obtain ⟨_, rfl, _⟩ := hr
      exact ⟨x, rfl⟩
    | [], hr => simp [relL] at hr
    | [_], hr => simp [relL] at hr
    | _ :: _ :: _ :: _, hr => simp [relL] at hr⟩
theorem Fin.tv {w0 : World} {b : Bool} {x : Value} {s : St} : Fin w0 (fun _ v => tuQ b v) (.v (.tuple #[x, .bool b])) s :=
  ⟨fun w' ρ v _ hr => by
    simp only [rel] at hr
    exact ⟨x, hr⟩⟩
theorem RetQ.tu {P : Program} {f : FuncId} {args : List Value} {w : World} {b : Bool} (h : RetQ P f args w fun _ v => tuQ b v) : RetA P f args w (.tup [.dead, .v (.bool b)]) :=
  ⟨h.has, h.run.mono fun e w' ⟨v, h1, h2, x, h3⟩ => ⟨v, h1, fun vs ez ρ => by rw [h3]; simp [rel, relL], h2⟩⟩
def spA (c : Nat) : Option (Nat × Nat × List ByteArray) → AV
  | none => .v (.slice none 0 0)
  | some y => .sl c y.1 0 y.2.1
def spC (c : Nat) : Option (Nat × Nat × List ByteArray) → List (Nat × Chunk)
  | none => []
  | some y => [(c, ⟨.row, 9, 1, y.1, (y.2.2.map Value.string).map .v⟩)]
def spN (k : Nat) : Option (Nat × Nat × List ByteArray) → Prop
  | none => True
  | some y => y.2.1 = y.2.2.length ∧ y.2.1 ≤ k
theorem ckapp' (k : CK) (ty es v : Nat) (a : List ByteArray) (p : ByteArray) : Chunk.mk k ty es v ((a.map Value.string).map .v ++ [.v (.string p)]) = Chunk.mk k ty es v (((a ++ [p]).map Value.string).map .v) := by simp
theorem LbN.bound {s : ByteArray} {N : Nat} (h : LbN s N) : ∀ k, k ≤ N → (k : Int) ≤ lbPos s k
  | 0, _ => by simp [lbPos]
  | k + 1, hk => by
    have := LbN.bound h k (by omega)
    have h2 := (h.ok k (by omega)).2.1
    have h3 := bAt_range s (lbPos s k)
    simp only [lbPos]
    omega
set_option maxHeartbeats 8000000 in
theorem rlabels_ret (s : ByteArray) (hs : s.size < 4294967281) (N : Nat) (hN : LbN s N) (w : World) : RetA Tryz.prog 178 [.string s] w (.tup [.dead, .v (.bool (rtB s N))]) := by
  refine RetQ.tu ?_
  refine RetQ.of (I := fun _ => True) (fun _ _ => trivial) (TTok 0 _) Tryz.func178 (by kernel_rfl) rfl rfl ?_
  by_cases z1 : 255 < s.size
  · have hb : rtB s N = false := decide_eq_false (by omega)
    rw [hb]
    repeat' (
      (conv => whnf)
      first
        | (with_reducible first
            | refine TR.seq ?_
            | refine TR.region (TTok _ _) ?_
            | refine TR.drawn (TTok _ _) mixed ?_
            | refine TR.block ?_
            | refine TR.ret ?_
            | refine TR.exit ?_
            | refine TR.skip ?_
            | refine TR.condB rfl ?_
            | refine Br.cond_t ?_
            | refine Br.cond_f ?_
            | refine Br.yes (by first | decide | assumption | (apply decide_eq_true; omega)) ?_
            | refine Br.non (by first | decide | assumption | (apply decide_eq_false; omega)) ?_
            | refine Br.cond_ff ?_
            | refine Br.eqT (by omega) ?_
            | refine Br.eqF (by omega) ?_
            | refine Br.neT (by omega) ?_
            | refine Br.neF (by omega) ?_
            | refine Ld.mk' _ rfl ?_
            | refine Need.mk (by first | decide | omega | kernel_rfl) ?_
            | refine Nm.i64 (by omega) ?_
            | refine Nm.u64 (by omega) ?_
            | refine Nm.u8 (by omega) ?_)
        | (refine x_exq (TTok _ _) ?_; (conv => whnf); fail_if_success (guard_target =ₛ False)))
    all_goals (conv => whnf)
    all_goals first | exact Fin.tv | exact Fin.tu
  · skip
    repeat' (
      (conv => whnf)
      first
        | (with_reducible first
            | refine TR.seq ?_
            | refine TR.region (TTok _ _) ?_
            | refine TR.drawn (TTok _ _) mixed ?_
            | refine TR.block ?_
            | refine TR.ret ?_
            | refine TR.exit ?_
            | refine TR.skip ?_
            | refine TR.condB rfl ?_
            | refine Br.cond_t ?_
            | refine Br.cond_f ?_
            | refine Br.yes (by first | decide | assumption | (apply decide_eq_true; omega)) ?_
            | refine Br.non (by first | decide | assumption | (apply decide_eq_false; omega)) ?_
            | refine Br.cond_ff ?_
            | refine Br.eqT (by omega) ?_
            | refine Br.eqF (by omega) ?_
            | refine Br.neT (by omega) ?_
            | refine Br.neF (by omega) ?_
            | refine Ld.mk' _ rfl ?_
            | refine Need.mk (by first | decide | omega | kernel_rfl) ?_
            | refine Nm.i64 (by omega) ?_
            | refine Nm.u64 (by omega) ?_
            | refine Nm.u8 (by omega) ?_)
        | (refine x_exq (TTok _ _) ?_; (conv => whnf); fail_if_success (guard_target =ₛ False)))
    refine TR.loopH (fun x : Nat × Option (Nat × Nat × List ByteArray) => [(4, spA 51 x.2), (5, .v (.int .i64 (lbPos s x.1)))]) (fun x => spC 51 x.2) (fun x => x.1 ≤ N ∧ spN x.1 x.2) (fun x => N - x.1) (0, none) ⟨Nat.zero_le _, trivial⟩ ?_ ?_
    · repeat' ((conv => whnf); first | exact trivial | exact Fgt.nil | exact Fgt.mk rfl rfl rfl | refine And.intro rfl ?_ | refine And.intro ?_ ?_)
    · rintro ⟨k, g⟩ ⟨hk, gn⟩
      dsimp only at hk gn ⊢
      have p0 := lbPos_nn s k
      have p1 := hN.le k hk
      have p2 := hN.bound k hk
      have hb := bAt_range s (lbPos s k)
      have hsb : (s.size : Int) < 256 := by omega
      by_cases hkN : k < N
      · obtain ⟨o1, o2, o3, o4⟩ := hN.ok k hkN
        have hnx : lbPos s (k + 1) = lbPos s k + 1 + bAt s (lbPos s k) := rfl
        obtain ⟨lab, hlab⟩ : ∃ lab, lbS s k = lab := ⟨_, rfl⟩
        unfold lbS at hlab
        rcases g with _ | ⟨gv, gm, gp⟩
        · skip
          repeat' (
            (conv => whnf)
            first
              | (with_reducible first
                  | refine TR.seq ?_
                  | refine TR.region (TTok _ _) ?_
                  | refine TR.drawn (TTok _ _) mixed ?_
                  | refine TR.block ?_
                  | refine TR.ret ?_
                  | refine TR.exit ?_
                  | refine TR.skip ?_
                  | refine TR.condB rfl ?_
                  | refine Br.cond_t ?_
                  | refine Br.cond_f ?_
                  | refine Br.yes (by first | decide | assumption | (apply decide_eq_true; omega)) ?_
                  | refine Br.non (by first | decide | assumption | (apply decide_eq_false; omega)) ?_
                  | refine Br.cond_ff ?_
                  | refine Br.eqT (by omega) ?_
                  | refine Br.eqF (by omega) ?_
                  | refine Br.neT (by omega) ?_
                  | refine Br.neF (by omega) ?_
                  | refine Ld.mk' _ rfl ?_
                  | refine Need.mk (by first | decide | omega | kernel_rfl) ?_
                  | refine Nm.i64 (by omega) ?_
                  | refine Nm.u64 (by omega) ?_
                  | refine Nm.u8 (by omega) ?_)
              | refine Nm.mk' lab hlab ?_
              | refine x_append_nil (X := ⟨Tryz.prog, TT, 0, fun _ => True⟩) (TTok _ _) (d := 51) (c0 := 0) (t := 95) (e := 9) (m := 1) (cr := [(50, some ⟨.row, 9, 1, 0, [.v (.string lab)]⟩)]) (l := [.v (.string lab)]) rfl rfl rfl rfl rfl rfl (Nat.zero_lt_succ 0) rfl (by refine Src.sl (dk := ⟨.row, 9, 1, 0, [.v (.string lab)]⟩) (lo := 0) (kd := 0) ?_ ?_ ?_ ?_ ?_ <;> rfl) (by intro i q h; simp only [List.mem_singleton, Prod.mk.injEq] at h; obtain ⟨rfl, rfl⟩ := h; rfl) (by decide) (by decide) ?_
              | refine Br.non (by simpa using o2) ?_
              | (refine x_exq (TTok _ _) ?_; (conv => whnf); fail_if_success (guard_target =ₛ False)))
          all_goals (conv => whnf)
          refine ⟨(k + 1, some (0, 1, [lab])), ⟨by dsimp only; omega, ⟨rfl, by dsimp only; omega⟩⟩, by dsimp only; omega, ?_⟩
          repeat' ((conv => whnf); first | exact trivial | exact Fgt.nil | exact Fgt.mk rfl rfl rfl | exact Fgt.mk rfl (by simp only [noRefC, nr_app, nr_map, noRefL, noRef, Bool.and_self]) rfl | refine And.intro rfl ?_ | refine And.intro (ckapp' _ _ _ _ _ _) ?_ | refine And.intro ?_ ?_)
        · obtain ⟨gn', gn2⟩ : gm = gp.length ∧ gm ≤ k := gn
          have hg1 : gm + 1 ≤ maxLen := by unfold maxLen; omega
          have hg2 : (gm + 1) * 16 ≤ 140737488355328 := by omega
          repeat' (
            (conv => whnf)
            first
              | (with_reducible first
                  | refine TR.seq ?_
                  | refine TR.region (TTok _ _) ?_
                  | refine TR.drawn (TTok _ _) mixed ?_
                  | refine TR.block ?_
                  | refine TR.ret ?_
                  | refine TR.exit ?_
                  | refine TR.skip ?_
                  | refine TR.condB rfl ?_
                  | refine Br.cond_t ?_
                  | refine Br.cond_f ?_
                  | refine Br.yes (by first | decide | assumption | (apply decide_eq_true; omega)) ?_
                  | refine Br.non (by first | decide | assumption | (apply decide_eq_false; omega)) ?_
                  | refine Br.cond_ff ?_
                  | refine Br.eqT (by omega) ?_
                  | refine Br.eqF (by omega) ?_
                  | refine Br.neT (by omega) ?_
                  | refine Br.neF (by omega) ?_
                  | refine Ld.mk' _ rfl ?_
                  | refine Need.mk (by first | decide | omega | kernel_rfl) ?_
                  | refine Nm.i64 (by omega) ?_
                  | refine Nm.u64 (by omega) ?_
                  | refine Nm.u8 (by omega) ?_)
              | refine Nm.mk' lab hlab ?_
              | refine x_append (X := ⟨Tryz.prog, TT, 0, fun _ => True⟩) (TTok _ _) (c := 51) (kv := gv) (t := 95) (e := 9) (n := gm) (m := 1) (ck := ⟨.row, 9, 1, gv, (gp.map Value.string).map .v⟩) (cr := [(50, some ⟨.row, 9, 1, 0, [.v (.string lab)]⟩)]) (l := [.v (.string lab)]) rfl rfl rfl rfl rfl rfl rfl rfl rfl rfl (Nat.zero_lt_succ 0) rfl (by simp [gn']) (by refine Src.sl (dk := ⟨.row, 9, 1, 0, [.v (.string lab)]⟩) (lo := 0) (kd := 0) ?_ ?_ ?_ ?_ ?_ <;> rfl) (by intro i q h; simp only [List.mem_singleton, Prod.mk.injEq] at h; obtain ⟨rfl, rfl⟩ := h; rfl) hg1 hg2 ?_
              | refine Br.non (by simpa using o2) ?_
              | (refine x_exq (TTok _ _) ?_; (conv => whnf); fail_if_success (guard_target =ₛ False)))
          all_goals (conv => whnf)
          refine ⟨(k + 1, some (gv + 1, gm + 1, gp ++ [lab])), ⟨by dsimp only; omega, ⟨by simp [gn'], by dsimp only; omega⟩⟩, by dsimp only; omega, ?_⟩
          repeat' ((conv => whnf); first | exact trivial | exact Fgt.nil | exact Fgt.mk rfl rfl rfl | exact Fgt.mk rfl (by simp only [noRefC, nr_app, nr_map, noRefL, noRef, Bool.and_self]) rfl | refine And.intro rfl ?_ | refine And.intro (ckapp' _ _ _ _ _ _) ?_ | refine And.intro ?_ ?_)
      · obtain rfl : k = N := by omega
        have hst := hN.stop
        by_cases q1 : lbPos s k < s.size
        · by_cases q2 : bAt s (lbPos s k) = 0
          · by_cases q3 : lbPos s k = s.size - 1
            · have hr : rtB s k = true := decide_eq_true ⟨by omega, by omega, q3, q2⟩
              rw [hr]
              generalize lbPos s k = p at p0 p1 p2 hb q1 q2 q3
              rcases g with _ | ⟨gv, gm, gp⟩
              all_goals skip
              all_goals repeat' (
                (conv => whnf)
                first
                  | (with_reducible first
                      | refine TR.seq ?_
                      | refine TR.region (TTok _ _) ?_
                      | refine TR.drawn (TTok _ _) mixed ?_
                      | refine TR.block ?_
                      | refine TR.ret ?_
                      | refine TR.exit ?_
                      | refine TR.skip ?_
                      | refine TR.condB rfl ?_
                      | refine Br.cond_t ?_
                      | refine Br.cond_f ?_
                      | refine Br.yes (by first | decide | assumption | (apply decide_eq_true; omega)) ?_
                      | refine Br.non (by first | decide | assumption | (apply decide_eq_false; omega)) ?_
                      | refine Br.cond_ff ?_
                      | refine Br.eqT (by omega) ?_
                      | refine Br.eqF (by omega) ?_
                      | refine Br.neT (by omega) ?_
                      | refine Br.neF (by omega) ?_
                      | refine Ld.mk' _ rfl ?_
                      | refine Need.mk (by first | decide | omega | kernel_rfl) ?_
                      | refine Nm.i64 (by omega) ?_
                      | refine Nm.u64 (by omega) ?_
                      | refine Nm.u8 (by omega) ?_)
                  | refine Br.yes (by simp [q2]) ?_
                  | refine Br.yes (by simp; omega) ?_
                  | (refine x_exq (TTok _ _) ?_; (conv => whnf); fail_if_success (guard_target =ₛ False)))
              all_goals (conv => whnf)
              all_goals first | exact Fin.tv | exact Fin.tu
            · have hr : rtB s k = false := decide_eq_false fun h => q3 h.2.2.1
              rw [hr]
              generalize lbPos s k = p at p0 p1 p2 hb q1 q2 q3
              rcases g with _ | ⟨gv, gm, gp⟩
              all_goals skip
              all_goals repeat' (
                (conv => whnf)
                first
                  | (with_reducible first
                      | refine TR.seq ?_
                      | refine TR.region (TTok _ _) ?_
                      | refine TR.drawn (TTok _ _) mixed ?_
                      | refine TR.block ?_
                      | refine TR.ret ?_
                      | refine TR.exit ?_
                      | refine TR.skip ?_
                      | refine TR.condB rfl ?_
                      | refine Br.cond_t ?_
                      | refine Br.cond_f ?_
                      | refine Br.yes (by first | decide | assumption | (apply decide_eq_true; omega)) ?_
                      | refine Br.non (by first | decide | assumption | (apply decide_eq_false; omega)) ?_
                      | refine Br.cond_ff ?_
                      | refine Br.eqT (by omega) ?_
                      | refine Br.eqF (by omega) ?_
                      | refine Br.neT (by omega) ?_
                      | refine Br.neF (by omega) ?_
                      | refine Ld.mk' _ rfl ?_
                      | refine Need.mk (by first | decide | omega | kernel_rfl) ?_
                      | refine Nm.i64 (by omega) ?_
                      | refine Nm.u64 (by omega) ?_
                      | refine Nm.u8 (by omega) ?_)
                  | refine Br.yes (by simp [q2]) ?_
                  | refine Br.non (by simp; omega) ?_
                  | (refine x_exq (TTok _ _) ?_; (conv => whnf); fail_if_success (guard_target =ₛ False)))
              all_goals (conv => whnf)
              all_goals first | exact Fin.tv | exact Fin.tu
          · have hr : rtB s k = false := decide_eq_false fun h => q2 h.2.2.2
            rw [hr]
            have q4 : 63 < bAt s (lbPos s k) ∨ (bAt s (lbPos s k) ≤ 63 ∧ (s.size : Int) < lbPos s k + 1 + bAt s (lbPos s k)) := by
              by_cases h3 : bAt s (lbPos s k) ≤ 63
              · by_cases h : lbPos s k + 1 + bAt s (lbPos s k) ≤ s.size
                · exact (hst ⟨q1, q2, h3, h⟩).elim
                · exact .inr ⟨h3, by omega⟩
              · exact .inl (by omega)
            generalize lbPos s k = p at p0 p1 p2 hb q1 q2 q4
            rcases q4 with q4 | ⟨q4, q5⟩
            all_goals rcases g with _ | ⟨gv, gm, gp⟩
            all_goals skip
            all_goals repeat' (
              (conv => whnf)
              first
                | (with_reducible first
                    | refine TR.seq ?_
                    | refine TR.region (TTok _ _) ?_
                    | refine TR.drawn (TTok _ _) mixed ?_
                    | refine TR.block ?_
                    | refine TR.ret ?_
                    | refine TR.exit ?_
                    | refine TR.skip ?_
                    | refine TR.condB rfl ?_
                    | refine Br.cond_t ?_
                    | refine Br.cond_f ?_
                    | refine Br.yes (by first | decide | assumption | (apply decide_eq_true; omega)) ?_
                    | refine Br.non (by first | decide | assumption | (apply decide_eq_false; omega)) ?_
                    | refine Br.cond_ff ?_
                    | refine Br.eqT (by omega) ?_
                    | refine Br.eqF (by omega) ?_
                    | refine Br.neT (by omega) ?_
                    | refine Br.neF (by omega) ?_
                    | refine Ld.mk' _ rfl ?_
                    | refine Need.mk (by first | decide | omega | kernel_rfl) ?_
                    | refine Nm.i64 (by omega) ?_
                    | refine Nm.u64 (by omega) ?_
                    | refine Nm.u8 (by omega) ?_)
                | refine Br.non (by simpa using q2) ?_
                | (refine x_exq (TTok _ _) ?_; (conv => whnf); fail_if_success (guard_target =ₛ False)))
            all_goals (conv => whnf)
            all_goals first | exact Fin.tv | exact Fin.tu
        · have hr : rtB s k = false := decide_eq_false fun h => by have := h.2.2.1; omega
          rw [hr]
          generalize lbPos s k = p at p0 p1 p2 hb q1
          rcases g with _ | ⟨gv, gm, gp⟩
          all_goals skip
          all_goals repeat' (
            (conv => whnf)
            first
              | (with_reducible first
                  | refine TR.seq ?_
                  | refine TR.region (TTok _ _) ?_
                  | refine TR.drawn (TTok _ _) mixed ?_
                  | refine TR.block ?_
                  | refine TR.ret ?_
                  | refine TR.exit ?_
                  | refine TR.skip ?_
                  | refine TR.condB rfl ?_
                  | refine Br.cond_t ?_
                  | refine Br.cond_f ?_
                  | refine Br.yes (by first | decide | assumption | (apply decide_eq_true; omega)) ?_
                  | refine Br.non (by first | decide | assumption | (apply decide_eq_false; omega)) ?_
                  | refine Br.cond_ff ?_
                  | refine Br.eqT (by omega) ?_
                  | refine Br.eqF (by omega) ?_
                  | refine Br.neT (by omega) ?_
                  | refine Br.neF (by omega) ?_
                  | refine Ld.mk' _ rfl ?_
                  | refine Need.mk (by first | decide | omega | kernel_rfl) ?_
                  | refine Nm.i64 (by omega) ?_
                  | refine Nm.u64 (by omega) ?_
                  | refine Nm.u8 (by omega) ?_)
              | (refine x_exq (TTok _ _) ?_; (conv => whnf); fail_if_success (guard_target =ₛ False)))
          all_goals (conv => whnf)
          all_goals first | exact Fin.tv | exact Fin.tu
theorem rright_ret (s : ByteArray) (hs : s.size < 4294967281) (N : Nat) (hN : LbN s N) (w : World) : Ret Tryz.prog 94 [.string s] w (.bool (rtB s N)) := by
  have h178 := fun w => rlabels_ret s hs N hN w
  generalize rtB s N = b at h178
  refine Ret.tj (I := fun _ => True) (fun _ _ => trivial) (TTok 0 _) Tryz.func94 (by kernel_rfl) rfl ?_
  repeat' (
    (conv => whnf)
    first
      | (with_reducible first
          | refine TJ.seq ?_
          | refine TJ.region (TTok _ _) ?_
          | refine TJ.drawn (TTok _ _) mixed ?_
          | refine TJ.cond rfl ?_
          | refine TJ.block ?_
          | refine TJ.loop ?_
          | refine LJ.step ?_
          | refine TJ.ret ?_
          | refine TJ.exit ?_
          | refine TJ.skip ?_
          | refine TJ.scope ?_
          | refine TJ.label ?_
          | refine Br.cond_t ?_
          | refine Br.cond_f ?_
          | refine Br.yes (by first | decide | assumption | (apply decide_eq_true; omega)) ?_
          | refine Br.non (by first | decide | assumption | (apply decide_eq_false; omega)) ?_
          | refine Br.cond_ff ?_
          | refine Br.eqT (by omega) ?_
          | refine Br.eqF (by omega) ?_
          | refine Br.neT (by omega) ?_
          | refine Br.neF (by omega) ?_
          | refine Ld.mk' _ rfl ?_
          | refine Need.mk (by first | decide | omega | kernel_rfl) ?_
          | refine Nm.i64 (by omega) ?_
          | refine Nm.u64 (by omega) ?_
          | refine Nm.u8 (by omega) ?_
          | refine x_retA (f := 178) rfl rfl (fun w _ => h178 w) ?_)
      | (refine x_exq (TTok _ _) ?_; (conv => whnf); fail_if_success (guard_target =ₛ False)))
  all_goals (conv => whnf)
  all_goals rfl
end Go.Proofs.YtbladfkakmdigaaGreatDoor
set_option maxRecDepth 100000
set_option linter.unusedVariables false
namespace Go.Proofs.YtbladfkakmdigaaGreatDoor
open Go.SX
/-! ### Numbers as bytes -/
def by8 (v d : Int) : Int := IntKind.u8.wrap (v / d)
def be1 (v : Int) : List Int := [by8 v 1]
def be2 (v : Int) : List Int := [by8 v 256, by8 v 1]
def be4 (v : Int) : List Int := [by8 v 16777216, by8 v 65536, by8 v 256, by8 v 1]
theorem num1_ret (v : Int) (w : World) : Ret Tryz.prog 96 [.int .i64 v, .int .i64 1] w (.string (strOfNums (be1 v))) := by
  refine Ret.tj (I := fun _ => True) (fun _ _ => trivial) (TTok 0 _) Tryz.func96 (by kernel_rfl) rfl ?_
  repeat' (
    (conv => whnf)
    first
      | (with_reducible first
          | refine TJ.seq ?_
          | refine TJ.region (TTok _ _) ?_
          | refine TJ.drawn (TTok _ _) mixed ?_
          | refine TJ.cond rfl ?_
          | refine TJ.block ?_
          | refine TJ.loop ?_
          | refine LJ.step ?_
          | refine TJ.ret ?_
          | refine TJ.exit ?_
          | refine TJ.skip ?_
          | refine TJ.scope ?_
          | refine TJ.label ?_
          | refine Br.cond_t ?_
          | refine Br.cond_f ?_
          | refine Br.yes (by first | decide | assumption | (apply decide_eq_true; omega)) ?_
          | refine Br.non (by first | decide | assumption | (apply decide_eq_false; omega)) ?_
          | refine Br.cond_ff ?_
          | refine Br.eqT (by omega) ?_
          | refine Br.eqF (by omega) ?_
          | refine Br.neT (by omega) ?_
          | refine Br.neF (by omega) ?_
          | refine Ld.mk' _ rfl ?_
          | refine Need.mk (by first | decide | omega | kernel_rfl) ?_
          | refine Nm.i64 (by omega) ?_
          | refine Nm.u64 (by omega) ?_
          | refine Nm.u8 (by omega) ?_
          | refine Sh.shrL ?_
          | refine Sh.shlL ?_
          | refine Nm.fd (by decide) ?_)
      | refine Nm.keep ?_
      | (refine x_exq (TTok _ _) ?_; (conv => whnf); fail_if_success (guard_target =ₛ False)))
  all_goals (conv => whnf)
  all_goals rfl
theorem num2_ret (v : Int) (w : World) : Ret Tryz.prog 96 [.int .i64 v, .int .i64 2] w (.string (strOfNums (be2 v))) := by
  refine Ret.tj (I := fun _ => True) (fun _ _ => trivial) (TTok 0 _) Tryz.func96 (by kernel_rfl) rfl ?_
  repeat' (
    (conv => whnf)
    first
      | (with_reducible first
          | refine TJ.seq ?_
          | refine TJ.region (TTok _ _) ?_
          | refine TJ.drawn (TTok _ _) mixed ?_
          | refine TJ.cond rfl ?_
          | refine TJ.block ?_
          | refine TJ.loop ?_
          | refine LJ.step ?_
          | refine TJ.ret ?_
          | refine TJ.exit ?_
          | refine TJ.skip ?_
          | refine TJ.scope ?_
          | refine TJ.label ?_
          | refine Br.cond_t ?_
          | refine Br.cond_f ?_
          | refine Br.yes (by first | decide | assumption | (apply decide_eq_true; omega)) ?_
          | refine Br.non (by first | decide | assumption | (apply decide_eq_false; omega)) ?_
          | refine Br.cond_ff ?_
          | refine Br.eqT (by omega) ?_
          | refine Br.eqF (by omega) ?_
          | refine Br.neT (by omega) ?_
          | refine Br.neF (by omega) ?_
          | refine Ld.mk' _ rfl ?_
          | refine Need.mk (by first | decide | omega | kernel_rfl) ?_
          | refine Nm.i64 (by omega) ?_
          | refine Nm.u64 (by omega) ?_
          | refine Nm.u8 (by omega) ?_
          | refine Sh.shrL ?_
          | refine Sh.shlL ?_
          | refine Nm.fd (by decide) ?_)
      | refine Nm.keep ?_
      | (refine x_exq (TTok _ _) ?_; (conv => whnf); fail_if_success (guard_target =ₛ False)))
  all_goals (conv => whnf)
  all_goals rfl
theorem num4_ret (v : Int) (w : World) : Ret Tryz.prog 96 [.int .i64 v, .int .i64 4] w (.string (strOfNums (be4 v))) := by
  refine Ret.tj (I := fun _ => True) (fun _ _ => trivial) (TTok 0 _) Tryz.func96 (by kernel_rfl) rfl ?_
  repeat' (
    (conv => whnf)
    first
      | (with_reducible first
          | refine TJ.seq ?_
          | refine TJ.region (TTok _ _) ?_
          | refine TJ.drawn (TTok _ _) mixed ?_
          | refine TJ.cond rfl ?_
          | refine TJ.block ?_
          | refine TJ.loop ?_
          | refine LJ.step ?_
          | refine TJ.ret ?_
          | refine TJ.exit ?_
          | refine TJ.skip ?_
          | refine TJ.scope ?_
          | refine TJ.label ?_
          | refine Br.cond_t ?_
          | refine Br.cond_f ?_
          | refine Br.yes (by first | decide | assumption | (apply decide_eq_true; omega)) ?_
          | refine Br.non (by first | decide | assumption | (apply decide_eq_false; omega)) ?_
          | refine Br.cond_ff ?_
          | refine Br.eqT (by omega) ?_
          | refine Br.eqF (by omega) ?_
          | refine Br.neT (by omega) ?_
          | refine Br.neF (by omega) ?_
          | refine Ld.mk' _ rfl ?_
          | refine Need.mk (by first | decide | omega | kernel_rfl) ?_
          | refine Nm.i64 (by omega) ?_
          | refine Nm.u64 (by omega) ?_
          | refine Nm.u8 (by omega) ?_
          | refine Sh.shrL ?_
          | refine Sh.shlL ?_
          | refine Nm.fd (by decide) ?_)
      | refine Nm.keep ?_
      | (refine x_exq (TTok _ _) ?_; (conv => whnf); fail_if_success (guard_target =ₛ False)))
  all_goals (conv => whnf)
  all_goals rfl
def fit (v m : Int) : Bool := decide (0 ≤ v ∧ v < m)
theorem fits_ret (v m : Int) (n : Int) (hn : (n = 1 ∧ m = 256) ∨ (n = 2 ∧ m = 65536) ∨ (n = 4 ∧ m = 4294967296)) (w : World) : Ret Tryz.prog 95 [.int .i64 v, .int .i64 n] w (.bool (fit v m)) := by
  by_cases h0 : 0 ≤ v
  · by_cases h1 : v < m
    · have hf : fit v m = true := decide_eq_true ⟨h0, h1⟩
      rw [hf]
      rcases hn with ⟨rfl, rfl⟩ | ⟨rfl, rfl⟩ | ⟨rfl, rfl⟩
      all_goals refine Ret.tj (I := fun _ => True) (fun _ _ => trivial) (TTok 0 _) Tryz.func95 (by kernel_rfl) rfl ?_
      all_goals repeat' (
        (conv => whnf)
        first
          | (with_reducible first
              | refine TJ.seq ?_
              | refine TJ.region (TTok _ _) ?_
              | refine TJ.drawn (TTok _ _) mixed ?_
              | refine TJ.cond rfl ?_
              | refine TJ.block ?_
              | refine TJ.loop ?_
              | refine LJ.step ?_
              | refine TJ.ret ?_
              | refine TJ.exit ?_
              | refine TJ.skip ?_
              | refine TJ.scope ?_
              | refine TJ.label ?_
              | refine Br.cond_t ?_
              | refine Br.cond_f ?_
              | refine Br.yes (by first | decide | assumption | (apply decide_eq_true; omega)) ?_
              | refine Br.non (by first | decide | assumption | (apply decide_eq_false; omega)) ?_
              | refine Br.cond_ff ?_
              | refine Br.eqT (by omega) ?_
              | refine Br.eqF (by omega) ?_
              | refine Br.neT (by omega) ?_
              | refine Br.neF (by omega) ?_
              | refine Ld.mk' _ rfl ?_
              | refine Need.mk (by first | decide | omega | kernel_rfl) ?_
              | refine Nm.i64 (by omega) ?_
              | refine Nm.u64 (by omega) ?_
              | refine Nm.u8 (by omega) ?_
              | refine Sh.shrL ?_
              | refine Sh.shlL ?_
              | refine Nm.fd (by decide) ?_)
          | refine Nm.keep ?_
          | (refine x_exq (TTok _ _) ?_; (conv => whnf); fail_if_success (guard_target =ₛ False)))
      all_goals (conv => whnf)
      all_goals first | rfl | (simp [val]; omega)
    · have hf : fit v m = false := decide_eq_false fun h => h1 h.2
      rw [hf]
      rcases hn with ⟨rfl, rfl⟩ | ⟨rfl, rfl⟩ | ⟨rfl, rfl⟩
      all_goals refine Ret.tj (I := fun _ => True) (fun _ _ => trivial) (TTok 0 _) Tryz.func95 (by kernel_rfl) rfl ?_
      all_goals repeat' (
        (conv => whnf)
        first
          | (with_reducible first
              | refine TJ.seq ?_
              | refine TJ.region (TTok _ _) ?_
              | refine TJ.drawn (TTok _ _) mixed ?_
              | refine TJ.cond rfl ?_
              | refine TJ.block ?_
              | refine TJ.loop ?_
              | refine LJ.step ?_
              | refine TJ.ret ?_
              | refine TJ.exit ?_
              | refine TJ.skip ?_
              | refine TJ.scope ?_
              | refine TJ.label ?_
              | refine Br.cond_t ?_
              | refine Br.cond_f ?_
              | refine Br.yes (by first | decide | assumption | (apply decide_eq_true; omega)) ?_
              | refine Br.non (by first | decide | assumption | (apply decide_eq_false; omega)) ?_
              | refine Br.cond_ff ?_
              | refine Br.eqT (by omega) ?_
              | refine Br.eqF (by omega) ?_
              | refine Br.neT (by omega) ?_
              | refine Br.neF (by omega) ?_
              | refine Ld.mk' _ rfl ?_
              | refine Need.mk (by first | decide | omega | kernel_rfl) ?_
              | refine Nm.i64 (by omega) ?_
              | refine Nm.u64 (by omega) ?_
              | refine Nm.u8 (by omega) ?_
              | refine Sh.shrL ?_
              | refine Sh.shlL ?_
              | refine Nm.fd (by decide) ?_)
          | refine Nm.keep ?_
          | (refine x_exq (TTok _ _) ?_; (conv => whnf); fail_if_success (guard_target =ₛ False)))
      all_goals (conv => whnf)
      all_goals first | rfl | (simp [val]; omega)
  · have hf : fit v m = false := decide_eq_false fun h => h0 h.1
    rw [hf]
    rcases hn with ⟨rfl, rfl⟩ | ⟨rfl, rfl⟩ | ⟨rfl, rfl⟩
    all_goals refine Ret.tj (I := fun _ => True) (fun _ _ => trivial) (TTok 0 _) Tryz.func95 (by kernel_rfl) rfl ?_
    all_goals repeat' (
      (conv => whnf)
      first
        | (with_reducible first
            | refine TJ.seq ?_
            | refine TJ.region (TTok _ _) ?_
            | refine TJ.drawn (TTok _ _) mixed ?_
            | refine TJ.cond rfl ?_
            | refine TJ.block ?_
            | refine TJ.loop ?_
            | refine LJ.step ?_
            | refine TJ.ret ?_
            | refine TJ.exit ?_
            | refine TJ.skip ?_
            | refine TJ.scope ?_
            | refine TJ.label ?_
            | refine Br.cond_t ?_
            | refine Br.cond_f ?_
            | refine Br.yes (by first | decide | assumption | (apply decide_eq_true; omega)) ?_
            | refine Br.non (by first | decide | assumption | (apply decide_eq_false; omega)) ?_
            | refine Br.cond_ff ?_
            | refine Br.eqT (by omega) ?_
            | refine Br.eqF (by omega) ?_
            | refine Br.neT (by omega) ?_
            | refine Br.neF (by omega) ?_
            | refine Ld.mk' _ rfl ?_
            | refine Need.mk (by first | decide | omega | kernel_rfl) ?_
            | refine Nm.i64 (by omega) ?_
            | refine Nm.u64 (by omega) ?_
            | refine Nm.u8 (by omega) ?_
            | refine Sh.shrL ?_
            | refine Sh.shlL ?_
            | refine Nm.fd (by decide) ?_)
        | refine Nm.keep ?_
        | (refine x_exq (TTok _ _) ?_; (conv => whnf); fail_if_success (guard_target =ₛ False)))
    all_goals (conv => whnf)
    all_goals first | rfl | (simp [val]; omega)
def shV (s : ByteArray) (ok : Bool) : Value := if ok = true ∧ s.size ≤ 2000 then .tuple #[.string s, .bool true] else .tuple #[.string ⟨#[]⟩, .bool false]
theorem short_ret (s : ByteArray) (ok : Bool) (w : World) : Ret Tryz.prog 98 [.string s, .bool ok] w (shV s ok) := by
  unfold shV
  cases ok with
  | false =>
    rw [if_neg (by simp)]
    refine Ret.tj (I := fun _ => True) (fun _ _ => trivial) (TTok 0 _) Tryz.func98 (by kernel_rfl) rfl ?_
    repeat' (
      (conv => whnf)
      first
        | (with_reducible first
            | refine TJ.seq ?_
            | refine TJ.region (TTok _ _) ?_
            | refine TJ.drawn (TTok _ _) mixed ?_
            | refine TJ.cond rfl ?_
            | refine TJ.block ?_
            | refine TJ.loop ?_
            | refine LJ.step ?_
            | refine TJ.ret ?_
            | refine TJ.exit ?_
            | refine TJ.skip ?_
            | refine TJ.scope ?_
            | refine TJ.label ?_
            | refine Br.cond_t ?_
            | refine Br.cond_f ?_
            | refine Br.yes (by first | decide | assumption | (apply decide_eq_true; omega)) ?_
            | refine Br.non (by first | decide | assumption | (apply decide_eq_false; omega)) ?_
            | refine Br.cond_ff ?_
            | refine Br.eqT (by omega) ?_
            | refine Br.eqF (by omega) ?_
            | refine Br.neT (by omega) ?_
            | refine Br.neF (by omega) ?_
            | refine Ld.mk' _ rfl ?_
            | refine Need.mk (by first | decide | omega | kernel_rfl) ?_
            | refine Nm.i64 (by omega) ?_
            | refine Nm.u64 (by omega) ?_
            | refine Nm.u8 (by omega) ?_)
        | (refine x_exq (TTok _ _) ?_; (conv => whnf); fail_if_success (guard_target =ₛ False)))
    all_goals (conv => whnf)
    all_goals rfl
  | true =>
    by_cases h : s.size ≤ 2000
    · rw [if_pos ⟨rfl, h⟩]
      refine Ret.tj (I := fun _ => True) (fun _ _ => trivial) (TTok 0 _) Tryz.func98 (by kernel_rfl) rfl ?_
      repeat' (
        (conv => whnf)
        first
          | (with_reducible first
              | refine TJ.seq ?_
              | refine TJ.region (TTok _ _) ?_
              | refine TJ.drawn (TTok _ _) mixed ?_
              | refine TJ.cond rfl ?_
              | refine TJ.block ?_
              | refine TJ.loop ?_
              | refine LJ.step ?_
              | refine TJ.ret ?_
              | refine TJ.exit ?_
              | refine TJ.skip ?_
              | refine TJ.scope ?_
              | refine TJ.label ?_
              | refine Br.cond_t ?_
              | refine Br.cond_f ?_
              | refine Br.yes (by first | decide | assumption | (apply decide_eq_true; omega)) ?_
              | refine Br.non (by first | decide | assumption | (apply decide_eq_false; omega)) ?_
              | refine Br.cond_ff ?_
              | refine Br.eqT (by omega) ?_
              | refine Br.eqF (by omega) ?_
              | refine Br.neT (by omega) ?_
              | refine Br.neF (by omega) ?_
              | refine Ld.mk' _ rfl ?_
              | refine Need.mk (by first | decide | omega | kernel_rfl) ?_
              | refine Nm.i64 (by omega) ?_
              | refine Nm.u64 (by omega) ?_
              | refine Nm.u8 (by omega) ?_)
          | (refine x_exq (TTok _ _) ?_; (conv => whnf); fail_if_success (guard_target =ₛ False)))
      all_goals (conv => whnf)
      all_goals rfl
    · rw [if_neg fun e => h e.2]
      refine Ret.tj (I := fun _ => True) (fun _ _ => trivial) (TTok 0 _) Tryz.func98 (by kernel_rfl) rfl ?_
      repeat' (
        (conv => whnf)
        first
          | (with_reducible first
              | refine TJ.seq ?_
              | refine TJ.region (TTok _ _) ?_
              | refine TJ.drawn (TTok _ _) mixed ?_
              | refine TJ.cond rfl ?_
              | refine TJ.block ?_
              | refine TJ.loop ?_
              | refine LJ.step ?_
              | refine TJ.ret ?_
              | refine TJ.exit ?_
              | refine TJ.skip ?_
              | refine TJ.scope ?_
              | refine TJ.label ?_
              | refine Br.cond_t ?_
              | refine Br.cond_f ?_
              | refine Br.yes (by first | decide | assumption | (apply decide_eq_true; omega)) ?_
              | refine Br.non (by first | decide | assumption | (apply decide_eq_false; omega)) ?_
              | refine Br.cond_ff ?_
              | refine Br.eqT (by omega) ?_
              | refine Br.eqF (by omega) ?_
              | refine Br.neT (by omega) ?_
              | refine Br.neF (by omega) ?_
              | refine Ld.mk' _ rfl ?_
              | refine Need.mk (by first | decide | omega | kernel_rfl) ?_
              | refine Nm.i64 (by omega) ?_
              | refine Nm.u64 (by omega) ?_
              | refine Nm.u8 (by omega) ?_)
          | (refine x_exq (TTok _ _) ?_; (conv => whnf); fail_if_success (guard_target =ₛ False)))
      all_goals (conv => whnf)
      all_goals rfl
end Go.Proofs.YtbladfkakmdigaaGreatDoor
set_option maxRecDepth 100000
set_option linter.unusedVariables false
set_option linter.unusedSimpArgs false
namespace Go.Proofs.YtbladfkakmdigaaGreatDoor
open Go.SX
/-! ### OfKey, OfDs, twice -/
theorem sz_nums (l : List Int) : (strOfNums l).size = l.length := by
  unfold strOfNums
  simp [ByteArray.size]
theorem nums_app (l r : List Int) : strOfNums l ++ strOfNums r = strOfNums (l ++ r) := by
  apply ba_ext
  unfold strOfNums
  simp [ByteArray.data_append]
def kdB (a b c : Int) (s : ByteArray) : Bool := fit a 65536 && fit b 256 && fit c 256 && decide (0 < s.size)
def kdS (a b c : Int) (s : ByteArray) : ByteArray := strOfNums (be2 a) ++ strOfNums (be1 b) ++ strOfNums (be1 c) ++ s
theorem kdS_eq (a b c : Int) (s : ByteArray) : kdS a b c s = strOfNums (by8 a 256 :: by8 a 1 :: by8 b 1 :: by8 c 1 :: sInts s) := by
  unfold kdS
  conv => lhs; rw [← strOf_sInts s]
  rw [nums_app, nums_app, nums_app]
  rfl
theorem kdS_size (a b c : Int) (s : ByteArray) : (kdS a b c s).size = 4 + s.size := by
  rw [kdS_eq, sz_nums]
  simp [sInts_length]
  omega
theorem sub_byt (l : List Int) (s : ByteArray) (n : Nat) (h : l.length = n) : subL (byt l ++ byt (sInts s)) 0 (n + s.size) = some (byt (l ++ sInts s)) := by
  have e : byt l ++ byt (sInts s) = byt (l ++ sInts s) := by simp [byt]
  have h2 := subL_all' (byt (l ++ sInts s))
  rw [e]
  have h3 : (byt (l ++ sInts s)).length = n + s.size := by simp [byt, sInts_length, h]
  rwa [h3] at h2
def dsV (s : ByteArray) (ok : Bool) : Value := if ok = true ∧ s.size ≤ 2000 then .tuple #[.string s, .int .i64 0] else .tuple #[.string ⟨#[]⟩, .int .i64 6]
set_option maxHeartbeats 8000000 in
theorem rofkey_ret (a b c : Int) (s : ByteArray) (hs : s.size < 4294967281) (w : World) : Ret Tryz.prog 39 [.agg #[.int .i64 a, .int .i64 b, .int .i64 c, .string s]] w (shV (kdS a b c s) (kdB a b c s)) := by
  have f1 := fun w => fits_ret a 65536 2 (by simp) w
  have f2 := fun w => fits_ret b 256 1 (by simp) w
  have f3 := fun w => fits_ret c 256 1 (by simp) w
  have n1 := fun w => num2_ret a w
  have n2 := fun w => num1_ret b w
  have n3 := fun w => num1_ret c w
  have hsh : ∀ ok, ok = kdB a b c s → ∀ w, Ret Tryz.prog 98 [.string (kdS a b c s), .bool ok] w (shV (kdS a b c s) (kdB a b c s)) := fun ok e w => by rw [e]; exact short_ret _ _ w
  generalize hV : shV (kdS a b c s) (kdB a b c s) = V at hsh ⊢
  unfold kdS at hsh
  have z1 : (strOfNums (be2 a)).size = 2 := sz_nums _
  have z2 : (strOfNums (be1 b)).size = 1 := sz_nums _
  have z3 : (strOfNums (be1 c)).size = 1 := sz_nums _
  generalize strOfNums (be2 a) = A at n1 hsh z1
  generalize strOfNums (be1 b) = B at n2 hsh z2
  generalize strOfNums (be1 c) = C at n3 hsh z3
  obtain ⟨AB, hAB⟩ : ∃ x, A ++ B = x := ⟨_, rfl⟩
  have zAB : AB.size = 3 := by rw [← hAB, ByteArray.size_append]; omega
  rw [hAB] at hsh
  obtain ⟨ABC, hABC⟩ : ∃ x, AB ++ C = x := ⟨_, rfl⟩
  have zABC : ABC.size = 4 := by rw [← hABC, ByteArray.size_append]; omega
  rw [hABC] at hsh
  obtain ⟨S, hS⟩ : ∃ x, ABC ++ s = x := ⟨_, rfl⟩
  rw [hS] at hsh
  have hV2 : ∃ x y, V = .tuple #[x, y] := by
    rw [← hV]
    unfold shV
    split
    · exact ⟨_, _, rfl⟩
    · exact ⟨_, _, rfl⟩
  obtain ⟨x, y, rfl⟩ := hV2
  clear hV
  unfold kdB at hsh
  cases h1 : fit a 65536 <;> cases h2 : fit b 256 <;> cases h3 : fit c 256
  all_goals rw [h1, h2, h3] at hsh
  all_goals rw [h1] at f1
  all_goals rw [h2] at f2
  all_goals rw [h3] at f3
  all_goals refine Ret.tj (I := fun _ => True) (fun _ _ => trivial) (TTok 0 _) Tryz.func39 (by kernel_rfl) rfl ?_
  all_goals repeat' (
    (conv => whnf)
    first
      | (with_reducible first
          | refine TJ.seq ?_
          | refine TJ.region (TTok _ _) ?_
          | refine TJ.drawn (TTok _ _) mixed ?_
          | refine TJ.cond rfl ?_
          | refine TJ.block ?_
          | refine TJ.loop ?_
          | refine LJ.step ?_
          | refine TJ.ret ?_
          | refine TJ.exit ?_
          | refine TJ.skip ?_
          | refine TJ.scope ?_
          | refine TJ.label ?_
          | refine Br.cond_t ?_
          | refine Br.cond_f ?_
          | refine Br.yes (by first | decide | assumption | (apply decide_eq_true; omega)) ?_
          | refine Br.non (by first | decide | assumption | (apply decide_eq_false; omega)) ?_
          | refine Br.cond_ff ?_
          | refine Br.eqT (by omega) ?_
          | refine Br.eqF (by omega) ?_
          | refine Br.neT (by omega) ?_
          | refine Br.neF (by omega) ?_
          | refine Ld.mk' _ rfl ?_
          | refine Need.mk (by first | decide | omega | kernel_rfl) ?_
          | refine Nm.i64 (by omega) ?_
          | refine Nm.u64 (by omega) ?_
          | refine Nm.u8 (by omega) ?_
          | refine x_ret (f := 95) rfl rfl (fun w _ => f1 w) ?_
          | refine x_ret (f := 95) rfl rfl (fun w _ => f2 w) ?_
          | refine x_ret (f := 95) rfl rfl (fun w _ => f3 w) ?_
          | refine x_ret (f := 96) rfl rfl (fun w _ => n1 w) ?_
          | refine x_ret (f := 96) rfl rfl (fun w _ => n2 w) ?_
          | refine x_ret (f := 96) rfl rfl (fun w _ => n3 w) ?_
          | refine x_ret (f := 98) rfl rfl (fun w _ => hsh _ (by simp) w) ?_)
      | refine Nm.mk' _ hAB ?_
      | refine Nm.mk' _ hABC ?_
      | refine Nm.mk' _ hS ?_
      | (refine x_exq (TTok _ _) ?_; (conv => whnf); fail_if_success (guard_target =ₛ False)))
  all_goals (conv => whnf)
  all_goals rfl
set_option maxHeartbeats 8000000 in
theorem rofds_ret (a b c : Int) (s : ByteArray) (hs : s.size < 4294967281) (w : World) : Ret Tryz.prog 41 [.agg #[.int .i64 a, .int .i64 b, .int .i64 c, .string s]] w (shV (kdS a b c s) (kdB a b c s)) := by
  have f1 := fun w => fits_ret a 65536 2 (by simp) w
  have f2 := fun w => fits_ret b 256 1 (by simp) w
  have f3 := fun w => fits_ret c 256 1 (by simp) w
  have n1 := fun w => num2_ret a w
  have n2 := fun w => num1_ret b w
  have n3 := fun w => num1_ret c w
  have hsh : ∀ ok, ok = kdB a b c s → ∀ w, Ret Tryz.prog 98 [.string (kdS a b c s), .bool ok] w (shV (kdS a b c s) (kdB a b c s)) := fun ok e w => by rw [e]; exact short_ret _ _ w
  generalize hV : shV (kdS a b c s) (kdB a b c s) = V at hsh ⊢
  unfold kdS at hsh
  have z1 : (strOfNums (be2 a)).size = 2 := sz_nums _
  have z2 : (strOfNums (be1 b)).size = 1 := sz_nums _
  have z3 : (strOfNums (be1 c)).size = 1 := sz_nums _
  generalize strOfNums (be2 a) = A at n1 hsh z1
  generalize strOfNums (be1 b) = B at n2 hsh z2
  generalize strOfNums (be1 c) = C at n3 hsh z3
  obtain ⟨AB, hAB⟩ : ∃ x, A ++ B = x := ⟨_, rfl⟩
  have zAB : AB.size = 3 := by rw [← hAB, ByteArray.size_append]; omega
  rw [hAB] at hsh
  obtain ⟨ABC, hABC⟩ : ∃ x, AB ++ C = x := ⟨_, rfl⟩
  have zABC : ABC.size = 4 := by rw [← hABC, ByteArray.size_append]; omega
  rw [hABC] at hsh
  obtain ⟨S, hS⟩ : ∃ x, ABC ++ s = x := ⟨_, rfl⟩
  rw [hS] at hsh
  have hV2 : ∃ x y, V = .tuple #[x, y] := by
    rw [← hV]
    unfold shV
    split
    · exact ⟨_, _, rfl⟩
    · exact ⟨_, _, rfl⟩
  obtain ⟨x, y, rfl⟩ := hV2
  clear hV
  unfold kdB at hsh
  cases h1 : fit a 65536 <;> cases h2 : fit b 256 <;> cases h3 : fit c 256
  all_goals rw [h1, h2, h3] at hsh
  all_goals rw [h1] at f1
  all_goals rw [h2] at f2
  all_goals rw [h3] at f3
  all_goals refine Ret.tj (I := fun _ => True) (fun _ _ => trivial) (TTok 0 _) Tryz.func41 (by kernel_rfl) rfl ?_
  all_goals repeat' (
    (conv => whnf)
    first
      | (with_reducible first
          | refine TJ.seq ?_
          | refine TJ.region (TTok _ _) ?_
          | refine TJ.drawn (TTok _ _) mixed ?_
          | refine TJ.cond rfl ?_
          | refine TJ.block ?_
          | refine TJ.loop ?_
          | refine LJ.step ?_
          | refine TJ.ret ?_
          | refine TJ.exit ?_
          | refine TJ.skip ?_
          | refine TJ.scope ?_
          | refine TJ.label ?_
          | refine Br.cond_t ?_
          | refine Br.cond_f ?_
          | refine Br.yes (by first | decide | assumption | (apply decide_eq_true; omega)) ?_
          | refine Br.non (by first | decide | assumption | (apply decide_eq_false; omega)) ?_
          | refine Br.cond_ff ?_
          | refine Br.eqT (by omega) ?_
          | refine Br.eqF (by omega) ?_
          | refine Br.neT (by omega) ?_
          | refine Br.neF (by omega) ?_
          | refine Ld.mk' _ rfl ?_
          | refine Need.mk (by first | decide | omega | kernel_rfl) ?_
          | refine Nm.i64 (by omega) ?_
          | refine Nm.u64 (by omega) ?_
          | refine Nm.u8 (by omega) ?_
          | refine x_ret (f := 95) rfl rfl (fun w _ => f1 w) ?_
          | refine x_ret (f := 95) rfl rfl (fun w _ => f2 w) ?_
          | refine x_ret (f := 95) rfl rfl (fun w _ => f3 w) ?_
          | refine x_ret (f := 96) rfl rfl (fun w _ => n1 w) ?_
          | refine x_ret (f := 96) rfl rfl (fun w _ => n2 w) ?_
          | refine x_ret (f := 96) rfl rfl (fun w _ => n3 w) ?_
          | refine x_ret (f := 98) rfl rfl (fun w _ => hsh _ (by simp) w) ?_)
      | refine Nm.mk' _ hAB ?_
      | refine Nm.mk' _ hABC ?_
      | refine Nm.mk' _ hS ?_
      | (refine x_exq (TTok _ _) ?_; (conv => whnf); fail_if_success (guard_target =ₛ False)))
  all_goals (conv => whnf)
  all_goals rfl
set_option maxHeartbeats 8000000 in
theorem dofkey_ret (a b c : Int) (s : ByteArray) (hs : s.size < 4294967281) (w : World) : Ret Tryz.prog 38 [.agg #[.int .i64 a, .int .i64 b, .int .i64 c, .string s]] w (dsV (kdS a b c s) (kdB a b c s)) := by
  have hz := kdS_size a b c s
  have h0 : ¬ (0 ≤ a ∧ a < 65536 ∧ 0 ≤ b ∧ b < 256 ∧ 0 ≤ c ∧ c < 256 ∧ 0 < s.size ∧ 4 + s.size ≤ 2000) → dsV (kdS a b c s) (kdB a b c s) = .tuple #[.string ⟨#[]⟩, .int .i64 6] := by
    intro h
    unfold dsV
    rw [if_neg]
    rintro ⟨e1, e2⟩
    simp only [kdB, fit, Bool.and_eq_true, decide_eq_true_eq] at e1
    omega
  have h1 : (0 ≤ a ∧ a < 65536 ∧ 0 ≤ b ∧ b < 256 ∧ 0 ≤ c ∧ c < 256 ∧ 0 < s.size ∧ 4 + s.size ≤ 2000) → dsV (kdS a b c s) (kdB a b c s) = .tuple #[.string (strOfNums (by8 a 256 :: by8 a 1 :: by8 b 1 :: by8 c 1 :: sInts s)), .int .i64 0] := by
    intro h
    unfold dsV
    rw [if_pos, kdS_eq]
    simp only [kdB, fit, Bool.and_eq_true, decide_eq_true_eq]
    omega
  generalize dsV (kdS a b c s) (kdB a b c s) = V at h0 h1 ⊢
  have hm1 : 4 + s.size ≤ maxLen := by unfold maxLen; omega
  have hm2 : (4 + s.size) * 1 ≤ 140737488355328 := by omega
  have hsub := sub_byt [by8 a 256, by8 a 1, by8 b 1, by8 c 1] s 4 rfl
  refine Ret.tj (I := fun _ => True) (fun _ _ => trivial) (TTok 0 _) Tryz.func38 (by kernel_rfl) rfl ?_
  repeat' (
    (conv => whnf)
    first
      | (with_reducible first
          | refine TJ.seq ?_
          | refine TJ.region (TTok _ _) ?_
          | refine TJ.drawn (TTok _ _) mixed ?_
          | refine TJ.cond rfl ?_
          | refine TJ.block ?_
          | refine TJ.loop ?_
          | refine LJ.step ?_
          | refine TJ.ret ?_
          | refine TJ.exit ?_
          | refine TJ.skip ?_
          | refine TJ.scope ?_
          | refine TJ.label ?_
          | refine Br.cond_t ?_
          | refine Br.cond_f ?_
          | refine Br.yes (by first | decide | assumption | (apply decide_eq_true; omega)) ?_
          | refine Br.non (by first | decide | assumption | (apply decide_eq_false; omega)) ?_
          | refine Br.cond_ff ?_
          | refine Br.eqT (by omega) ?_
          | refine Br.eqF (by omega) ?_
          | refine Br.neT (by omega) ?_
          | refine Br.neF (by omega) ?_
          | refine Br.dec (fun hc => ?_) (fun hc => ?_)
          | refine Br.eq (fun hc => ?_) (fun hc => ?_)
          | refine Br.ne (fun hc => ?_) (fun hc => ?_)
          | refine Br.mk (fun hc => ?_) (fun hc => ?_)
          | refine Ld.mk' _ rfl ?_
          | refine Need.mk (by first | decide | omega | kernel_rfl) ?_
          | refine Nm.i64 (by omega) ?_
          | refine Nm.u64 (by omega) ?_
          | refine Nm.u8 (by omega) ?_
          | refine Sh.shrL ?_
          | refine Sh.shlL ?_
          | refine Nm.fd (by decide) ?_)
      | refine Need.mk ⟨by simp [refsInC, refsInL, refsIn, hasO, refsInL_app, refsInL_byt], by simp [refsInC, refsInL, refsIn, hasO, refsInL_app, refsInL_byt], rfl⟩ ?_
      | refine Need.mk ⟨by simp [refsInC, refsInL, refsIn, hasO, refsInL_app, refsInL_byt], by simp [refsInC, refsInL, refsIn, hasO, refsInL_app, refsInL_byt]⟩ ?_
      | refine x_append_str (TTok _ _) (c := 3) (n := 4) (m := s.size) (u := s) (t := 139) (e := 5) rfl rfl rfl rfl rfl rfl rfl rfl rfl rfl (Nat.zero_lt_succ 0) rfl rfl rfl rfl rfl rfl rfl rfl rfl hm1 hm2 ?_
      | refine x_bytes_str (TTok _ _) (c := 3) (lo := 0) (n := 4 + s.size) (s := 139) (t := 9) (e := 5) (ns := [by8 a 256, by8 a 1, by8 b 1, by8 c 1] ++ sInts s) rfl rfl rfl rfl rfl rfl rfl rfl rfl rfl rfl rfl hsub ?_
      | refine x_call (f := 92) (TTok _ _) rfl rfl Tryz.func92 (by kernel_rfl) rfl ?_
      | refine x_callF (f := 97) (TTok _ _) rfl rfl Tryz.func97 (by kernel_rfl) rfl ?_
      | refine x_callF (f := 93) (TTok _ _) rfl rfl Tryz.func93 (by kernel_rfl) rfl ?_
      | refine Nm.keep ?_
      | (refine x_exq (TTok _ _) ?_; (conv => whnf); fail_if_success (guard_target =ₛ False)))
  all_goals (conv => whnf)
  all_goals first | (rw [h0 (by omega)]; rfl) | (rw [h1 (by omega)]; rfl)
set_option maxHeartbeats 8000000 in
theorem dofds_ret (a b c : Int) (s : ByteArray) (hs : s.size < 4294967281) (w : World) : Ret Tryz.prog 40 [.agg #[.int .i64 a, .int .i64 b, .int .i64 c, .string s]] w (dsV (kdS a b c s) (kdB a b c s)) := by
  have hz := kdS_size a b c s
  have h0 : ¬ (0 ≤ a ∧ a < 65536 ∧ 0 ≤ b ∧ b < 256 ∧ 0 ≤ c ∧ c < 256 ∧ 0 < s.size ∧ 4 + s.size ≤ 2000) → dsV (kdS a b c s) (kdB a b c s) = .tuple #[.string ⟨#[]⟩, .int .i64 6] := by
    intro h
    unfold dsV
    rw [if_neg]
    rintro ⟨e1, e2⟩
    simp only [kdB, fit, Bool.and_eq_true, decide_eq_true_eq] at e1
    omega
  have h1 : (0 ≤ a ∧ a < 65536 ∧ 0 ≤ b ∧ b < 256 ∧ 0 ≤ c ∧ c < 256 ∧ 0 < s.size ∧ 4 + s.size ≤ 2000) → dsV (kdS a b c s) (kdB a b c s) = .tuple #[.string (strOfNums (by8 a 256 :: by8 a 1 :: by8 b 1 :: by8 c 1 :: sInts s)), .int .i64 0] := by
    intro h
    unfold dsV
    rw [if_pos, kdS_eq]
    simp only [kdB, fit, Bool.and_eq_true, decide_eq_true_eq]
    omega
  generalize dsV (kdS a b c s) (kdB a b c s) = V at h0 h1 ⊢
  have hm1 : 4 + s.size ≤ maxLen := by unfold maxLen; omega
  have hm2 : (4 + s.size) * 1 ≤ 140737488355328 := by omega
  have hsub := sub_byt [by8 a 256, by8 a 1, by8 b 1, by8 c 1] s 4 rfl
  refine Ret.tj (I := fun _ => True) (fun _ _ => trivial) (TTok 0 _) Tryz.func40 (by kernel_rfl) rfl ?_
  repeat' (
    (conv => whnf)
    first
      | (with_reducible first
          | refine TJ.seq ?_
          | refine TJ.region (TTok _ _) ?_
          | refine TJ.drawn (TTok _ _) mixed ?_
          | refine TJ.cond rfl ?_
          | refine TJ.block ?_
          | refine TJ.loop ?_
          | refine LJ.step ?_
          | refine TJ.ret ?_
          | refine TJ.exit ?_
          | refine TJ.skip ?_
          | refine TJ.scope ?_
          | refine TJ.label ?_
          | refine Br.cond_t ?_
          | refine Br.cond_f ?_
          | refine Br.yes (by first | decide | assumption | (apply decide_eq_true; omega)) ?_
          | refine Br.non (by first | decide | assumption | (apply decide_eq_false; omega)) ?_
          | refine Br.cond_ff ?_
          | refine Br.eqT (by omega) ?_
          | refine Br.eqF (by omega) ?_
          | refine Br.neT (by omega) ?_
          | refine Br.neF (by omega) ?_
          | refine Br.dec (fun hc => ?_) (fun hc => ?_)
          | refine Br.eq (fun hc => ?_) (fun hc => ?_)
          | refine Br.ne (fun hc => ?_) (fun hc => ?_)
          | refine Br.mk (fun hc => ?_) (fun hc => ?_)
          | refine Ld.mk' _ rfl ?_
          | refine Need.mk (by first | decide | omega | kernel_rfl) ?_
          | refine Nm.i64 (by omega) ?_
          | refine Nm.u64 (by omega) ?_
          | refine Nm.u8 (by omega) ?_
          | refine Sh.shrL ?_
          | refine Sh.shlL ?_
          | refine Nm.fd (by decide) ?_)
      | refine Need.mk ⟨by simp [refsInC, refsInL, refsIn, hasO, refsInL_app, refsInL_byt], by simp [refsInC, refsInL, refsIn, hasO, refsInL_app, refsInL_byt], rfl⟩ ?_
      | refine Need.mk ⟨by simp [refsInC, refsInL, refsIn, hasO, refsInL_app, refsInL_byt], by simp [refsInC, refsInL, refsIn, hasO, refsInL_app, refsInL_byt]⟩ ?_
      | refine x_append_str (TTok _ _) (c := 3) (n := 4) (m := s.size) (u := s) (t := 139) (e := 5) rfl rfl rfl rfl rfl rfl rfl rfl rfl rfl (Nat.zero_lt_succ 0) rfl rfl rfl rfl rfl rfl rfl rfl rfl hm1 hm2 ?_
      | refine x_bytes_str (TTok _ _) (c := 3) (lo := 0) (n := 4 + s.size) (s := 139) (t := 9) (e := 5) (ns := [by8 a 256, by8 a 1, by8 b 1, by8 c 1] ++ sInts s) rfl rfl rfl rfl rfl rfl rfl rfl rfl rfl rfl rfl hsub ?_
      | refine x_call (f := 92) (TTok _ _) rfl rfl Tryz.func92 (by kernel_rfl) rfl ?_
      | refine x_callF (f := 97) (TTok _ _) rfl rfl Tryz.func97 (by kernel_rfl) rfl ?_
      | refine x_callF (f := 93) (TTok _ _) rfl rfl Tryz.func93 (by kernel_rfl) rfl ?_
      | refine Nm.keep ?_
      | (refine x_exq (TTok _ _) ?_; (conv => whnf); fail_if_success (guard_target =ₛ False)))
  all_goals (conv => whnf)
  all_goals first | (rw [h0 (by omega)]; rfl) | (rw [h1 (by omega)]; rfl)
end Go.Proofs.YtbladfkakmdigaaGreatDoor
set_option maxRecDepth 100000
set_option linter.unusedVariables false
set_option linter.unusedSimpArgs false
namespace Go.Proofs.YtbladfkakmdigaaGreatDoor
open Go.SX
/-! ### The sink -/
def skH (l : List Int) (wr : Bool) (v : Nat) (s : Nat → Nat) : List (Option Chunk) := [some ⟨.own, 141, 2, 0, [.sl (s 1) v 0 l.length, .v (.bool wr)]⟩, some ⟨.row, 5, 1, v, byt l⟩]
theorem skH_cl (l : List Int) (wr : Bool) (v : Nat) : refsInC (skH l wr v id) (skH l wr v id) = true := by
  simp [skH, refsInC, refsInL, refsIn, hasO, refsInL_byt]
theorem skH_nat (l : List Int) (wr : Bool) (v : Nat) (σ : List Nat) : mapR σ (skH l wr v id) = skH l wr v (getN σ) := by
  simp [skH, mapR, renK, renL, renA, renL_byt]
theorem skH_end (l l' : List Int) (wr wr' : Bool) (v v' : Nat) {r : AV} (hr : refsIn (skH l' wr' v' id) r = true) : CEnd (skH l wr v id) (skH l' wr' v' id) r :=
  CEnd.of rfl hr (skH_cl _ _ _)
/-- A sink's method: what it appends, and what else is wrong. -/
abbrev SkCon (f : FuncId) (args : List Value) (l l' : List Int) (wr wr' : Bool) (v v' : Nat) : Prop :=
  Con Tryz.prog (fun _ => True) f (fun s => .ref (s 0) 0 0 :: args.map .v) (skH l wr v) (fun _ : Unit => True) (fun _ _ => .tup []) (fun _ => skH l' wr' v') (fun _ => False)
noncomputable def rgN (s : ByteArray) : Nat := (lbN_ex s).choose
theorem rgN_ok (s : ByteArray) : LbN s (rgN s) := (lbN_ex s).choose_spec
/-- Are these bytes a name? -/
noncomputable def rgt (s : ByteArray) : Bool := rtB s (rgN s)
theorem nright (s : ByteArray) (hs : s.size < 4294967281) (w : World) : Ret Tryz.prog 115 [.string s] w (.bool (rgt s)) := nright_ret s hs _ (rgN_ok s) w
theorem rright (s : ByteArray) (hs : s.size < 4294967281) (w : World) : Ret Tryz.prog 94 [.string s] w (.bool (rgt s)) := rright_ret s hs _ (rgN_ok s) w
theorem bytes_con (l : List Int) (wr : Bool) (v : Nat) (p : ByteArray) (least : Int) (hl : l.length < 4398046511104) (hp : p.size < 4294967281) : SkCon 97 [.string p, .int .i64 least] l (l ++ sInts p) wr (wr || decide ((p.size : Int) < least)) v (v + 1) := by
  refine Con.of (TTok _ _) Tryz.func97 (by kernel_rfl) rfl (skH_cl _ _ _) rfl (fun σ => rfl) (skH_nat _ _ _) (fun _ _ _ => rfl) (fun _ σ _ => skH_nat _ _ _ σ) (fun _ _ => skH_end _ _ _ _ _ _ rfl) ?_
  have hm1 : l.length + p.size ≤ maxLen := by unfold maxLen; omega
  have hm2 : (l.length + p.size) * 1 ≤ 140737488355328 := by omega
  cases wr
  all_goals repeat' (
    (conv => whnf)
    first
      | (with_reducible first
          | refine TR.seq ?_
          | refine TR.regionL ?_
          | refine TR.drawn (TTok _ _) mixed ?_
          | refine TR.block ?_
          | refine TR.ret ?_
          | refine TR.exit ?_
          | refine TR.skip ?_
          | refine TR.condB rfl ?_
          | refine TRL.nil ?_
          | refine TRL.step (TTok _ _) ?_
          | refine Br.cond_t ?_
          | refine Br.cond_f ?_
          | refine Br.yes (by first | decide | assumption | (apply decide_eq_true; omega)) ?_
          | refine Br.non (by first | decide | assumption | (apply decide_eq_false; omega)) ?_
          | refine Br.cond_ff ?_
          | refine Br.eqT (by omega) ?_
          | refine Br.eqF (by omega) ?_
          | refine Br.neT (by omega) ?_
          | refine Br.neF (by omega) ?_
          | refine Ld.mk' _ rfl ?_
          | refine Need.mk (by first | decide | omega | kernel_rfl) ?_
          | refine Nm.i64 (by omega) ?_
          | refine Nm.u64 (by omega) ?_
          | refine Nm.u8 (by omega) ?_)
      | refine x_append_str (TTok _ _) (c := 1) (kv := v) (n := l.length) (m := p.size) (u := p) (t := 139) (e := 5) rfl rfl rfl rfl rfl rfl rfl rfl rfl rfl (Nat.zero_lt_succ 0) rfl (by simp [byt]) rfl rfl rfl rfl rfl rfl rfl hm1 hm2 ?_
      | (refine x_exq (TTok _ _) ?_; (conv => whnf); fail_if_success (guard_target =ₛ False)))
  all_goals (conv => whnf)
  all_goals (refine ⟨(), trivial, rfl, ?_⟩; simp [skH, subC, byt, sInts_length])
theorem name_con (l : List Int) (wr : Bool) (v : Nat) (p : ByteArray) (hl : l.length < 4398046511104) (hp : p.size < 4294967281) : SkCon 91 [.string p] l (l ++ sInts p) wr (wr || !rgt p) v (v + 1) := by
  refine Con.of (TTok _ _) Tryz.func91 (by kernel_rfl) rfl (skH_cl _ _ _) rfl (fun σ => rfl) (skH_nat _ _ _) (fun _ _ _ => rfl) (fun _ σ _ => skH_nat _ _ _ σ) (fun _ _ => skH_end _ _ _ _ _ _ rfl) ?_
  have hm1 : l.length + p.size ≤ maxLen := by unfold maxLen; omega
  have hm2 : (l.length + p.size) * 1 ≤ 140737488355328 := by omega
  have h115 := fun w => nright p hp w
  generalize rgt p = b at h115
  cases wr
  all_goals repeat' (
    (conv => whnf)
    first
      | (with_reducible first
          | refine TR.seq ?_
          | refine TR.regionL ?_
          | refine TR.drawn (TTok _ _) mixed ?_
          | refine TR.block ?_
          | refine TR.ret ?_
          | refine TR.exit ?_
          | refine TR.skip ?_
          | refine TR.condB rfl ?_
          | refine TRL.nil ?_
          | refine TRL.step (TTok _ _) ?_
          | refine Br.cond_t ?_
          | refine Br.cond_f ?_
          | refine Br.yes (by first | decide | assumption | (apply decide_eq_true; omega)) ?_
          | refine Br.non (by first | decide | assumption | (apply decide_eq_false; omega)) ?_
          | refine Br.cond_ff ?_
          | refine Br.eqT (by omega) ?_
          | refine Br.eqF (by omega) ?_
          | refine Br.neT (by omega) ?_
          | refine Br.neF (by omega) ?_
          | refine Ld.mk' _ rfl ?_
          | refine Need.mk (by first | decide | omega | kernel_rfl) ?_
          | refine Nm.i64 (by omega) ?_
          | refine Nm.u64 (by omega) ?_
          | refine Nm.u8 (by omega) ?_
          | refine x_ret (f := 115) rfl rfl (fun w _ => h115 w) ?_)
      | refine x_append_str (TTok _ _) (c := 1) (kv := v) (n := l.length) (m := p.size) (u := p) (t := 139) (e := 5) rfl rfl rfl rfl rfl rfl rfl rfl rfl rfl (Nat.zero_lt_succ 0) rfl (by simp [byt]) rfl rfl rfl rfl rfl rfl rfl hm1 hm2 ?_
      | (refine x_exq (TTok _ _) ?_; (conv => whnf); fail_if_success (guard_target =ₛ False)))
  all_goals (conv => whnf)
  all_goals (refine ⟨(), trivial, rfl, ?_⟩; simp [skH, subC, byt, sInts_length])
/-- A number's bytes, the first j of n. -/
def beP (n : Nat) (a : Int) : Nat → List Int
  | 0 => []
  | j + 1 => beP n a j ++ [by8 a (2 ^ (8 * (n - 1 - j)))]
theorem beP_len (n : Nat) (a : Int) : ∀ j, (beP n a j).length = j
  | 0 => rfl
  | j + 1 => by simp [beP, beP_len n a j]
theorem number1_con (l : List Int) (wr : Bool) (v : Nat) (a : Int) (hl : l.length < 4398046511104) : SkCon 92 [.int .i64 a, .int .i64 1] l (l ++ be1 a) wr (wr || !fit a 256) v (v + 1) := by
  refine Con.of (TTok _ _) Tryz.func92 (by kernel_rfl) rfl (skH_cl _ _ _) rfl (fun σ => rfl) (skH_nat _ _ _) (fun _ _ _ => rfl) (fun _ σ _ => skH_nat _ _ _ σ) (fun _ _ => skH_end _ _ _ _ _ _ rfl) ?_
  refine TJ.tr ?_
  have hs0 : (!fit a 256) = (decide (a < 0) || decide (a / 256 ≠ 0)) := by
    unfold fit
    by_cases h0 : a < 0
    · have : ¬ (0 ≤ a ∧ a < 256) := by omega
      simp [h0, this]
    · by_cases h1 : a < 256
      · have h2 : 0 ≤ a ∧ a < 256 := by omega
        have h3 : a / 256 = 0 := by omega
        have h4 : ¬ a < 0 := by omega
        simp [h2, h3, h4]
      · have h2 : ¬ (0 ≤ a ∧ a < 256) := by omega
        have h3 : a / 256 ≠ 0 := by omega
        simp [h2, h3]
  rw [hs0]
  have hm1 : l.length + 1 ≤ maxLen := by unfold maxLen; omega
  by_cases h0 : a < 0 <;> cases wr
  all_goals repeat' (
    (conv => whnf)
    first
      | (with_reducible first
          | refine TJ.seq ?_
          | refine TJ.region (TTok _ _) ?_
          | refine TJ.drawn (TTok _ _) mixed ?_
          | refine TJ.cond rfl ?_
          | refine TJ.block ?_
          | refine TJ.loop ?_
          | refine LJ.step ?_
          | refine TJ.ret ?_
          | refine TJ.exit ?_
          | refine TJ.skip ?_
          | refine TJ.scope ?_
          | refine TJ.label ?_
          | refine Br.cond_t ?_
          | refine Br.cond_f ?_
          | refine Br.yes (by first | decide | assumption | (apply decide_eq_true; omega)) ?_
          | refine Br.non (by first | decide | assumption | (apply decide_eq_false; omega)) ?_
          | refine Br.cond_ff ?_
          | refine Br.eqT (by omega) ?_
          | refine Br.eqF (by omega) ?_
          | refine Br.neT (by omega) ?_
          | refine Br.neF (by omega) ?_
          | refine Ld.mk' _ rfl ?_
          | refine Need.mk (by first | decide | omega | kernel_rfl) ?_
          | refine Nm.i64 (by omega) ?_
          | refine Nm.u64 (by omega) ?_
          | refine Nm.u8 (by omega) ?_
          | refine Sh.shrL ?_
          | refine Sh.shlL ?_
          | refine Nm.fd (by decide) ?_)
      | refine x_app (TTok _ _) (c := 1) 1 rfl rfl rfl rfl rfl rfl rfl rfl rfl rfl (Nat.zero_lt_succ 0) rfl rfl rfl rfl rfl rfl rfl rfl rfl (by simp [byt]) (by unfold maxLen; omega) (by omega) ?_
      | refine Nm.keep ?_
      | (refine x_exq (TTok _ _) ?_; (conv => whnf); fail_if_success (guard_target =ₛ False)))
  all_goals (conv => whnf)
  all_goals (refine ⟨(), trivial, rfl, ?_⟩; simp [skH, subC, byt, h0, be1, by8] <;> (by_cases h1 : a / 256 = 0 <;> simp [h1]))
theorem number2_con (l : List Int) (wr : Bool) (v : Nat) (a : Int) (hl : l.length < 4398046511104) : SkCon 92 [.int .i64 a, .int .i64 2] l (l ++ be2 a) wr (wr || !fit a 65536) v (v + 2) := by
  refine Con.of (TTok _ _) Tryz.func92 (by kernel_rfl) rfl (skH_cl _ _ _) rfl (fun σ => rfl) (skH_nat _ _ _) (fun _ _ _ => rfl) (fun _ σ _ => skH_nat _ _ _ σ) (fun _ _ => skH_end _ _ _ _ _ _ rfl) ?_
  refine TJ.tr ?_
  have hs0 : (!fit a 65536) = (decide (a < 0) || decide (a / 65536 ≠ 0)) := by
    unfold fit
    by_cases h0 : a < 0
    · have : ¬ (0 ≤ a ∧ a < 65536) := by omega
      simp [h0, this]
    · by_cases h1 : a < 65536
      · have h2 : 0 ≤ a ∧ a < 65536 := by omega
        have h3 : a / 65536 = 0 := by omega
        have h4 : ¬ a < 0 := by omega
        simp [h2, h3, h4]
      · have h2 : ¬ (0 ≤ a ∧ a < 65536) := by omega
        have h3 : a / 65536 ≠ 0 := by omega
        simp [h2, h3]
  rw [hs0]
  have hm1 : l.length + 2 ≤ maxLen := by unfold maxLen; omega
  by_cases h0 : a < 0 <;> cases wr
  all_goals repeat' (
    (conv => whnf)
    first
      | (with_reducible first
          | refine TJ.seq ?_
          | refine TJ.region (TTok _ _) ?_
          | refine TJ.drawn (TTok _ _) mixed ?_
          | refine TJ.cond rfl ?_
          | refine TJ.block ?_
          | refine TJ.loop ?_
          | refine LJ.step ?_
          | refine TJ.ret ?_
          | refine TJ.exit ?_
          | refine TJ.skip ?_
          | refine TJ.scope ?_
          | refine TJ.label ?_
          | refine Br.cond_t ?_
          | refine Br.cond_f ?_
          | refine Br.yes (by first | decide | assumption | (apply decide_eq_true; omega)) ?_
          | refine Br.non (by first | decide | assumption | (apply decide_eq_false; omega)) ?_
          | refine Br.cond_ff ?_
          | refine Br.eqT (by omega) ?_
          | refine Br.eqF (by omega) ?_
          | refine Br.neT (by omega) ?_
          | refine Br.neF (by omega) ?_
          | refine Ld.mk' _ rfl ?_
          | refine Need.mk (by first | decide | omega | kernel_rfl) ?_
          | refine Nm.i64 (by omega) ?_
          | refine Nm.u64 (by omega) ?_
          | refine Nm.u8 (by omega) ?_
          | refine Sh.shrL ?_
          | refine Sh.shlL ?_
          | refine Nm.fd (by decide) ?_)
      | refine x_app (TTok _ _) (c := 1) 1 rfl rfl rfl rfl rfl rfl rfl rfl rfl rfl (Nat.zero_lt_succ 0) rfl rfl rfl rfl rfl rfl rfl rfl rfl (by simp [byt]) (by unfold maxLen; omega) (by omega) ?_
      | refine Nm.keep ?_
      | (refine x_exq (TTok _ _) ?_; (conv => whnf); fail_if_success (guard_target =ₛ False)))
  all_goals (conv => whnf)
  all_goals (refine ⟨(), trivial, rfl, ?_⟩; simp [skH, subC, byt, h0, be2, by8] <;> (by_cases h1 : a / 65536 = 0 <;> simp [h1]))
theorem number4_con (l : List Int) (wr : Bool) (v : Nat) (a : Int) (hl : l.length < 4398046511104) : SkCon 92 [.int .i64 a, .int .i64 4] l (l ++ be4 a) wr (wr || !fit a 4294967296) v (v + 4) := by
  refine Con.of (TTok _ _) Tryz.func92 (by kernel_rfl) rfl (skH_cl _ _ _) rfl (fun σ => rfl) (skH_nat _ _ _) (fun _ _ _ => rfl) (fun _ σ _ => skH_nat _ _ _ σ) (fun _ _ => skH_end _ _ _ _ _ _ rfl) ?_
  refine TJ.tr ?_
  have hs0 : (!fit a 4294967296) = (decide (a < 0) || decide (a / 4294967296 ≠ 0)) := by
    unfold fit
    by_cases h0 : a < 0
    · have : ¬ (0 ≤ a ∧ a < 4294967296) := by omega
      simp [h0, this]
    · by_cases h1 : a < 4294967296
      · have h2 : 0 ≤ a ∧ a < 4294967296 := by omega
        have h3 : a / 4294967296 = 0 := by omega
        have h4 : ¬ a < 0 := by omega
        simp [h2, h3, h4]
      · have h2 : ¬ (0 ≤ a ∧ a < 4294967296) := by omega
        have h3 : a / 4294967296 ≠ 0 := by omega
        simp [h2, h3]
  rw [hs0]
  have hm1 : l.length + 4 ≤ maxLen := by unfold maxLen; omega
  by_cases h0 : a < 0 <;> cases wr
  all_goals repeat' (
    (conv => whnf)
    first
      | (with_reducible first
          | refine TJ.seq ?_
          | refine TJ.region (TTok _ _) ?_
          | refine TJ.drawn (TTok _ _) mixed ?_
          | refine TJ.cond rfl ?_
          | refine TJ.block ?_
          | refine TJ.loop ?_
          | refine LJ.step ?_
          | refine TJ.ret ?_
          | refine TJ.exit ?_
          | refine TJ.skip ?_
          | refine TJ.scope ?_
          | refine TJ.label ?_
          | refine Br.cond_t ?_
          | refine Br.cond_f ?_
          | refine Br.yes (by first | decide | assumption | (apply decide_eq_true; omega)) ?_
          | refine Br.non (by first | decide | assumption | (apply decide_eq_false; omega)) ?_
          | refine Br.cond_ff ?_
          | refine Br.eqT (by omega) ?_
          | refine Br.eqF (by omega) ?_
          | refine Br.neT (by omega) ?_
          | refine Br.neF (by omega) ?_
          | refine Ld.mk' _ rfl ?_
          | refine Need.mk (by first | decide | omega | kernel_rfl) ?_
          | refine Nm.i64 (by omega) ?_
          | refine Nm.u64 (by omega) ?_
          | refine Nm.u8 (by omega) ?_
          | refine Sh.shrL ?_
          | refine Sh.shlL ?_
          | refine Nm.fd (by decide) ?_)
      | refine x_app (TTok _ _) (c := 1) 1 rfl rfl rfl rfl rfl rfl rfl rfl rfl rfl (Nat.zero_lt_succ 0) rfl rfl rfl rfl rfl rfl rfl rfl rfl (by simp [byt]) (by unfold maxLen; omega) (by omega) ?_
      | refine Nm.keep ?_
      | (refine x_exq (TTok _ _) ?_; (conv => whnf); fail_if_success (guard_target =ₛ False)))
  all_goals (conv => whnf)
  all_goals (refine ⟨(), trivial, rfl, ?_⟩; simp [skH, subC, byt, h0, be4, by8] <;> (by_cases h1 : a / 4294967296 = 0 <;> simp [h1]))
theorem subL_byt_all (l : List Int) : subL (byt l) 0 l.length = some (byt l) := by
  have := subL_all' (byt l)
  simpa [byt] using this
def dnV (l : List Int) (wr : Bool) : ByteArray × Int := if wr = true ∨ 2000 < l.length then (⟨#[]⟩, 6) else (strOfNums l, 0)
theorem done_con (l : List Int) (wr : Bool) (v : Nat) (hl : l.length < 4398046511104) : Con Tryz.prog (fun _ => True) 93 (fun s => [.ref (s 0) 0 0]) (skH l wr v) (fun _ : Unit => True) (fun _ _ => .tup [.v (.string (dnV l wr).1), .v (.int .i64 (dnV l wr).2)]) (fun _ => skH l wr v) (fun _ => False) := by
  refine Con.of (TTok _ _) Tryz.func93 (by kernel_rfl) rfl (skH_cl _ _ _) rfl (fun σ => rfl) (skH_nat _ _ _) (fun _ _ _ => rfl) (fun _ σ _ => skH_nat _ _ _ σ) (fun _ _ => skH_end _ _ _ _ _ _ rfl) ?_
  have hsub := subL_byt_all l
  cases wr
  · by_cases h1 : 2000 < l.length
    · have e : dnV l false = (⟨#[]⟩, 6) := by simp [dnV, h1]
      rw [e]
      repeat' (
        (conv => whnf)
        first
          | (with_reducible first
              | refine TR.seq ?_
              | refine TR.regionL ?_
              | refine TR.drawn (TTok _ _) mixed ?_
              | refine TR.block ?_
              | refine TR.ret ?_
              | refine TR.exit ?_
              | refine TR.skip ?_
              | refine TR.condB rfl ?_
              | refine TRL.nil ?_
              | refine TRL.step (TTok _ _) ?_
              | refine Br.cond_t ?_
              | refine Br.cond_f ?_
              | refine Br.yes (by first | decide | assumption | (apply decide_eq_true; omega)) ?_
              | refine Br.non (by first | decide | assumption | (apply decide_eq_false; omega)) ?_
              | refine Br.cond_ff ?_
              | refine Br.eqT (by omega) ?_
              | refine Br.eqF (by omega) ?_
              | refine Br.neT (by omega) ?_
              | refine Br.neF (by omega) ?_
              | refine Ld.mk' _ rfl ?_
              | refine Need.mk (by first | decide | omega | kernel_rfl) ?_
              | refine Nm.i64 (by omega) ?_
              | refine Nm.u64 (by omega) ?_
              | refine Nm.u8 (by omega) ?_)
          | refine x_bytes_str (TTok _ _) (c := 1) (lo := 0) (n := l.length) (s := 139) (t := 9) (e := 5) (ns := l) rfl rfl rfl rfl rfl rfl rfl rfl rfl rfl rfl rfl hsub ?_
          | refine Nm.keep ?_
          | (refine x_exq (TTok _ _) ?_; (conv => whnf); fail_if_success (guard_target =ₛ False)))
      all_goals (conv => whnf)
      all_goals (refine ⟨(), trivial, rfl, ?_⟩; simp [skH, subC])
    · have e : dnV l false = (strOfNums l, 0) := by simp [dnV, h1]
      rw [e]
      repeat' (
        (conv => whnf)
        first
          | (with_reducible first
              | refine TR.seq ?_
              | refine TR.regionL ?_
              | refine TR.drawn (TTok _ _) mixed ?_
              | refine TR.block ?_
              | refine TR.ret ?_
              | refine TR.exit ?_
              | refine TR.skip ?_
              | refine TR.condB rfl ?_
              | refine TRL.nil ?_
              | refine TRL.step (TTok _ _) ?_
              | refine Br.cond_t ?_
              | refine Br.cond_f ?_
              | refine Br.yes (by first | decide | assumption | (apply decide_eq_true; omega)) ?_
              | refine Br.non (by first | decide | assumption | (apply decide_eq_false; omega)) ?_
              | refine Br.cond_ff ?_
              | refine Br.eqT (by omega) ?_
              | refine Br.eqF (by omega) ?_
              | refine Br.neT (by omega) ?_
              | refine Br.neF (by omega) ?_
              | refine Ld.mk' _ rfl ?_
              | refine Need.mk (by first | decide | omega | kernel_rfl) ?_
              | refine Nm.i64 (by omega) ?_
              | refine Nm.u64 (by omega) ?_
              | refine Nm.u8 (by omega) ?_)
          | refine x_bytes_str (TTok _ _) (c := 1) (lo := 0) (n := l.length) (s := 139) (t := 9) (e := 5) (ns := l) rfl rfl rfl rfl rfl rfl rfl rfl rfl rfl rfl rfl hsub ?_
          | refine Nm.keep ?_
          | (refine x_exq (TTok _ _) ?_; (conv => whnf); fail_if_success (guard_target =ₛ False)))
      all_goals (conv => whnf)
      all_goals (refine ⟨(), trivial, rfl, ?_⟩; simp [skH, subC])
  · have e : dnV l true = (⟨#[]⟩, 6) := by simp [dnV]
    rw [e]
    repeat' (
      (conv => whnf)
      first
        | (with_reducible first
            | refine TR.seq ?_
            | refine TR.regionL ?_
            | refine TR.drawn (TTok _ _) mixed ?_
            | refine TR.block ?_
            | refine TR.ret ?_
            | refine TR.exit ?_
            | refine TR.skip ?_
            | refine TR.condB rfl ?_
            | refine TRL.nil ?_
            | refine TRL.step (TTok _ _) ?_
            | refine Br.cond_t ?_
            | refine Br.cond_f ?_
            | refine Br.yes (by first | decide | assumption | (apply decide_eq_true; omega)) ?_
            | refine Br.non (by first | decide | assumption | (apply decide_eq_false; omega)) ?_
            | refine Br.cond_ff ?_
            | refine Br.eqT (by omega) ?_
            | refine Br.eqF (by omega) ?_
            | refine Br.neT (by omega) ?_
            | refine Br.neF (by omega) ?_
            | refine Ld.mk' _ rfl ?_
            | refine Need.mk (by first | decide | omega | kernel_rfl) ?_
            | refine Nm.i64 (by omega) ?_
            | refine Nm.u64 (by omega) ?_
            | refine Nm.u8 (by omega) ?_)
        | (refine x_exq (TTok _ _) ?_; (conv => whnf); fail_if_success (guard_target =ₛ False)))
    all_goals (conv => whnf)
    all_goals (refine ⟨(), trivial, rfl, ?_⟩; simp [skH, subC])
theorem short_con (l : List Int) (wr : Bool) (v : Nat) (p : ByteArray) (least : Int) (hl : l.length < 2199023255552) (hp : p.size < 4294967281) : SkCon 101 [.string p, .int .i64 least] l (l ++ be1 p.size ++ sInts p) wr ((wr || !fit p.size 256) || decide ((p.size : Int) < least)) v (v + 1 + 1) := by
  refine Con.of (TTok _ _) Tryz.func101 (by kernel_rfl) rfl (skH_cl _ _ _) rfl (fun σ => rfl) (skH_nat _ _ _) (fun _ _ _ => rfl) (fun _ σ _ => skH_nat _ _ _ σ) (fun _ _ => skH_end _ _ _ _ _ _ rfl) ?_
  have c1 := number1_con l wr v p.size (by omega)
  have c2 := bytes_con (l ++ be1 p.size) (wr || !fit p.size 256) (v + 1) p least (by simp [be1]; omega) hp
  generalize (wr || !fit p.size 256) = wr1 at c1 c2
  repeat' (
    (conv => whnf)
    first
      | (with_reducible first
          | refine TR.seq ?_
          | refine TR.regionL ?_
          | refine TR.drawn (TTok _ _) mixed ?_
          | refine TR.block ?_
          | refine TR.ret ?_
          | refine TR.exit ?_
          | refine TR.skip ?_
          | refine TR.condB rfl ?_
          | refine TRL.nil ?_
          | refine Br.cond_t ?_
          | refine Br.cond_f ?_
          | refine Br.yes (by first | decide | assumption | (apply decide_eq_true; omega)) ?_
          | refine Br.non (by first | decide | assumption | (apply decide_eq_false; omega)) ?_
          | refine Br.cond_ff ?_
          | refine Br.eqT (by omega) ?_
          | refine Br.eqF (by omega) ?_
          | refine Br.neT (by omega) ?_
          | refine Br.neF (by omega) ?_
          | refine Ld.mk' _ rfl ?_
          | refine Need.mk (by first | decide | omega | kernel_rfl) ?_
          | refine Nm.i64 (by omega) ?_
          | refine Nm.u64 (by omega) ?_
          | refine Nm.u8 (by omega) ?_)
      | refine TRL.con [0, 1] [0, 1] c1 rfl rfl rfl rfl ⟨rfl, rfl, trivial⟩ rfl rfl (fun _ _ => ⟨trivial, ?_⟩) (fun _ h => h.elim)
      | refine TRL.con [0, 1] [0, 1] c2 rfl rfl rfl rfl ⟨rfl, rfl, trivial⟩ rfl rfl (fun _ _ => ⟨trivial, ?_⟩) (fun _ h => h.elim)
      | refine TRL.step (TTok _ _) ?_
      | (refine x_exq (TTok _ _) ?_; (conv => whnf); fail_if_success (guard_target =ₛ False)))
  all_goals (conv => whnf)
  all_goals (refine ⟨(), trivial, rfl, ?_⟩; simp [skH, subC, getN])
end Go.Proofs.YtbladfkakmdigaaGreatDoor
set_option maxRecDepth 100000
set_option linter.unusedVariables false
set_option linter.unusedSimpArgs false
namespace Go.Proofs.YtbladfkakmdigaaGreatDoor
open Go.SX
/-! ### OfSoa, OfSig (data) -/
noncomputable def soL (a b : ByteArray) (n1 n2 n3 n4 n5 : Int) : List Int := (((((((([] : List Int) ++ sInts a) ++ sInts b) ++ be4 n1) ++ be4 n2) ++ be4 n3) ++ be4 n4) ++ be4 n5)
noncomputable def soW (a b : ByteArray) (n1 n2 n3 n4 n5 : Int) : Bool := (((((((false || !rgt a) || !rgt b) || !fit n1 4294967296) || !fit n2 4294967296) || !fit n3 4294967296) || !fit n4 4294967296) || !fit n5 4294967296)
set_option maxHeartbeats 16000000 in
theorem so_con (a b : ByteArray) (n1 n2 n3 n4 n5 : Int) (ha : a.size < 4294967281) (hb : b.size < 4294967281) : Con Tryz.prog (fun _ => True) 34 (fun _ => [.v (.agg #[.string a, .string b, .int .i64 n1, .int .i64 n2, .int .i64 n3, .int .i64 n4, .int .i64 n5])]) (fun _ => []) (fun _ : Unit => True) (fun _ _ => .tup [.v (.string (dnV (soL a b n1 n2 n3 n4 n5) (soW a b n1 n2 n3 n4 n5)).1), .v (.int .i64 (dnV (soL a b n1 n2 n3 n4 n5) (soW a b n1 n2 n3 n4 n5)).2)]) (fun _ _ => []) (fun _ => False) := by
  refine Con.of (TTok _ _) Tryz.func34 (by kernel_rfl) rfl rfl rfl (fun σ => rfl) (fun σ => rfl) (fun _ _ _ => rfl) (fun _ σ _ => rfl) (fun _ _ => CEnd.of rfl rfl rfl) ?_
  have c0 := name_con ([] : List Int) false 0 a (by simp [sInts_length, be4, be2, be1] <;> omega) (by omega)
  have c1 := name_con (([] : List Int) ++ sInts a) (false || !rgt a) (0 + 1) b (by simp [sInts_length, be4, be2, be1] <;> omega) (by omega)
  have c2 := number4_con ((([] : List Int) ++ sInts a) ++ sInts b) ((false || !rgt a) || !rgt b) ((0 + 1) + 1) n1 (by simp [sInts_length, be4, be2, be1] <;> omega)
  have c3 := number4_con (((([] : List Int) ++ sInts a) ++ sInts b) ++ be4 n1) (((false || !rgt a) || !rgt b) || !fit n1 4294967296) (((0 + 1) + 1) + 4) n2 (by simp [sInts_length, be4, be2, be1] <;> omega)
  have c4 := number4_con ((((([] : List Int) ++ sInts a) ++ sInts b) ++ be4 n1) ++ be4 n2) ((((false || !rgt a) || !rgt b) || !fit n1 4294967296) || !fit n2 4294967296) ((((0 + 1) + 1) + 4) + 4) n3 (by simp [sInts_length, be4, be2, be1] <;> omega)
  have c5 := number4_con (((((([] : List Int) ++ sInts a) ++ sInts b) ++ be4 n1) ++ be4 n2) ++ be4 n3) (((((false || !rgt a) || !rgt b) || !fit n1 4294967296) || !fit n2 4294967296) || !fit n3 4294967296) (((((0 + 1) + 1) + 4) + 4) + 4) n4 (by simp [sInts_length, be4, be2, be1] <;> omega)
  have c6 := number4_con ((((((([] : List Int) ++ sInts a) ++ sInts b) ++ be4 n1) ++ be4 n2) ++ be4 n3) ++ be4 n4) ((((((false || !rgt a) || !rgt b) || !fit n1 4294967296) || !fit n2 4294967296) || !fit n3 4294967296) || !fit n4 4294967296) ((((((0 + 1) + 1) + 4) + 4) + 4) + 4) n5 (by simp [sInts_length, be4, be2, be1] <;> omega)
  have c7 := done_con (soL a b n1 n2 n3 n4 n5) (soW a b n1 n2 n3 n4 n5) (((((((0 + 1) + 1) + 4) + 4) + 4) + 4) + 4) (by simp [soL, sInts_length, be4, be2, be1] <;> omega)
  have e1 : soL a b n1 n2 n3 n4 n5 = (((((((([] : List Int) ++ sInts a) ++ sInts b) ++ be4 n1) ++ be4 n2) ++ be4 n3) ++ be4 n4) ++ be4 n5) := rfl
  have e2 : soW a b n1 n2 n3 n4 n5 = (((((((false || !rgt a) || !rgt b) || !fit n1 4294967296) || !fit n2 4294967296) || !fit n3 4294967296) || !fit n4 4294967296) || !fit n5 4294967296) := rfl
  rw [e1, e2] at c7 ⊢
  generalize hV : dnV (((((((([] : List Int) ++ sInts a) ++ sInts b) ++ be4 n1) ++ be4 n2) ++ be4 n3) ++ be4 n4) ++ be4 n5) (((((((false || !rgt a) || !rgt b) || !fit n1 4294967296) || !fit n2 4294967296) || !fit n3 4294967296) || !fit n4 4294967296) || !fit n5 4294967296) = V at c7 ⊢
  clear hV e1 e2
  repeat' (
    (conv => whnf)
    first
      | refine TR.nil_cell 8 0 41 5 1 rfl rfl rfl ?_
      | (with_reducible first
          | refine TR.seq ?_
          | refine TR.regionL ?_
          | refine TR.drawn (TTok _ _) mixed ?_
          | refine TR.block ?_
          | refine TR.ret ?_
          | refine TR.exit ?_
          | refine TR.skip ?_
          | refine TR.condB rfl ?_
          | refine TRL.nil ?_
          | refine Br.cond_t ?_
          | refine Br.cond_f ?_
          | refine Br.yes (by first | decide | assumption | (apply decide_eq_true; omega)) ?_
          | refine Br.non (by first | decide | assumption | (apply decide_eq_false; omega)) ?_
          | refine Br.cond_ff ?_
          | refine Br.eqT (by omega) ?_
          | refine Br.eqF (by omega) ?_
          | refine Br.neT (by omega) ?_
          | refine Br.neF (by omega) ?_
          | refine Ld.mk' _ rfl ?_
          | refine Need.mk (by first | decide | omega | kernel_rfl) ?_
          | refine Nm.i64 (by omega) ?_
          | refine Nm.u64 (by omega) ?_
          | refine Nm.u8 (by omega) ?_)
      | refine TRL.con [8, 41] [8, 41] c0 rfl rfl rfl rfl ⟨rfl, rfl, trivial⟩ rfl rfl (fun _ _ => ⟨trivial, ?_⟩) (fun _ h => h.elim)
      | refine TRL.con [8, 41] [8, 41] c1 rfl rfl rfl rfl ⟨rfl, rfl, trivial⟩ rfl rfl (fun _ _ => ⟨trivial, ?_⟩) (fun _ h => h.elim)
      | refine TRL.con [8, 41] [8, 41] c2 rfl rfl rfl rfl ⟨rfl, rfl, trivial⟩ rfl rfl (fun _ _ => ⟨trivial, ?_⟩) (fun _ h => h.elim)
      | refine TRL.con [8, 41] [8, 41] c3 rfl rfl rfl rfl ⟨rfl, rfl, trivial⟩ rfl rfl (fun _ _ => ⟨trivial, ?_⟩) (fun _ h => h.elim)
      | refine TRL.con [8, 41] [8, 41] c4 rfl rfl rfl rfl ⟨rfl, rfl, trivial⟩ rfl rfl (fun _ _ => ⟨trivial, ?_⟩) (fun _ h => h.elim)
      | refine TRL.con [8, 41] [8, 41] c5 rfl rfl rfl rfl ⟨rfl, rfl, trivial⟩ rfl rfl (fun _ _ => ⟨trivial, ?_⟩) (fun _ h => h.elim)
      | refine TRL.con [8, 41] [8, 41] c6 rfl rfl rfl rfl ⟨rfl, rfl, trivial⟩ rfl rfl (fun _ _ => ⟨trivial, ?_⟩) (fun _ h => h.elim)
      | refine TRL.con [8, 41] [8, 41] c7 rfl rfl rfl rfl ⟨rfl, rfl, trivial⟩ rfl rfl (fun _ _ => ⟨trivial, ?_⟩) (fun _ h => h.elim)
      | refine TRn.drop 6 rfl (Nat.zero_le _) (by simp [noRefC, unO, nr_byt', noRefL, noRef, getN] <;> rfl) ?_
      | refine TRn.step ?_
      | refine TR.loopN 9 ?_
      | refine TRL.step (TTok _ _) ?_
      | (refine x_exq (TTok _ _) ?_; (conv => whnf); fail_if_success (guard_target =ₛ False)))
  all_goals (conv => whnf)
  all_goals exact ⟨(), trivial, rfl, trivial⟩
noncomputable def sgL (m1 m2 m3 m4 m5 m6 m7 : Int) (a b : ByteArray) : List Int := (((((((((([] : List Int) ++ be2 m1) ++ be1 m2) ++ be1 m3) ++ be4 m4) ++ be4 m5) ++ be4 m6) ++ be2 m7) ++ sInts a) ++ sInts b)
noncomputable def sgW (m1 m2 m3 m4 m5 m6 m7 : Int) (a b : ByteArray) : Bool := (((((((((false || !fit m1 65536) || !fit m2 256) || !fit m3 256) || !fit m4 4294967296) || !fit m5 4294967296) || !fit m6 4294967296) || !fit m7 65536) || !rgt a) || decide ((b.size : Int) < 1))
set_option maxHeartbeats 16000000 in
theorem sg_con (m1 m2 m3 m4 m5 m6 m7 : Int) (a b : ByteArray) (ha : a.size < 4294967281) (hb : b.size < 4294967281) : Con Tryz.prog (fun _ => True) 36 (fun _ => [.v (.agg #[.int .i64 m1, .int .i64 m2, .int .i64 m3, .int .i64 m4, .int .i64 m5, .int .i64 m6, .int .i64 m7, .string a, .string b])]) (fun _ => []) (fun _ : Unit => True) (fun _ _ => .tup [.v (.string (dnV (sgL m1 m2 m3 m4 m5 m6 m7 a b) (sgW m1 m2 m3 m4 m5 m6 m7 a b)).1), .v (.int .i64 (dnV (sgL m1 m2 m3 m4 m5 m6 m7 a b) (sgW m1 m2 m3 m4 m5 m6 m7 a b)).2)]) (fun _ _ => []) (fun _ => False) := by
  refine Con.of (TTok _ _) Tryz.func36 (by kernel_rfl) rfl rfl rfl (fun σ => rfl) (fun σ => rfl) (fun _ _ _ => rfl) (fun _ σ _ => rfl) (fun _ _ => CEnd.of rfl rfl rfl) ?_
  have c0 := number2_con ([] : List Int) false 0 m1 (by simp [sInts_length, be4, be2, be1] <;> omega)
  have c1 := number1_con (([] : List Int) ++ be2 m1) (false || !fit m1 65536) (0 + 2) m2 (by simp [sInts_length, be4, be2, be1] <;> omega)
  have c2 := number1_con ((([] : List Int) ++ be2 m1) ++ be1 m2) ((false || !fit m1 65536) || !fit m2 256) ((0 + 2) + 1) m3 (by simp [sInts_length, be4, be2, be1] <;> omega)
  have c3 := number4_con (((([] : List Int) ++ be2 m1) ++ be1 m2) ++ be1 m3) (((false || !fit m1 65536) || !fit m2 256) || !fit m3 256) (((0 + 2) + 1) + 1) m4 (by simp [sInts_length, be4, be2, be1] <;> omega)
  have c4 := number4_con ((((([] : List Int) ++ be2 m1) ++ be1 m2) ++ be1 m3) ++ be4 m4) ((((false || !fit m1 65536) || !fit m2 256) || !fit m3 256) || !fit m4 4294967296) ((((0 + 2) + 1) + 1) + 4) m5 (by simp [sInts_length, be4, be2, be1] <;> omega)
  have c5 := number4_con (((((([] : List Int) ++ be2 m1) ++ be1 m2) ++ be1 m3) ++ be4 m4) ++ be4 m5) (((((false || !fit m1 65536) || !fit m2 256) || !fit m3 256) || !fit m4 4294967296) || !fit m5 4294967296) (((((0 + 2) + 1) + 1) + 4) + 4) m6 (by simp [sInts_length, be4, be2, be1] <;> omega)
  have c6 := number2_con ((((((([] : List Int) ++ be2 m1) ++ be1 m2) ++ be1 m3) ++ be4 m4) ++ be4 m5) ++ be4 m6) ((((((false || !fit m1 65536) || !fit m2 256) || !fit m3 256) || !fit m4 4294967296) || !fit m5 4294967296) || !fit m6 4294967296) ((((((0 + 2) + 1) + 1) + 4) + 4) + 4) m7 (by simp [sInts_length, be4, be2, be1] <;> omega)
  have c7 := name_con (((((((([] : List Int) ++ be2 m1) ++ be1 m2) ++ be1 m3) ++ be4 m4) ++ be4 m5) ++ be4 m6) ++ be2 m7) (((((((false || !fit m1 65536) || !fit m2 256) || !fit m3 256) || !fit m4 4294967296) || !fit m5 4294967296) || !fit m6 4294967296) || !fit m7 65536) (((((((0 + 2) + 1) + 1) + 4) + 4) + 4) + 2) a (by simp [sInts_length, be4, be2, be1] <;> omega) (by omega)
  have c8 := bytes_con ((((((((([] : List Int) ++ be2 m1) ++ be1 m2) ++ be1 m3) ++ be4 m4) ++ be4 m5) ++ be4 m6) ++ be2 m7) ++ sInts a) ((((((((false || !fit m1 65536) || !fit m2 256) || !fit m3 256) || !fit m4 4294967296) || !fit m5 4294967296) || !fit m6 4294967296) || !fit m7 65536) || !rgt a) ((((((((0 + 2) + 1) + 1) + 4) + 4) + 4) + 2) + 1) b 1 (by simp [sInts_length, be4, be2, be1] <;> omega) (by omega)
  have c9 := done_con (sgL m1 m2 m3 m4 m5 m6 m7 a b) (sgW m1 m2 m3 m4 m5 m6 m7 a b) (((((((((0 + 2) + 1) + 1) + 4) + 4) + 4) + 2) + 1) + 1) (by simp [sgL, sInts_length, be4, be2, be1] <;> omega)
  have e1 : sgL m1 m2 m3 m4 m5 m6 m7 a b = (((((((((([] : List Int) ++ be2 m1) ++ be1 m2) ++ be1 m3) ++ be4 m4) ++ be4 m5) ++ be4 m6) ++ be2 m7) ++ sInts a) ++ sInts b) := rfl
  have e2 : sgW m1 m2 m3 m4 m5 m6 m7 a b = (((((((((false || !fit m1 65536) || !fit m2 256) || !fit m3 256) || !fit m4 4294967296) || !fit m5 4294967296) || !fit m6 4294967296) || !fit m7 65536) || !rgt a) || decide ((b.size : Int) < 1)) := rfl
  rw [e1, e2] at c9 ⊢
  generalize hV : dnV (((((((((([] : List Int) ++ be2 m1) ++ be1 m2) ++ be1 m3) ++ be4 m4) ++ be4 m5) ++ be4 m6) ++ be2 m7) ++ sInts a) ++ sInts b) (((((((((false || !fit m1 65536) || !fit m2 256) || !fit m3 256) || !fit m4 4294967296) || !fit m5 4294967296) || !fit m6 4294967296) || !fit m7 65536) || !rgt a) || decide ((b.size : Int) < 1)) = V at c9 ⊢
  clear hV e1 e2
  repeat' (
    (conv => whnf)
    first
      | refine TR.nil_cell 8 0 55 5 1 rfl rfl rfl ?_
      | (with_reducible first
          | refine TR.seq ?_
          | refine TR.regionL ?_
          | refine TR.drawn (TTok _ _) mixed ?_
          | refine TR.block ?_
          | refine TR.ret ?_
          | refine TR.exit ?_
          | refine TR.skip ?_
          | refine TR.condB rfl ?_
          | refine TRL.nil ?_
          | refine Br.cond_t ?_
          | refine Br.cond_f ?_
          | refine Br.yes (by first | decide | assumption | (apply decide_eq_true; omega)) ?_
          | refine Br.non (by first | decide | assumption | (apply decide_eq_false; omega)) ?_
          | refine Br.cond_ff ?_
          | refine Br.eqT (by omega) ?_
          | refine Br.eqF (by omega) ?_
          | refine Br.neT (by omega) ?_
          | refine Br.neF (by omega) ?_
          | refine Ld.mk' _ rfl ?_
          | refine Need.mk (by first | decide | omega | kernel_rfl) ?_
          | refine Nm.i64 (by omega) ?_
          | refine Nm.u64 (by omega) ?_
          | refine Nm.u8 (by omega) ?_)
      | refine TRL.con [8, 55] [8, 55] c0 rfl rfl rfl rfl ⟨rfl, rfl, trivial⟩ rfl rfl (fun _ _ => ⟨trivial, ?_⟩) (fun _ h => h.elim)
      | refine TRL.con [8, 55] [8, 55] c1 rfl rfl rfl rfl ⟨rfl, rfl, trivial⟩ rfl rfl (fun _ _ => ⟨trivial, ?_⟩) (fun _ h => h.elim)
      | refine TRL.con [8, 55] [8, 55] c2 rfl rfl rfl rfl ⟨rfl, rfl, trivial⟩ rfl rfl (fun _ _ => ⟨trivial, ?_⟩) (fun _ h => h.elim)
      | refine TRL.con [8, 55] [8, 55] c3 rfl rfl rfl rfl ⟨rfl, rfl, trivial⟩ rfl rfl (fun _ _ => ⟨trivial, ?_⟩) (fun _ h => h.elim)
      | refine TRL.con [8, 55] [8, 55] c4 rfl rfl rfl rfl ⟨rfl, rfl, trivial⟩ rfl rfl (fun _ _ => ⟨trivial, ?_⟩) (fun _ h => h.elim)
      | refine TRL.con [8, 55] [8, 55] c5 rfl rfl rfl rfl ⟨rfl, rfl, trivial⟩ rfl rfl (fun _ _ => ⟨trivial, ?_⟩) (fun _ h => h.elim)
      | refine TRL.con [8, 55] [8, 55] c6 rfl rfl rfl rfl ⟨rfl, rfl, trivial⟩ rfl rfl (fun _ _ => ⟨trivial, ?_⟩) (fun _ h => h.elim)
      | refine TRL.con [8, 55] [8, 55] c7 rfl rfl rfl rfl ⟨rfl, rfl, trivial⟩ rfl rfl (fun _ _ => ⟨trivial, ?_⟩) (fun _ h => h.elim)
      | refine TRL.con [8, 55] [8, 55] c8 rfl rfl rfl rfl ⟨rfl, rfl, trivial⟩ rfl rfl (fun _ _ => ⟨trivial, ?_⟩) (fun _ h => h.elim)
      | refine TRL.con [8, 55] [8, 55] c9 rfl rfl rfl rfl ⟨rfl, rfl, trivial⟩ rfl rfl (fun _ _ => ⟨trivial, ?_⟩) (fun _ h => h.elim)
      | refine TRn.drop 6 rfl (Nat.zero_le _) (by simp [noRefC, unO, nr_byt', noRefL, noRef, getN] <;> rfl) ?_
      | refine TRn.step ?_
      | refine TR.loopN 9 ?_
      | refine TRL.step (TTok _ _) ?_
      | (refine x_exq (TTok _ _) ?_; (conv => whnf); fail_if_success (guard_target =ₛ False)))
  all_goals (conv => whnf)
  all_goals exact ⟨(), trivial, rfl, trivial⟩
end Go.Proofs.YtbladfkakmdigaaGreatDoor
set_option maxRecDepth 100000
set_option linter.unusedVariables false
set_option linter.unusedSimpArgs false
namespace Go.Proofs.YtbladfkakmdigaaGreatDoor
open Go.SX
/-! ### OfSoa, OfSig (the document's) -/
theorem Br.mk2 {t : Bool} {f : Bool → Prop} (h1 : t = true → f true) (h2 : t = false → f false) : Br t f := by
  cases t with
  | true => exact Br.tt (h1 rfl)
  | false => exact Br.ff (h2 rfl)
def okV (s : ByteArray) (ok : Bool) : Value := if ok = true then .tuple #[.string s, .bool true] else .tuple #[.string ⟨#[]⟩, .bool false]
noncomputable def rsoS (a b : ByteArray) (n1 n2 n3 n4 n5 : Int) : ByteArray := a ++ b ++ strOfNums (be4 n1) ++ strOfNums (be4 n2) ++ strOfNums (be4 n3) ++ strOfNums (be4 n4) ++ strOfNums (be4 n5)
noncomputable def rsoB (a b : ByteArray) (n1 n2 n3 n4 n5 : Int) : Bool := rgt a && rgt b && fit n1 4294967296 && fit n2 4294967296 && fit n3 4294967296 && fit n4 4294967296 && fit n5 4294967296
set_option maxHeartbeats 16000000 in
theorem rso_ret (a b : ByteArray) (n1 n2 n3 n4 n5 : Int) (ha : a.size < 4294967281) (hb : b.size < 4294967281) (w : World) : Ret Tryz.prog 35 [.agg #[.string a, .string b, .int .i64 n1, .int .i64 n2, .int .i64 n3, .int .i64 n4, .int .i64 n5]] w (okV (rsoS a b n1 n2 n3 n4 n5) (rsoB a b n1 n2 n3 n4 n5)) := by
  have r0 := fun w => rright a ha w
  have r1 := fun w => rright b hb w
  have fi2 := fun w => fits_ret n1 4294967296 4 (by simp) w
  have nu2 := fun w => num4_ret n1 w
  have fi3 := fun w => fits_ret n2 4294967296 4 (by simp) w
  have nu3 := fun w => num4_ret n2 w
  have fi4 := fun w => fits_ret n3 4294967296 4 (by simp) w
  have nu4 := fun w => num4_ret n3 w
  have fi5 := fun w => fits_ret n4 4294967296 4 (by simp) w
  have nu5 := fun w => num4_ret n4 w
  have fi6 := fun w => fits_ret n5 4294967296 4 (by simp) w
  have nu6 := fun w => num4_ret n5 w
  have hV1 : rsoB a b n1 n2 n3 n4 n5 = true → okV (rsoS a b n1 n2 n3 n4 n5) (rsoB a b n1 n2 n3 n4 n5) = .tuple #[.string (rsoS a b n1 n2 n3 n4 n5), .bool true] := fun h => by unfold okV; rw [if_pos h]
  have hV0 : rsoB a b n1 n2 n3 n4 n5 = false → okV (rsoS a b n1 n2 n3 n4 n5) (rsoB a b n1 n2 n3 n4 n5) = .tuple #[.string ⟨#[]⟩, .bool false] := fun h => by unfold okV; rw [if_neg (by rw [h]; simp)]
  generalize okV (rsoS a b n1 n2 n3 n4 n5) (rsoB a b n1 n2 n3 n4 n5) = V at hV1 hV0 ⊢
  unfold rsoS at hV1
  unfold rsoB at hV1 hV0
  obtain ⟨S1, hS1⟩ : ∃ x, a ++ b = x := ⟨_, rfl⟩
  have zs1 : S1.size = a.size + b.size := by rw [← hS1, ByteArray.size_append]
  rw [hS1] at hV1
  have z2 : (strOfNums (be4 n1)).size = 4 := sz_nums _
  generalize strOfNums (be4 n1) = A2 at nu2 z2 hV1
  obtain ⟨S2, hS2⟩ : ∃ x, S1 ++ A2 = x := ⟨_, rfl⟩
  have zs2 : S2.size = S1.size + A2.size := by rw [← hS2, ByteArray.size_append]
  rw [hS2] at hV1
  have z3 : (strOfNums (be4 n2)).size = 4 := sz_nums _
  generalize strOfNums (be4 n2) = A3 at nu3 z3 hV1
  obtain ⟨S3, hS3⟩ : ∃ x, S2 ++ A3 = x := ⟨_, rfl⟩
  have zs3 : S3.size = S2.size + A3.size := by rw [← hS3, ByteArray.size_append]
  rw [hS3] at hV1
  have z4 : (strOfNums (be4 n3)).size = 4 := sz_nums _
  generalize strOfNums (be4 n3) = A4 at nu4 z4 hV1
  obtain ⟨S4, hS4⟩ : ∃ x, S3 ++ A4 = x := ⟨_, rfl⟩
  have zs4 : S4.size = S3.size + A4.size := by rw [← hS4, ByteArray.size_append]
  rw [hS4] at hV1
  have z5 : (strOfNums (be4 n4)).size = 4 := sz_nums _
  generalize strOfNums (be4 n4) = A5 at nu5 z5 hV1
  obtain ⟨S5, hS5⟩ : ∃ x, S4 ++ A5 = x := ⟨_, rfl⟩
  have zs5 : S5.size = S4.size + A5.size := by rw [← hS5, ByteArray.size_append]
  rw [hS5] at hV1
  have z6 : (strOfNums (be4 n5)).size = 4 := sz_nums _
  generalize strOfNums (be4 n5) = A6 at nu6 z6 hV1
  obtain ⟨S6, hS6⟩ : ∃ x, S5 ++ A6 = x := ⟨_, rfl⟩
  have zs6 : S6.size = S5.size + A6.size := by rw [← hS6, ByteArray.size_append]
  rw [hS6] at hV1
  generalize rgt a = b0 at r0 hV1 hV0
  generalize rgt b = b1 at r1 hV1 hV0
  generalize fit n1 4294967296 = b2 at fi2 hV1 hV0
  generalize fit n2 4294967296 = b3 at fi3 hV1 hV0
  generalize fit n3 4294967296 = b4 at fi4 hV1 hV0
  generalize fit n4 4294967296 = b5 at fi5 hV1 hV0
  generalize fit n5 4294967296 = b6 at fi6 hV1 hV0
  refine Ret.tj (I := fun _ => True) (fun _ _ => trivial) (TTok 0 _) Tryz.func35 (by kernel_rfl) rfl ?_
  repeat' (
    (conv => whnf)
    first
      | (with_reducible first
          | refine TJ.seq ?_
          | refine TJ.region (TTok _ _) ?_
          | refine TJ.drawn (TTok _ _) mixed ?_
          | refine TJ.cond rfl ?_
          | refine TJ.block ?_
          | refine TJ.loop ?_
          | refine LJ.step ?_
          | refine TJ.ret ?_
          | refine TJ.exit ?_
          | refine TJ.skip ?_
          | refine TJ.scope ?_
          | refine TJ.label ?_
          | refine Br.cond_t ?_
          | refine Br.cond_f ?_
          | refine Br.yes (by first | decide | assumption | (apply decide_eq_true; omega)) ?_
          | refine Br.non (by first | decide | assumption | (apply decide_eq_false; omega)) ?_
          | refine Br.cond_ff ?_
          | refine Br.eqT (by omega) ?_
          | refine Br.eqF (by omega) ?_
          | refine Br.neT (by omega) ?_
          | refine Br.neF (by omega) ?_
          | refine Br.mk2 (fun hc => ?_) (fun hc => ?_)
          | refine Ld.mk' _ rfl ?_
          | refine Need.mk (by first | decide | omega | kernel_rfl) ?_
          | refine Nm.i64 (by omega) ?_
          | refine Nm.u64 (by omega) ?_
          | refine Nm.u8 (by omega) ?_
          | refine x_ret (f := 94) rfl rfl (fun w _ => r0 w) ?_
          | refine x_ret (f := 94) rfl rfl (fun w _ => r1 w) ?_
          | refine x_ret (f := 95) rfl rfl (fun w _ => fi2 w) ?_
          | refine x_ret (f := 96) rfl rfl (fun w _ => nu2 w) ?_
          | refine x_ret (f := 95) rfl rfl (fun w _ => fi3 w) ?_
          | refine x_ret (f := 96) rfl rfl (fun w _ => nu3 w) ?_
          | refine x_ret (f := 95) rfl rfl (fun w _ => fi4 w) ?_
          | refine x_ret (f := 96) rfl rfl (fun w _ => nu4 w) ?_
          | refine x_ret (f := 95) rfl rfl (fun w _ => fi5 w) ?_
          | refine x_ret (f := 96) rfl rfl (fun w _ => nu5 w) ?_
          | refine x_ret (f := 95) rfl rfl (fun w _ => fi6 w) ?_
          | refine x_ret (f := 96) rfl rfl (fun w _ => nu6 w) ?_)
      | refine Nm.mk' _ hS1 ?_
      | refine Nm.mk' _ hS2 ?_
      | refine Nm.mk' _ hS3 ?_
      | refine Nm.mk' _ hS4 ?_
      | refine Nm.mk' _ hS5 ?_
      | refine Nm.mk' _ hS6 ?_
      | refine Nm.keep ?_
      | (refine x_exq (TTok _ _) ?_; (conv => whnf); fail_if_success (guard_target =ₛ False)))
  all_goals (conv => whnf)
  all_goals first | (rw [hV1 (by simp_all)]; rfl) | (rw [hV0 (by simp_all)]; rfl)
noncomputable def rsgS (m1 m2 m3 m4 m5 m6 m7 : Int) (a b : ByteArray) : ByteArray := strOfNums (be2 m1) ++ strOfNums (be1 m2) ++ strOfNums (be1 m3) ++ strOfNums (be4 m4) ++ strOfNums (be4 m5) ++ strOfNums (be4 m6) ++ strOfNums (be2 m7) ++ a ++ b
noncomputable def rsgB (m1 m2 m3 m4 m5 m6 m7 : Int) (a b : ByteArray) : Bool := rgt a && fit m1 65536 && fit m2 256 && fit m3 256 && fit m4 4294967296 && fit m5 4294967296 && fit m6 4294967296 && fit m7 65536 && decide (0 < b.size)
set_option maxHeartbeats 16000000 in
theorem rsg_ret (m1 m2 m3 m4 m5 m6 m7 : Int) (a b : ByteArray) (ha : a.size < 4294967281) (hb : b.size < 4294967281) (w : World) : Ret Tryz.prog 37 [.agg #[.int .i64 m1, .int .i64 m2, .int .i64 m3, .int .i64 m4, .int .i64 m5, .int .i64 m6, .int .i64 m7, .string a, .string b]] w (shV (rsgS m1 m2 m3 m4 m5 m6 m7 a b) (rsgB m1 m2 m3 m4 m5 m6 m7 a b)) := by
  have fi0 := fun w => fits_ret m1 65536 2 (by simp) w
  have nu0 := fun w => num2_ret m1 w
  have fi1 := fun w => fits_ret m2 256 1 (by simp) w
  have nu1 := fun w => num1_ret m2 w
  have fi2 := fun w => fits_ret m3 256 1 (by simp) w
  have nu2 := fun w => num1_ret m3 w
  have fi3 := fun w => fits_ret m4 4294967296 4 (by simp) w
  have nu3 := fun w => num4_ret m4 w
  have fi4 := fun w => fits_ret m5 4294967296 4 (by simp) w
  have nu4 := fun w => num4_ret m5 w
  have fi5 := fun w => fits_ret m6 4294967296 4 (by simp) w
  have nu5 := fun w => num4_ret m6 w
  have fi6 := fun w => fits_ret m7 65536 2 (by simp) w
  have nu6 := fun w => num2_ret m7 w
  have r7 := fun w => rright a ha w
  have hsh : ∀ ok, ok = rsgB m1 m2 m3 m4 m5 m6 m7 a b → ∀ w, Ret Tryz.prog 98 [.string (rsgS m1 m2 m3 m4 m5 m6 m7 a b), .bool ok] w (shV (rsgS m1 m2 m3 m4 m5 m6 m7 a b) (rsgB m1 m2 m3 m4 m5 m6 m7 a b)) := fun ok e w => by rw [e]; exact short_ret _ _ w
  have hV2 : ∃ x y, shV (rsgS m1 m2 m3 m4 m5 m6 m7 a b) (rsgB m1 m2 m3 m4 m5 m6 m7 a b) = .tuple #[x, y] := by
    unfold shV
    split
    · exact ⟨_, _, rfl⟩
    · exact ⟨_, _, rfl⟩
  obtain ⟨X, Y, hXY⟩ := hV2
  rw [hXY] at hsh ⊢
  clear hXY
  unfold rsgS rsgB at hsh
  have z0 : (strOfNums (be2 m1)).size = 2 := sz_nums _
  generalize strOfNums (be2 m1) = A0 at nu0 z0 hsh
  have z1 : (strOfNums (be1 m2)).size = 1 := sz_nums _
  generalize strOfNums (be1 m2) = A1 at nu1 z1 hsh
  obtain ⟨S1, hS1⟩ : ∃ x, A0 ++ A1 = x := ⟨_, rfl⟩
  have zs1 : S1.size = A0.size + A1.size := by rw [← hS1, ByteArray.size_append]
  rw [hS1] at hsh
  have z2 : (strOfNums (be1 m3)).size = 1 := sz_nums _
  generalize strOfNums (be1 m3) = A2 at nu2 z2 hsh
  obtain ⟨S2, hS2⟩ : ∃ x, S1 ++ A2 = x := ⟨_, rfl⟩
  have zs2 : S2.size = S1.size + A2.size := by rw [← hS2, ByteArray.size_append]
  rw [hS2] at hsh
  have z3 : (strOfNums (be4 m4)).size = 4 := sz_nums _
  generalize strOfNums (be4 m4) = A3 at nu3 z3 hsh
  obtain ⟨S3, hS3⟩ : ∃ x, S2 ++ A3 = x := ⟨_, rfl⟩
  have zs3 : S3.size = S2.size + A3.size := by rw [← hS3, ByteArray.size_append]
  rw [hS3] at hsh
  have z4 : (strOfNums (be4 m5)).size = 4 := sz_nums _
  generalize strOfNums (be4 m5) = A4 at nu4 z4 hsh
  obtain ⟨S4, hS4⟩ : ∃ x, S3 ++ A4 = x := ⟨_, rfl⟩
  have zs4 : S4.size = S3.size + A4.size := by rw [← hS4, ByteArray.size_append]
  rw [hS4] at hsh
  have z5 : (strOfNums (be4 m6)).size = 4 := sz_nums _
  generalize strOfNums (be4 m6) = A5 at nu5 z5 hsh
  obtain ⟨S5, hS5⟩ : ∃ x, S4 ++ A5 = x := ⟨_, rfl⟩
  have zs5 : S5.size = S4.size + A5.size := by rw [← hS5, ByteArray.size_append]
  rw [hS5] at hsh
  have z6 : (strOfNums (be2 m7)).size = 2 := sz_nums _
  generalize strOfNums (be2 m7) = A6 at nu6 z6 hsh
  obtain ⟨S6, hS6⟩ : ∃ x, S5 ++ A6 = x := ⟨_, rfl⟩
  have zs6 : S6.size = S5.size + A6.size := by rw [← hS6, ByteArray.size_append]
  rw [hS6] at hsh
  obtain ⟨S7, hS7⟩ : ∃ x, S6 ++ a = x := ⟨_, rfl⟩
  have zs7 : S7.size = S6.size + a.size := by rw [← hS7, ByteArray.size_append]
  rw [hS7] at hsh
  obtain ⟨S8, hS8⟩ : ∃ x, S7 ++ b = x := ⟨_, rfl⟩
  have zs8 : S8.size = S7.size + b.size := by rw [← hS8, ByteArray.size_append]
  rw [hS8] at hsh
  generalize fit m1 65536 = b0 at fi0 hsh
  generalize fit m2 256 = b1 at fi1 hsh
  generalize fit m3 256 = b2 at fi2 hsh
  generalize fit m4 4294967296 = b3 at fi3 hsh
  generalize fit m5 4294967296 = b4 at fi4 hsh
  generalize fit m6 4294967296 = b5 at fi5 hsh
  generalize fit m7 65536 = b6 at fi6 hsh
  generalize rgt a = b7 at r7 hsh
  refine Ret.tj (I := fun _ => True) (fun _ _ => trivial) (TTok 0 _) Tryz.func37 (by kernel_rfl) rfl ?_
  repeat' (
    (conv => whnf)
    first
      | (with_reducible first
          | refine TJ.seq ?_
          | refine TJ.region (TTok _ _) ?_
          | refine TJ.drawn (TTok _ _) mixed ?_
          | refine TJ.cond rfl ?_
          | refine TJ.block ?_
          | refine TJ.loop ?_
          | refine LJ.step ?_
          | refine TJ.ret ?_
          | refine TJ.exit ?_
          | refine TJ.skip ?_
          | refine TJ.scope ?_
          | refine TJ.label ?_
          | refine Br.cond_t ?_
          | refine Br.cond_f ?_
          | refine Br.yes (by first | decide | assumption | (apply decide_eq_true; omega)) ?_
          | refine Br.non (by first | decide | assumption | (apply decide_eq_false; omega)) ?_
          | refine Br.cond_ff ?_
          | refine Br.eqT (by omega) ?_
          | refine Br.eqF (by omega) ?_
          | refine Br.neT (by omega) ?_
          | refine Br.neF (by omega) ?_
          | refine Br.mk2 (fun hc => ?_) (fun hc => ?_)
          | refine Ld.mk' _ rfl ?_
          | refine Need.mk (by first | decide | omega | kernel_rfl) ?_
          | refine Nm.i64 (by omega) ?_
          | refine Nm.u64 (by omega) ?_
          | refine Nm.u8 (by omega) ?_
          | refine x_ret (f := 95) rfl rfl (fun w _ => fi0 w) ?_
          | refine x_ret (f := 96) rfl rfl (fun w _ => nu0 w) ?_
          | refine x_ret (f := 95) rfl rfl (fun w _ => fi1 w) ?_
          | refine x_ret (f := 96) rfl rfl (fun w _ => nu1 w) ?_
          | refine x_ret (f := 95) rfl rfl (fun w _ => fi2 w) ?_
          | refine x_ret (f := 96) rfl rfl (fun w _ => nu2 w) ?_
          | refine x_ret (f := 95) rfl rfl (fun w _ => fi3 w) ?_
          | refine x_ret (f := 96) rfl rfl (fun w _ => nu3 w) ?_
          | refine x_ret (f := 95) rfl rfl (fun w _ => fi4 w) ?_
          | refine x_ret (f := 96) rfl rfl (fun w _ => nu4 w) ?_
          | refine x_ret (f := 95) rfl rfl (fun w _ => fi5 w) ?_
          | refine x_ret (f := 96) rfl rfl (fun w _ => nu5 w) ?_
          | refine x_ret (f := 95) rfl rfl (fun w _ => fi6 w) ?_
          | refine x_ret (f := 96) rfl rfl (fun w _ => nu6 w) ?_
          | refine x_ret (f := 94) rfl rfl (fun w _ => r7 w) ?_
          | refine x_ret (f := 98) rfl rfl (fun w _ => hsh _ (by simp_all) w) ?_)
      | refine Nm.mk' _ hS1 ?_
      | refine Nm.mk' _ hS2 ?_
      | refine Nm.mk' _ hS3 ?_
      | refine Nm.mk' _ hS4 ?_
      | refine Nm.mk' _ hS5 ?_
      | refine Nm.mk' _ hS6 ?_
      | refine Nm.mk' _ hS7 ?_
      | refine Nm.mk' _ hS8 ?_
      | refine Nm.keep ?_
      | (refine x_exq (TTok _ _) ?_; (conv => whnf); fail_if_success (guard_target =ₛ False)))
  all_goals (conv => whnf)
  all_goals rfl
end Go.Proofs.YtbladfkakmdigaaGreatDoor
