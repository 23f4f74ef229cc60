/-
  What the laws of these data stand on: contracts of functions, and plain laws.
-/
import Derived.Test.YtbladfkakmdigaaGreatDoorRXa
import Derived.Test.YtbladfkakmdigaaGreatDoorRXb
import Derived.Test.YtbladfkakmdigaaGreatDoorRXc
import Derived.Test.YtbladfkakmdigaaGreatDoorRXd
import Derived.Test.YtbladfkakmdigaaGreatDoorRBa
import Derived.Test.YtbladfkakmdigaaGreatDoorRPa
set_option linter.unusedVariables false
set_option linter.unusedSimpArgs false
set_option linter.unnecessarySimpa false
set_option maxRecDepth 100000
set_option linter.unusedVariables false
set_option linter.unusedSimpArgs false
namespace Go.Proofs.YtbladfkakmdigaaGreatDoor
open Go.SX
def riN (z : Int) : Int := (if z < 0 then -(z + 1) else z) % 65536
def ltN (n : Int) : List Int → Nat
  | [] => 0
  | x :: r => if x < n then ltN n r + 1 else 0
def insU (out : List Int) (n : Int) : List Int := if zAt out (ltN n out) = n ∧ ltN n out < out.length then out else out.take (ltN n out) ++ [n] ++ out.drop (ltN n out)
def rise : List Int → Nat → List Int
  | _, 0 => []
  | l, k + 1 => insU (rise l k) (riN (zAt l k))
theorem ltN_le (n : Int) : ∀ l, ltN n l ≤ l.length
  | [] => Nat.le_refl _
  | x :: r => by
    have := ltN_le n r
    unfold ltN
    split <;> simp <;> omega
theorem ltN_lt (n : Int) : ∀ (l : List Int) (i : Nat), i < ltN n l → zAt l i < n
  | [], i, h => by simp [ltN] at h
  | x :: r, i, h => by
    unfold ltN at h
    split at h
    · cases i with
      | zero => simpa [zAt] using ‹x < n›
      | succ i =>
        have := ltN_lt n r i (by omega)
        simpa [zAt] using this
    · omega
theorem ltN_at (n : Int) : ∀ (l : List Int), ltN n l < l.length → n ≤ zAt l (ltN n l)
  | [], h => by simp at h
  | x :: r, h => by
    unfold ltN at h ⊢
    split at h
    · rename_i hx
      rw [if_pos hx]
      have := ltN_at n r (by simpa using h)
      simpa [zAt] using this
    · rename_i hx
      rw [if_neg hx]
      simp [zAt]
      omega
theorem mem_take_zAt {l : List Int} {k : Nat} {z : Int} (h : z ∈ l.take k) : ∃ i, i < k ∧ i < l.length ∧ zAt l i = z := by
  obtain ⟨i, h1, h2⟩ := List.mem_iff_getElem.1 h
  rw [List.length_take] at h1
  refine ⟨i, by omega, by omega, ?_⟩
  rw [List.getElem_take] at h2
  simp [zAt, List.getD, show i < l.length by omega, h2]
theorem mem_drop_zAt {l : List Int} {k : Nat} {z : Int} (h : z ∈ l.drop k) : ∃ i, k ≤ i ∧ i < l.length ∧ zAt l i = z := by
  obtain ⟨i, h1, h2⟩ := List.mem_iff_getElem.1 h
  rw [List.length_drop] at h1
  refine ⟨k + i, by omega, by omega, ?_⟩
  rw [List.getElem_drop] at h2
  simp [zAt, List.getD, show k + i < l.length by omega, h2]
theorem insU_inc {out : List Int} {n : Int} (h : Inc out) : Inc (insU out n) := by
  unfold insU
  split
  · exact h
  · rename_i hc
    have h0 := ltN_le n out
    have hlow : ∀ x, x ∈ out.take (ltN n out) → x < n := fun x hx => by
      obtain ⟨i, g1, g2, rfl⟩ := mem_take_zAt hx
      exact ltN_lt n out i g1
    have hup : ∀ y, y ∈ out.drop (ltN n out) → n < y := fun y hy => by
      obtain ⟨i, g1, g2, rfl⟩ := mem_drop_zAt hy
      have h3 := ltN_at n out (by omega)
      by_cases e : i = ltN n out
      · subst e
        have : zAt out (ltN n out) ≠ n := fun e => hc ⟨e, g2⟩
        omega
      · have := inc_zAt h (show ltN n out < i by omega) g2
        omega
    refine inc_app (inc_app (List.Pairwise.sublist (List.take_sublist ..) h) (List.pairwise_singleton _ _) ?_) (List.Pairwise.sublist (List.drop_sublist ..) h) ?_
    · intro x hx y hy
      simp only [List.mem_singleton] at hy
      subst hy
      exact hlow x hx
    · intro x hx y hy
      have hy' := hup y hy
      simp only [List.mem_append, List.mem_singleton] at hx
      rcases hx with hx | rfl
      · have := hlow x hx; omega
      · exact hy'
theorem insU_mem {out : List Int} {n z : Int} (h : z ∈ insU out n) : z ∈ out ∨ z = n := by
  unfold insU at h
  split at h
  · exact .inl h
  · simp only [List.mem_append, List.mem_singleton] at h
    rcases h with (h | h) | h
    · exact .inl (List.mem_of_mem_take h)
    · exact .inr h
    · exact .inl (List.mem_of_mem_drop h)
theorem insU_len (out : List Int) (n : Int) : (insU out n).length ≤ out.length + 1 := by
  have := ltN_le n out
  unfold insU
  split
  · omega
  · simp [List.length_take]; omega
theorem rise_ok (l : List Int) : ∀ k, Inc (rise l k) ∧ (∀ z, z ∈ rise l k → 0 ≤ z ∧ z < 65536) ∧ (rise l k).length ≤ k
  | 0 => ⟨List.Pairwise.nil, fun z h => by simp [rise] at h, Nat.le_refl _⟩
  | k + 1 => by
    obtain ⟨h1, h2, h3⟩ := rise_ok l k
    have h4 := insU_len (rise l k) (riN (zAt l k))
    refine ⟨insU_inc h1, fun z hz => ?_, by show (insU (rise l k) (riN (zAt l k))).length ≤ _; omega⟩
    rcases insU_mem hz with h | rfl
    · exact h2 z h
    · unfold riN; omega
theorem blkT_pos {p : Int × ByteArray} (h : 0 < p.2.size ∧ p.2.size ≤ 32 ∧ bAt p.2 (p.2.size - 1) ≠ 0) : 0 < (blkT p).length := by
  obtain ⟨k, hk, hb⟩ := bit_some (bAt_range p.2 _) h.2.2
  refine List.length_pos_of_mem (a := 256 * p.1 + 8 * ((p.2.size - 1 : Nat) : Int) + k) ((bitsTo_mem _ _ _ _).2 ⟨p.2.size - 1, k, by omega, hk, ?_, rfl⟩)
  rw [show (((p.2.size - 1 : Nat)) : Int) = (p.2.size : Int) - 1 by omega]
  exact hb
theorem blksB_len : ∀ {bs : List (Int × ByteArray)} {last : Int}, Ws last bs → (blksB bs).length ≤ 34 * (blksT bs).length
  | [], _, _ => Nat.le_refl _
  | p :: bs, last, hw => by
    obtain ⟨h1, h2, h3, h4, h5, h6⟩ := hw
    have ih := blksB_len h6
    have hp := blkT_pos ⟨h3, h4, h5⟩
    simp only [blksB, blksT, List.length_append]
    have : (blkB p).length = 2 + p.2.size := by simp [blkB, sInts_length]; omega
    omega
theorem wins_split (o l : List Int) : ∀ k, wins o l k = o ++ wins [] l k
  | 0 => by simp [wins]
  | k + 1 => by simp only [wins, wins_split o l k, List.append_assoc]
theorem wins_short {l : List Int} (hl : Inc l) (hr : ∀ z, z ∈ l → 0 ≤ z ∧ z < 65536) : (wins [] l 256).length ≤ 34 * l.length := by
  obtain ⟨K, hK⟩ : ∃ K, K = 256 := ⟨_, rfl⟩
  rw [← hK]
  have hw := blksOf_Ws l K (by omega)
  have he : blksT (blksOf l K) = l := by
    refine inc_ext _ _ (blksT_inc hw) hl fun z => ?_
    rw [blksOf_mem hl]
    constructor
    · exact fun h => h.1
    · intro h
      have := hr z h
      exact ⟨h, by omega, by omega⟩
  rw [wins_of [] l K (by omega), List.nil_append]
  have := blksB_len hw
  rw [he] at this
  exact this
theorem winR_byte (l : List Int) (w : Nat) (hw : w ≤ 255) : ∀ n, n ∈ winR l w → 0 ≤ n ∧ n ≤ 255 := by
  intro n hn
  unfold winR at hn
  split at hn
  · have hr := bnm_range l w l.length
    simp only [List.mem_append] at hn
    rcases hn with (hn | hn) | hn
    · simp only [be1, by8, List.mem_singleton] at hn
      rw [hn, Int.ediv_one, wrap_u8 (by omega)]; omega
    · simp only [be1, by8, List.mem_singleton] at hn
      rw [hn, Int.ediv_one, wrap_u8 (by omega)]; omega
    · obtain ⟨i, _, rfl⟩ := mem_zAt.1 (List.mem_of_mem_take hn)
      exact bmp_range _ _ _ _
  · simp at hn
theorem wins_byte {o : List Int} (ho : ∀ n, n ∈ o → 0 ≤ n ∧ n ≤ 255) (l : List Int) : ∀ k, k ≤ 256 → ∀ n, n ∈ wins o l k → 0 ≤ n ∧ n ≤ 255
  | 0, _, n, hn => ho n hn
  | k + 1, hk, n, hn => by
    have hn : n ∈ wins o l k ++ winR l k := hn
    rw [List.mem_append] at hn
    rcases hn with hn | hn
    · exact wins_byte ho l k (by omega) n hn
    · exact winR_byte l k (by omega) n hn
theorem tbD_back {l : List Int} (hl : Inc l) (h2 : 2 ≤ l.length) (wr : Bool) : tbD l.reverse wr l.reverse.length = true := by
  have hg : ∀ i, i < l.length → zAt l.reverse i = zAt l (l.length - 1 - i) := fun i hi => by
    simp only [zAt, List.getD_eq_getElem?_getD, List.getElem?_reverse hi]
  have h : tbD l.reverse wr 2 = true := by
    have e1 := hg 1 (by omega)
    have e0 := hg 0 (by omega)
    have hlt := inc_zAt hl (show l.length - 1 - 1 < l.length - 1 - 0 by omega) (by omega)
    have : decide (zAt l.reverse 1 ≤ zAt l.reverse (1 - 1)) = true := decide_eq_true (by rw [show 1 - 1 = 0 from rfl, e1, e0]; omega)
    show (tbD l.reverse wr 1 || (!fit (zAt l.reverse 1) 65536 || (decide (0 < 1) && decide (zAt l.reverse 1 ≤ zAt l.reverse (1 - 1))))) = true
    rw [this]
    simp
  exact tbD_true h (by simpa using h2)
end Go.Proofs.YtbladfkakmdigaaGreatDoor
set_option maxRecDepth 100000
set_option linter.unusedVariables false
set_option linter.unusedSimpArgs false
namespace Go.Proofs.YtbladfkakmdigaaGreatDoor
open Go.SX
theorem subL_its_sub (l : List Int) : ∀ (lo m : Nat), lo + m ≤ l.length → subL (its l) lo m = some (its ((l.drop lo).take m)) := by
  induction l with
  | nil =>
    intro lo m h
    obtain rfl : lo = 0 := by simp at h; omega
    obtain rfl : m = 0 := by simp at h; omega
    rfl
  | cons x r ih =>
    intro lo m h
    cases lo with
    | zero =>
      cases m with
      | zero => rfl
      | succ m =>
        have := ih 0 m (by simp at h; omega)
        simp only [its, List.drop_zero] at this
        simp [its, subL, this]
    | succ lo =>
      have := ih lo m (by simp at h; omega)
      simp only [its] at this
      simp [its, subL, this]
theorem its_ones (l : List Int) : (its l).all SX.one = true := by
  simp [its, List.all_map]
  intro x _
  rfl
theorem swL_its (c d : Nat) (l : List Int) : swL c d (its l) = its l := by rw [its_vals, swL_vals]
theorem swL_app (c d : Nat) : ∀ a b : List AV, swL c d (a ++ b) = swL c d a ++ swL c d b
  | [], b => rfl
  | x :: a, b => by simp only [List.cons_append, swL, swL_app c d a b]
def riH (l : List Int) (s : Nat → Nat) : List (Option Chunk) := [some ⟨.ro, 3, 1, 0, its l⟩]
theorem riH_cl (l : List Int) : refsInC (riH l id) (riH l id) = true := by simp [riH, refsInC, refsInL_its]
theorem riH_nat (l : List Int) (σ : List Nat) : mapR σ (riH l id) = riH l (getN σ) := by simp [riH, mapR, renK, renL_its]
def riC (l : List Int) (r : List Int) (v : Nat) (s : Nat → Nat) : List (Option Chunk) := [some ⟨.ro, 3, 1, 0, its l⟩, some ⟨.row, 3, 1, v, its r⟩]
theorem riC_nat (l r : List Int) (v : Nat) (σ : List Nat) : mapR σ (riC l r v id) = riC l r v (getN σ) := by simp [riC, mapR, renK, renL_its]
theorem riC_end (l r : List Int) (v : Nat) : CEnd (riH l id) (riC l r v id) (.sl 1 v 0 r.length) := CEnd.of rfl rfl (by simp [riC, refsInC, refsInL_its])
set_option maxHeartbeats 16000000 in
theorem rise_con (l : List Int) (m : Nat) (hm : m ≤ l.length) (hl : l.length ≤ 9223372036854775807) (hmb : m < 1099511627776) (hR : ∀ z, z ∈ l → -9223372036854775808 ≤ z ∧ z ≤ 9223372036854775807) : Con Tryz.prog (fun _ => True) 48 (fun s => [.sl (s 0) 0 0 m]) (riH l) (fun _ : Nat => True) (fun v s => .sl (s 1) v 0 (rise l m).length) (fun v => riC l (rise l m) v) (fun _ => False) := by
  refine Con.of (TTok _ _) Tryz.func48 (by kernel_rfl) rfl (riH_cl _) rfl (fun σ => rfl) (riH_nat _) (fun _ _ _ => rfl) (fun v σ _ => riC_nat _ _ v σ) (fun v _ => riC_end _ _ v) ?_
  unfold riH
  repeat' ((conv => whnf); first | refine TR.nil_slot 3 1 3 1 rfl rfl ?_ | (with_reducible first | refine TR.seq ?_ | refine TR.regionL ?_ | refine TR.drawn (TTok _ _) mixed ?_ | refine TR.block ?_ | refine TR.ret ?_ | refine TR.exit ?_ | refine TR.skip ?_ | refine TR.condB rfl ?_ | refine TRL.nil ?_ | refine Br.cond_t ?_ | refine Br.cond_f ?_ | refine Br.yes (by first | decide | assumption | (apply decide_eq_true; omega)) ?_ | refine Br.non (by first | decide | assumption | (apply decide_eq_false; omega)) ?_ | refine Br.cond_ff ?_ | refine Br.eqT (by omega) ?_ | refine Br.eqF (by omega) ?_ | refine Br.neT (by omega) ?_ | refine Br.neF (by omega) ?_ | refine Ld.mk' _ rfl ?_ | refine Need.mk (by first | decide | omega | kernel_rfl) ?_ | refine Nm.i64 (by omega) ?_ | refine Nm.u64 (by omega) ?_ | refine Nm.u8 (by omega) ?_ | refine Nm.keep ?_ | refine Need.mk (by dsimp only; omega) ?_) | refine TRL.step (TTok _ _) ?_ | (refine x_exq (TTok _ _) ?_; (conv => whnf); fail_if_success (guard_target =ₛ False)))
  refine TR.loopH (fun x : Nat × Nat => [(4, .v (.int .i64 x.1)), (3, .sl 1 x.2 0 (rise l x.1).length)]) (fun x => [(1, ⟨.row, 3, 1, x.2, its (rise l x.1)⟩)]) (fun x => x.1 ≤ m) (fun x => m - x.1) (0, 0) (Nat.zero_le _) ?_ ?_
  · repeat' ((conv => whnf); first | exact trivial | exact Fgt.nil | exact Fgt.mk rfl rfl rfl | exact Fgt.mk rfl (by simp only [noRefC, nr_app, nr_map, nr_its, nr_byt', noRefL, noRef, Bool.and_self] <;> rfl) rfl | refine And.intro rfl ?_ | refine And.intro ?_ ?_)
  · rintro ⟨k, v⟩ hk
    dsimp only at hk ⊢
    obtain ⟨q1, q2, q3⟩ := rise_ok l k
    by_cases hkm : k < m
    · have hld := ld_its (l := l) (k := k) (by omega)
      have hnx : rise l (k + 1) = insU (rise l k) (riN (zAt l k)) := rfl
      generalize rise l k = out at q1 q2 q3 hnx ⊢
      have hzr := hR (zAt l k) (mem_zAt.2 ⟨k, by omega, rfl⟩)
      generalize hn : riN (zAt l k) = n at hnx
      have hle := ltN_le n out
      have hol : out.length ≤ k := q3
      by_cases hneg : zAt l k < 0
      · have hnm : (0 - (zAt l k + 1)).tmod 65536 = n := by
          rw [← hn, Int.tmod_eq_emod_of_nonneg (by omega)]; unfold riN; rw [if_pos hneg, Int.zero_sub]
        repeat' ((conv => whnf); first | (with_reducible first | refine TR.seq ?_ | refine TR.regionL ?_ | refine TR.drawn (TTok _ _) mixed ?_ | refine TR.block ?_ | refine TR.ret ?_ | refine TR.exit ?_ | refine TR.skip ?_ | refine TR.condB rfl ?_ | refine TRL.nil ?_ | refine Br.cond_t ?_ | refine Br.cond_f ?_ | refine Br.yes (by first | decide | assumption | (apply decide_eq_true; omega)) ?_ | refine Br.non (by first | decide | assumption | (apply decide_eq_false; omega)) ?_ | refine Br.cond_ff ?_ | refine Br.eqT (by omega) ?_ | refine Br.eqF (by omega) ?_ | refine Br.neT (by omega) ?_ | refine Br.neF (by omega) ?_ | refine Nm.mk' _ hnm ?_ | refine Ld.mk' _ rfl ?_ | refine Need.mk (by first | decide | omega | kernel_rfl) ?_ | refine Nm.i64 (by omega) ?_ | refine Nm.u64 (by omega) ?_ | refine Nm.u8 (by omega) ?_ | refine Nm.keep ?_ | refine Need.mk (by dsimp only; omega) ?_) | refine Ld.mk' _ hld ?_ | refine TRL.step (TTok _ _) ?_ | (refine x_exq (TTok _ _) ?_; (conv => whnf); fail_if_success (guard_target =ₛ False)))
        refine TR.loopH (fun a : Nat => [(6, .v (.int .i64 a))]) (fun a => []) (fun a => a ≤ ltN n out) (fun a => ltN n out - a) 0 (Nat.zero_le _) ?_ ?_
        · repeat' ((conv => whnf); first | exact trivial | exact Fgt.nil | exact Fgt.mk rfl rfl rfl | exact Fgt.mk rfl (by simp only [noRefC, nr_app, nr_map, nr_its, nr_byt', noRefL, noRef, Bool.and_self] <;> rfl) rfl | refine And.intro rfl ?_ | refine And.intro ?_ ?_)
        · rintro a ha
          by_cases hlt : a < ltN n out
          · have ho := ltN_lt n out a hlt
            have hlo := ld_its (l := out) (k := a) (by omega)
            repeat' ((conv => whnf); first | (with_reducible first | refine TR.seq ?_ | refine TR.regionL ?_ | refine TR.drawn (TTok _ _) mixed ?_ | refine TR.block ?_ | refine TR.ret ?_ | refine TR.exit ?_ | refine TR.skip ?_ | refine TR.condB rfl ?_ | refine TRL.nil ?_ | refine Br.cond_t ?_ | refine Br.cond_f ?_ | refine Br.yes (by first | decide | assumption | (apply decide_eq_true; omega)) ?_ | refine Br.non (by first | decide | assumption | (apply decide_eq_false; omega)) ?_ | refine Br.cond_ff ?_ | refine Br.eqT (by omega) ?_ | refine Br.eqF (by omega) ?_ | refine Br.neT (by omega) ?_ | refine Br.neF (by omega) ?_ | refine Ld.mk' _ rfl ?_ | refine Need.mk (by first | decide | omega | kernel_rfl) ?_ | refine Nm.i64 (by omega) ?_ | refine Nm.u64 (by omega) ?_ | refine Nm.u8 (by omega) ?_ | refine Nm.keep ?_ | refine Need.mk (by dsimp only; omega) ?_) | refine Ld.mk' _ hlo ?_ | refine TRL.step (TTok _ _) ?_ | (refine x_exq (TTok _ _) ?_; (conv => whnf); fail_if_success (guard_target =ₛ False)))
            all_goals (conv => whnf)
            refine ⟨a + 1, by omega, by omega, ?_⟩
            repeat' ((conv => whnf); first | exact trivial | exact Fgt.nil | exact Fgt.mk rfl rfl rfl | exact Fgt.mk rfl (by simp only [noRefC, nr_app, nr_map, nr_its, nr_byt', noRefL, noRef, Bool.and_self] <;> rfl) rfl | refine And.intro rfl ?_ | refine And.intro ?_ ?_)
          · obtain rfl : a = ltN n out := by omega
            clear hlt ha
            have hat := ltN_at n out
            obtain ⟨p, hp⟩ : ∃ p, ltN n out = p := ⟨_, rfl⟩
            have hins : insU out n = if zAt out p = n ∧ p < out.length then out else out.take p ++ [n] ++ out.drop p := by unfold insU; rw [hp]
            rw [hp] at hat hle ⊢
            by_cases hend : p < out.length
            · have hlo := ld_its (l := out) (k := p) (by omega)
              have ho := hat hend
              by_cases heq : zAt out p = n
              · rw [if_pos ⟨heq, hend⟩] at hins
                repeat' ((conv => whnf); first | (with_reducible first | refine TR.seq ?_ | refine TR.regionL ?_ | refine TR.drawn (TTok _ _) mixed ?_ | refine TR.block ?_ | refine TR.ret ?_ | refine TR.exit ?_ | refine TR.skip ?_ | refine TR.condB rfl ?_ | refine TRL.nil ?_ | refine Br.cond_t ?_ | refine Br.cond_f ?_ | refine Br.yes (by first | decide | assumption | (apply decide_eq_true; omega)) ?_ | refine Br.non (by first | decide | assumption | (apply decide_eq_false; omega)) ?_ | refine Br.cond_ff ?_ | refine Br.eqT (by omega) ?_ | refine Br.eqF (by omega) ?_ | refine Br.neT (by omega) ?_ | refine Br.neF (by omega) ?_ | refine Ld.mk' _ rfl ?_ | refine Need.mk (by first | decide | omega | kernel_rfl) ?_ | refine Nm.i64 (by omega) ?_ | refine Nm.u64 (by omega) ?_ | refine Nm.u8 (by omega) ?_ | refine Nm.keep ?_ | refine Need.mk (by dsimp only; omega) ?_) | refine Ld.mk' _ hlo ?_ | refine TRL.step (TTok _ _) ?_ | (refine x_exq (TTok _ _) ?_; (conv => whnf); fail_if_success (guard_target =ₛ False)))
                all_goals (conv => whnf)
                refine ⟨(k + 1, v), by dsimp only; omega, by dsimp only; omega, ?_⟩
                dsimp only
                rw [hnx, hins]
                repeat' ((conv => whnf); first | exact trivial | exact Fgt.nil | exact Fgt.mk rfl rfl rfl | exact Fgt.mk rfl (by simp only [noRefC, nr_app, nr_map, nr_its, nr_byt', noRefL, noRef, Bool.and_self] <;> rfl) rfl | refine And.intro rfl ?_ | refine And.intro ?_ ?_)
              · rw [if_neg (fun h => heq h.1)] at hins
                have hs1 : subL (its out) (0 * 1) (p * 1) = some (its (out.take p)) := by
                  have := subL_its_sub out 0 p (by omega)
                  simpa using this
                have hs2 : subL (its out) ((0 + (p : Int).toNat) * 1) (((out.length : Int).toNat - (p : Int).toNat) * 1) = some (its (out.drop p)) := by
                  have := subL_its_sub out p (out.length - p) (by omega)
                  rw [List.take_of_length_le (by rw [List.length_drop]; omega)] at this
                  simpa using this
                repeat' ((conv => whnf); first | refine TR.nil_slot 7 90 3 1 rfl rfl ?_ | (refine TR.dm 3 90 1 rfl rfl (Nat.le_of_ble_eq_true rfl) (Nat.le_of_ble_eq_true rfl) rfl (by simp [noRefC, unO, nr_its, noRefL, noRef, nr_app, nilRow] <;> rfl) rfl ?_; simp only [mvS, mapK, swK, swL_its, swL_app, unO, setO, dropF]) | (with_reducible first | refine TR.seq ?_ | refine TR.regionL ?_ | refine TR.drawn (TTok _ _) mixed ?_ | refine TR.block ?_ | refine TR.ret ?_ | refine TR.exit ?_ | refine TR.skip ?_ | refine TR.condB rfl ?_ | refine TRL.nil ?_ | refine Br.cond_t ?_ | refine Br.cond_f ?_ | refine Br.yes (by first | decide | assumption | (apply decide_eq_true; omega)) ?_ | refine Br.non (by first | decide | assumption | (apply decide_eq_false; omega)) ?_ | refine Br.cond_ff ?_ | refine Br.eqT (by omega) ?_ | refine Br.eqF (by omega) ?_ | refine Br.neT (by omega) ?_ | refine Br.neF (by omega) ?_ | refine Ld.mk' _ rfl ?_ | refine Need.mk (by first | decide | omega | kernel_rfl) ?_ | refine Nm.i64 (by omega) ?_ | refine Nm.u64 (by omega) ?_ | refine Nm.u8 (by omega) ?_ | refine Nm.keep ?_ | refine Need.mk (by dsimp only; omega) ?_) | refine Ld.mk' _ hlo ?_ | refine x_appL (TTok _ _) (c := 90) 8 rfl rfl rfl rfl rfl rfl rfl rfl rfl rfl (Nat.zero_lt_succ 0) rfl rfl rfl rfl rfl rfl rfl hs1 (its_ones _) (by simp [its, nilRow] <;> omega) (by unfold maxLen; omega) (by omega) ?_ | refine x_appL (TTok _ _) (c := 90) 8 rfl rfl rfl rfl rfl rfl rfl rfl rfl rfl (Nat.zero_lt_succ 0) rfl rfl rfl rfl rfl rfl rfl hs2 (its_ones _) (by simp [its, nilRow] <;> omega) (by unfold maxLen; omega) (by omega) ?_ | refine x_app (TTok _ _) (c := 90) 8 rfl rfl rfl rfl rfl rfl rfl rfl rfl rfl (Nat.zero_lt_succ 0) rfl rfl rfl rfl rfl rfl rfl rfl rfl (by simp [its, nilRow] <;> omega) (by unfold maxLen; omega) (by omega) ?_ | refine TRL.step (TTok _ _) ?_ | (refine x_exq (TTok _ _) ?_; (conv => whnf); fail_if_success (guard_target =ₛ False)))
                all_goals (conv => whnf)
                have hlen : 0 + ((p : Int).toNat - Int.toNat 0) + 1 + ((out.length : Int).toNat - (p : Int).toNat) = (insU out n).length := by
                  rw [hins]; simp [List.length_take]; omega
                refine ⟨(k + 1, 3), by dsimp only; omega, by dsimp only; omega, ?_⟩
                dsimp only
                rw [hlen, hnx]
                repeat' ((conv => whnf); first | exact trivial | exact Fgt.nil | exact Fgt.mk rfl rfl rfl | exact Fgt.mk rfl (by simp only [noRefC, nr_app, nr_map, nr_its, nr_byt', noRefL, noRef, Bool.and_self] <;> rfl) rfl | refine And.intro rfl ?_ | refine And.intro ?_ ?_)
                all_goals (rw [hins]; simp [nilRow, its, swL, swA])
            · have hpe : p = out.length := by omega
              rw [if_neg (fun h => hend h.2)] at hins
              have hs1 : subL (its out) (0 * 1) (p * 1) = some (its (out.take p)) := by
                have := subL_its_sub out 0 p (by omega)
                simpa using this
              have hs2 : subL (its out) ((0 + (p : Int).toNat) * 1) (((out.length : Int).toNat - (p : Int).toNat) * 1) = some (its (out.drop p)) := by
                have := subL_its_sub out p (out.length - p) (by omega)
                rw [List.take_of_length_le (by rw [List.length_drop]; omega)] at this
                simpa using this
              repeat' ((conv => whnf); first | refine TR.nil_slot 7 90 3 1 rfl rfl ?_ | (refine TR.dm 3 90 1 rfl rfl (Nat.le_of_ble_eq_true rfl) (Nat.le_of_ble_eq_true rfl) rfl (by simp [noRefC, unO, nr_its, noRefL, noRef, nr_app, nilRow] <;> rfl) rfl ?_; simp only [mvS, mapK, swK, swL_its, swL_app, unO, setO, dropF]) | (with_reducible first | refine TR.seq ?_ | refine TR.regionL ?_ | refine TR.drawn (TTok _ _) mixed ?_ | refine TR.block ?_ | refine TR.ret ?_ | refine TR.exit ?_ | refine TR.skip ?_ | refine TR.condB rfl ?_ | refine TRL.nil ?_ | refine Br.cond_t ?_ | refine Br.cond_f ?_ | refine Br.yes (by first | decide | assumption | (apply decide_eq_true; omega)) ?_ | refine Br.non (by first | decide | assumption | (apply decide_eq_false; omega)) ?_ | refine Br.cond_ff ?_ | refine Br.eqT (by omega) ?_ | refine Br.eqF (by omega) ?_ | refine Br.neT (by omega) ?_ | refine Br.neF (by omega) ?_ | refine Ld.mk' _ rfl ?_ | refine Need.mk (by first | decide | omega | kernel_rfl) ?_ | refine Nm.i64 (by omega) ?_ | refine Nm.u64 (by omega) ?_ | refine Nm.u8 (by omega) ?_ | refine Nm.keep ?_ | refine Need.mk (by dsimp only; omega) ?_) | refine x_appL (TTok _ _) (c := 90) 8 rfl rfl rfl rfl rfl rfl rfl rfl rfl rfl (Nat.zero_lt_succ 0) rfl rfl rfl rfl rfl rfl rfl hs1 (its_ones _) (by simp [its, nilRow] <;> omega) (by unfold maxLen; omega) (by omega) ?_ | refine x_appL (TTok _ _) (c := 90) 8 rfl rfl rfl rfl rfl rfl rfl rfl rfl rfl (Nat.zero_lt_succ 0) rfl rfl rfl rfl rfl rfl rfl hs2 (its_ones _) (by simp [its, nilRow] <;> omega) (by unfold maxLen; omega) (by omega) ?_ | refine x_app (TTok _ _) (c := 90) 8 rfl rfl rfl rfl rfl rfl rfl rfl rfl rfl (Nat.zero_lt_succ 0) rfl rfl rfl rfl rfl rfl rfl rfl rfl (by simp [its, nilRow] <;> omega) (by unfold maxLen; omega) (by omega) ?_ | refine TRL.step (TTok _ _) ?_ | (refine x_exq (TTok _ _) ?_; (conv => whnf); fail_if_success (guard_target =ₛ False)))
              all_goals (conv => whnf)
              have hlen : 0 + ((p : Int).toNat - Int.toNat 0) + 1 + ((out.length : Int).toNat - (p : Int).toNat) = (insU out n).length := by
                rw [hins]; simp [List.length_take]; omega
              refine ⟨(k + 1, 3), by dsimp only; omega, by dsimp only; omega, ?_⟩
              dsimp only
              rw [hlen, hnx]
              repeat' ((conv => whnf); first | exact trivial | exact Fgt.nil | exact Fgt.mk rfl rfl rfl | exact Fgt.mk rfl (by simp only [noRefC, nr_app, nr_map, nr_its, nr_byt', noRefL, noRef, Bool.and_self] <;> rfl) rfl | refine And.intro rfl ?_ | refine And.intro ?_ ?_)
              all_goals (rw [hins]; simp [nilRow, its, swL, swA])
      · have hnm : (zAt l k).tmod 65536 = n := by
          rw [← hn, Int.tmod_eq_emod_of_nonneg (by omega)]; unfold riN; rw [if_neg hneg]
        repeat' ((conv => whnf); first | (with_reducible first | refine TR.seq ?_ | refine TR.regionL ?_ | refine TR.drawn (TTok _ _) mixed ?_ | refine TR.block ?_ | refine TR.ret ?_ | refine TR.exit ?_ | refine TR.skip ?_ | refine TR.condB rfl ?_ | refine TRL.nil ?_ | refine Br.cond_t ?_ | refine Br.cond_f ?_ | refine Br.yes (by first | decide | assumption | (apply decide_eq_true; omega)) ?_ | refine Br.non (by first | decide | assumption | (apply decide_eq_false; omega)) ?_ | refine Br.cond_ff ?_ | refine Br.eqT (by omega) ?_ | refine Br.eqF (by omega) ?_ | refine Br.neT (by omega) ?_ | refine Br.neF (by omega) ?_ | refine Nm.mk' _ hnm ?_ | refine Ld.mk' _ rfl ?_ | refine Need.mk (by first | decide | omega | kernel_rfl) ?_ | refine Nm.i64 (by omega) ?_ | refine Nm.u64 (by omega) ?_ | refine Nm.u8 (by omega) ?_ | refine Nm.keep ?_ | refine Need.mk (by dsimp only; omega) ?_) | refine Ld.mk' _ hld ?_ | refine TRL.step (TTok _ _) ?_ | (refine x_exq (TTok _ _) ?_; (conv => whnf); fail_if_success (guard_target =ₛ False)))
        refine TR.loopH (fun a : Nat => [(6, .v (.int .i64 a))]) (fun a => []) (fun a => a ≤ ltN n out) (fun a => ltN n out - a) 0 (Nat.zero_le _) ?_ ?_
        · repeat' ((conv => whnf); first | exact trivial | exact Fgt.nil | exact Fgt.mk rfl rfl rfl | exact Fgt.mk rfl (by simp only [noRefC, nr_app, nr_map, nr_its, nr_byt', noRefL, noRef, Bool.and_self] <;> rfl) rfl | refine And.intro rfl ?_ | refine And.intro ?_ ?_)
        · rintro a ha
          by_cases hlt : a < ltN n out
          · have ho := ltN_lt n out a hlt
            have hlo := ld_its (l := out) (k := a) (by omega)
            repeat' ((conv => whnf); first | (with_reducible first | refine TR.seq ?_ | refine TR.regionL ?_ | refine TR.drawn (TTok _ _) mixed ?_ | refine TR.block ?_ | refine TR.ret ?_ | refine TR.exit ?_ | refine TR.skip ?_ | refine TR.condB rfl ?_ | refine TRL.nil ?_ | refine Br.cond_t ?_ | refine Br.cond_f ?_ | refine Br.yes (by first | decide | assumption | (apply decide_eq_true; omega)) ?_ | refine Br.non (by first | decide | assumption | (apply decide_eq_false; omega)) ?_ | refine Br.cond_ff ?_ | refine Br.eqT (by omega) ?_ | refine Br.eqF (by omega) ?_ | refine Br.neT (by omega) ?_ | refine Br.neF (by omega) ?_ | refine Ld.mk' _ rfl ?_ | refine Need.mk (by first | decide | omega | kernel_rfl) ?_ | refine Nm.i64 (by omega) ?_ | refine Nm.u64 (by omega) ?_ | refine Nm.u8 (by omega) ?_ | refine Nm.keep ?_ | refine Need.mk (by dsimp only; omega) ?_) | refine Ld.mk' _ hlo ?_ | refine TRL.step (TTok _ _) ?_ | (refine x_exq (TTok _ _) ?_; (conv => whnf); fail_if_success (guard_target =ₛ False)))
            all_goals (conv => whnf)
            refine ⟨a + 1, by omega, by omega, ?_⟩
            repeat' ((conv => whnf); first | exact trivial | exact Fgt.nil | exact Fgt.mk rfl rfl rfl | exact Fgt.mk rfl (by simp only [noRefC, nr_app, nr_map, nr_its, nr_byt', noRefL, noRef, Bool.and_self] <;> rfl) rfl | refine And.intro rfl ?_ | refine And.intro ?_ ?_)
          · obtain rfl : a = ltN n out := by omega
            clear hlt ha
            have hat := ltN_at n out
            obtain ⟨p, hp⟩ : ∃ p, ltN n out = p := ⟨_, rfl⟩
            have hins : insU out n = if zAt out p = n ∧ p < out.length then out else out.take p ++ [n] ++ out.drop p := by unfold insU; rw [hp]
            rw [hp] at hat hle ⊢
            by_cases hend : p < out.length
            · have hlo := ld_its (l := out) (k := p) (by omega)
              have ho := hat hend
              by_cases heq : zAt out p = n
              · rw [if_pos ⟨heq, hend⟩] at hins
                repeat' ((conv => whnf); first | (with_reducible first | refine TR.seq ?_ | refine TR.regionL ?_ | refine TR.drawn (TTok _ _) mixed ?_ | refine TR.block ?_ | refine TR.ret ?_ | refine TR.exit ?_ | refine TR.skip ?_ | refine TR.condB rfl ?_ | refine TRL.nil ?_ | refine Br.cond_t ?_ | refine Br.cond_f ?_ | refine Br.yes (by first | decide | assumption | (apply decide_eq_true; omega)) ?_ | refine Br.non (by first | decide | assumption | (apply decide_eq_false; omega)) ?_ | refine Br.cond_ff ?_ | refine Br.eqT (by omega) ?_ | refine Br.eqF (by omega) ?_ | refine Br.neT (by omega) ?_ | refine Br.neF (by omega) ?_ | refine Ld.mk' _ rfl ?_ | refine Need.mk (by first | decide | omega | kernel_rfl) ?_ | refine Nm.i64 (by omega) ?_ | refine Nm.u64 (by omega) ?_ | refine Nm.u8 (by omega) ?_ | refine Nm.keep ?_ | refine Need.mk (by dsimp only; omega) ?_) | refine Ld.mk' _ hlo ?_ | refine TRL.step (TTok _ _) ?_ | (refine x_exq (TTok _ _) ?_; (conv => whnf); fail_if_success (guard_target =ₛ False)))
                all_goals (conv => whnf)
                refine ⟨(k + 1, v), by dsimp only; omega, by dsimp only; omega, ?_⟩
                dsimp only
                rw [hnx, hins]
                repeat' ((conv => whnf); first | exact trivial | exact Fgt.nil | exact Fgt.mk rfl rfl rfl | exact Fgt.mk rfl (by simp only [noRefC, nr_app, nr_map, nr_its, nr_byt', noRefL, noRef, Bool.and_self] <;> rfl) rfl | refine And.intro rfl ?_ | refine And.intro ?_ ?_)
              · rw [if_neg (fun h => heq h.1)] at hins
                have hs1 : subL (its out) (0 * 1) (p * 1) = some (its (out.take p)) := by
                  have := subL_its_sub out 0 p (by omega)
                  simpa using this
                have hs2 : subL (its out) ((0 + (p : Int).toNat) * 1) (((out.length : Int).toNat - (p : Int).toNat) * 1) = some (its (out.drop p)) := by
                  have := subL_its_sub out p (out.length - p) (by omega)
                  rw [List.take_of_length_le (by rw [List.length_drop]; omega)] at this
                  simpa using this
                repeat' ((conv => whnf); first | refine TR.nil_slot 7 90 3 1 rfl rfl ?_ | (refine TR.dm 3 90 1 rfl rfl (Nat.le_of_ble_eq_true rfl) (Nat.le_of_ble_eq_true rfl) rfl (by simp [noRefC, unO, nr_its, noRefL, noRef, nr_app, nilRow] <;> rfl) rfl ?_; simp only [mvS, mapK, swK, swL_its, swL_app, unO, setO, dropF]) | (with_reducible first | refine TR.seq ?_ | refine TR.regionL ?_ | refine TR.drawn (TTok _ _) mixed ?_ | refine TR.block ?_ | refine TR.ret ?_ | refine TR.exit ?_ | refine TR.skip ?_ | refine TR.condB rfl ?_ | refine TRL.nil ?_ | refine Br.cond_t ?_ | refine Br.cond_f ?_ | refine Br.yes (by first | decide | assumption | (apply decide_eq_true; omega)) ?_ | refine Br.non (by first | decide | assumption | (apply decide_eq_false; omega)) ?_ | refine Br.cond_ff ?_ | refine Br.eqT (by omega) ?_ | refine Br.eqF (by omega) ?_ | refine Br.neT (by omega) ?_ | refine Br.neF (by omega) ?_ | refine Ld.mk' _ rfl ?_ | refine Need.mk (by first | decide | omega | kernel_rfl) ?_ | refine Nm.i64 (by omega) ?_ | refine Nm.u64 (by omega) ?_ | refine Nm.u8 (by omega) ?_ | refine Nm.keep ?_ | refine Need.mk (by dsimp only; omega) ?_) | refine Ld.mk' _ hlo ?_ | refine x_appL (TTok _ _) (c := 90) 8 rfl rfl rfl rfl rfl rfl rfl rfl rfl rfl (Nat.zero_lt_succ 0) rfl rfl rfl rfl rfl rfl rfl hs1 (its_ones _) (by simp [its, nilRow] <;> omega) (by unfold maxLen; omega) (by omega) ?_ | refine x_appL (TTok _ _) (c := 90) 8 rfl rfl rfl rfl rfl rfl rfl rfl rfl rfl (Nat.zero_lt_succ 0) rfl rfl rfl rfl rfl rfl rfl hs2 (its_ones _) (by simp [its, nilRow] <;> omega) (by unfold maxLen; omega) (by omega) ?_ | refine x_app (TTok _ _) (c := 90) 8 rfl rfl rfl rfl rfl rfl rfl rfl rfl rfl (Nat.zero_lt_succ 0) rfl rfl rfl rfl rfl rfl rfl rfl rfl (by simp [its, nilRow] <;> omega) (by unfold maxLen; omega) (by omega) ?_ | refine TRL.step (TTok _ _) ?_ | (refine x_exq (TTok _ _) ?_; (conv => whnf); fail_if_success (guard_target =ₛ False)))
                all_goals (conv => whnf)
                have hlen : 0 + ((p : Int).toNat - Int.toNat 0) + 1 + ((out.length : Int).toNat - (p : Int).toNat) = (insU out n).length := by
                  rw [hins]; simp [List.length_take]; omega
                refine ⟨(k + 1, 3), by dsimp only; omega, by dsimp only; omega, ?_⟩
                dsimp only
                rw [hlen, hnx]
                repeat' ((conv => whnf); first | exact trivial | exact Fgt.nil | exact Fgt.mk rfl rfl rfl | exact Fgt.mk rfl (by simp only [noRefC, nr_app, nr_map, nr_its, nr_byt', noRefL, noRef, Bool.and_self] <;> rfl) rfl | refine And.intro rfl ?_ | refine And.intro ?_ ?_)
                all_goals (rw [hins]; simp [nilRow, its, swL, swA])
            · have hpe : p = out.length := by omega
              rw [if_neg (fun h => hend h.2)] at hins
              have hs1 : subL (its out) (0 * 1) (p * 1) = some (its (out.take p)) := by
                have := subL_its_sub out 0 p (by omega)
                simpa using this
              have hs2 : subL (its out) ((0 + (p : Int).toNat) * 1) (((out.length : Int).toNat - (p : Int).toNat) * 1) = some (its (out.drop p)) := by
                have := subL_its_sub out p (out.length - p) (by omega)
                rw [List.take_of_length_le (by rw [List.length_drop]; omega)] at this
                simpa using this
              repeat' ((conv => whnf); first | refine TR.nil_slot 7 90 3 1 rfl rfl ?_ | (refine TR.dm 3 90 1 rfl rfl (Nat.le_of_ble_eq_true rfl) (Nat.le_of_ble_eq_true rfl) rfl (by simp [noRefC, unO, nr_its, noRefL, noRef, nr_app, nilRow] <;> rfl) rfl ?_; simp only [mvS, mapK, swK, swL_its, swL_app, unO, setO, dropF]) | (with_reducible first | refine TR.seq ?_ | refine TR.regionL ?_ | refine TR.drawn (TTok _ _) mixed ?_ | refine TR.block ?_ | refine TR.ret ?_ | refine TR.exit ?_ | refine TR.skip ?_ | refine TR.condB rfl ?_ | refine TRL.nil ?_ | refine Br.cond_t ?_ | refine Br.cond_f ?_ | refine Br.yes (by first | decide | assumption | (apply decide_eq_true; omega)) ?_ | refine Br.non (by first | decide | assumption | (apply decide_eq_false; omega)) ?_ | refine Br.cond_ff ?_ | refine Br.eqT (by omega) ?_ | refine Br.eqF (by omega) ?_ | refine Br.neT (by omega) ?_ | refine Br.neF (by omega) ?_ | refine Ld.mk' _ rfl ?_ | refine Need.mk (by first | decide | omega | kernel_rfl) ?_ | refine Nm.i64 (by omega) ?_ | refine Nm.u64 (by omega) ?_ | refine Nm.u8 (by omega) ?_ | refine Nm.keep ?_ | refine Need.mk (by dsimp only; omega) ?_) | refine x_appL (TTok _ _) (c := 90) 8 rfl rfl rfl rfl rfl rfl rfl rfl rfl rfl (Nat.zero_lt_succ 0) rfl rfl rfl rfl rfl rfl rfl hs1 (its_ones _) (by simp [its, nilRow] <;> omega) (by unfold maxLen; omega) (by omega) ?_ | refine x_appL (TTok _ _) (c := 90) 8 rfl rfl rfl rfl rfl rfl rfl rfl rfl rfl (Nat.zero_lt_succ 0) rfl rfl rfl rfl rfl rfl rfl hs2 (its_ones _) (by simp [its, nilRow] <;> omega) (by unfold maxLen; omega) (by omega) ?_ | refine x_app (TTok _ _) (c := 90) 8 rfl rfl rfl rfl rfl rfl rfl rfl rfl rfl (Nat.zero_lt_succ 0) rfl rfl rfl rfl rfl rfl rfl rfl rfl (by simp [its, nilRow] <;> omega) (by unfold maxLen; omega) (by omega) ?_ | refine TRL.step (TTok _ _) ?_ | (refine x_exq (TTok _ _) ?_; (conv => whnf); fail_if_success (guard_target =ₛ False)))
              all_goals (conv => whnf)
              have hlen : 0 + ((p : Int).toNat - Int.toNat 0) + 1 + ((out.length : Int).toNat - (p : Int).toNat) = (insU out n).length := by
                rw [hins]; simp [List.length_take]; omega
              refine ⟨(k + 1, 3), by dsimp only; omega, by dsimp only; omega, ?_⟩
              dsimp only
              rw [hlen, hnx]
              repeat' ((conv => whnf); first | exact trivial | exact Fgt.nil | exact Fgt.mk rfl rfl rfl | exact Fgt.mk rfl (by simp only [noRefC, nr_app, nr_map, nr_its, nr_byt', noRefL, noRef, Bool.and_self] <;> rfl) rfl | refine And.intro rfl ?_ | refine And.intro ?_ ?_)
              all_goals (rw [hins]; simp [nilRow, its, swL, swA])
    · obtain rfl : k = m := by omega
      repeat' ((conv => whnf); first | (with_reducible first | refine TR.seq ?_ | refine TR.regionL ?_ | refine TR.drawn (TTok _ _) mixed ?_ | refine TR.block ?_ | refine TR.ret ?_ | refine TR.exit ?_ | refine TR.skip ?_ | refine TR.condB rfl ?_ | refine TRL.nil ?_ | refine Br.cond_t ?_ | refine Br.cond_f ?_ | refine Br.yes (by first | decide | assumption | (apply decide_eq_true; omega)) ?_ | refine Br.non (by first | decide | assumption | (apply decide_eq_false; omega)) ?_ | refine Br.cond_ff ?_ | refine Br.eqT (by omega) ?_ | refine Br.eqF (by omega) ?_ | refine Br.neT (by omega) ?_ | refine Br.neF (by omega) ?_ | refine Ld.mk' _ rfl ?_ | refine Need.mk (by first | decide | omega | kernel_rfl) ?_ | refine Nm.i64 (by omega) ?_ | refine Nm.u64 (by omega) ?_ | refine Nm.u8 (by omega) ?_ | refine Nm.keep ?_ | refine Need.mk (by dsimp only; omega) ?_) | refine TRL.step (TTok _ _) ?_ | (refine x_exq (TTok _ _) ?_; (conv => whnf); fail_if_success (guard_target =ₛ False)))
      all_goals (conv => whnf)
      all_goals exact ⟨v, trivial, rfl, rfl, rfl, trivial⟩
end Go.Proofs.YtbladfkakmdigaaGreatDoor
