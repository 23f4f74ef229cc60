/-
  What the laws of these data stand on: contracts of functions, and plain laws.
-/
import Derived.Test.YtbladfkakmdigaaGreatDoorQXa
import Derived.Test.YtbladfkakmdigaaGreatDoorQXb
import Derived.Test.YtbladfkakmdigaaGreatDoorQXc
import Derived.Test.YtbladfkakmdigaaGreatDoorQXd
import Derived.Test.YtbladfkakmdigaaGreatDoorQBa
import Derived.Test.YtbladfkakmdigaaGreatDoorQCa
set_option linter.unusedVariables false
set_option linter.unusedSimpArgs false
set_option linter.unnecessarySimpa false
set_option maxRecDepth 100000
set_option linter.unusedVariables false
set_option linter.unusedSimpArgs false
namespace Go.Proofs.YtbladfkakmdigaaGreatDoor
open Go.SX
theorem Br.mk3 {t : Bool} {f : Bool → Prop} (h1 : t = true → f true) (h2 : t = false → f false) : Br t f := by
  cases t with
  | true => exact Br.tt (h1 rfl)
  | false => exact Br.ff (h2 rfl)
def rdH (s : ByteArray) (bad : Bool) : List (Option Chunk) := [some ⟨.own, 125, 2, 0, [.v (.string s), .v (.bool bad)]⟩]
def RQ {α : Type} (o : Option (α × ByteArray)) (s : ByteArray) (bad : Bool) (p : α × ByteArray × Bool) : Prop :=
  (o = some (p.1, p.2.1) ∧ p.2.2 = bad) ∨ (o = none ∧ p.2.2 = true ∧ p.2.1.size ≤ s.size)
abbrev RdC (f : FuncId) (args : List Value) (s : ByteArray) (bad : Bool) {α : Type} (o : Option (α × ByteArray)) (r : α → Value) : Prop :=
  Con Tryz.prog (fun _ => True) f (fun n => .ref (n 0) 0 0 :: args.map .v) (fun _ => rdH s bad) (RQ o s bad) (fun p _ => .v (r p.1)) (fun p _ => rdH p.2.1 p.2.2) (fun _ => False)
theorem rq_num {n : Nat} {s : ByteArray} {bad : Bool} {p : Int × ByteArray × Bool} (h : RQ (numO n s) s bad p) : p.2.1.size ≤ s.size := by
  rcases h with ⟨h, _⟩ | ⟨_, _, h⟩
  · exact numO_size h
  · exact h
theorem rq_tk {n : Nat} {s : ByteArray} {bad : Bool} {p : ByteArray × ByteArray × Bool} (h : RQ (tkO n s) s bad p) : p.2.1.size ≤ s.size := by
  rcases h with ⟨h, _⟩ | ⟨_, _, h⟩
  · have := tkO_size h; omega
  · exact h
theorem rq_name {s : ByteArray} {bad : Bool} {p : ByteArray × ByteArray × Bool} (h : RQ (nameO s) s bad p) : p.2.1.size ≤ s.size := by
  rcases h with ⟨h, _⟩ | ⟨_, _, h⟩
  · exact (nameO_size h).2
  · exact h
theorem rq_rest {s : ByteArray} {bad : Bool} {p : ByteArray × ByteArray × Bool} (h : RQ (restO s) s bad p) : p.2.1.size ≤ s.size := by
  rcases h with ⟨h, _⟩ | ⟨_, _, h⟩
  · exact (restO_size h).2
  · exact h
theorem rtake_con (s : ByteArray) (bad : Bool) (z : Int) (n : Nat) (hz : z = n) (hs : s.size < 4294967281) : Con Tryz.prog (fun _ => True) 90 (fun m => .ref (m 0) 0 0 :: [Value.int .i64 z].map .v) (fun _ => rdH s bad) (fun p : ByteArray × ByteArray × Bool => RQ (tkO n s) s bad p ∧ p.1.size ≤ n ∧ p.1.size ≤ s.size) (fun p _ => .v (.string p.1)) (fun p _ => rdH p.2.1 p.2.2) (fun _ => False) := by
  subst hz
  refine Con.of (TTok _ _) Tryz.func90 (by kernel_rfl) rfl rfl rfl (fun σ => rfl) (fun σ => rfl) (fun _ _ _ => rfl) (fun _ σ _ => rfl) (fun _ _ => CEnd.of rfl rfl rfl) ?_
  by_cases h : n ≤ s.size
  · have e : tkO n s = some (s.extract 0 n, s.extract n s.size) := by unfold tkO; rw [if_pos h]
    have hz := tkO_size e
    repeat' ((conv => whnf); first | (with_reducible first | refine TR.seq ?_ | refine TR.regionL ?_ | refine TR.drawn (TTok _ _) mixed ?_ | refine TR.block ?_ | refine TR.ret ?_ | refine TR.exit ?_ | refine TR.skip ?_ | refine TR.condB rfl ?_ | refine TRL.nil ?_ | refine Br.cond_t ?_ | refine Br.cond_f ?_ | refine Br.yes (by first | decide | assumption | (apply decide_eq_true; omega)) ?_ | refine Br.non (by first | decide | assumption | (apply decide_eq_false; omega)) ?_ | refine Br.cond_ff ?_ | refine Br.eqT (by omega) ?_ | refine Br.eqF (by omega) ?_ | refine Br.neT (by omega) ?_ | refine Br.neF (by omega) ?_ | refine Nm.keep ?_ | refine Need.mk (by dsimp only; omega) ?_ | refine Ld.mk' _ rfl ?_ | refine Need.mk (by first | decide | omega | kernel_rfl) ?_ | refine Nm.i64 (by omega) ?_ | refine Nm.u64 (by omega) ?_ | refine Nm.u8 (by omega) ?_) | refine TRL.step (TTok _ _) ?_ | (refine x_exq (TTok _ _) ?_; (conv => whnf); fail_if_success (guard_target =ₛ False)))
    all_goals (conv => whnf)
    all_goals exact ⟨(s.extract 0 n, s.extract n s.size, bad), ⟨.inl ⟨e, rfl⟩, by dsimp only; omega, by dsimp only; omega⟩, rfl, rfl, trivial⟩
  · have e : tkO n s = none := by unfold tkO; rw [if_neg h]
    repeat' ((conv => whnf); first | (with_reducible first | refine TR.seq ?_ | refine TR.regionL ?_ | refine TR.drawn (TTok _ _) mixed ?_ | refine TR.block ?_ | refine TR.ret ?_ | refine TR.exit ?_ | refine TR.skip ?_ | refine TR.condB rfl ?_ | refine TRL.nil ?_ | refine Br.cond_t ?_ | refine Br.cond_f ?_ | refine Br.yes (by first | decide | assumption | (apply decide_eq_true; omega)) ?_ | refine Br.non (by first | decide | assumption | (apply decide_eq_false; omega)) ?_ | refine Br.cond_ff ?_ | refine Br.eqT (by omega) ?_ | refine Br.eqF (by omega) ?_ | refine Br.neT (by omega) ?_ | refine Br.neF (by omega) ?_ | refine Nm.keep ?_ | refine Need.mk (by dsimp only; omega) ?_ | refine Ld.mk' _ rfl ?_ | refine Need.mk (by first | decide | omega | kernel_rfl) ?_ | refine Nm.i64 (by omega) ?_ | refine Nm.u64 (by omega) ?_ | refine Nm.u8 (by omega) ?_) | refine TRL.step (TTok _ _) ?_ | (refine x_exq (TTok _ _) ?_; (conv => whnf); fail_if_success (guard_target =ₛ False)))
    all_goals (conv => whnf)
    all_goals exact ⟨(⟨#[]⟩, ⟨#[]⟩, true), ⟨.inr ⟨e, rfl, Nat.zero_le _⟩, Nat.zero_le _, Nat.zero_le _⟩, rfl, rfl, trivial⟩
theorem rall_con (s : ByteArray) (bad : Bool) (hs : s.size < 4294967281) : RdC 77 [.int .i64 1] s bad (restO s) (fun b => .string b) := by
  refine Con.of (TTok _ _) Tryz.func77 (by kernel_rfl) rfl rfl rfl (fun σ => rfl) (fun σ => rfl) (fun _ _ _ => rfl) (fun _ σ _ => rfl) (fun _ _ => CEnd.of rfl rfl rfl) ?_
  by_cases h : s.size = 0
  · have e : restO s = none := by unfold restO; rw [if_pos h]
    have hb : decide ((s.size : Int) < 1) = true := decide_eq_true (by omega)
    cases bad
    all_goals repeat' ((conv => whnf); first | (with_reducible first | refine TR.seq ?_ | refine TR.regionL ?_ | refine TR.drawn (TTok _ _) mixed ?_ | refine TR.block ?_ | refine TR.ret ?_ | refine TR.exit ?_ | refine TR.skip ?_ | refine TR.condB rfl ?_ | refine TRL.nil ?_ | refine Br.cond_t ?_ | refine Br.cond_f ?_ | refine Br.yes (by first | decide | assumption | (apply decide_eq_true; omega)) ?_ | refine Br.non (by first | decide | assumption | (apply decide_eq_false; omega)) ?_ | refine Br.cond_ff ?_ | refine Br.eqT (by omega) ?_ | refine Br.eqF (by omega) ?_ | refine Br.neT (by omega) ?_ | refine Br.neF (by omega) ?_ | refine Nm.keep ?_ | refine Need.mk (by dsimp only; omega) ?_ | refine Ld.mk' _ rfl ?_ | refine Need.mk (by first | decide | omega | kernel_rfl) ?_ | refine Nm.i64 (by omega) ?_ | refine Nm.u64 (by omega) ?_ | refine Nm.u8 (by omega) ?_) | refine TRL.step (TTok _ _) ?_ | (refine x_exq (TTok _ _) ?_; (conv => whnf); fail_if_success (guard_target =ₛ False)))
    all_goals (conv => whnf)
    · exact ⟨(s, ⟨#[]⟩, true), .inr ⟨e, rfl, Nat.zero_le _⟩, rfl, by rw [hb]; rfl, trivial⟩
    · exact ⟨(s, ⟨#[]⟩, true), .inr ⟨e, rfl, Nat.zero_le _⟩, rfl, rfl, trivial⟩
  · have e : restO s = some (s, ⟨#[]⟩) := by unfold restO; rw [if_neg h]
    have hb : decide ((s.size : Int) < 1) = false := decide_eq_false (by omega)
    cases bad
    all_goals repeat' ((conv => whnf); first | (with_reducible first | refine TR.seq ?_ | refine TR.regionL ?_ | refine TR.drawn (TTok _ _) mixed ?_ | refine TR.block ?_ | refine TR.ret ?_ | refine TR.exit ?_ | refine TR.skip ?_ | refine TR.condB rfl ?_ | refine TRL.nil ?_ | refine Br.cond_t ?_ | refine Br.cond_f ?_ | refine Br.yes (by first | decide | assumption | (apply decide_eq_true; omega)) ?_ | refine Br.non (by first | decide | assumption | (apply decide_eq_false; omega)) ?_ | refine Br.cond_ff ?_ | refine Br.eqT (by omega) ?_ | refine Br.eqF (by omega) ?_ | refine Br.neT (by omega) ?_ | refine Br.neF (by omega) ?_ | refine Nm.keep ?_ | refine Need.mk (by dsimp only; omega) ?_ | refine Ld.mk' _ rfl ?_ | refine Need.mk (by first | decide | omega | kernel_rfl) ?_ | refine Nm.i64 (by omega) ?_ | refine Nm.u64 (by omega) ?_ | refine Nm.u8 (by omega) ?_) | refine TRL.step (TTok _ _) ?_ | (refine x_exq (TTok _ _) ?_; (conv => whnf); fail_if_success (guard_target =ₛ False)))
    all_goals (conv => whnf)
    · exact ⟨(s, ⟨#[]⟩, false), .inl ⟨e, rfl⟩, rfl, by rw [hb]; rfl, trivial⟩
    · exact ⟨(s, ⟨#[]⟩, true), .inl ⟨e, rfl⟩, rfl, rfl, trivial⟩
set_option maxHeartbeats 4000000 in
theorem rnum_con (s : ByteArray) (bad : Bool) (n : Nat) (hn : n ≤ 4) (hs : s.size < 4294967281) : RdC 73 [.int .i64 n] s bad (numO n s) (fun v => .int .i64 v) := by
  refine Con.of (TTok _ _) Tryz.func73 (by kernel_rfl) rfl rfl rfl (fun σ => rfl) (fun σ => rfl) (fun _ _ _ => rfl) (fun _ σ _ => rfl) (fun _ _ => CEnd.of rfl rfl rfl) ?_
  repeat' ((conv => whnf); first | (with_reducible first | refine TR.seq ?_ | refine TR.regionL ?_ | refine TR.drawn (TTok _ _) mixed ?_ | refine TR.block ?_ | refine TR.ret ?_ | refine TR.exit ?_ | refine TR.skip ?_ | refine TR.condB rfl ?_ | refine TRL.nil ?_ | refine Br.cond_t ?_ | refine Br.cond_f ?_ | refine Br.yes (by first | decide | assumption | (apply decide_eq_true; omega)) ?_ | refine Br.non (by first | decide | assumption | (apply decide_eq_false; omega)) ?_ | refine Br.cond_ff ?_ | refine Br.eqT (by omega) ?_ | refine Br.eqF (by omega) ?_ | refine Br.neT (by omega) ?_ | refine Br.neF (by omega) ?_ | refine Nm.keep ?_ | refine Need.mk (by dsimp only; omega) ?_ | refine Ld.mk' _ rfl ?_ | refine Need.mk (by first | decide | omega | kernel_rfl) ?_ | refine Nm.i64 (by omega) ?_ | refine Nm.u64 (by omega) ?_ | refine Nm.u8 (by omega) ?_) | (refine TRL.con [0] [0] (rtake_con _ _ _ n rfl hs) rfl rfl rfl rfl ⟨rfl, trivial⟩ rfl rfl (fun ⟨x, r, b⟩ hq => ⟨trivial, ?_⟩) (fun _ h => h.elim); dsimp only) | refine TRL.step (TTok _ _) ?_ | (refine x_exq (TTok _ _) ?_; (conv => whnf); fail_if_success (guard_target =ₛ False)))
  obtain ⟨hq, hx1, hx2⟩ := hq
  dsimp only at hq hx1 hx2
  have hfin : RQ (numO n s) s bad (numL (sInts x), r, b) := by
    rcases hq with ⟨h1, h2⟩ | ⟨h1, h2, h3⟩
    · exact .inl ⟨by unfold numO; rw [h1]; rfl, h2⟩
    · exact .inr ⟨by unfold numO; rw [h1]; rfl, h2, h3⟩
  clear hq
  refine TR.loopH (fun k : Nat => [(6, .v (.int .i64 (numL ((sInts x).take k)))), (7, .v (.int .i64 k))]) (fun _ => []) (fun k => k ≤ x.size) (fun k => x.size - k) 0 (Nat.zero_le _) ?_ ?_
  · repeat' ((conv => whnf); first | exact trivial | exact Fgt.nil | exact Fgt.mk rfl rfl rfl | refine And.intro rfl ?_ | refine And.intro ?_ ?_)
  · intro k hk
    by_cases hkn : k < x.size
    · have hg := sInts_get x k hkn
      have hx := bAt_range x k
      have hnx := numL_take (sInts x) k _ hg
      have hr := numL_range k (sInts x) (sInts_range x)
      have hp : (256 : Int) ^ k ≤ 4294967296 := by
        have : k = 0 ∨ k = 1 ∨ k = 2 ∨ k = 3 := by omega
        rcases this with rfl | rfl | rfl | rfl <;> decide
      repeat' ((conv => whnf); first | (with_reducible first | refine TR.seq ?_ | refine TR.regionL ?_ | refine TR.drawn (TTok _ _) mixed ?_ | refine TR.block ?_ | refine TR.ret ?_ | refine TR.exit ?_ | refine TR.skip ?_ | refine TR.condB rfl ?_ | refine TRL.nil ?_ | refine Br.cond_t ?_ | refine Br.cond_f ?_ | refine Br.yes (by first | decide | assumption | (apply decide_eq_true; omega)) ?_ | refine Br.non (by first | decide | assumption | (apply decide_eq_false; omega)) ?_ | refine Br.cond_ff ?_ | refine Br.eqT (by omega) ?_ | refine Br.eqF (by omega) ?_ | refine Br.neT (by omega) ?_ | refine Br.neF (by omega) ?_ | refine Ld.mk' _ rfl ?_ | refine Need.mk (by first | decide | omega | kernel_rfl) ?_ | refine Nm.i64 (by omega) ?_ | refine Nm.u64 (by omega) ?_ | refine Nm.u8 (by omega) ?_) | refine Nm.keep ?_ | refine Need.mk (by dsimp only; omega) ?_ | refine TRL.step (TTok _ _) ?_ | (refine x_exq (TTok _ _) ?_; (conv => whnf); fail_if_success (guard_target =ₛ False)))
      all_goals (conv => whnf)
      refine ⟨k + 1, by omega, by omega, ?_⟩
      repeat' ((conv => whnf); first | exact trivial | exact Fgt.nil | exact Fgt.mk rfl rfl rfl | refine And.intro rfl ?_ | refine And.intro ?_ ?_)
      all_goals exact congrArg (fun z => AV.v (Value.int IntKind.i64 z)) (by rw [hnx]; omega)
    · obtain rfl : k = x.size := by omega
      repeat' ((conv => whnf); first | (with_reducible first | refine TR.seq ?_ | refine TR.regionL ?_ | refine TR.drawn (TTok _ _) mixed ?_ | refine TR.block ?_ | refine TR.ret ?_ | refine TR.exit ?_ | refine TR.skip ?_ | refine TR.condB rfl ?_ | refine TRL.nil ?_ | refine Br.cond_t ?_ | refine Br.cond_f ?_ | refine Br.yes (by first | decide | assumption | (apply decide_eq_true; omega)) ?_ | refine Br.non (by first | decide | assumption | (apply decide_eq_false; omega)) ?_ | refine Br.cond_ff ?_ | refine Br.eqT (by omega) ?_ | refine Br.eqF (by omega) ?_ | refine Br.neT (by omega) ?_ | refine Br.neF (by omega) ?_ | refine Ld.mk' _ rfl ?_ | refine Need.mk (by first | decide | omega | kernel_rfl) ?_ | refine Nm.i64 (by omega) ?_ | refine Nm.u64 (by omega) ?_ | refine Nm.u8 (by omega) ?_) | refine Nm.keep ?_ | refine Need.mk (by dsimp only; omega) ?_ | refine TRL.step (TTok _ _) ?_ | (refine x_exq (TTok _ _) ?_; (conv => whnf); fail_if_success (guard_target =ₛ False)))
      all_goals (conv => whnf)
      all_goals exact ⟨_, hfin, by rw [List.take_of_length_le (by rw [sInts_length]; omega)], rfl, trivial⟩
set_option maxHeartbeats 4000000 in
theorem rname_con (s : ByteArray) (bad : Bool) (hs : s.size < 4294967281) : RdC 72 [] s bad (nameO s) (fun v => .string v) := by
  refine Con.of (TTok _ _) Tryz.func72 (by kernel_rfl) rfl rfl rfl (fun σ => rfl) (fun σ => rfl) (fun _ _ _ => rfl) (fun _ σ _ => rfl) (fun _ _ => CEnd.of rfl rfl rfl) ?_
  have hN := rgN_ok s
  obtain ⟨N, hNe⟩ : ∃ N, rgN s = N := ⟨_, rfl⟩
  rw [hNe] at hN
  have hP : nmP s = lbPos s N := by unfold nmP; rw [hNe]
  have hPn := nmP_nn s
  have hPl := nmP_le s
  conv => whnf
  repeat' ((conv => whnf); first | (with_reducible first | refine TR.seq ?_ | refine TR.regionL ?_ | refine TR.drawn (TTok _ _) mixed ?_ | refine TR.block ?_ | refine TR.ret ?_ | refine TR.exit ?_ | refine TR.skip ?_ | refine TR.condB rfl ?_ | refine TRL.nil ?_ | refine Br.cond_t ?_ | refine Br.cond_f ?_ | refine Br.yes (by first | decide | assumption | (apply decide_eq_true; omega)) ?_ | refine Br.non (by first | decide | assumption | (apply decide_eq_false; omega)) ?_ | refine Br.cond_ff ?_ | refine Br.eqT (by omega) ?_ | refine Br.eqF (by omega) ?_ | refine Br.neT (by omega) ?_ | refine Br.neF (by omega) ?_ | refine Nm.keep ?_ | refine Need.mk (by dsimp only; omega) ?_ | refine Ld.mk' _ rfl ?_ | refine Need.mk (by first | decide | omega | kernel_rfl) ?_ | refine Nm.i64 (by omega) ?_ | refine Nm.u64 (by omega) ?_ | refine Nm.u8 (by omega) ?_) | refine TRL.step (TTok _ _) ?_ | (refine x_exq (TTok _ _) ?_; (conv => whnf); fail_if_success (guard_target =ₛ False)))
  refine TR.loopH (fun n : Nat => [(3, .v (.int .i64 n))]) (fun _ => []) (fun n => (∃ k, k ≤ N ∧ (n : Int) = lbPos s k) ∨ ((s.size : Int) < n ∧ ¬ (nmP s < s.size ∧ bAt s (nmP s) = 0) ∧ n < 4294967281 + 300)) (fun n => s.size + 1000 - n) 0 (.inl ⟨0, Nat.zero_le _, rfl⟩) ?_ ?_
  · repeat' ((conv => whnf); first | exact trivial | exact Fgt.nil | exact Fgt.mk rfl rfl rfl | refine And.intro rfl ?_ | refine And.intro ?_ ?_)
  · intro n hn
    have hx := bAt_range s n
    have hnb : n < 4294967281 + 300 := by
      rcases hn with ⟨k, hk, e⟩ | h
      · have := hN.le k hk
        omega
      · omega
    by_cases c1 : (n : Int) < s.size ∧ bAt s n ≠ 0 ∧ bAt s n ≤ 63
    · obtain ⟨c1, c2, c3⟩ := c1
      have nxt : ((∃ k, k ≤ N ∧ ((n + (1 + (bAt s n).toNat) : Nat) : Int) = lbPos s k) ∨ ((s.size : Int) < (n + (1 + (bAt s n).toNat) : Nat) ∧ ¬ (nmP s < s.size ∧ bAt s (nmP s) = 0) ∧ (n + (1 + (bAt s n).toNat) : Nat) < 4294967281 + 300)) := by
        rcases hn with ⟨k, hk, e⟩ | ⟨q1, q2, q3⟩
        · by_cases hkN : k < N
          · refine .inl ⟨k + 1, hkN, ?_⟩
            simp only [lbPos, ← e]
            omega
          · obtain rfl : k = N := by omega
            right
            have hst := hN.stop
            rw [← e] at hst
            have : (s.size : Int) < n + 1 + bAt s n := by
              by_cases h : (n : Int) + 1 + bAt s n ≤ s.size
              · exact (hst ⟨c1, c2, c3, h⟩).elim
              · omega
            rw [hP, ← e]
            refine ⟨by omega, fun hh => c2 hh.2, by omega⟩
        · omega
      have hcast : ((n + (1 + (bAt s n).toNat) : Nat) : Int) = (n : Int) + 1 + bAt s n := by omega
      repeat' ((conv => whnf); first | (with_reducible first | refine TR.seq ?_ | refine TR.regionL ?_ | refine TR.drawn (TTok _ _) mixed ?_ | refine TR.block ?_ | refine TR.ret ?_ | refine TR.exit ?_ | refine TR.skip ?_ | refine TR.condB rfl ?_ | refine TRL.nil ?_ | refine Br.cond_t ?_ | refine Br.cond_f ?_ | refine Br.yes (by first | decide | assumption | (apply decide_eq_true; omega)) ?_ | refine Br.non (by first | decide | assumption | (apply decide_eq_false; omega)) ?_ | refine Br.cond_ff ?_ | refine Br.eqT (by omega) ?_ | refine Br.eqF (by omega) ?_ | refine Br.neT (by omega) ?_ | refine Br.neF (by omega) ?_ | refine Ld.mk' _ rfl ?_ | refine Need.mk (by first | decide | omega | kernel_rfl) ?_ | refine Nm.i64 (by omega) ?_ | refine Nm.u64 (by omega) ?_ | refine Nm.u8 (by omega) ?_) | refine Br.yes (by simpa using c2) ?_ | refine Nm.keep ?_ | refine Need.mk (by dsimp only; omega) ?_ | refine TRL.step (TTok _ _) ?_ | (refine x_exq (TTok _ _) ?_; (conv => whnf); fail_if_success (guard_target =ₛ False)))
      all_goals (conv => whnf)
      refine ⟨n + (1 + (bAt s n).toNat), nxt, by omega, ?_⟩
      repeat' ((conv => whnf); first | exact trivial | exact Fgt.nil | exact Fgt.mk rfl rfl rfl | refine And.intro rfl ?_ | refine And.intro ?_ ?_)
      all_goals exact congrArg (fun z => AV.v (Value.int IntKind.i64 z)) hcast.symm
    · have hst : ∀ b r, tkO (n + 1) s = some (b, r) → rgt b = true → nameO s = some (b, r) := by
        intro b r ht hb
        unfold tkO at ht
        split at ht
        · rename_i hle
          simp only [Option.some.injEq, Prod.mk.injEq] at ht
          obtain ⟨rfl, rfl⟩ := ht
          have hnm : nmP s = n := by
            rcases hn with ⟨k, hk, e⟩ | ⟨q1, q2, q3⟩
            · by_cases hkN : k < N
              · have := hN.ok k hkN
                rw [← e] at this
                exact (c1 ⟨this.1, this.2.1, this.2.2.1⟩).elim
              · obtain rfl : k = N := by omega
                omega
            · omega
          rw [rgt_ext (by omega) hle, decide_eq_true_eq] at hb
          unfold nameO
          rw [if_pos ⟨by omega, hb.2.2, by omega⟩, show (nmP s + 1).toNat = n + 1 by omega]
        · cases ht
      have hno : ∀ b r, nameO s = some (b, r) → tkO (n + 1) s = some (b, r) ∧ rgt b = true := by
        intro b r h
        obtain ⟨h1, h2, h3, rfl, rfl⟩ := nameO_some h
        have hnm : nmP s = n := by
          rcases hn with ⟨k, hk, e⟩ | ⟨q1, q2, q3⟩
          · by_cases hkN : k < N
            · have := hN.ok k hkN
              rw [← e] at this
              exact (c1 ⟨this.1, this.2.1, this.2.2.1⟩).elim
            · obtain rfl : k = N := by omega
              omega
          · exact (q2 ⟨h1, h2⟩).elim
        have e : (nmP s + 1).toNat = n + 1 := by omega
        rw [e]
        refine ⟨by unfold tkO; rw [if_pos (by omega)], ?_⟩
        rw [rgt_ext (by omega) (by omega)]
        exact decide_eq_true ⟨by omega, by omega, h2⟩
      have fin : ∀ (x r : ByteArray) (b : Bool), RQ (tkO (n + 1) s) s bad (x, r, b) → RQ (nameO s) s bad (x, r, cond b true (!rgt x)) := by
        intro x r b hq
        have hz := rq_tk hq
        rcases hq with ⟨h1, h2⟩ | ⟨h1, h2, h3⟩
        · dsimp only at h1 h2 hz
          subst h2
          cases hrb : rgt x with
          | true => exact .inl ⟨hst x r h1 hrb, by cases b <;> rfl⟩
          | false =>
            refine .inr ⟨?_, by cases b <;> rfl, hz⟩
            cases h : nameO s with
            | none => rfl
            | some q =>
              obtain ⟨e1, e2⟩ := hno q.1 q.2 h
              rw [h1] at e1
              cases e1
              rw [hrb] at e2
              cases e2
        · dsimp only at h2 h3
          subst h2
          refine .inr ⟨?_, rfl, h3⟩
          cases h : nameO s with
          | none => rfl
          | some q => have := (hno q.1 q.2 h).1; rw [h1] at this; cases this
      by_cases c2 : (n : Int) < s.size
      · by_cases c3 : bAt s n = 0
        · skip
          repeat' ((conv => whnf); first | (with_reducible first | refine TR.seq ?_ | refine TR.regionL ?_ | refine TR.drawn (TTok _ _) mixed ?_ | refine TR.block ?_ | refine TR.ret ?_ | refine TR.exit ?_ | refine TR.skip ?_ | refine TR.condB rfl ?_ | refine TRL.nil ?_ | refine Br.cond_t ?_ | refine Br.cond_f ?_ | refine Br.yes (by first | decide | assumption | (apply decide_eq_true; omega)) ?_ | refine Br.non (by first | decide | assumption | (apply decide_eq_false; omega)) ?_ | refine Br.cond_ff ?_ | refine Br.eqT (by omega) ?_ | refine Br.eqF (by omega) ?_ | refine Br.neT (by omega) ?_ | refine Br.neF (by omega) ?_ | refine Ld.mk' _ rfl ?_ | refine Need.mk (by first | decide | omega | kernel_rfl) ?_ | refine Nm.i64 (by omega) ?_ | refine Nm.u64 (by omega) ?_ | refine Nm.u8 (by omega) ?_) | refine Br.non (by simp [c3]) ?_ | (refine TRL.con [0] [0] (rtake_con _ _ _ (n + 1) (by omega) hs) rfl rfl rfl rfl ⟨rfl, trivial⟩ rfl rfl (fun ⟨x, r, b⟩ hq => ⟨trivial, ?_⟩) (fun _ h => h.elim); dsimp only; have h94 := fun w => rright x (Nat.lt_of_le_of_lt hq.2.2 hs) w) | refine x_ret (f := 94) rfl rfl (fun w _ => h94 w) ?_ | refine Br.mk3 (fun hc => ?_) (fun hc => ?_) | refine Nm.keep ?_ | refine Need.mk (by dsimp only; omega) ?_ | refine TRL.step (TTok _ _) ?_ | (refine x_exq (TTok _ _) ?_; (conv => whnf); fail_if_success (guard_target =ₛ False)))
          all_goals (conv => whnf)
          all_goals (have hfin := fin _ _ _ hq.1; rw [hc] at hfin; exact ⟨_, hfin, rfl, by rw [hc]; exact ⟨rfl, trivial⟩⟩)
        · have c4 : ¬ bAt s n ≤ 63 := fun h => c1 ⟨c2, c3, h⟩
          repeat' ((conv => whnf); first | (with_reducible first | refine TR.seq ?_ | refine TR.regionL ?_ | refine TR.drawn (TTok _ _) mixed ?_ | refine TR.block ?_ | refine TR.ret ?_ | refine TR.exit ?_ | refine TR.skip ?_ | refine TR.condB rfl ?_ | refine TRL.nil ?_ | refine Br.cond_t ?_ | refine Br.cond_f ?_ | refine Br.yes (by first | decide | assumption | (apply decide_eq_true; omega)) ?_ | refine Br.non (by first | decide | assumption | (apply decide_eq_false; omega)) ?_ | refine Br.cond_ff ?_ | refine Br.eqT (by omega) ?_ | refine Br.eqF (by omega) ?_ | refine Br.neT (by omega) ?_ | refine Br.neF (by omega) ?_ | refine Ld.mk' _ rfl ?_ | refine Need.mk (by first | decide | omega | kernel_rfl) ?_ | refine Nm.i64 (by omega) ?_ | refine Nm.u64 (by omega) ?_ | refine Nm.u8 (by omega) ?_) | refine Br.yes (by simpa using c3) ?_ | (refine TRL.con [0] [0] (rtake_con _ _ _ (n + 1) (by omega) hs) rfl rfl rfl rfl ⟨rfl, trivial⟩ rfl rfl (fun ⟨x, r, b⟩ hq => ⟨trivial, ?_⟩) (fun _ h => h.elim); dsimp only; have h94 := fun w => rright x (Nat.lt_of_le_of_lt hq.2.2 hs) w) | refine x_ret (f := 94) rfl rfl (fun w _ => h94 w) ?_ | refine Br.mk3 (fun hc => ?_) (fun hc => ?_) | refine Nm.keep ?_ | refine Need.mk (by dsimp only; omega) ?_ | refine TRL.step (TTok _ _) ?_ | (refine x_exq (TTok _ _) ?_; (conv => whnf); fail_if_success (guard_target =ₛ False)))
          all_goals (conv => whnf)
          all_goals (have hfin := fin _ _ _ hq.1; rw [hc] at hfin; exact ⟨_, hfin, rfl, by rw [hc]; exact ⟨rfl, trivial⟩⟩)
      · skip
        repeat' ((conv => whnf); first | (with_reducible first | refine TR.seq ?_ | refine TR.regionL ?_ | refine TR.drawn (TTok _ _) mixed ?_ | refine TR.block ?_ | refine TR.ret ?_ | refine TR.exit ?_ | refine TR.skip ?_ | refine TR.condB rfl ?_ | refine TRL.nil ?_ | refine Br.cond_t ?_ | refine Br.cond_f ?_ | refine Br.yes (by first | decide | assumption | (apply decide_eq_true; omega)) ?_ | refine Br.non (by first | decide | assumption | (apply decide_eq_false; omega)) ?_ | refine Br.cond_ff ?_ | refine Br.eqT (by omega) ?_ | refine Br.eqF (by omega) ?_ | refine Br.neT (by omega) ?_ | refine Br.neF (by omega) ?_ | refine Ld.mk' _ rfl ?_ | refine Need.mk (by first | decide | omega | kernel_rfl) ?_ | refine Nm.i64 (by omega) ?_ | refine Nm.u64 (by omega) ?_ | refine Nm.u8 (by omega) ?_) | (refine TRL.con [0] [0] (rtake_con _ _ _ (n + 1) (by omega) hs) rfl rfl rfl rfl ⟨rfl, trivial⟩ rfl rfl (fun ⟨x, r, b⟩ hq => ⟨trivial, ?_⟩) (fun _ h => h.elim); dsimp only; have h94 := fun w => rright x (Nat.lt_of_le_of_lt hq.2.2 hs) w) | refine x_ret (f := 94) rfl rfl (fun w _ => h94 w) ?_ | refine Br.mk3 (fun hc => ?_) (fun hc => ?_) | refine Nm.keep ?_ | refine Need.mk (by dsimp only; omega) ?_ | refine TRL.step (TTok _ _) ?_ | (refine x_exq (TTok _ _) ?_; (conv => whnf); fail_if_success (guard_target =ₛ False)))
        all_goals (conv => whnf)
        all_goals (have hfin := fin _ _ _ hq.1; rw [hc] at hfin; exact ⟨_, hfin, rfl, by rw [hc]; exact ⟨rfl, trivial⟩⟩)
end Go.Proofs.YtbladfkakmdigaaGreatDoor
set_option maxRecDepth 100000
set_option linter.unusedVariables false
set_option linter.unusedSimpArgs false
namespace Go.Proofs.YtbladfkakmdigaaGreatDoor
open Go.SX
theorem of_nd {p : Prop} [Decidable p] (h : (!decide p) = false) : p := by simpa using h
theorem of_d {p : Prop} [Decidable p] (h : decide p = false) : ¬ p := of_decide_eq_false h
theorem neg1 {b : Bool} {P Q : Prop} (h : b = true) : ¬ (b = false ∧ P ∧ Q) := fun g => by rw [h] at g; cases g.1
theorem neg2 {A P Q : Prop} [Decidable P] (h : (!decide P) = true) : ¬ (A ∧ P ∧ Q) := fun g => by simp [g.2.1] at h
theorem neg3 {A P Q : Prop} [Decidable Q] (h : decide Q = true) : ¬ (A ∧ P ∧ ¬ Q) := fun g => g.2.2 (of_decide_eq_true h)
theorem restO_nil {s b r : ByteArray} (h : restO s = some (b, r)) : r = ⟨#[]⟩ := by
  unfold restO at h
  split at h
  · cases h
  · simp only [Option.some.injEq, Prod.mk.injEq] at h
    exact h.2.symm
theorem nil_size {r : ByteArray} : r = ⟨#[]⟩ ↔ r.size = 0 := ⟨fun h => by rw [h]; rfl, ba_nil⟩
theorem soa_fwd {r0 : ByteArray} {x0 : ByteArray} {r1 : ByteArray} {b1 : Bool} {x1 : ByteArray} {r2 : ByteArray} {b2 : Bool} {x2 : Int} {r3 : ByteArray} {b3 : Bool} {x3 : Int} {r4 : ByteArray} {b4 : Bool} {x4 : Int} {r5 : ByteArray} {b5 : Bool} {x5 : Int} {r6 : ByteArray} {b6 : Bool} {x6 : Int} {r7 : ByteArray} {b7 : Bool} (h0 : RQ (nameO r0) r0 false (x0, r1, b1)) (h1 : RQ (nameO r1) r1 b1 (x1, r2, b2)) (h2 : RQ (numO 4 r2) r2 b2 (x2, r3, b3)) (h3 : RQ (numO 4 r3) r3 b3 (x3, r4, b4)) (h4 : RQ (numO 4 r4) r4 b4 (x4, r5, b5)) (h5 : RQ (numO 4 r5) r5 b5 (x5, r6, b6)) (h6 : RQ (numO 4 r6) r6 b6 (x6, r7, b7)) : (soaO r0 = some ((x0, x1, x2, x3, x4, x5, x6), r7) ∧ b7 = false) ∨ (soaO r0 = none ∧ b7 = true) := by
  unfold soaO
  rcases h0 with ⟨e0, g0⟩ | ⟨e0, g0, _⟩
  rotate_left
  · right
    simp only [e0, Option.bind_some, Option.bind_none, true_and]
    have g1 : b2 = true := by
      rcases h1 with ⟨_, g⟩ | ⟨_, g, _⟩
      · dsimp only at g0 g; rw [g]; exact g0
      · exact g
    have g2 : b3 = true := by
      rcases h2 with ⟨_, g⟩ | ⟨_, g, _⟩
      · dsimp only at g1 g; rw [g]; exact g1
      · exact g
    have g3 : b4 = true := by
      rcases h3 with ⟨_, g⟩ | ⟨_, g, _⟩
      · dsimp only at g2 g; rw [g]; exact g2
      · exact g
    have g4 : b5 = true := by
      rcases h4 with ⟨_, g⟩ | ⟨_, g, _⟩
      · dsimp only at g3 g; rw [g]; exact g3
      · exact g
    have g5 : b6 = true := by
      rcases h5 with ⟨_, g⟩ | ⟨_, g, _⟩
      · dsimp only at g4 g; rw [g]; exact g4
      · exact g
    have g6 : b7 = true := by
      rcases h6 with ⟨_, g⟩ | ⟨_, g, _⟩
      · dsimp only at g5 g; rw [g]; exact g5
      · exact g
    exact g6
  rcases h1 with ⟨e1, g1⟩ | ⟨e1, g1, _⟩
  rotate_left
  · right
    simp only [e0, e1, Option.bind_some, Option.bind_none, true_and]
    have g2 : b3 = true := by
      rcases h2 with ⟨_, g⟩ | ⟨_, g, _⟩
      · dsimp only at g1 g; rw [g]; exact g1
      · exact g
    have g3 : b4 = true := by
      rcases h3 with ⟨_, g⟩ | ⟨_, g, _⟩
      · dsimp only at g2 g; rw [g]; exact g2
      · exact g
    have g4 : b5 = true := by
      rcases h4 with ⟨_, g⟩ | ⟨_, g, _⟩
      · dsimp only at g3 g; rw [g]; exact g3
      · exact g
    have g5 : b6 = true := by
      rcases h5 with ⟨_, g⟩ | ⟨_, g, _⟩
      · dsimp only at g4 g; rw [g]; exact g4
      · exact g
    have g6 : b7 = true := by
      rcases h6 with ⟨_, g⟩ | ⟨_, g, _⟩
      · dsimp only at g5 g; rw [g]; exact g5
      · exact g
    exact g6
  rcases h2 with ⟨e2, g2⟩ | ⟨e2, g2, _⟩
  rotate_left
  · right
    simp only [e0, e1, e2, Option.bind_some, Option.bind_none, true_and]
    have g3 : b4 = true := by
      rcases h3 with ⟨_, g⟩ | ⟨_, g, _⟩
      · dsimp only at g2 g; rw [g]; exact g2
      · exact g
    have g4 : b5 = true := by
      rcases h4 with ⟨_, g⟩ | ⟨_, g, _⟩
      · dsimp only at g3 g; rw [g]; exact g3
      · exact g
    have g5 : b6 = true := by
      rcases h5 with ⟨_, g⟩ | ⟨_, g, _⟩
      · dsimp only at g4 g; rw [g]; exact g4
      · exact g
    have g6 : b7 = true := by
      rcases h6 with ⟨_, g⟩ | ⟨_, g, _⟩
      · dsimp only at g5 g; rw [g]; exact g5
      · exact g
    exact g6
  rcases h3 with ⟨e3, g3⟩ | ⟨e3, g3, _⟩
  rotate_left
  · right
    simp only [e0, e1, e2, e3, Option.bind_some, Option.bind_none, true_and]
    have g4 : b5 = true := by
      rcases h4 with ⟨_, g⟩ | ⟨_, g, _⟩
      · dsimp only at g3 g; rw [g]; exact g3
      · exact g
    have g5 : b6 = true := by
      rcases h5 with ⟨_, g⟩ | ⟨_, g, _⟩
      · dsimp only at g4 g; rw [g]; exact g4
      · exact g
    have g6 : b7 = true := by
      rcases h6 with ⟨_, g⟩ | ⟨_, g, _⟩
      · dsimp only at g5 g; rw [g]; exact g5
      · exact g
    exact g6
  rcases h4 with ⟨e4, g4⟩ | ⟨e4, g4, _⟩
  rotate_left
  · right
    simp only [e0, e1, e2, e3, e4, Option.bind_some, Option.bind_none, true_and]
    have g5 : b6 = true := by
      rcases h5 with ⟨_, g⟩ | ⟨_, g, _⟩
      · dsimp only at g4 g; rw [g]; exact g4
      · exact g
    have g6 : b7 = true := by
      rcases h6 with ⟨_, g⟩ | ⟨_, g, _⟩
      · dsimp only at g5 g; rw [g]; exact g5
      · exact g
    exact g6
  rcases h5 with ⟨e5, g5⟩ | ⟨e5, g5, _⟩
  rotate_left
  · right
    simp only [e0, e1, e2, e3, e4, e5, Option.bind_some, Option.bind_none, true_and]
    have g6 : b7 = true := by
      rcases h6 with ⟨_, g⟩ | ⟨_, g, _⟩
      · dsimp only at g5 g; rw [g]; exact g5
      · exact g
    exact g6
  rcases h6 with ⟨e6, g6⟩ | ⟨e6, g6, _⟩
  rotate_left
  · right
    simp only [e0, e1, e2, e3, e4, e5, e6, Option.bind_some, Option.bind_none, true_and]
    exact g6
  left
  dsimp only at e0 g0 e1 g1 e2 g2 e3 g3 e4 g4 e5 g5 e6 g6
  simp only [e0, e1, e2, e3, e4, e5, e6, Option.bind_some, true_and]
  rw [g6, g5, g4, g3, g2, g1, g0]
theorem soa_W {r0 r7 : ByteArray} {b7 : Bool} {q : ByteArray × ByteArray × Int × Int × Int × Int × Int} (h : (soaO r0 = some (q, r7) ∧ b7 = false) ∨ (soaO r0 = none ∧ b7 = true)) : soaW r0 = if b7 = false ∧ r7 = ⟨#[]⟩ ∧ ¬ ((r0.size : Int) > 2000) then some q else none := by
  unfold soaW
  rcases h with ⟨e, g⟩ | ⟨e, g⟩
  · rw [e, g]
    simp only [Option.bind_some]
    by_cases h1 : r0.size ≤ 2000
    · have h2 : ¬ ((r0.size : Int) > 2000) := by omega
      have h3 := @nil_size r7
      rw [if_pos h1]
      simp [h2, h3]
    · have h2 : (r0.size : Int) > 2000 := by omega
      rw [if_neg h1, if_neg (by rintro ⟨_, _, h⟩; exact h h2)]
  · rw [e, g]
    simp
set_option maxHeartbeats 8000000 in
theorem rsoa_top (d : ByteArray) (hs : d.size < 4294967281) (w : World) : Ret Tryz.prog 22 [.string d] w (match soaW d with | some q => .tuple #[soaV q, .bool true] | none => .tuple #[.agg #[.string ⟨#[]⟩, .string ⟨#[]⟩, .int .i64 0, .int .i64 0, .int .i64 0, .int .i64 0, .int .i64 0], .bool false]) := by
  refine Ret.of (I := fun _ => True) (fun _ _ => trivial) (TTok 0 _) Tryz.func22 (by kernel_rfl) rfl rfl ?_
  repeat' ((conv => whnf); first | (with_reducible first | refine TR.seq ?_ | refine TR.regionL ?_ | refine TR.drawn (TTok _ _) mixed ?_ | refine TR.block ?_ | refine TR.ret ?_ | refine TR.exit ?_ | refine TR.skip ?_ | refine TR.condB rfl ?_ | refine TRL.nil ?_ | refine Br.cond_t ?_ | refine Br.cond_f ?_ | refine Br.yes (by first | decide | assumption | (apply decide_eq_true; omega)) ?_ | refine Br.non (by first | decide | assumption | (apply decide_eq_false; omega)) ?_ | refine Br.cond_ff ?_ | refine Br.eqT (by omega) ?_ | refine Br.eqF (by omega) ?_ | refine Br.neT (by omega) ?_ | refine Br.neF (by omega) ?_ | refine Nm.keep ?_ | refine Need.mk (by dsimp only; omega) ?_ | refine Ld.mk' _ rfl ?_ | refine Need.mk (by first | decide | omega | kernel_rfl) ?_ | refine Nm.i64 (by omega) ?_ | refine Nm.u64 (by omega) ?_ | refine Nm.u8 (by omega) ?_) | (refine TRL.con [8] [8] (rname_con _ _ (by omega)) rfl rfl rfl rfl ⟨rfl, trivial⟩ rfl rfl (fun ⟨x, r, b⟩ hq => ⟨trivial, ?_⟩) (fun _ h => h.elim); have hz := rq_name hq; dsimp only at hz ⊢) | (refine TRL.con [8] [8] (rnum_con _ _ 1 (by omega) (by omega)) rfl rfl rfl rfl ⟨rfl, trivial⟩ rfl rfl (fun ⟨x, r, b⟩ hq => ⟨trivial, ?_⟩) (fun _ h => h.elim); have hz := rq_num hq; dsimp only at hz ⊢) | (refine TRL.con [8] [8] (rnum_con _ _ 2 (by omega) (by omega)) rfl rfl rfl rfl ⟨rfl, trivial⟩ rfl rfl (fun ⟨x, r, b⟩ hq => ⟨trivial, ?_⟩) (fun _ h => h.elim); have hz := rq_num hq; dsimp only at hz ⊢) | (refine TRL.con [8] [8] (rnum_con _ _ 4 (by omega) (by omega)) rfl rfl rfl rfl ⟨rfl, trivial⟩ rfl rfl (fun ⟨x, r, b⟩ hq => ⟨trivial, ?_⟩) (fun _ h => h.elim); have hz := rq_num hq; dsimp only at hz ⊢) | (refine TRL.con [8] [8] (rall_con _ _ (by omega)) rfl rfl rfl rfl ⟨rfl, trivial⟩ rfl rfl (fun ⟨x, r, b⟩ hq => ⟨trivial, ?_⟩) (fun _ h => h.elim); have hz := rq_rest hq; dsimp only at hz ⊢) | refine Br.mk3 (fun hc => ?_) (fun hc => ?_) | refine TRL.step (TTok _ _) ?_ | (refine x_exq (TTok _ _) ?_; (conv => whnf); fail_if_success (guard_target =ₛ False)))
  all_goals (conv => whnf)
  all_goals (have hf := soa_fwd (r0 := d) (by assumption) (by assumption) (by assumption) (by assumption) (by assumption) (by assumption) (by assumption); have hw := soa_W hf)
  all_goals first | (rw [hw, if_pos ⟨by assumption, of_nd (by assumption), of_d (by assumption)⟩]; rfl) | (rw [hw, if_neg (neg1 (by assumption))]; rfl) | (rw [hw, if_neg (neg2 (by assumption))]; rfl) | (rw [hw, if_neg (neg3 (by assumption))]; rfl)
theorem sig_fwd {r0 : ByteArray} {x0 : Int} {r1 : ByteArray} {b1 : Bool} {x1 : Int} {r2 : ByteArray} {b2 : Bool} {x2 : Int} {r3 : ByteArray} {b3 : Bool} {x3 : Int} {r4 : ByteArray} {b4 : Bool} {x4 : Int} {r5 : ByteArray} {b5 : Bool} {x5 : Int} {r6 : ByteArray} {b6 : Bool} {x6 : Int} {r7 : ByteArray} {b7 : Bool} {x7 : ByteArray} {r8 : ByteArray} {b8 : Bool} {x8 : ByteArray} {r9 : ByteArray} {b9 : Bool} (h0 : RQ (numO 2 r0) r0 false (x0, r1, b1)) (h1 : RQ (numO 1 r1) r1 b1 (x1, r2, b2)) (h2 : RQ (numO 1 r2) r2 b2 (x2, r3, b3)) (h3 : RQ (numO 4 r3) r3 b3 (x3, r4, b4)) (h4 : RQ (numO 4 r4) r4 b4 (x4, r5, b5)) (h5 : RQ (numO 4 r5) r5 b5 (x5, r6, b6)) (h6 : RQ (numO 2 r6) r6 b6 (x6, r7, b7)) (h7 : RQ (nameO r7) r7 b7 (x7, r8, b8)) (h8 : RQ (restO r8) r8 b8 (x8, r9, b9)) : (sigO r0 = some ((x0, x1, x2, x3, x4, x5, x6, x7, x8), r9) ∧ b9 = false) ∨ (sigO r0 = none ∧ b9 = true) := by
  unfold sigO
  rcases h0 with ⟨e0, g0⟩ | ⟨e0, g0, _⟩
  rotate_left
  · right
    simp only [e0, Option.bind_some, Option.bind_none, true_and]
    have g1 : b2 = true := by
      rcases h1 with ⟨_, g⟩ | ⟨_, g, _⟩
      · dsimp only at g0 g; rw [g]; exact g0
      · exact g
    have g2 : b3 = true := by
      rcases h2 with ⟨_, g⟩ | ⟨_, g, _⟩
      · dsimp only at g1 g; rw [g]; exact g1
      · exact g
    have g3 : b4 = true := by
      rcases h3 with ⟨_, g⟩ | ⟨_, g, _⟩
      · dsimp only at g2 g; rw [g]; exact g2
      · exact g
    have g4 : b5 = true := by
      rcases h4 with ⟨_, g⟩ | ⟨_, g, _⟩
      · dsimp only at g3 g; rw [g]; exact g3
      · exact g
    have g5 : b6 = true := by
      rcases h5 with ⟨_, g⟩ | ⟨_, g, _⟩
      · dsimp only at g4 g; rw [g]; exact g4
      · exact g
    have g6 : b7 = true := by
      rcases h6 with ⟨_, g⟩ | ⟨_, g, _⟩
      · dsimp only at g5 g; rw [g]; exact g5
      · exact g
    have g7 : b8 = true := by
      rcases h7 with ⟨_, g⟩ | ⟨_, g, _⟩
      · dsimp only at g6 g; rw [g]; exact g6
      · exact g
    have g8 : b9 = true := by
      rcases h8 with ⟨_, g⟩ | ⟨_, g, _⟩
      · dsimp only at g7 g; rw [g]; exact g7
      · exact g
    exact g8
  rcases h1 with ⟨e1, g1⟩ | ⟨e1, g1, _⟩
  rotate_left
  · right
    simp only [e0, e1, Option.bind_some, Option.bind_none, true_and]
    have g2 : b3 = true := by
      rcases h2 with ⟨_, g⟩ | ⟨_, g, _⟩
      · dsimp only at g1 g; rw [g]; exact g1
      · exact g
    have g3 : b4 = true := by
      rcases h3 with ⟨_, g⟩ | ⟨_, g, _⟩
      · dsimp only at g2 g; rw [g]; exact g2
      · exact g
    have g4 : b5 = true := by
      rcases h4 with ⟨_, g⟩ | ⟨_, g, _⟩
      · dsimp only at g3 g; rw [g]; exact g3
      · exact g
    have g5 : b6 = true := by
      rcases h5 with ⟨_, g⟩ | ⟨_, g, _⟩
      · dsimp only at g4 g; rw [g]; exact g4
      · exact g
    have g6 : b7 = true := by
      rcases h6 with ⟨_, g⟩ | ⟨_, g, _⟩
      · dsimp only at g5 g; rw [g]; exact g5
      · exact g
    have g7 : b8 = true := by
      rcases h7 with ⟨_, g⟩ | ⟨_, g, _⟩
      · dsimp only at g6 g; rw [g]; exact g6
      · exact g
    have g8 : b9 = true := by
      rcases h8 with ⟨_, g⟩ | ⟨_, g, _⟩
      · dsimp only at g7 g; rw [g]; exact g7
      · exact g
    exact g8
  rcases h2 with ⟨e2, g2⟩ | ⟨e2, g2, _⟩
  rotate_left
  · right
    simp only [e0, e1, e2, Option.bind_some, Option.bind_none, true_and]
    have g3 : b4 = true := by
      rcases h3 with ⟨_, g⟩ | ⟨_, g, _⟩
      · dsimp only at g2 g; rw [g]; exact g2
      · exact g
    have g4 : b5 = true := by
      rcases h4 with ⟨_, g⟩ | ⟨_, g, _⟩
      · dsimp only at g3 g; rw [g]; exact g3
      · exact g
    have g5 : b6 = true := by
      rcases h5 with ⟨_, g⟩ | ⟨_, g, _⟩
      · dsimp only at g4 g; rw [g]; exact g4
      · exact g
    have g6 : b7 = true := by
      rcases h6 with ⟨_, g⟩ | ⟨_, g, _⟩
      · dsimp only at g5 g; rw [g]; exact g5
      · exact g
    have g7 : b8 = true := by
      rcases h7 with ⟨_, g⟩ | ⟨_, g, _⟩
      · dsimp only at g6 g; rw [g]; exact g6
      · exact g
    have g8 : b9 = true := by
      rcases h8 with ⟨_, g⟩ | ⟨_, g, _⟩
      · dsimp only at g7 g; rw [g]; exact g7
      · exact g
    exact g8
  rcases h3 with ⟨e3, g3⟩ | ⟨e3, g3, _⟩
  rotate_left
  · right
    simp only [e0, e1, e2, e3, Option.bind_some, Option.bind_none, true_and]
    have g4 : b5 = true := by
      rcases h4 with ⟨_, g⟩ | ⟨_, g, _⟩
      · dsimp only at g3 g; rw [g]; exact g3
      · exact g
    have g5 : b6 = true := by
      rcases h5 with ⟨_, g⟩ | ⟨_, g, _⟩
      · dsimp only at g4 g; rw [g]; exact g4
      · exact g
    have g6 : b7 = true := by
      rcases h6 with ⟨_, g⟩ | ⟨_, g, _⟩
      · dsimp only at g5 g; rw [g]; exact g5
      · exact g
    have g7 : b8 = true := by
      rcases h7 with ⟨_, g⟩ | ⟨_, g, _⟩
      · dsimp only at g6 g; rw [g]; exact g6
      · exact g
    have g8 : b9 = true := by
      rcases h8 with ⟨_, g⟩ | ⟨_, g, _⟩
      · dsimp only at g7 g; rw [g]; exact g7
      · exact g
    exact g8
  rcases h4 with ⟨e4, g4⟩ | ⟨e4, g4, _⟩
  rotate_left
  · right
    simp only [e0, e1, e2, e3, e4, Option.bind_some, Option.bind_none, true_and]
    have g5 : b6 = true := by
      rcases h5 with ⟨_, g⟩ | ⟨_, g, _⟩
      · dsimp only at g4 g; rw [g]; exact g4
      · exact g
    have g6 : b7 = true := by
      rcases h6 with ⟨_, g⟩ | ⟨_, g, _⟩
      · dsimp only at g5 g; rw [g]; exact g5
      · exact g
    have g7 : b8 = true := by
      rcases h7 with ⟨_, g⟩ | ⟨_, g, _⟩
      · dsimp only at g6 g; rw [g]; exact g6
      · exact g
    have g8 : b9 = true := by
      rcases h8 with ⟨_, g⟩ | ⟨_, g, _⟩
      · dsimp only at g7 g; rw [g]; exact g7
      · exact g
    exact g8
  rcases h5 with ⟨e5, g5⟩ | ⟨e5, g5, _⟩
  rotate_left
  · right
    simp only [e0, e1, e2, e3, e4, e5, Option.bind_some, Option.bind_none, true_and]
    have g6 : b7 = true := by
      rcases h6 with ⟨_, g⟩ | ⟨_, g, _⟩
      · dsimp only at g5 g; rw [g]; exact g5
      · exact g
    have g7 : b8 = true := by
      rcases h7 with ⟨_, g⟩ | ⟨_, g, _⟩
      · dsimp only at g6 g; rw [g]; exact g6
      · exact g
    have g8 : b9 = true := by
      rcases h8 with ⟨_, g⟩ | ⟨_, g, _⟩
      · dsimp only at g7 g; rw [g]; exact g7
      · exact g
    exact g8
  rcases h6 with ⟨e6, g6⟩ | ⟨e6, g6, _⟩
  rotate_left
  · right
    simp only [e0, e1, e2, e3, e4, e5, e6, Option.bind_some, Option.bind_none, true_and]
    have g7 : b8 = true := by
      rcases h7 with ⟨_, g⟩ | ⟨_, g, _⟩
      · dsimp only at g6 g; rw [g]; exact g6
      · exact g
    have g8 : b9 = true := by
      rcases h8 with ⟨_, g⟩ | ⟨_, g, _⟩
      · dsimp only at g7 g; rw [g]; exact g7
      · exact g
    exact g8
  rcases h7 with ⟨e7, g7⟩ | ⟨e7, g7, _⟩
  rotate_left
  · right
    simp only [e0, e1, e2, e3, e4, e5, e6, e7, Option.bind_some, Option.bind_none, true_and]
    have g8 : b9 = true := by
      rcases h8 with ⟨_, g⟩ | ⟨_, g, _⟩
      · dsimp only at g7 g; rw [g]; exact g7
      · exact g
    exact g8
  rcases h8 with ⟨e8, g8⟩ | ⟨e8, g8, _⟩
  rotate_left
  · right
    simp only [e0, e1, e2, e3, e4, e5, e6, e7, e8, Option.bind_some, Option.bind_none, true_and]
    exact g8
  left
  dsimp only at e0 g0 e1 g1 e2 g2 e3 g3 e4 g4 e5 g5 e6 g6 e7 g7 e8 g8
  simp only [e0, e1, e2, e3, e4, e5, e6, e7, e8, Option.bind_some, true_and]
  rw [g8, g7, g6, g5, g4, g3, g2, g1, g0]
theorem sig_W {r0 r9 : ByteArray} {b9 : Bool} {q : Int × Int × Int × Int × Int × Int × Int × ByteArray × ByteArray} (h : (sigO r0 = some (q, r9) ∧ b9 = false) ∨ (sigO r0 = none ∧ b9 = true)) (hr : b9 = false → r9 = ⟨#[]⟩) : sigW r0 = if b9 = false ∧ True ∧ ¬ ((r0.size : Int) > 2000) then some q else none := by
  unfold sigW
  rcases h with ⟨e, g⟩ | ⟨e, g⟩
  · rw [e, g]
    simp only [Option.bind_some]
    by_cases h1 : r0.size ≤ 2000
    · have h2 : ¬ ((r0.size : Int) > 2000) := by omega
      have h3 : r9.size = 0 := nil_size.1 (hr g)
      rw [if_pos h1]
      simp [h2, h3]
    · have h2 : (r0.size : Int) > 2000 := by omega
      rw [if_neg h1, if_neg (by rintro ⟨_, _, h⟩; exact h h2)]
  · rw [e, g]
    simp
set_option maxHeartbeats 8000000 in
theorem rsig_top (d : ByteArray) (hs : d.size < 4294967281) (w : World) : Ret Tryz.prog 24 [.string d] w (match sigW d with | some q => .tuple #[sigV q, .bool true] | none => .tuple #[.agg #[.int .i64 0, .int .i64 0, .int .i64 0, .int .i64 0, .int .i64 0, .int .i64 0, .int .i64 0, .string ⟨#[]⟩, .string ⟨#[]⟩], .bool false]) := by
  refine Ret.of (I := fun _ => True) (fun _ _ => trivial) (TTok 0 _) Tryz.func24 (by kernel_rfl) rfl rfl ?_
  repeat' ((conv => whnf); first | (with_reducible first | refine TR.seq ?_ | refine TR.regionL ?_ | refine TR.drawn (TTok _ _) mixed ?_ | refine TR.block ?_ | refine TR.ret ?_ | refine TR.exit ?_ | refine TR.skip ?_ | refine TR.condB rfl ?_ | refine TRL.nil ?_ | refine Br.cond_t ?_ | refine Br.cond_f ?_ | refine Br.yes (by first | decide | assumption | (apply decide_eq_true; omega)) ?_ | refine Br.non (by first | decide | assumption | (apply decide_eq_false; omega)) ?_ | refine Br.cond_ff ?_ | refine Br.eqT (by omega) ?_ | refine Br.eqF (by omega) ?_ | refine Br.neT (by omega) ?_ | refine Br.neF (by omega) ?_ | refine Nm.keep ?_ | refine Need.mk (by dsimp only; omega) ?_ | refine Ld.mk' _ rfl ?_ | refine Need.mk (by first | decide | omega | kernel_rfl) ?_ | refine Nm.i64 (by omega) ?_ | refine Nm.u64 (by omega) ?_ | refine Nm.u8 (by omega) ?_) | (refine TRL.con [8] [8] (rname_con _ _ (by omega)) rfl rfl rfl rfl ⟨rfl, trivial⟩ rfl rfl (fun ⟨x, r, b⟩ hq => ⟨trivial, ?_⟩) (fun _ h => h.elim); have hz := rq_name hq; dsimp only at hz ⊢) | (refine TRL.con [8] [8] (rnum_con _ _ 1 (by omega) (by omega)) rfl rfl rfl rfl ⟨rfl, trivial⟩ rfl rfl (fun ⟨x, r, b⟩ hq => ⟨trivial, ?_⟩) (fun _ h => h.elim); have hz := rq_num hq; dsimp only at hz ⊢) | (refine TRL.con [8] [8] (rnum_con _ _ 2 (by omega) (by omega)) rfl rfl rfl rfl ⟨rfl, trivial⟩ rfl rfl (fun ⟨x, r, b⟩ hq => ⟨trivial, ?_⟩) (fun _ h => h.elim); have hz := rq_num hq; dsimp only at hz ⊢) | (refine TRL.con [8] [8] (rnum_con _ _ 4 (by omega) (by omega)) rfl rfl rfl rfl ⟨rfl, trivial⟩ rfl rfl (fun ⟨x, r, b⟩ hq => ⟨trivial, ?_⟩) (fun _ h => h.elim); have hz := rq_num hq; dsimp only at hz ⊢) | (refine TRL.con [8] [8] (rall_con _ _ (by omega)) rfl rfl rfl rfl ⟨rfl, trivial⟩ rfl rfl (fun ⟨x, r, b⟩ hq => ⟨trivial, ?_⟩) (fun _ h => h.elim); have hz := rq_rest hq; dsimp only at hz ⊢) | refine Br.mk3 (fun hc => ?_) (fun hc => ?_) | refine TRL.step (TTok _ _) ?_ | (refine x_exq (TTok _ _) ?_; (conv => whnf); fail_if_success (guard_target =ₛ False)))
  all_goals (conv => whnf)
  all_goals (have hf := sig_fwd (r0 := d) (by assumption) (by assumption) (by assumption) (by assumption) (by assumption) (by assumption) (by assumption) (by assumption) (by assumption); have hw := sig_W hf (fun hb => by
      rcases (by assumption : RQ (restO _) _ _ _) with ⟨h, _⟩ | ⟨_, h, _⟩
      · exact restO_nil h
      · dsimp only at h; rw [hb] at h; cases h))
  all_goals first | (rw [hw, if_pos ⟨by assumption, trivial, of_d (by assumption)⟩]; rfl) | (rw [hw, if_neg (neg1 (by assumption))]; rfl) | (rw [hw, if_neg (neg2 (by assumption))]; rfl) | (rw [hw, if_neg (neg3 (by assumption))]; rfl)
theorem key_fwd {r0 : ByteArray} {x0 : Int} {r1 : ByteArray} {b1 : Bool} {x1 : Int} {r2 : ByteArray} {b2 : Bool} {x2 : Int} {r3 : ByteArray} {b3 : Bool} {x3 : ByteArray} {r4 : ByteArray} {b4 : Bool} (h0 : RQ (numO 2 r0) r0 false (x0, r1, b1)) (h1 : RQ (numO 1 r1) r1 b1 (x1, r2, b2)) (h2 : RQ (numO 1 r2) r2 b2 (x2, r3, b3)) (h3 : RQ (restO r3) r3 b3 (x3, r4, b4)) : (keyO r0 = some ((x0, x1, x2, x3), r4) ∧ b4 = false) ∨ (keyO r0 = none ∧ b4 = true) := by
  unfold keyO
  rcases h0 with ⟨e0, g0⟩ | ⟨e0, g0, _⟩
  rotate_left
  · right
    simp only [e0, Option.bind_some, Option.bind_none, true_and]
    have g1 : b2 = true := by
      rcases h1 with ⟨_, g⟩ | ⟨_, g, _⟩
      · dsimp only at g0 g; rw [g]; exact g0
      · exact g
    have g2 : b3 = true := by
      rcases h2 with ⟨_, g⟩ | ⟨_, g, _⟩
      · dsimp only at g1 g; rw [g]; exact g1
      · exact g
    have g3 : b4 = true := by
      rcases h3 with ⟨_, g⟩ | ⟨_, g, _⟩
      · dsimp only at g2 g; rw [g]; exact g2
      · exact g
    exact g3
  rcases h1 with ⟨e1, g1⟩ | ⟨e1, g1, _⟩
  rotate_left
  · right
    simp only [e0, e1, Option.bind_some, Option.bind_none, true_and]
    have g2 : b3 = true := by
      rcases h2 with ⟨_, g⟩ | ⟨_, g, _⟩
      · dsimp only at g1 g; rw [g]; exact g1
      · exact g
    have g3 : b4 = true := by
      rcases h3 with ⟨_, g⟩ | ⟨_, g, _⟩
      · dsimp only at g2 g; rw [g]; exact g2
      · exact g
    exact g3
  rcases h2 with ⟨e2, g2⟩ | ⟨e2, g2, _⟩
  rotate_left
  · right
    simp only [e0, e1, e2, Option.bind_some, Option.bind_none, true_and]
    have g3 : b4 = true := by
      rcases h3 with ⟨_, g⟩ | ⟨_, g, _⟩
      · dsimp only at g2 g; rw [g]; exact g2
      · exact g
    exact g3
  rcases h3 with ⟨e3, g3⟩ | ⟨e3, g3, _⟩
  rotate_left
  · right
    simp only [e0, e1, e2, e3, Option.bind_some, Option.bind_none, true_and]
    exact g3
  left
  dsimp only at e0 g0 e1 g1 e2 g2 e3 g3
  simp only [e0, e1, e2, e3, Option.bind_some, true_and]
  rw [g3, g2, g1, g0]
theorem key_W {r0 r4 : ByteArray} {b4 : Bool} {q : Int × Int × Int × ByteArray} (h : (keyO r0 = some (q, r4) ∧ b4 = false) ∨ (keyO r0 = none ∧ b4 = true)) (hr : b4 = false → r4 = ⟨#[]⟩) : keyW r0 = if b4 = false ∧ True ∧ ¬ ((r0.size : Int) > 2000) then some q else none := by
  unfold keyW
  rcases h with ⟨e, g⟩ | ⟨e, g⟩
  · rw [e, g]
    simp only [Option.bind_some]
    by_cases h1 : r0.size ≤ 2000
    · have h2 : ¬ ((r0.size : Int) > 2000) := by omega
      have h3 : r4.size = 0 := nil_size.1 (hr g)
      rw [if_pos h1]
      simp [h2, h3]
    · have h2 : (r0.size : Int) > 2000 := by omega
      rw [if_neg h1, if_neg (by rintro ⟨_, _, h⟩; exact h h2)]
  · rw [e, g]
    simp
set_option maxHeartbeats 8000000 in
theorem rkey_top (d : ByteArray) (hs : d.size < 4294967281) (w : World) : Ret Tryz.prog 26 [.string d] w (match keyW d with | some q => .tuple #[keyV q, .bool true] | none => .tuple #[.agg #[.int .i64 0, .int .i64 0, .int .i64 0, .string ⟨#[]⟩], .bool false]) := by
  refine Ret.of (I := fun _ => True) (fun _ _ => trivial) (TTok 0 _) Tryz.func26 (by kernel_rfl) rfl rfl ?_
  repeat' ((conv => whnf); first | (with_reducible first | refine TR.seq ?_ | refine TR.regionL ?_ | refine TR.drawn (TTok _ _) mixed ?_ | refine TR.block ?_ | refine TR.ret ?_ | refine TR.exit ?_ | refine TR.skip ?_ | refine TR.condB rfl ?_ | refine TRL.nil ?_ | refine Br.cond_t ?_ | refine Br.cond_f ?_ | refine Br.yes (by first | decide | assumption | (apply decide_eq_true; omega)) ?_ | refine Br.non (by first | decide | assumption | (apply decide_eq_false; omega)) ?_ | refine Br.cond_ff ?_ | refine Br.eqT (by omega) ?_ | refine Br.eqF (by omega) ?_ | refine Br.neT (by omega) ?_ | refine Br.neF (by omega) ?_ | refine Nm.keep ?_ | refine Need.mk (by dsimp only; omega) ?_ | refine Ld.mk' _ rfl ?_ | refine Need.mk (by first | decide | omega | kernel_rfl) ?_ | refine Nm.i64 (by omega) ?_ | refine Nm.u64 (by omega) ?_ | refine Nm.u8 (by omega) ?_) | (refine TRL.con [8] [8] (rname_con _ _ (by omega)) rfl rfl rfl rfl ⟨rfl, trivial⟩ rfl rfl (fun ⟨x, r, b⟩ hq => ⟨trivial, ?_⟩) (fun _ h => h.elim); have hz := rq_name hq; dsimp only at hz ⊢) | (refine TRL.con [8] [8] (rnum_con _ _ 1 (by omega) (by omega)) rfl rfl rfl rfl ⟨rfl, trivial⟩ rfl rfl (fun ⟨x, r, b⟩ hq => ⟨trivial, ?_⟩) (fun _ h => h.elim); have hz := rq_num hq; dsimp only at hz ⊢) | (refine TRL.con [8] [8] (rnum_con _ _ 2 (by omega) (by omega)) rfl rfl rfl rfl ⟨rfl, trivial⟩ rfl rfl (fun ⟨x, r, b⟩ hq => ⟨trivial, ?_⟩) (fun _ h => h.elim); have hz := rq_num hq; dsimp only at hz ⊢) | (refine TRL.con [8] [8] (rnum_con _ _ 4 (by omega) (by omega)) rfl rfl rfl rfl ⟨rfl, trivial⟩ rfl rfl (fun ⟨x, r, b⟩ hq => ⟨trivial, ?_⟩) (fun _ h => h.elim); have hz := rq_num hq; dsimp only at hz ⊢) | (refine TRL.con [8] [8] (rall_con _ _ (by omega)) rfl rfl rfl rfl ⟨rfl, trivial⟩ rfl rfl (fun ⟨x, r, b⟩ hq => ⟨trivial, ?_⟩) (fun _ h => h.elim); have hz := rq_rest hq; dsimp only at hz ⊢) | refine Br.mk3 (fun hc => ?_) (fun hc => ?_) | refine TRL.step (TTok _ _) ?_ | (refine x_exq (TTok _ _) ?_; (conv => whnf); fail_if_success (guard_target =ₛ False)))
  all_goals (conv => whnf)
  all_goals (have hf := key_fwd (r0 := d) (by assumption) (by assumption) (by assumption) (by assumption); have hw := key_W hf (fun hb => by
      rcases (by assumption : RQ (restO _) _ _ _) with ⟨h, _⟩ | ⟨_, h, _⟩
      · exact restO_nil h
      · dsimp only at h; rw [hb] at h; cases h))
  all_goals first | (rw [hw, if_pos ⟨by assumption, trivial, of_d (by assumption)⟩]; rfl) | (rw [hw, if_neg (neg1 (by assumption))]; rfl) | (rw [hw, if_neg (neg2 (by assumption))]; rfl) | (rw [hw, if_neg (neg3 (by assumption))]; rfl)
theorem dsr_fwd {r0 : ByteArray} {x0 : Int} {r1 : ByteArray} {b1 : Bool} {x1 : Int} {r2 : ByteArray} {b2 : Bool} {x2 : Int} {r3 : ByteArray} {b3 : Bool} {x3 : ByteArray} {r4 : ByteArray} {b4 : Bool} (h0 : RQ (numO 2 r0) r0 false (x0, r1, b1)) (h1 : RQ (numO 1 r1) r1 b1 (x1, r2, b2)) (h2 : RQ (numO 1 r2) r2 b2 (x2, r3, b3)) (h3 : RQ (restO r3) r3 b3 (x3, r4, b4)) : (dsrO r0 = some ((x0, x1, x2, x3), r4) ∧ b4 = false) ∨ (dsrO r0 = none ∧ b4 = true) := by
  unfold dsrO
  rcases h0 with ⟨e0, g0⟩ | ⟨e0, g0, _⟩
  rotate_left
  · right
    simp only [e0, Option.bind_some, Option.bind_none, true_and]
    have g1 : b2 = true := by
      rcases h1 with ⟨_, g⟩ | ⟨_, g, _⟩
      · dsimp only at g0 g; rw [g]; exact g0
      · exact g
    have g2 : b3 = true := by
      rcases h2 with ⟨_, g⟩ | ⟨_, g, _⟩
      · dsimp only at g1 g; rw [g]; exact g1
      · exact g
    have g3 : b4 = true := by
      rcases h3 with ⟨_, g⟩ | ⟨_, g, _⟩
      · dsimp only at g2 g; rw [g]; exact g2
      · exact g
    exact g3
  rcases h1 with ⟨e1, g1⟩ | ⟨e1, g1, _⟩
  rotate_left
  · right
    simp only [e0, e1, Option.bind_some, Option.bind_none, true_and]
    have g2 : b3 = true := by
      rcases h2 with ⟨_, g⟩ | ⟨_, g, _⟩
      · dsimp only at g1 g; rw [g]; exact g1
      · exact g
    have g3 : b4 = true := by
      rcases h3 with ⟨_, g⟩ | ⟨_, g, _⟩
      · dsimp only at g2 g; rw [g]; exact g2
      · exact g
    exact g3
  rcases h2 with ⟨e2, g2⟩ | ⟨e2, g2, _⟩
  rotate_left
  · right
    simp only [e0, e1, e2, Option.bind_some, Option.bind_none, true_and]
    have g3 : b4 = true := by
      rcases h3 with ⟨_, g⟩ | ⟨_, g, _⟩
      · dsimp only at g2 g; rw [g]; exact g2
      · exact g
    exact g3
  rcases h3 with ⟨e3, g3⟩ | ⟨e3, g3, _⟩
  rotate_left
  · right
    simp only [e0, e1, e2, e3, Option.bind_some, Option.bind_none, true_and]
    exact g3
  left
  dsimp only at e0 g0 e1 g1 e2 g2 e3 g3
  simp only [e0, e1, e2, e3, Option.bind_some, true_and]
  rw [g3, g2, g1, g0]
theorem dsr_W {r0 r4 : ByteArray} {b4 : Bool} {q : Int × Int × Int × ByteArray} (h : (dsrO r0 = some (q, r4) ∧ b4 = false) ∨ (dsrO r0 = none ∧ b4 = true)) (hr : b4 = false → r4 = ⟨#[]⟩) : dsrW r0 = if b4 = false ∧ True ∧ ¬ ((r0.size : Int) > 2000) then some q else none := by
  unfold dsrW
  rcases h with ⟨e, g⟩ | ⟨e, g⟩
  · rw [e, g]
    simp only [Option.bind_some]
    by_cases h1 : r0.size ≤ 2000
    · have h2 : ¬ ((r0.size : Int) > 2000) := by omega
      have h3 : r4.size = 0 := nil_size.1 (hr g)
      rw [if_pos h1]
      simp [h2, h3]
    · have h2 : (r0.size : Int) > 2000 := by omega
      rw [if_neg h1, if_neg (by rintro ⟨_, _, h⟩; exact h h2)]
  · rw [e, g]
    simp
set_option maxHeartbeats 8000000 in
theorem rdsr_top (d : ByteArray) (hs : d.size < 4294967281) (w : World) : Ret Tryz.prog 28 [.string d] w (match dsrW d with | some q => .tuple #[dsrV q, .bool true] | none => .tuple #[.agg #[.int .i64 0, .int .i64 0, .int .i64 0, .string ⟨#[]⟩], .bool false]) := by
  refine Ret.of (I := fun _ => True) (fun _ _ => trivial) (TTok 0 _) Tryz.func28 (by kernel_rfl) rfl rfl ?_
  repeat' ((conv => whnf); first | (with_reducible first | refine TR.seq ?_ | refine TR.regionL ?_ | refine TR.drawn (TTok _ _) mixed ?_ | refine TR.block ?_ | refine TR.ret ?_ | refine TR.exit ?_ | refine TR.skip ?_ | refine TR.condB rfl ?_ | refine TRL.nil ?_ | refine Br.cond_t ?_ | refine Br.cond_f ?_ | refine Br.yes (by first | decide | assumption | (apply decide_eq_true; omega)) ?_ | refine Br.non (by first | decide | assumption | (apply decide_eq_false; omega)) ?_ | refine Br.cond_ff ?_ | refine Br.eqT (by omega) ?_ | refine Br.eqF (by omega) ?_ | refine Br.neT (by omega) ?_ | refine Br.neF (by omega) ?_ | refine Nm.keep ?_ | refine Need.mk (by dsimp only; omega) ?_ | refine Ld.mk' _ rfl ?_ | refine Need.mk (by first | decide | omega | kernel_rfl) ?_ | refine Nm.i64 (by omega) ?_ | refine Nm.u64 (by omega) ?_ | refine Nm.u8 (by omega) ?_) | (refine TRL.con [8] [8] (rname_con _ _ (by omega)) rfl rfl rfl rfl ⟨rfl, trivial⟩ rfl rfl (fun ⟨x, r, b⟩ hq => ⟨trivial, ?_⟩) (fun _ h => h.elim); have hz := rq_name hq; dsimp only at hz ⊢) | (refine TRL.con [8] [8] (rnum_con _ _ 1 (by omega) (by omega)) rfl rfl rfl rfl ⟨rfl, trivial⟩ rfl rfl (fun ⟨x, r, b⟩ hq => ⟨trivial, ?_⟩) (fun _ h => h.elim); have hz := rq_num hq; dsimp only at hz ⊢) | (refine TRL.con [8] [8] (rnum_con _ _ 2 (by omega) (by omega)) rfl rfl rfl rfl ⟨rfl, trivial⟩ rfl rfl (fun ⟨x, r, b⟩ hq => ⟨trivial, ?_⟩) (fun _ h => h.elim); have hz := rq_num hq; dsimp only at hz ⊢) | (refine TRL.con [8] [8] (rnum_con _ _ 4 (by omega) (by omega)) rfl rfl rfl rfl ⟨rfl, trivial⟩ rfl rfl (fun ⟨x, r, b⟩ hq => ⟨trivial, ?_⟩) (fun _ h => h.elim); have hz := rq_num hq; dsimp only at hz ⊢) | (refine TRL.con [8] [8] (rall_con _ _ (by omega)) rfl rfl rfl rfl ⟨rfl, trivial⟩ rfl rfl (fun ⟨x, r, b⟩ hq => ⟨trivial, ?_⟩) (fun _ h => h.elim); have hz := rq_rest hq; dsimp only at hz ⊢) | refine Br.mk3 (fun hc => ?_) (fun hc => ?_) | refine TRL.step (TTok _ _) ?_ | (refine x_exq (TTok _ _) ?_; (conv => whnf); fail_if_success (guard_target =ₛ False)))
  all_goals (conv => whnf)
  all_goals (have hf := dsr_fwd (r0 := d) (by assumption) (by assumption) (by assumption) (by assumption); have hw := dsr_W hf (fun hb => by
      rcases (by assumption : RQ (restO _) _ _ _) with ⟨h, _⟩ | ⟨_, h, _⟩
      · exact restO_nil h
      · dsimp only at h; rw [hb] at h; cases h))
  all_goals first | (rw [hw, if_pos ⟨by assumption, trivial, of_d (by assumption)⟩]; rfl) | (rw [hw, if_neg (neg1 (by assumption))]; rfl) | (rw [hw, if_neg (neg2 (by assumption))]; rfl) | (rw [hw, if_neg (neg3 (by assumption))]; rfl)
end Go.Proofs.YtbladfkakmdigaaGreatDoor
