/-
  What the laws of these data stand on: contracts of functions, and plain laws.
-/
import Derived.Test.YtbladfkakmdigaaGreatDoorQXa
import Derived.Test.YtbladfkakmdigaaGreatDoorQXb
import Derived.Test.YtbladfkakmdigaaGreatDoorQXc
import Derived.Test.YtbladfkakmdigaaGreatDoorQXd
import Derived.Test.YtbladfkakmdigaaGreatDoorQBa
import Derived.Test.YtbladfkakmdigaaGreatDoorQFa
import Derived.Test.YtbladfkakmdigaaGreatDoorQCa
import Derived.Test.YtbladfkakmdigaaGreatDoorQDa
import Derived.Test.YtbladfkakmdigaaGreatDoorQGa
set_option linter.unusedVariables false
set_option linter.unusedSimpArgs false
set_option linter.unnecessarySimpa false
set_option maxRecDepth 100000
set_option linter.unusedVariables false
set_option linter.unusedSimpArgs false
namespace Go.Proofs.YtbladfkakmdigaaGreatDoor
open Go.SX
def Pair2 (f g : FuncId) (d : ByteArray) (V : Value) (e : Int) (ok : Bool) : Prop :=
  (∀ w, Ret Tryz.prog f [.string d] w (.tuple #[V, .int .i64 e])) ∧ (∀ w, Ret Tryz.prog g [.string d] w (.tuple #[V, .bool ok])) ∧ ((e = 0 ∧ ok = true) ∨ (e = 6 ∧ ok = false))
theorem soa_pair (d : ByteArray) (hs : d.size < 4294967281) : ∃ (x0 : ByteArray) (x1 : ByteArray) (x2 : Int) (x3 : Int) (x4 : Int) (x5 : Int) (x6 : Int) (e : Int) (ok : Bool), Pair2 21 22 d (.agg #[.string x0, .string x1, .int .i64 x2, .int .i64 x3, .int .i64 x4, .int .i64 x5, .int .i64 x6]) e ok := by
  have h1 := fun w => soa_top d hs w
  have h2 := fun w => rsoa_top d hs w
  cases h : soaW d with
  | none =>
    rw [h] at h1 h2
    exact ⟨⟨#[]⟩, ⟨#[]⟩, 0, 0, 0, 0, 0, 6, false, h1, h2, .inr ⟨rfl, rfl⟩⟩
  | some q =>
    rw [h] at h1 h2
    obtain ⟨x0, x1, x2, x3, x4, x5, x6⟩ := q
    exact ⟨x0, x1, x2, x3, x4, x5, x6, 0, true, h1, h2, .inl ⟨rfl, rfl⟩⟩
theorem sig_pair (d : ByteArray) (hs : d.size < 4294967281) : ∃ (x0 : Int) (x1 : Int) (x2 : Int) (x3 : Int) (x4 : Int) (x5 : Int) (x6 : Int) (x7 : ByteArray) (x8 : ByteArray) (e : Int) (ok : Bool), Pair2 23 24 d (.agg #[.int .i64 x0, .int .i64 x1, .int .i64 x2, .int .i64 x3, .int .i64 x4, .int .i64 x5, .int .i64 x6, .string x7, .string x8]) e ok := by
  have h1 := fun w => sig_top d hs w
  have h2 := fun w => rsig_top d hs w
  cases h : sigW d with
  | none =>
    rw [h] at h1 h2
    exact ⟨0, 0, 0, 0, 0, 0, 0, ⟨#[]⟩, ⟨#[]⟩, 6, false, h1, h2, .inr ⟨rfl, rfl⟩⟩
  | some q =>
    rw [h] at h1 h2
    obtain ⟨x0, x1, x2, x3, x4, x5, x6, x7, x8⟩ := q
    exact ⟨x0, x1, x2, x3, x4, x5, x6, x7, x8, 0, true, h1, h2, .inl ⟨rfl, rfl⟩⟩
theorem key_pair (d : ByteArray) (hs : d.size < 4294967281) : ∃ (x0 : Int) (x1 : Int) (x2 : Int) (x3 : ByteArray) (e : Int) (ok : Bool), Pair2 25 26 d (.agg #[.int .i64 x0, .int .i64 x1, .int .i64 x2, .string x3]) e ok := by
  have h1 := fun w => key_top d hs w
  have h2 := fun w => rkey_top d hs w
  cases h : keyW d with
  | none =>
    rw [h] at h1 h2
    exact ⟨0, 0, 0, ⟨#[]⟩, 6, false, h1, h2, .inr ⟨rfl, rfl⟩⟩
  | some q =>
    rw [h] at h1 h2
    obtain ⟨x0, x1, x2, x3⟩ := q
    exact ⟨x0, x1, x2, x3, 0, true, h1, h2, .inl ⟨rfl, rfl⟩⟩
theorem dsr_pair (d : ByteArray) (hs : d.size < 4294967281) : ∃ (x0 : Int) (x1 : Int) (x2 : Int) (x3 : ByteArray) (e : Int) (ok : Bool), Pair2 27 28 d (.agg #[.int .i64 x0, .int .i64 x1, .int .i64 x2, .string x3]) e ok := by
  have h1 := fun w => dsr_top d hs w
  have h2 := fun w => rdsr_top d hs w
  cases h : dsrW d with
  | none =>
    rw [h] at h1 h2
    exact ⟨0, 0, 0, ⟨#[]⟩, 6, false, h1, h2, .inr ⟨rfl, rfl⟩⟩
  | some q =>
    rw [h] at h1 h2
    obtain ⟨x0, x1, x2, x3⟩ := q
    exact ⟨x0, x1, x2, x3, 0, true, h1, h2, .inl ⟨rfl, rfl⟩⟩
set_option maxHeartbeats 32000000 in
theorem takes_00 {u2 v2 u3 v3} (d : ByteArray) (hs : d.size < 4294967281) (h5 : nsW d = none) (h6 : n3W d = none) (w : World) (hI : IC u2 v2 u3 v3 w) : Ret Tryz.prog 5 [.string d] w (.bool true) := by
  obtain ⟨a0, a1, a2, a3, a4, a5, a6, e1, k1, p1, q1, r1⟩ := soa_pair d hs
  obtain ⟨b0, b1, b2, b3, b4, b5, b6, b7, b8, e2, k2, p2, q2, r2⟩ := sig_pair d hs
  obtain ⟨c0, c1, c2, c3, e3, k3, p3, q3, r3⟩ := key_pair d hs
  obtain ⟨d0, d1, d2, d3, e4, k4, p4, q4, r4⟩ := dsr_pair d hs
  skip
  skip
  refine Ret.of (I := IC u2 v2 u3 v3) (fun w' hm => hI.mod hm) (TTok 0 _) Tryz.func5 (by kernel_rfl) rfl rfl ?_
  repeat' ((conv => whnf); first | (with_reducible first | refine TR.seq ?_ | refine TR.regionL ?_ | refine TR.drawn (TTok _ _) mixed ?_ | refine TR.block ?_ | refine TR.ret ?_ | refine TR.exit ?_ | refine TR.skip ?_ | refine TR.condB rfl ?_ | refine TRL.nil ?_ | refine Br.cond_t ?_ | refine Br.cond_f ?_ | refine Br.yes (by first | decide | assumption | (apply decide_eq_true; omega)) ?_ | refine Br.non (by first | decide | assumption | (apply decide_eq_false; omega)) ?_ | refine Br.cond_ff ?_ | refine Br.eqT (by omega) ?_ | refine Br.eqF (by omega) ?_ | refine Br.neT (by omega) ?_ | refine Br.neF (by omega) ?_ | refine Ld.mk' _ rfl ?_ | refine Need.mk (by first | decide | omega | kernel_rfl) ?_ | refine Nm.i64 (by omega) ?_ | refine Nm.u64 (by omega) ?_ | refine Nm.u8 (by omega) ?_ | refine Nm.keep ?_ | refine Need.mk (by dsimp only; omega) ?_ | refine x_ret (f := 21) rfl rfl (fun w _ => p1 w) ?_ | refine x_ret (f := 22) rfl rfl (fun w _ => q1 w) ?_ | refine x_ret (f := 23) rfl rfl (fun w _ => p2 w) ?_ | refine x_ret (f := 24) rfl rfl (fun w _ => q2 w) ?_ | refine x_ret (f := 25) rfl rfl (fun w _ => p3 w) ?_ | refine x_ret (f := 26) rfl rfl (fun w _ => q3 w) ?_ | refine x_ret (f := 27) rfl rfl (fun w _ => p4 w) ?_ | refine x_ret (f := 28) rfl rfl (fun w _ => q4 w) ?_ | refine x_ret (f := 33) rfl rfl (fun w _ => numbers_nil w) ?_ | refine x_ret (f := 14) rfl rfl (fun w hw => examples_ret hw) ?_) | (refine TRL.con [] [5] (Con.inI (ns_none d hs h5)) rfl rfl rfl rfl trivial rfl rfl (fun v5 _ => ⟨trivial, ?_⟩) (fun _ h => h.elim); dsimp only [nsR, n3R, nsA, n3A]) | (refine TRL.con [] [7] (Con.inI (rns_none d hs h5)) rfl rfl rfl rfl trivial rfl rfl (fun w5 _ => ⟨trivial, ?_⟩) (fun _ h => h.elim); dsimp only [nsR, n3R, nsA, n3A]) | (refine TRL.con [] [9] (Con.inI (n3_none d hs h6)) rfl rfl rfl rfl trivial rfl rfl (fun v6 _ => ⟨trivial, ?_⟩) (fun _ h => h.elim); dsimp only [nsR, n3R, nsA, n3A]) | (refine TRL.con [] [11] (Con.inI (rn3_none d hs h6)) rfl rfl rfl rfl trivial rfl rfl (fun w6 _ => ⟨trivial, ?_⟩) (fun _ h => h.elim); dsimp only [nsR, n3R, nsA, n3A]) | refine TRL.step (TTok _ _) ?_ | (refine x_exq (TTok _ _) ?_; (conv => whnf); fail_if_success (guard_target =ₛ False)))
  refine TR.loopH (fun n : Nat => [(30, .v (.int .i64 n))]) (fun _ => []) (fun n => n ≤ 6) (fun n => 6 - n) 0 (Nat.zero_le _) ?_ ?_
  · repeat' ((conv => whnf); first | exact trivial | exact Fgt.nil | exact Fgt.mk rfl rfl rfl | refine And.intro rfl ?_ | refine And.intro ?_ ?_)
  · intro n hn
    have hc : n = 0 ∨ n = 1 ∨ n = 2 ∨ n = 3 ∨ n = 4 ∨ n = 5 ∨ n = 6 := by omega
    rcases hc with rfl | rfl | rfl | rfl | rfl | rfl | rfl
    · rcases r1 with ⟨rfl, rfl⟩ | ⟨rfl, rfl⟩
      all_goals skip
      all_goals repeat' ((conv => whnf); first | (with_reducible first | refine TR.seq ?_ | refine TR.regionL ?_ | refine TR.drawn (TTok _ _) mixed ?_ | refine TR.block ?_ | refine TR.ret ?_ | refine TR.exit ?_ | refine TR.skip ?_ | refine TR.condB rfl ?_ | refine TRL.nil ?_ | refine Br.cond_t ?_ | refine Br.cond_f ?_ | refine Br.yes (by first | decide | assumption | (apply decide_eq_true; omega)) ?_ | refine Br.non (by first | decide | assumption | (apply decide_eq_false; omega)) ?_ | refine Br.cond_ff ?_ | refine Br.eqT (by omega) ?_ | refine Br.eqF (by omega) ?_ | refine Br.neT (by omega) ?_ | refine Br.neF (by omega) ?_ | refine Ld.mk' _ rfl ?_ | refine Need.mk (by first | decide | omega | kernel_rfl) ?_ | refine Nm.i64 (by omega) ?_ | refine Nm.u64 (by omega) ?_ | refine Nm.u8 (by omega) ?_ | refine Nm.keep ?_ | refine Need.mk (by dsimp only; omega) ?_) | refine Br.non rfl ?_ | refine Br.yes rfl ?_ | refine TRL.step (TTok _ _) ?_ | (refine x_exq (TTok _ _) ?_; (conv => whnf); fail_if_success (guard_target =ₛ False)))
      all_goals (conv => whnf)
      all_goals (refine ⟨1, by decide, by decide, ?_⟩)
      all_goals repeat' ((conv => whnf); first | exact trivial | exact Fgt.nil | exact Fgt.mk rfl rfl rfl | refine And.intro rfl ?_ | refine And.intro ?_ ?_)
    · rcases r2 with ⟨rfl, rfl⟩ | ⟨rfl, rfl⟩
      all_goals skip
      all_goals repeat' ((conv => whnf); first | (with_reducible first | refine TR.seq ?_ | refine TR.regionL ?_ | refine TR.drawn (TTok _ _) mixed ?_ | refine TR.block ?_ | refine TR.ret ?_ | refine TR.exit ?_ | refine TR.skip ?_ | refine TR.condB rfl ?_ | refine TRL.nil ?_ | refine Br.cond_t ?_ | refine Br.cond_f ?_ | refine Br.yes (by first | decide | assumption | (apply decide_eq_true; omega)) ?_ | refine Br.non (by first | decide | assumption | (apply decide_eq_false; omega)) ?_ | refine Br.cond_ff ?_ | refine Br.eqT (by omega) ?_ | refine Br.eqF (by omega) ?_ | refine Br.neT (by omega) ?_ | refine Br.neF (by omega) ?_ | refine Ld.mk' _ rfl ?_ | refine Need.mk (by first | decide | omega | kernel_rfl) ?_ | refine Nm.i64 (by omega) ?_ | refine Nm.u64 (by omega) ?_ | refine Nm.u8 (by omega) ?_ | refine Nm.keep ?_ | refine Need.mk (by dsimp only; omega) ?_) | refine Br.non rfl ?_ | refine Br.yes rfl ?_ | refine TRL.step (TTok _ _) ?_ | (refine x_exq (TTok _ _) ?_; (conv => whnf); fail_if_success (guard_target =ₛ False)))
      all_goals (conv => whnf)
      all_goals (refine ⟨2, by decide, by decide, ?_⟩)
      all_goals repeat' ((conv => whnf); first | exact trivial | exact Fgt.nil | exact Fgt.mk rfl rfl rfl | refine And.intro rfl ?_ | refine And.intro ?_ ?_)
    · rcases r3 with ⟨rfl, rfl⟩ | ⟨rfl, rfl⟩
      all_goals skip
      all_goals repeat' ((conv => whnf); first | (with_reducible first | refine TR.seq ?_ | refine TR.regionL ?_ | refine TR.drawn (TTok _ _) mixed ?_ | refine TR.block ?_ | refine TR.ret ?_ | refine TR.exit ?_ | refine TR.skip ?_ | refine TR.condB rfl ?_ | refine TRL.nil ?_ | refine Br.cond_t ?_ | refine Br.cond_f ?_ | refine Br.yes (by first | decide | assumption | (apply decide_eq_true; omega)) ?_ | refine Br.non (by first | decide | assumption | (apply decide_eq_false; omega)) ?_ | refine Br.cond_ff ?_ | refine Br.eqT (by omega) ?_ | refine Br.eqF (by omega) ?_ | refine Br.neT (by omega) ?_ | refine Br.neF (by omega) ?_ | refine Ld.mk' _ rfl ?_ | refine Need.mk (by first | decide | omega | kernel_rfl) ?_ | refine Nm.i64 (by omega) ?_ | refine Nm.u64 (by omega) ?_ | refine Nm.u8 (by omega) ?_ | refine Nm.keep ?_ | refine Need.mk (by dsimp only; omega) ?_) | refine Br.non rfl ?_ | refine Br.yes rfl ?_ | refine TRL.step (TTok _ _) ?_ | (refine x_exq (TTok _ _) ?_; (conv => whnf); fail_if_success (guard_target =ₛ False)))
      all_goals (conv => whnf)
      all_goals (refine ⟨3, by decide, by decide, ?_⟩)
      all_goals repeat' ((conv => whnf); first | exact trivial | exact Fgt.nil | exact Fgt.mk rfl rfl rfl | refine And.intro rfl ?_ | refine And.intro ?_ ?_)
    · rcases r4 with ⟨rfl, rfl⟩ | ⟨rfl, rfl⟩
      all_goals skip
      all_goals repeat' ((conv => whnf); first | (with_reducible first | refine TR.seq ?_ | refine TR.regionL ?_ | refine TR.drawn (TTok _ _) mixed ?_ | refine TR.block ?_ | refine TR.ret ?_ | refine TR.exit ?_ | refine TR.skip ?_ | refine TR.condB rfl ?_ | refine TRL.nil ?_ | refine Br.cond_t ?_ | refine Br.cond_f ?_ | refine Br.yes (by first | decide | assumption | (apply decide_eq_true; omega)) ?_ | refine Br.non (by first | decide | assumption | (apply decide_eq_false; omega)) ?_ | refine Br.cond_ff ?_ | refine Br.eqT (by omega) ?_ | refine Br.eqF (by omega) ?_ | refine Br.neT (by omega) ?_ | refine Br.neF (by omega) ?_ | refine Ld.mk' _ rfl ?_ | refine Need.mk (by first | decide | omega | kernel_rfl) ?_ | refine Nm.i64 (by omega) ?_ | refine Nm.u64 (by omega) ?_ | refine Nm.u8 (by omega) ?_ | refine Nm.keep ?_ | refine Need.mk (by dsimp only; omega) ?_) | refine Br.non rfl ?_ | refine Br.yes rfl ?_ | refine TRL.step (TTok _ _) ?_ | (refine x_exq (TTok _ _) ?_; (conv => whnf); fail_if_success (guard_target =ₛ False)))
      all_goals (conv => whnf)
      all_goals (refine ⟨4, by decide, by decide, ?_⟩)
      all_goals repeat' ((conv => whnf); first | exact trivial | exact Fgt.nil | exact Fgt.mk rfl rfl rfl | refine And.intro rfl ?_ | refine And.intro ?_ ?_)
    · skip
      all_goals repeat' ((conv => whnf); first | (with_reducible first | refine TR.seq ?_ | refine TR.regionL ?_ | refine TR.drawn (TTok _ _) mixed ?_ | refine TR.block ?_ | refine TR.ret ?_ | refine TR.exit ?_ | refine TR.skip ?_ | refine TR.condB rfl ?_ | refine TRL.nil ?_ | refine Br.cond_t ?_ | refine Br.cond_f ?_ | refine Br.yes (by first | decide | assumption | (apply decide_eq_true; omega)) ?_ | refine Br.non (by first | decide | assumption | (apply decide_eq_false; omega)) ?_ | refine Br.cond_ff ?_ | refine Br.eqT (by omega) ?_ | refine Br.eqF (by omega) ?_ | refine Br.neT (by omega) ?_ | refine Br.neF (by omega) ?_ | refine Ld.mk' _ rfl ?_ | refine Need.mk (by first | decide | omega | kernel_rfl) ?_ | refine Nm.i64 (by omega) ?_ | refine Nm.u64 (by omega) ?_ | refine Nm.u8 (by omega) ?_ | refine Nm.keep ?_ | refine Need.mk (by dsimp only; omega) ?_) | refine Br.non rfl ?_ | refine Br.yes rfl ?_ | refine TRL.step (TTok _ _) ?_ | (refine x_exq (TTok _ _) ?_; (conv => whnf); fail_if_success (guard_target =ₛ False)))
      all_goals (conv => whnf)
      all_goals (refine ⟨5, by decide, by decide, ?_⟩)
      all_goals repeat' ((conv => whnf); first | exact trivial | exact Fgt.nil | exact Fgt.mk rfl rfl rfl | refine And.intro rfl ?_ | refine And.intro ?_ ?_)
    · skip
      all_goals repeat' ((conv => whnf); first | (with_reducible first | refine TR.seq ?_ | refine TR.regionL ?_ | refine TR.drawn (TTok _ _) mixed ?_ | refine TR.block ?_ | refine TR.ret ?_ | refine TR.exit ?_ | refine TR.skip ?_ | refine TR.condB rfl ?_ | refine TRL.nil ?_ | refine Br.cond_t ?_ | refine Br.cond_f ?_ | refine Br.yes (by first | decide | assumption | (apply decide_eq_true; omega)) ?_ | refine Br.non (by first | decide | assumption | (apply decide_eq_false; omega)) ?_ | refine Br.cond_ff ?_ | refine Br.eqT (by omega) ?_ | refine Br.eqF (by omega) ?_ | refine Br.neT (by omega) ?_ | refine Br.neF (by omega) ?_ | refine Ld.mk' _ rfl ?_ | refine Need.mk (by first | decide | omega | kernel_rfl) ?_ | refine Nm.i64 (by omega) ?_ | refine Nm.u64 (by omega) ?_ | refine Nm.u8 (by omega) ?_ | refine Nm.keep ?_ | refine Need.mk (by dsimp only; omega) ?_) | refine Br.non rfl ?_ | refine Br.yes rfl ?_ | refine TRL.step (TTok _ _) ?_ | (refine x_exq (TTok _ _) ?_; (conv => whnf); fail_if_success (guard_target =ₛ False)))
      all_goals (conv => whnf)
      all_goals (refine ⟨6, by decide, by decide, ?_⟩)
      all_goals repeat' ((conv => whnf); first | exact trivial | exact Fgt.nil | exact Fgt.mk rfl rfl rfl | refine And.intro rfl ?_ | refine And.intro ?_ ?_)
    · skip
      repeat' ((conv => whnf); first | (with_reducible first | refine TR.seq ?_ | refine TR.regionL ?_ | refine TR.drawn (TTok _ _) mixed ?_ | refine TR.block ?_ | refine TR.ret ?_ | refine TR.exit ?_ | refine TR.skip ?_ | refine TR.condB rfl ?_ | refine TRL.nil ?_ | refine Br.cond_t ?_ | refine Br.cond_f ?_ | refine Br.yes (by first | decide | assumption | (apply decide_eq_true; omega)) ?_ | refine Br.non (by first | decide | assumption | (apply decide_eq_false; omega)) ?_ | refine Br.cond_ff ?_ | refine Br.eqT (by omega) ?_ | refine Br.eqF (by omega) ?_ | refine Br.neT (by omega) ?_ | refine Br.neF (by omega) ?_ | refine Ld.mk' _ rfl ?_ | refine Need.mk (by first | decide | omega | kernel_rfl) ?_ | refine Nm.i64 (by omega) ?_ | refine Nm.u64 (by omega) ?_ | refine Nm.u8 (by omega) ?_ | refine Nm.keep ?_ | refine Need.mk (by dsimp only; omega) ?_ | refine x_ret (f := 21) rfl rfl (fun w _ => p1 w) ?_ | refine x_ret (f := 22) rfl rfl (fun w _ => q1 w) ?_ | refine x_ret (f := 23) rfl rfl (fun w _ => p2 w) ?_ | refine x_ret (f := 24) rfl rfl (fun w _ => q2 w) ?_ | refine x_ret (f := 25) rfl rfl (fun w _ => p3 w) ?_ | refine x_ret (f := 26) rfl rfl (fun w _ => q3 w) ?_ | refine x_ret (f := 27) rfl rfl (fun w _ => p4 w) ?_ | refine x_ret (f := 28) rfl rfl (fun w _ => q4 w) ?_ | refine x_ret (f := 33) rfl rfl (fun w _ => numbers_nil w) ?_ | refine x_ret (f := 14) rfl rfl (fun w hw => examples_ret hw) ?_) | refine Br.yes (by simp [eqR]) ?_ | refine Br.yes rfl ?_ | refine Br.non rfl ?_ | refine TRL.step (TTok _ _) ?_ | (refine x_exq (TTok _ _) ?_; (conv => whnf); fail_if_success (guard_target =ₛ False)))
      all_goals (conv => whnf)
      all_goals first | rfl | simp [val]
set_option maxHeartbeats 32000000 in
theorem takes_01 {u2 v2 u3 v3} (d : ByteArray) (hs : d.size < 4294967281) (h5 : nsW d = none) (y1 y2 y3 : Int) (z1 z2 : ByteArray) (m : List Int) (h6 : n3W d = some (y1, y2, y3, z1, z2, m)) (w : World) (hI : IC u2 v2 u3 v3 w) : Ret Tryz.prog 5 [.string d] w (.bool true) := by
  obtain ⟨a0, a1, a2, a3, a4, a5, a6, e1, k1, p1, q1, r1⟩ := soa_pair d hs
  obtain ⟨b0, b1, b2, b3, b4, b5, b6, b7, b8, e2, k2, p2, q2, r2⟩ := sig_pair d hs
  obtain ⟨c0, c1, c2, c3, e3, k3, p3, q3, r3⟩ := key_pair d hs
  obtain ⟨d0, d1, d2, d3, e4, k4, p4, q4, r4⟩ := dsr_pair d hs
  skip
  have hl6 := n3_len h6
  refine Ret.of (I := IC u2 v2 u3 v3) (fun w' hm => hI.mod hm) (TTok 0 _) Tryz.func5 (by kernel_rfl) rfl rfl ?_
  repeat' ((conv => whnf); first | (with_reducible first | refine TR.seq ?_ | refine TR.regionL ?_ | refine TR.drawn (TTok _ _) mixed ?_ | refine TR.block ?_ | refine TR.ret ?_ | refine TR.exit ?_ | refine TR.skip ?_ | refine TR.condB rfl ?_ | refine TRL.nil ?_ | refine Br.cond_t ?_ | refine Br.cond_f ?_ | refine Br.yes (by first | decide | assumption | (apply decide_eq_true; omega)) ?_ | refine Br.non (by first | decide | assumption | (apply decide_eq_false; omega)) ?_ | refine Br.cond_ff ?_ | refine Br.eqT (by omega) ?_ | refine Br.eqF (by omega) ?_ | refine Br.neT (by omega) ?_ | refine Br.neF (by omega) ?_ | refine Ld.mk' _ rfl ?_ | refine Need.mk (by first | decide | omega | kernel_rfl) ?_ | refine Nm.i64 (by omega) ?_ | refine Nm.u64 (by omega) ?_ | refine Nm.u8 (by omega) ?_ | refine Nm.keep ?_ | refine Need.mk (by dsimp only; omega) ?_ | refine x_ret (f := 21) rfl rfl (fun w _ => p1 w) ?_ | refine x_ret (f := 22) rfl rfl (fun w _ => q1 w) ?_ | refine x_ret (f := 23) rfl rfl (fun w _ => p2 w) ?_ | refine x_ret (f := 24) rfl rfl (fun w _ => q2 w) ?_ | refine x_ret (f := 25) rfl rfl (fun w _ => p3 w) ?_ | refine x_ret (f := 26) rfl rfl (fun w _ => q3 w) ?_ | refine x_ret (f := 27) rfl rfl (fun w _ => p4 w) ?_ | refine x_ret (f := 28) rfl rfl (fun w _ => q4 w) ?_ | refine x_ret (f := 33) rfl rfl (fun w _ => numbers_nil w) ?_ | refine x_ret (f := 14) rfl rfl (fun w hw => examples_ret hw) ?_) | (refine TRL.con [] [5] (Con.inI (ns_none d hs h5)) rfl rfl rfl rfl trivial rfl rfl (fun v5 _ => ⟨trivial, ?_⟩) (fun _ h => h.elim); dsimp only [nsR, n3R, nsA, n3A]) | (refine TRL.con [] [7] (Con.inI (rns_none d hs h5)) rfl rfl rfl rfl trivial rfl rfl (fun w5 _ => ⟨trivial, ?_⟩) (fun _ h => h.elim); dsimp only [nsR, n3R, nsA, n3A]) | (refine TRL.con [] [9] (Con.inI (n3_some d hs _ h6)) rfl rfl rfl rfl trivial rfl rfl (fun v6 _ => ⟨⟨rfl, trivial⟩, ?_⟩) (fun _ h => h.elim); dsimp only [nsR, n3R, nsA, n3A]) | (refine TRL.con [] [11] (Con.inI (rn3_some d hs _ h6)) rfl rfl rfl rfl trivial rfl rfl (fun w6 _ => ⟨⟨rfl, trivial⟩, ?_⟩) (fun _ h => h.elim); dsimp only [nsR, n3R, nsA, n3A]) | refine TRL.step (TTok _ _) ?_ | (refine x_exq (TTok _ _) ?_; (conv => whnf); fail_if_success (guard_target =ₛ False)))
  refine TR.loopH (fun n : Nat => [(30, .v (.int .i64 n))]) (fun _ => []) (fun n => n ≤ 6) (fun n => 6 - n) 0 (Nat.zero_le _) ?_ ?_
  · repeat' ((conv => whnf); first | exact trivial | exact Fgt.nil | exact Fgt.mk rfl rfl rfl | refine And.intro rfl ?_ | refine And.intro ?_ ?_)
  · intro n hn
    have hc : n = 0 ∨ n = 1 ∨ n = 2 ∨ n = 3 ∨ n = 4 ∨ n = 5 ∨ n = 6 := by omega
    rcases hc with rfl | rfl | rfl | rfl | rfl | rfl | rfl
    · rcases r1 with ⟨rfl, rfl⟩ | ⟨rfl, rfl⟩
      all_goals skip
      all_goals repeat' ((conv => whnf); first | (with_reducible first | refine TR.seq ?_ | refine TR.regionL ?_ | refine TR.drawn (TTok _ _) mixed ?_ | refine TR.block ?_ | refine TR.ret ?_ | refine TR.exit ?_ | refine TR.skip ?_ | refine TR.condB rfl ?_ | refine TRL.nil ?_ | refine Br.cond_t ?_ | refine Br.cond_f ?_ | refine Br.yes (by first | decide | assumption | (apply decide_eq_true; omega)) ?_ | refine Br.non (by first | decide | assumption | (apply decide_eq_false; omega)) ?_ | refine Br.cond_ff ?_ | refine Br.eqT (by omega) ?_ | refine Br.eqF (by omega) ?_ | refine Br.neT (by omega) ?_ | refine Br.neF (by omega) ?_ | refine Ld.mk' _ rfl ?_ | refine Need.mk (by first | decide | omega | kernel_rfl) ?_ | refine Nm.i64 (by omega) ?_ | refine Nm.u64 (by omega) ?_ | refine Nm.u8 (by omega) ?_ | refine Nm.keep ?_ | refine Need.mk (by dsimp only; omega) ?_) | refine Br.non rfl ?_ | refine Br.yes rfl ?_ | refine TRL.step (TTok _ _) ?_ | (refine x_exq (TTok _ _) ?_; (conv => whnf); fail_if_success (guard_target =ₛ False)))
      all_goals (conv => whnf)
      all_goals (refine ⟨1, by decide, by decide, ?_⟩)
      all_goals repeat' ((conv => whnf); first | exact trivial | exact Fgt.nil | exact Fgt.mk rfl rfl rfl | refine And.intro rfl ?_ | refine And.intro ?_ ?_)
    · rcases r2 with ⟨rfl, rfl⟩ | ⟨rfl, rfl⟩
      all_goals skip
      all_goals repeat' ((conv => whnf); first | (with_reducible first | refine TR.seq ?_ | refine TR.regionL ?_ | refine TR.drawn (TTok _ _) mixed ?_ | refine TR.block ?_ | refine TR.ret ?_ | refine TR.exit ?_ | refine TR.skip ?_ | refine TR.condB rfl ?_ | refine TRL.nil ?_ | refine Br.cond_t ?_ | refine Br.cond_f ?_ | refine Br.yes (by first | decide | assumption | (apply decide_eq_true; omega)) ?_ | refine Br.non (by first | decide | assumption | (apply decide_eq_false; omega)) ?_ | refine Br.cond_ff ?_ | refine Br.eqT (by omega) ?_ | refine Br.eqF (by omega) ?_ | refine Br.neT (by omega) ?_ | refine Br.neF (by omega) ?_ | refine Ld.mk' _ rfl ?_ | refine Need.mk (by first | decide | omega | kernel_rfl) ?_ | refine Nm.i64 (by omega) ?_ | refine Nm.u64 (by omega) ?_ | refine Nm.u8 (by omega) ?_ | refine Nm.keep ?_ | refine Need.mk (by dsimp only; omega) ?_) | refine Br.non rfl ?_ | refine Br.yes rfl ?_ | refine TRL.step (TTok _ _) ?_ | (refine x_exq (TTok _ _) ?_; (conv => whnf); fail_if_success (guard_target =ₛ False)))
      all_goals (conv => whnf)
      all_goals (refine ⟨2, by decide, by decide, ?_⟩)
      all_goals repeat' ((conv => whnf); first | exact trivial | exact Fgt.nil | exact Fgt.mk rfl rfl rfl | refine And.intro rfl ?_ | refine And.intro ?_ ?_)
    · rcases r3 with ⟨rfl, rfl⟩ | ⟨rfl, rfl⟩
      all_goals skip
      all_goals repeat' ((conv => whnf); first | (with_reducible first | refine TR.seq ?_ | refine TR.regionL ?_ | refine TR.drawn (TTok _ _) mixed ?_ | refine TR.block ?_ | refine TR.ret ?_ | refine TR.exit ?_ | refine TR.skip ?_ | refine TR.condB rfl ?_ | refine TRL.nil ?_ | refine Br.cond_t ?_ | refine Br.cond_f ?_ | refine Br.yes (by first | decide | assumption | (apply decide_eq_true; omega)) ?_ | refine Br.non (by first | decide | assumption | (apply decide_eq_false; omega)) ?_ | refine Br.cond_ff ?_ | refine Br.eqT (by omega) ?_ | refine Br.eqF (by omega) ?_ | refine Br.neT (by omega) ?_ | refine Br.neF (by omega) ?_ | refine Ld.mk' _ rfl ?_ | refine Need.mk (by first | decide | omega | kernel_rfl) ?_ | refine Nm.i64 (by omega) ?_ | refine Nm.u64 (by omega) ?_ | refine Nm.u8 (by omega) ?_ | refine Nm.keep ?_ | refine Need.mk (by dsimp only; omega) ?_) | refine Br.non rfl ?_ | refine Br.yes rfl ?_ | refine TRL.step (TTok _ _) ?_ | (refine x_exq (TTok _ _) ?_; (conv => whnf); fail_if_success (guard_target =ₛ False)))
      all_goals (conv => whnf)
      all_goals (refine ⟨3, by decide, by decide, ?_⟩)
      all_goals repeat' ((conv => whnf); first | exact trivial | exact Fgt.nil | exact Fgt.mk rfl rfl rfl | refine And.intro rfl ?_ | refine And.intro ?_ ?_)
    · rcases r4 with ⟨rfl, rfl⟩ | ⟨rfl, rfl⟩
      all_goals skip
      all_goals repeat' ((conv => whnf); first | (with_reducible first | refine TR.seq ?_ | refine TR.regionL ?_ | refine TR.drawn (TTok _ _) mixed ?_ | refine TR.block ?_ | refine TR.ret ?_ | refine TR.exit ?_ | refine TR.skip ?_ | refine TR.condB rfl ?_ | refine TRL.nil ?_ | refine Br.cond_t ?_ | refine Br.cond_f ?_ | refine Br.yes (by first | decide | assumption | (apply decide_eq_true; omega)) ?_ | refine Br.non (by first | decide | assumption | (apply decide_eq_false; omega)) ?_ | refine Br.cond_ff ?_ | refine Br.eqT (by omega) ?_ | refine Br.eqF (by omega) ?_ | refine Br.neT (by omega) ?_ | refine Br.neF (by omega) ?_ | refine Ld.mk' _ rfl ?_ | refine Need.mk (by first | decide | omega | kernel_rfl) ?_ | refine Nm.i64 (by omega) ?_ | refine Nm.u64 (by omega) ?_ | refine Nm.u8 (by omega) ?_ | refine Nm.keep ?_ | refine Need.mk (by dsimp only; omega) ?_) | refine Br.non rfl ?_ | refine Br.yes rfl ?_ | refine TRL.step (TTok _ _) ?_ | (refine x_exq (TTok _ _) ?_; (conv => whnf); fail_if_success (guard_target =ₛ False)))
      all_goals (conv => whnf)
      all_goals (refine ⟨4, by decide, by decide, ?_⟩)
      all_goals repeat' ((conv => whnf); first | exact trivial | exact Fgt.nil | exact Fgt.mk rfl rfl rfl | refine And.intro rfl ?_ | refine And.intro ?_ ?_)
    · skip
      all_goals repeat' ((conv => whnf); first | (with_reducible first | refine TR.seq ?_ | refine TR.regionL ?_ | refine TR.drawn (TTok _ _) mixed ?_ | refine TR.block ?_ | refine TR.ret ?_ | refine TR.exit ?_ | refine TR.skip ?_ | refine TR.condB rfl ?_ | refine TRL.nil ?_ | refine Br.cond_t ?_ | refine Br.cond_f ?_ | refine Br.yes (by first | decide | assumption | (apply decide_eq_true; omega)) ?_ | refine Br.non (by first | decide | assumption | (apply decide_eq_false; omega)) ?_ | refine Br.cond_ff ?_ | refine Br.eqT (by omega) ?_ | refine Br.eqF (by omega) ?_ | refine Br.neT (by omega) ?_ | refine Br.neF (by omega) ?_ | refine Ld.mk' _ rfl ?_ | refine Need.mk (by first | decide | omega | kernel_rfl) ?_ | refine Nm.i64 (by omega) ?_ | refine Nm.u64 (by omega) ?_ | refine Nm.u8 (by omega) ?_ | refine Nm.keep ?_ | refine Need.mk (by dsimp only; omega) ?_) | refine Br.non rfl ?_ | refine Br.yes rfl ?_ | refine TRL.step (TTok _ _) ?_ | (refine x_exq (TTok _ _) ?_; (conv => whnf); fail_if_success (guard_target =ₛ False)))
      all_goals (conv => whnf)
      all_goals (refine ⟨5, by decide, by decide, ?_⟩)
      all_goals repeat' ((conv => whnf); first | exact trivial | exact Fgt.nil | exact Fgt.mk rfl rfl rfl | refine And.intro rfl ?_ | refine And.intro ?_ ?_)
    · skip
      all_goals repeat' ((conv => whnf); first | (with_reducible first | refine TR.seq ?_ | refine TR.regionL ?_ | refine TR.drawn (TTok _ _) mixed ?_ | refine TR.block ?_ | refine TR.ret ?_ | refine TR.exit ?_ | refine TR.skip ?_ | refine TR.condB rfl ?_ | refine TRL.nil ?_ | refine Br.cond_t ?_ | refine Br.cond_f ?_ | refine Br.yes (by first | decide | assumption | (apply decide_eq_true; omega)) ?_ | refine Br.non (by first | decide | assumption | (apply decide_eq_false; omega)) ?_ | refine Br.cond_ff ?_ | refine Br.eqT (by omega) ?_ | refine Br.eqF (by omega) ?_ | refine Br.neT (by omega) ?_ | refine Br.neF (by omega) ?_ | refine Ld.mk' _ rfl ?_ | refine Need.mk (by first | decide | omega | kernel_rfl) ?_ | refine Nm.i64 (by omega) ?_ | refine Nm.u64 (by omega) ?_ | refine Nm.u8 (by omega) ?_ | refine Nm.keep ?_ | refine Need.mk (by dsimp only; omega) ?_) | refine Br.non rfl ?_ | refine Br.yes rfl ?_ | refine TRL.step (TTok _ _) ?_ | (refine x_exq (TTok _ _) ?_; (conv => whnf); fail_if_success (guard_target =ₛ False)))
      all_goals (conv => whnf)
      all_goals (refine ⟨6, by decide, by decide, ?_⟩)
      all_goals repeat' ((conv => whnf); first | exact trivial | exact Fgt.nil | exact Fgt.mk rfl rfl rfl | refine And.intro rfl ?_ | refine And.intro ?_ ?_)
    · skip
      repeat' ((conv => whnf); first | (with_reducible first | refine TR.seq ?_ | refine TR.regionL ?_ | refine TR.drawn (TTok _ _) mixed ?_ | refine TR.block ?_ | refine TR.ret ?_ | refine TR.exit ?_ | refine TR.skip ?_ | refine TR.condB rfl ?_ | refine TRL.nil ?_ | refine Br.cond_t ?_ | refine Br.cond_f ?_ | refine Br.yes (by first | decide | assumption | (apply decide_eq_true; omega)) ?_ | refine Br.non (by first | decide | assumption | (apply decide_eq_false; omega)) ?_ | refine Br.cond_ff ?_ | refine Br.eqT (by omega) ?_ | refine Br.eqF (by omega) ?_ | refine Br.neT (by omega) ?_ | refine Br.neF (by omega) ?_ | refine Ld.mk' _ rfl ?_ | refine Need.mk (by first | decide | omega | kernel_rfl) ?_ | refine Nm.i64 (by omega) ?_ | refine Nm.u64 (by omega) ?_ | refine Nm.u8 (by omega) ?_ | refine Nm.keep ?_ | refine Need.mk (by dsimp only; omega) ?_ | refine x_ret (f := 21) rfl rfl (fun w _ => p1 w) ?_ | refine x_ret (f := 22) rfl rfl (fun w _ => q1 w) ?_ | refine x_ret (f := 23) rfl rfl (fun w _ => p2 w) ?_ | refine x_ret (f := 24) rfl rfl (fun w _ => q2 w) ?_ | refine x_ret (f := 25) rfl rfl (fun w _ => p3 w) ?_ | refine x_ret (f := 26) rfl rfl (fun w _ => q3 w) ?_ | refine x_ret (f := 27) rfl rfl (fun w _ => p4 w) ?_ | refine x_ret (f := 28) rfl rfl (fun w _ => q4 w) ?_ | refine x_ret (f := 33) rfl rfl (fun w _ => numbers_nil w) ?_ | refine x_ret (f := 14) rfl rfl (fun w hw => examples_ret hw) ?_) | (refine TRL.con [9, 11] [9, 11] (Con.inI (numbers_con m v6 w6 (by omega))) rfl rfl rfl rfl ⟨rfl, rfl, trivial⟩ rfl rfl (fun _ _ => ⟨trivial, ?_⟩) (fun _ h => h.elim)) | refine Br.yes (by simp [eqR]) ?_ | refine Br.yes rfl ?_ | refine Br.non rfl ?_ | refine TRL.step (TTok _ _) ?_ | (refine x_exq (TTok _ _) ?_; (conv => whnf); fail_if_success (guard_target =ₛ False)))
      all_goals (conv => whnf)
      all_goals first | rfl | simp [val]
set_option maxHeartbeats 32000000 in
theorem takes_10 {u2 v2 u3 v3} (d : ByteArray) (hs : d.size < 4294967281) (x : ByteArray) (l : List Int) (h5 : nsW d = some (x, l)) (h6 : n3W d = none) (w : World) (hI : IC u2 v2 u3 v3 w) : Ret Tryz.prog 5 [.string d] w (.bool true) := by
  obtain ⟨a0, a1, a2, a3, a4, a5, a6, e1, k1, p1, q1, r1⟩ := soa_pair d hs
  obtain ⟨b0, b1, b2, b3, b4, b5, b6, b7, b8, e2, k2, p2, q2, r2⟩ := sig_pair d hs
  obtain ⟨c0, c1, c2, c3, e3, k3, p3, q3, r3⟩ := key_pair d hs
  obtain ⟨d0, d1, d2, d3, e4, k4, p4, q4, r4⟩ := dsr_pair d hs
  have hl5 := ns_len h5
  skip
  refine Ret.of (I := IC u2 v2 u3 v3) (fun w' hm => hI.mod hm) (TTok 0 _) Tryz.func5 (by kernel_rfl) rfl rfl ?_
  repeat' ((conv => whnf); first | (with_reducible first | refine TR.seq ?_ | refine TR.regionL ?_ | refine TR.drawn (TTok _ _) mixed ?_ | refine TR.block ?_ | refine TR.ret ?_ | refine TR.exit ?_ | refine TR.skip ?_ | refine TR.condB rfl ?_ | refine TRL.nil ?_ | refine Br.cond_t ?_ | refine Br.cond_f ?_ | refine Br.yes (by first | decide | assumption | (apply decide_eq_true; omega)) ?_ | refine Br.non (by first | decide | assumption | (apply decide_eq_false; omega)) ?_ | refine Br.cond_ff ?_ | refine Br.eqT (by omega) ?_ | refine Br.eqF (by omega) ?_ | refine Br.neT (by omega) ?_ | refine Br.neF (by omega) ?_ | refine Ld.mk' _ rfl ?_ | refine Need.mk (by first | decide | omega | kernel_rfl) ?_ | refine Nm.i64 (by omega) ?_ | refine Nm.u64 (by omega) ?_ | refine Nm.u8 (by omega) ?_ | refine Nm.keep ?_ | refine Need.mk (by dsimp only; omega) ?_ | refine x_ret (f := 21) rfl rfl (fun w _ => p1 w) ?_ | refine x_ret (f := 22) rfl rfl (fun w _ => q1 w) ?_ | refine x_ret (f := 23) rfl rfl (fun w _ => p2 w) ?_ | refine x_ret (f := 24) rfl rfl (fun w _ => q2 w) ?_ | refine x_ret (f := 25) rfl rfl (fun w _ => p3 w) ?_ | refine x_ret (f := 26) rfl rfl (fun w _ => q3 w) ?_ | refine x_ret (f := 27) rfl rfl (fun w _ => p4 w) ?_ | refine x_ret (f := 28) rfl rfl (fun w _ => q4 w) ?_ | refine x_ret (f := 33) rfl rfl (fun w _ => numbers_nil w) ?_ | refine x_ret (f := 14) rfl rfl (fun w hw => examples_ret hw) ?_) | (refine TRL.con [] [5] (Con.inI (ns_some d hs _ h5)) rfl rfl rfl rfl trivial rfl rfl (fun v5 _ => ⟨⟨rfl, trivial⟩, ?_⟩) (fun _ h => h.elim); dsimp only [nsR, n3R, nsA, n3A]) | (refine TRL.con [] [7] (Con.inI (rns_some d hs _ h5)) rfl rfl rfl rfl trivial rfl rfl (fun w5 _ => ⟨⟨rfl, trivial⟩, ?_⟩) (fun _ h => h.elim); dsimp only [nsR, n3R, nsA, n3A]) | (refine TRL.con [] [9] (Con.inI (n3_none d hs h6)) rfl rfl rfl rfl trivial rfl rfl (fun v6 _ => ⟨trivial, ?_⟩) (fun _ h => h.elim); dsimp only [nsR, n3R, nsA, n3A]) | (refine TRL.con [] [11] (Con.inI (rn3_none d hs h6)) rfl rfl rfl rfl trivial rfl rfl (fun w6 _ => ⟨trivial, ?_⟩) (fun _ h => h.elim); dsimp only [nsR, n3R, nsA, n3A]) | refine TRL.step (TTok _ _) ?_ | (refine x_exq (TTok _ _) ?_; (conv => whnf); fail_if_success (guard_target =ₛ False)))
  refine TR.loopH (fun n : Nat => [(30, .v (.int .i64 n))]) (fun _ => []) (fun n => n ≤ 6) (fun n => 6 - n) 0 (Nat.zero_le _) ?_ ?_
  · repeat' ((conv => whnf); first | exact trivial | exact Fgt.nil | exact Fgt.mk rfl rfl rfl | refine And.intro rfl ?_ | refine And.intro ?_ ?_)
  · intro n hn
    have hc : n = 0 ∨ n = 1 ∨ n = 2 ∨ n = 3 ∨ n = 4 ∨ n = 5 ∨ n = 6 := by omega
    rcases hc with rfl | rfl | rfl | rfl | rfl | rfl | rfl
    · rcases r1 with ⟨rfl, rfl⟩ | ⟨rfl, rfl⟩
      all_goals skip
      all_goals repeat' ((conv => whnf); first | (with_reducible first | refine TR.seq ?_ | refine TR.regionL ?_ | refine TR.drawn (TTok _ _) mixed ?_ | refine TR.block ?_ | refine TR.ret ?_ | refine TR.exit ?_ | refine TR.skip ?_ | refine TR.condB rfl ?_ | refine TRL.nil ?_ | refine Br.cond_t ?_ | refine Br.cond_f ?_ | refine Br.yes (by first | decide | assumption | (apply decide_eq_true; omega)) ?_ | refine Br.non (by first | decide | assumption | (apply decide_eq_false; omega)) ?_ | refine Br.cond_ff ?_ | refine Br.eqT (by omega) ?_ | refine Br.eqF (by omega) ?_ | refine Br.neT (by omega) ?_ | refine Br.neF (by omega) ?_ | refine Ld.mk' _ rfl ?_ | refine Need.mk (by first | decide | omega | kernel_rfl) ?_ | refine Nm.i64 (by omega) ?_ | refine Nm.u64 (by omega) ?_ | refine Nm.u8 (by omega) ?_ | refine Nm.keep ?_ | refine Need.mk (by dsimp only; omega) ?_) | refine Br.non rfl ?_ | refine Br.yes rfl ?_ | refine TRL.step (TTok _ _) ?_ | (refine x_exq (TTok _ _) ?_; (conv => whnf); fail_if_success (guard_target =ₛ False)))
      all_goals (conv => whnf)
      all_goals (refine ⟨1, by decide, by decide, ?_⟩)
      all_goals repeat' ((conv => whnf); first | exact trivial | exact Fgt.nil | exact Fgt.mk rfl rfl rfl | refine And.intro rfl ?_ | refine And.intro ?_ ?_)
    · rcases r2 with ⟨rfl, rfl⟩ | ⟨rfl, rfl⟩
      all_goals skip
      all_goals repeat' ((conv => whnf); first | (with_reducible first | refine TR.seq ?_ | refine TR.regionL ?_ | refine TR.drawn (TTok _ _) mixed ?_ | refine TR.block ?_ | refine TR.ret ?_ | refine TR.exit ?_ | refine TR.skip ?_ | refine TR.condB rfl ?_ | refine TRL.nil ?_ | refine Br.cond_t ?_ | refine Br.cond_f ?_ | refine Br.yes (by first | decide | assumption | (apply decide_eq_true; omega)) ?_ | refine Br.non (by first | decide | assumption | (apply decide_eq_false; omega)) ?_ | refine Br.cond_ff ?_ | refine Br.eqT (by omega) ?_ | refine Br.eqF (by omega) ?_ | refine Br.neT (by omega) ?_ | refine Br.neF (by omega) ?_ | refine Ld.mk' _ rfl ?_ | refine Need.mk (by first | decide | omega | kernel_rfl) ?_ | refine Nm.i64 (by omega) ?_ | refine Nm.u64 (by omega) ?_ | refine Nm.u8 (by omega) ?_ | refine Nm.keep ?_ | refine Need.mk (by dsimp only; omega) ?_) | refine Br.non rfl ?_ | refine Br.yes rfl ?_ | refine TRL.step (TTok _ _) ?_ | (refine x_exq (TTok _ _) ?_; (conv => whnf); fail_if_success (guard_target =ₛ False)))
      all_goals (conv => whnf)
      all_goals (refine ⟨2, by decide, by decide, ?_⟩)
      all_goals repeat' ((conv => whnf); first | exact trivial | exact Fgt.nil | exact Fgt.mk rfl rfl rfl | refine And.intro rfl ?_ | refine And.intro ?_ ?_)
    · rcases r3 with ⟨rfl, rfl⟩ | ⟨rfl, rfl⟩
      all_goals skip
      all_goals repeat' ((conv => whnf); first | (with_reducible first | refine TR.seq ?_ | refine TR.regionL ?_ | refine TR.drawn (TTok _ _) mixed ?_ | refine TR.block ?_ | refine TR.ret ?_ | refine TR.exit ?_ | refine TR.skip ?_ | refine TR.condB rfl ?_ | refine TRL.nil ?_ | refine Br.cond_t ?_ | refine Br.cond_f ?_ | refine Br.yes (by first | decide | assumption | (apply decide_eq_true; omega)) ?_ | refine Br.non (by first | decide | assumption | (apply decide_eq_false; omega)) ?_ | refine Br.cond_ff ?_ | refine Br.eqT (by omega) ?_ | refine Br.eqF (by omega) ?_ | refine Br.neT (by omega) ?_ | refine Br.neF (by omega) ?_ | refine Ld.mk' _ rfl ?_ | refine Need.mk (by first | decide | omega | kernel_rfl) ?_ | refine Nm.i64 (by omega) ?_ | refine Nm.u64 (by omega) ?_ | refine Nm.u8 (by omega) ?_ | refine Nm.keep ?_ | refine Need.mk (by dsimp only; omega) ?_) | refine Br.non rfl ?_ | refine Br.yes rfl ?_ | refine TRL.step (TTok _ _) ?_ | (refine x_exq (TTok _ _) ?_; (conv => whnf); fail_if_success (guard_target =ₛ False)))
      all_goals (conv => whnf)
      all_goals (refine ⟨3, by decide, by decide, ?_⟩)
      all_goals repeat' ((conv => whnf); first | exact trivial | exact Fgt.nil | exact Fgt.mk rfl rfl rfl | refine And.intro rfl ?_ | refine And.intro ?_ ?_)
    · rcases r4 with ⟨rfl, rfl⟩ | ⟨rfl, rfl⟩
      all_goals skip
      all_goals repeat' ((conv => whnf); first | (with_reducible first | refine TR.seq ?_ | refine TR.regionL ?_ | refine TR.drawn (TTok _ _) mixed ?_ | refine TR.block ?_ | refine TR.ret ?_ | refine TR.exit ?_ | refine TR.skip ?_ | refine TR.condB rfl ?_ | refine TRL.nil ?_ | refine Br.cond_t ?_ | refine Br.cond_f ?_ | refine Br.yes (by first | decide | assumption | (apply decide_eq_true; omega)) ?_ | refine Br.non (by first | decide | assumption | (apply decide_eq_false; omega)) ?_ | refine Br.cond_ff ?_ | refine Br.eqT (by omega) ?_ | refine Br.eqF (by omega) ?_ | refine Br.neT (by omega) ?_ | refine Br.neF (by omega) ?_ | refine Ld.mk' _ rfl ?_ | refine Need.mk (by first | decide | omega | kernel_rfl) ?_ | refine Nm.i64 (by omega) ?_ | refine Nm.u64 (by omega) ?_ | refine Nm.u8 (by omega) ?_ | refine Nm.keep ?_ | refine Need.mk (by dsimp only; omega) ?_) | refine Br.non rfl ?_ | refine Br.yes rfl ?_ | refine TRL.step (TTok _ _) ?_ | (refine x_exq (TTok _ _) ?_; (conv => whnf); fail_if_success (guard_target =ₛ False)))
      all_goals (conv => whnf)
      all_goals (refine ⟨4, by decide, by decide, ?_⟩)
      all_goals repeat' ((conv => whnf); first | exact trivial | exact Fgt.nil | exact Fgt.mk rfl rfl rfl | refine And.intro rfl ?_ | refine And.intro ?_ ?_)
    · skip
      all_goals repeat' ((conv => whnf); first | (with_reducible first | refine TR.seq ?_ | refine TR.regionL ?_ | refine TR.drawn (TTok _ _) mixed ?_ | refine TR.block ?_ | refine TR.ret ?_ | refine TR.exit ?_ | refine TR.skip ?_ | refine TR.condB rfl ?_ | refine TRL.nil ?_ | refine Br.cond_t ?_ | refine Br.cond_f ?_ | refine Br.yes (by first | decide | assumption | (apply decide_eq_true; omega)) ?_ | refine Br.non (by first | decide | assumption | (apply decide_eq_false; omega)) ?_ | refine Br.cond_ff ?_ | refine Br.eqT (by omega) ?_ | refine Br.eqF (by omega) ?_ | refine Br.neT (by omega) ?_ | refine Br.neF (by omega) ?_ | refine Ld.mk' _ rfl ?_ | refine Need.mk (by first | decide | omega | kernel_rfl) ?_ | refine Nm.i64 (by omega) ?_ | refine Nm.u64 (by omega) ?_ | refine Nm.u8 (by omega) ?_ | refine Nm.keep ?_ | refine Need.mk (by dsimp only; omega) ?_) | refine Br.non rfl ?_ | refine Br.yes rfl ?_ | refine TRL.step (TTok _ _) ?_ | (refine x_exq (TTok _ _) ?_; (conv => whnf); fail_if_success (guard_target =ₛ False)))
      all_goals (conv => whnf)
      all_goals (refine ⟨5, by decide, by decide, ?_⟩)
      all_goals repeat' ((conv => whnf); first | exact trivial | exact Fgt.nil | exact Fgt.mk rfl rfl rfl | refine And.intro rfl ?_ | refine And.intro ?_ ?_)
    · skip
      all_goals repeat' ((conv => whnf); first | (with_reducible first | refine TR.seq ?_ | refine TR.regionL ?_ | refine TR.drawn (TTok _ _) mixed ?_ | refine TR.block ?_ | refine TR.ret ?_ | refine TR.exit ?_ | refine TR.skip ?_ | refine TR.condB rfl ?_ | refine TRL.nil ?_ | refine Br.cond_t ?_ | refine Br.cond_f ?_ | refine Br.yes (by first | decide | assumption | (apply decide_eq_true; omega)) ?_ | refine Br.non (by first | decide | assumption | (apply decide_eq_false; omega)) ?_ | refine Br.cond_ff ?_ | refine Br.eqT (by omega) ?_ | refine Br.eqF (by omega) ?_ | refine Br.neT (by omega) ?_ | refine Br.neF (by omega) ?_ | refine Ld.mk' _ rfl ?_ | refine Need.mk (by first | decide | omega | kernel_rfl) ?_ | refine Nm.i64 (by omega) ?_ | refine Nm.u64 (by omega) ?_ | refine Nm.u8 (by omega) ?_ | refine Nm.keep ?_ | refine Need.mk (by dsimp only; omega) ?_) | refine Br.non rfl ?_ | refine Br.yes rfl ?_ | refine TRL.step (TTok _ _) ?_ | (refine x_exq (TTok _ _) ?_; (conv => whnf); fail_if_success (guard_target =ₛ False)))
      all_goals (conv => whnf)
      all_goals (refine ⟨6, by decide, by decide, ?_⟩)
      all_goals repeat' ((conv => whnf); first | exact trivial | exact Fgt.nil | exact Fgt.mk rfl rfl rfl | refine And.intro rfl ?_ | refine And.intro ?_ ?_)
    · skip
      repeat' ((conv => whnf); first | (with_reducible first | refine TR.seq ?_ | refine TR.regionL ?_ | refine TR.drawn (TTok _ _) mixed ?_ | refine TR.block ?_ | refine TR.ret ?_ | refine TR.exit ?_ | refine TR.skip ?_ | refine TR.condB rfl ?_ | refine TRL.nil ?_ | refine Br.cond_t ?_ | refine Br.cond_f ?_ | refine Br.yes (by first | decide | assumption | (apply decide_eq_true; omega)) ?_ | refine Br.non (by first | decide | assumption | (apply decide_eq_false; omega)) ?_ | refine Br.cond_ff ?_ | refine Br.eqT (by omega) ?_ | refine Br.eqF (by omega) ?_ | refine Br.neT (by omega) ?_ | refine Br.neF (by omega) ?_ | refine Ld.mk' _ rfl ?_ | refine Need.mk (by first | decide | omega | kernel_rfl) ?_ | refine Nm.i64 (by omega) ?_ | refine Nm.u64 (by omega) ?_ | refine Nm.u8 (by omega) ?_ | refine Nm.keep ?_ | refine Need.mk (by dsimp only; omega) ?_ | refine x_ret (f := 21) rfl rfl (fun w _ => p1 w) ?_ | refine x_ret (f := 22) rfl rfl (fun w _ => q1 w) ?_ | refine x_ret (f := 23) rfl rfl (fun w _ => p2 w) ?_ | refine x_ret (f := 24) rfl rfl (fun w _ => q2 w) ?_ | refine x_ret (f := 25) rfl rfl (fun w _ => p3 w) ?_ | refine x_ret (f := 26) rfl rfl (fun w _ => q3 w) ?_ | refine x_ret (f := 27) rfl rfl (fun w _ => p4 w) ?_ | refine x_ret (f := 28) rfl rfl (fun w _ => q4 w) ?_ | refine x_ret (f := 33) rfl rfl (fun w _ => numbers_nil w) ?_ | refine x_ret (f := 14) rfl rfl (fun w hw => examples_ret hw) ?_) | (refine TRL.con [5, 7] [5, 7] (Con.inI (numbers_con l v5 w5 (by omega))) rfl rfl rfl rfl ⟨rfl, rfl, trivial⟩ rfl rfl (fun _ _ => ⟨trivial, ?_⟩) (fun _ h => h.elim)) | refine Br.yes (by simp [eqR]) ?_ | refine Br.yes rfl ?_ | refine Br.non rfl ?_ | refine TRL.step (TTok _ _) ?_ | (refine x_exq (TTok _ _) ?_; (conv => whnf); fail_if_success (guard_target =ₛ False)))
      all_goals (conv => whnf)
      all_goals first | rfl | simp [val]
set_option maxHeartbeats 32000000 in
theorem takes_11 {u2 v2 u3 v3} (d : ByteArray) (hs : d.size < 4294967281) (x : ByteArray) (l : List Int) (h5 : nsW d = some (x, l)) (y1 y2 y3 : Int) (z1 z2 : ByteArray) (m : List Int) (h6 : n3W d = some (y1, y2, y3, z1, z2, m)) (w : World) (hI : IC u2 v2 u3 v3 w) : Ret Tryz.prog 5 [.string d] w (.bool true) := by
  obtain ⟨a0, a1, a2, a3, a4, a5, a6, e1, k1, p1, q1, r1⟩ := soa_pair d hs
  obtain ⟨b0, b1, b2, b3, b4, b5, b6, b7, b8, e2, k2, p2, q2, r2⟩ := sig_pair d hs
  obtain ⟨c0, c1, c2, c3, e3, k3, p3, q3, r3⟩ := key_pair d hs
  obtain ⟨d0, d1, d2, d3, e4, k4, p4, q4, r4⟩ := dsr_pair d hs
  have hl5 := ns_len h5
  have hl6 := n3_len h6
  refine Ret.of (I := IC u2 v2 u3 v3) (fun w' hm => hI.mod hm) (TTok 0 _) Tryz.func5 (by kernel_rfl) rfl rfl ?_
  repeat' ((conv => whnf); first | (with_reducible first | refine TR.seq ?_ | refine TR.regionL ?_ | refine TR.drawn (TTok _ _) mixed ?_ | refine TR.block ?_ | refine TR.ret ?_ | refine TR.exit ?_ | refine TR.skip ?_ | refine TR.condB rfl ?_ | refine TRL.nil ?_ | refine Br.cond_t ?_ | refine Br.cond_f ?_ | refine Br.yes (by first | decide | assumption | (apply decide_eq_true; omega)) ?_ | refine Br.non (by first | decide | assumption | (apply decide_eq_false; omega)) ?_ | refine Br.cond_ff ?_ | refine Br.eqT (by omega) ?_ | refine Br.eqF (by omega) ?_ | refine Br.neT (by omega) ?_ | refine Br.neF (by omega) ?_ | refine Ld.mk' _ rfl ?_ | refine Need.mk (by first | decide | omega | kernel_rfl) ?_ | refine Nm.i64 (by omega) ?_ | refine Nm.u64 (by omega) ?_ | refine Nm.u8 (by omega) ?_ | refine Nm.keep ?_ | refine Need.mk (by dsimp only; omega) ?_ | refine x_ret (f := 21) rfl rfl (fun w _ => p1 w) ?_ | refine x_ret (f := 22) rfl rfl (fun w _ => q1 w) ?_ | refine x_ret (f := 23) rfl rfl (fun w _ => p2 w) ?_ | refine x_ret (f := 24) rfl rfl (fun w _ => q2 w) ?_ | refine x_ret (f := 25) rfl rfl (fun w _ => p3 w) ?_ | refine x_ret (f := 26) rfl rfl (fun w _ => q3 w) ?_ | refine x_ret (f := 27) rfl rfl (fun w _ => p4 w) ?_ | refine x_ret (f := 28) rfl rfl (fun w _ => q4 w) ?_ | refine x_ret (f := 33) rfl rfl (fun w _ => numbers_nil w) ?_ | refine x_ret (f := 14) rfl rfl (fun w hw => examples_ret hw) ?_) | (refine TRL.con [] [5] (Con.inI (ns_some d hs _ h5)) rfl rfl rfl rfl trivial rfl rfl (fun v5 _ => ⟨⟨rfl, trivial⟩, ?_⟩) (fun _ h => h.elim); dsimp only [nsR, n3R, nsA, n3A]) | (refine TRL.con [] [7] (Con.inI (rns_some d hs _ h5)) rfl rfl rfl rfl trivial rfl rfl (fun w5 _ => ⟨⟨rfl, trivial⟩, ?_⟩) (fun _ h => h.elim); dsimp only [nsR, n3R, nsA, n3A]) | (refine TRL.con [] [9] (Con.inI (n3_some d hs _ h6)) rfl rfl rfl rfl trivial rfl rfl (fun v6 _ => ⟨⟨rfl, trivial⟩, ?_⟩) (fun _ h => h.elim); dsimp only [nsR, n3R, nsA, n3A]) | (refine TRL.con [] [11] (Con.inI (rn3_some d hs _ h6)) rfl rfl rfl rfl trivial rfl rfl (fun w6 _ => ⟨⟨rfl, trivial⟩, ?_⟩) (fun _ h => h.elim); dsimp only [nsR, n3R, nsA, n3A]) | refine TRL.step (TTok _ _) ?_ | (refine x_exq (TTok _ _) ?_; (conv => whnf); fail_if_success (guard_target =ₛ False)))
  refine TR.loopH (fun n : Nat => [(30, .v (.int .i64 n))]) (fun _ => []) (fun n => n ≤ 6) (fun n => 6 - n) 0 (Nat.zero_le _) ?_ ?_
  · repeat' ((conv => whnf); first | exact trivial | exact Fgt.nil | exact Fgt.mk rfl rfl rfl | refine And.intro rfl ?_ | refine And.intro ?_ ?_)
  · intro n hn
    have hc : n = 0 ∨ n = 1 ∨ n = 2 ∨ n = 3 ∨ n = 4 ∨ n = 5 ∨ n = 6 := by omega
    rcases hc with rfl | rfl | rfl | rfl | rfl | rfl | rfl
    · rcases r1 with ⟨rfl, rfl⟩ | ⟨rfl, rfl⟩
      all_goals skip
      all_goals repeat' ((conv => whnf); first | (with_reducible first | refine TR.seq ?_ | refine TR.regionL ?_ | refine TR.drawn (TTok _ _) mixed ?_ | refine TR.block ?_ | refine TR.ret ?_ | refine TR.exit ?_ | refine TR.skip ?_ | refine TR.condB rfl ?_ | refine TRL.nil ?_ | refine Br.cond_t ?_ | refine Br.cond_f ?_ | refine Br.yes (by first | decide | assumption | (apply decide_eq_true; omega)) ?_ | refine Br.non (by first | decide | assumption | (apply decide_eq_false; omega)) ?_ | refine Br.cond_ff ?_ | refine Br.eqT (by omega) ?_ | refine Br.eqF (by omega) ?_ | refine Br.neT (by omega) ?_ | refine Br.neF (by omega) ?_ | refine Ld.mk' _ rfl ?_ | refine Need.mk (by first | decide | omega | kernel_rfl) ?_ | refine Nm.i64 (by omega) ?_ | refine Nm.u64 (by omega) ?_ | refine Nm.u8 (by omega) ?_ | refine Nm.keep ?_ | refine Need.mk (by dsimp only; omega) ?_) | refine Br.non rfl ?_ | refine Br.yes rfl ?_ | refine TRL.step (TTok _ _) ?_ | (refine x_exq (TTok _ _) ?_; (conv => whnf); fail_if_success (guard_target =ₛ False)))
      all_goals (conv => whnf)
      all_goals (refine ⟨1, by decide, by decide, ?_⟩)
      all_goals repeat' ((conv => whnf); first | exact trivial | exact Fgt.nil | exact Fgt.mk rfl rfl rfl | refine And.intro rfl ?_ | refine And.intro ?_ ?_)
    · rcases r2 with ⟨rfl, rfl⟩ | ⟨rfl, rfl⟩
      all_goals skip
      all_goals repeat' ((conv => whnf); first | (with_reducible first | refine TR.seq ?_ | refine TR.regionL ?_ | refine TR.drawn (TTok _ _) mixed ?_ | refine TR.block ?_ | refine TR.ret ?_ | refine TR.exit ?_ | refine TR.skip ?_ | refine TR.condB rfl ?_ | refine TRL.nil ?_ | refine Br.cond_t ?_ | refine Br.cond_f ?_ | refine Br.yes (by first | decide | assumption | (apply decide_eq_true; omega)) ?_ | refine Br.non (by first | decide | assumption | (apply decide_eq_false; omega)) ?_ | refine Br.cond_ff ?_ | refine Br.eqT (by omega) ?_ | refine Br.eqF (by omega) ?_ | refine Br.neT (by omega) ?_ | refine Br.neF (by omega) ?_ | refine Ld.mk' _ rfl ?_ | refine Need.mk (by first | decide | omega | kernel_rfl) ?_ | refine Nm.i64 (by omega) ?_ | refine Nm.u64 (by omega) ?_ | refine Nm.u8 (by omega) ?_ | refine Nm.keep ?_ | refine Need.mk (by dsimp only; omega) ?_) | refine Br.non rfl ?_ | refine Br.yes rfl ?_ | refine TRL.step (TTok _ _) ?_ | (refine x_exq (TTok _ _) ?_; (conv => whnf); fail_if_success (guard_target =ₛ False)))
      all_goals (conv => whnf)
      all_goals (refine ⟨2, by decide, by decide, ?_⟩)
      all_goals repeat' ((conv => whnf); first | exact trivial | exact Fgt.nil | exact Fgt.mk rfl rfl rfl | refine And.intro rfl ?_ | refine And.intro ?_ ?_)
    · rcases r3 with ⟨rfl, rfl⟩ | ⟨rfl, rfl⟩
      all_goals skip
      all_goals repeat' ((conv => whnf); first | (with_reducible first | refine TR.seq ?_ | refine TR.regionL ?_ | refine TR.drawn (TTok _ _) mixed ?_ | refine TR.block ?_ | refine TR.ret ?_ | refine TR.exit ?_ | refine TR.skip ?_ | refine TR.condB rfl ?_ | refine TRL.nil ?_ | refine Br.cond_t ?_ | refine Br.cond_f ?_ | refine Br.yes (by first | decide | assumption | (apply decide_eq_true; omega)) ?_ | refine Br.non (by first | decide | assumption | (apply decide_eq_false; omega)) ?_ | refine Br.cond_ff ?_ | refine Br.eqT (by omega) ?_ | refine Br.eqF (by omega) ?_ | refine Br.neT (by omega) ?_ | refine Br.neF (by omega) ?_ | refine Ld.mk' _ rfl ?_ | refine Need.mk (by first | decide | omega | kernel_rfl) ?_ | refine Nm.i64 (by omega) ?_ | refine Nm.u64 (by omega) ?_ | refine Nm.u8 (by omega) ?_ | refine Nm.keep ?_ | refine Need.mk (by dsimp only; omega) ?_) | refine Br.non rfl ?_ | refine Br.yes rfl ?_ | refine TRL.step (TTok _ _) ?_ | (refine x_exq (TTok _ _) ?_; (conv => whnf); fail_if_success (guard_target =ₛ False)))
      all_goals (conv => whnf)
      all_goals (refine ⟨3, by decide, by decide, ?_⟩)
      all_goals repeat' ((conv => whnf); first | exact trivial | exact Fgt.nil | exact Fgt.mk rfl rfl rfl | refine And.intro rfl ?_ | refine And.intro ?_ ?_)
    · rcases r4 with ⟨rfl, rfl⟩ | ⟨rfl, rfl⟩
      all_goals skip
      all_goals repeat' ((conv => whnf); first | (with_reducible first | refine TR.seq ?_ | refine TR.regionL ?_ | refine TR.drawn (TTok _ _) mixed ?_ | refine TR.block ?_ | refine TR.ret ?_ | refine TR.exit ?_ | refine TR.skip ?_ | refine TR.condB rfl ?_ | refine TRL.nil ?_ | refine Br.cond_t ?_ | refine Br.cond_f ?_ | refine Br.yes (by first | decide | assumption | (apply decide_eq_true; omega)) ?_ | refine Br.non (by first | decide | assumption | (apply decide_eq_false; omega)) ?_ | refine Br.cond_ff ?_ | refine Br.eqT (by omega) ?_ | refine Br.eqF (by omega) ?_ | refine Br.neT (by omega) ?_ | refine Br.neF (by omega) ?_ | refine Ld.mk' _ rfl ?_ | refine Need.mk (by first | decide | omega | kernel_rfl) ?_ | refine Nm.i64 (by omega) ?_ | refine Nm.u64 (by omega) ?_ | refine Nm.u8 (by omega) ?_ | refine Nm.keep ?_ | refine Need.mk (by dsimp only; omega) ?_) | refine Br.non rfl ?_ | refine Br.yes rfl ?_ | refine TRL.step (TTok _ _) ?_ | (refine x_exq (TTok _ _) ?_; (conv => whnf); fail_if_success (guard_target =ₛ False)))
      all_goals (conv => whnf)
      all_goals (refine ⟨4, by decide, by decide, ?_⟩)
      all_goals repeat' ((conv => whnf); first | exact trivial | exact Fgt.nil | exact Fgt.mk rfl rfl rfl | refine And.intro rfl ?_ | refine And.intro ?_ ?_)
    · skip
      all_goals repeat' ((conv => whnf); first | (with_reducible first | refine TR.seq ?_ | refine TR.regionL ?_ | refine TR.drawn (TTok _ _) mixed ?_ | refine TR.block ?_ | refine TR.ret ?_ | refine TR.exit ?_ | refine TR.skip ?_ | refine TR.condB rfl ?_ | refine TRL.nil ?_ | refine Br.cond_t ?_ | refine Br.cond_f ?_ | refine Br.yes (by first | decide | assumption | (apply decide_eq_true; omega)) ?_ | refine Br.non (by first | decide | assumption | (apply decide_eq_false; omega)) ?_ | refine Br.cond_ff ?_ | refine Br.eqT (by omega) ?_ | refine Br.eqF (by omega) ?_ | refine Br.neT (by omega) ?_ | refine Br.neF (by omega) ?_ | refine Ld.mk' _ rfl ?_ | refine Need.mk (by first | decide | omega | kernel_rfl) ?_ | refine Nm.i64 (by omega) ?_ | refine Nm.u64 (by omega) ?_ | refine Nm.u8 (by omega) ?_ | refine Nm.keep ?_ | refine Need.mk (by dsimp only; omega) ?_) | refine Br.non rfl ?_ | refine Br.yes rfl ?_ | refine TRL.step (TTok _ _) ?_ | (refine x_exq (TTok _ _) ?_; (conv => whnf); fail_if_success (guard_target =ₛ False)))
      all_goals (conv => whnf)
      all_goals (refine ⟨5, by decide, by decide, ?_⟩)
      all_goals repeat' ((conv => whnf); first | exact trivial | exact Fgt.nil | exact Fgt.mk rfl rfl rfl | refine And.intro rfl ?_ | refine And.intro ?_ ?_)
    · skip
      all_goals repeat' ((conv => whnf); first | (with_reducible first | refine TR.seq ?_ | refine TR.regionL ?_ | refine TR.drawn (TTok _ _) mixed ?_ | refine TR.block ?_ | refine TR.ret ?_ | refine TR.exit ?_ | refine TR.skip ?_ | refine TR.condB rfl ?_ | refine TRL.nil ?_ | refine Br.cond_t ?_ | refine Br.cond_f ?_ | refine Br.yes (by first | decide | assumption | (apply decide_eq_true; omega)) ?_ | refine Br.non (by first | decide | assumption | (apply decide_eq_false; omega)) ?_ | refine Br.cond_ff ?_ | refine Br.eqT (by omega) ?_ | refine Br.eqF (by omega) ?_ | refine Br.neT (by omega) ?_ | refine Br.neF (by omega) ?_ | refine Ld.mk' _ rfl ?_ | refine Need.mk (by first | decide | omega | kernel_rfl) ?_ | refine Nm.i64 (by omega) ?_ | refine Nm.u64 (by omega) ?_ | refine Nm.u8 (by omega) ?_ | refine Nm.keep ?_ | refine Need.mk (by dsimp only; omega) ?_) | refine Br.non rfl ?_ | refine Br.yes rfl ?_ | refine TRL.step (TTok _ _) ?_ | (refine x_exq (TTok _ _) ?_; (conv => whnf); fail_if_success (guard_target =ₛ False)))
      all_goals (conv => whnf)
      all_goals (refine ⟨6, by decide, by decide, ?_⟩)
      all_goals repeat' ((conv => whnf); first | exact trivial | exact Fgt.nil | exact Fgt.mk rfl rfl rfl | refine And.intro rfl ?_ | refine And.intro ?_ ?_)
    · skip
      repeat' ((conv => whnf); first | (with_reducible first | refine TR.seq ?_ | refine TR.regionL ?_ | refine TR.drawn (TTok _ _) mixed ?_ | refine TR.block ?_ | refine TR.ret ?_ | refine TR.exit ?_ | refine TR.skip ?_ | refine TR.condB rfl ?_ | refine TRL.nil ?_ | refine Br.cond_t ?_ | refine Br.cond_f ?_ | refine Br.yes (by first | decide | assumption | (apply decide_eq_true; omega)) ?_ | refine Br.non (by first | decide | assumption | (apply decide_eq_false; omega)) ?_ | refine Br.cond_ff ?_ | refine Br.eqT (by omega) ?_ | refine Br.eqF (by omega) ?_ | refine Br.neT (by omega) ?_ | refine Br.neF (by omega) ?_ | refine Ld.mk' _ rfl ?_ | refine Need.mk (by first | decide | omega | kernel_rfl) ?_ | refine Nm.i64 (by omega) ?_ | refine Nm.u64 (by omega) ?_ | refine Nm.u8 (by omega) ?_ | refine Nm.keep ?_ | refine Need.mk (by dsimp only; omega) ?_ | refine x_ret (f := 21) rfl rfl (fun w _ => p1 w) ?_ | refine x_ret (f := 22) rfl rfl (fun w _ => q1 w) ?_ | refine x_ret (f := 23) rfl rfl (fun w _ => p2 w) ?_ | refine x_ret (f := 24) rfl rfl (fun w _ => q2 w) ?_ | refine x_ret (f := 25) rfl rfl (fun w _ => p3 w) ?_ | refine x_ret (f := 26) rfl rfl (fun w _ => q3 w) ?_ | refine x_ret (f := 27) rfl rfl (fun w _ => p4 w) ?_ | refine x_ret (f := 28) rfl rfl (fun w _ => q4 w) ?_ | refine x_ret (f := 33) rfl rfl (fun w _ => numbers_nil w) ?_ | refine x_ret (f := 14) rfl rfl (fun w hw => examples_ret hw) ?_) | (refine TRL.con [5, 7] [5, 7] (Con.inI (numbers_con l v5 w5 (by omega))) rfl rfl rfl rfl ⟨rfl, rfl, trivial⟩ rfl rfl (fun _ _ => ⟨trivial, ?_⟩) (fun _ h => h.elim)) | (refine TRL.con [9, 11] [9, 11] (Con.inI (numbers_con m v6 w6 (by omega))) rfl rfl rfl rfl ⟨rfl, rfl, trivial⟩ rfl rfl (fun _ _ => ⟨trivial, ?_⟩) (fun _ h => h.elim)) | refine Br.yes (by simp [eqR]) ?_ | refine Br.yes rfl ?_ | refine Br.non rfl ?_ | refine TRL.step (TTok _ _) ?_ | (refine x_exq (TTok _ _) ?_; (conv => whnf); fail_if_success (guard_target =ₛ False)))
      all_goals (conv => whnf)
      all_goals first | rfl | simp [val]
theorem takes_ret {u2 v2 u3 v3} (d : ByteArray) (hs : d.size < 4294967281) (w : World) (hI : IC u2 v2 u3 v3 w) : Ret Tryz.prog 5 [.string d] w (.bool true) := by
  cases h5 : nsW d with
  | none =>
    cases h6 : n3W d with
    | none => exact takes_00 d hs h5 h6 w hI
    | some q =>
      obtain ⟨a, b, c, x, y, l⟩ := q
      exact takes_01 d hs h5 a b c x y l h6 w hI
  | some p =>
    obtain ⟨x, l⟩ := p
    cases h6 : n3W d with
    | none => exact takes_10 d hs x l h5 h6 w hI
    | some q =>
      obtain ⟨a, b, c, y, z, m⟩ := q
      exact takes_11 d hs x l h5 a b c y z m h6 w hI
end Go.Proofs.YtbladfkakmdigaaGreatDoor
set_option maxRecDepth 100000
set_option linter.unusedVariables false
namespace Go.Proofs.YtbladfkakmdigaaGreatDoor
open Go.SX
namespace dataTakes
def inv (W : World) : Prop := ∃ u2 v2 u3 v3, IC u2 v2 u3 v3 W
theorem inv_of {W : World} (h : laidMet Tryz.prog Rows.dataTakesUptoRow.laid W) (_ : W.ShapedOpen Tryz.prog) : inv W :=
  ic_of h (List.mem_of_getElem? (i := 2) (by kernel_rfl)) (List.mem_of_getElem? (i := 1) (by kernel_rfl)) (List.mem_of_getElem? (i := 5) rfl) (List.mem_of_getElem? (i := 4) rfl)
theorem returns (W : World) (args : Array Value) (hI : inv W) (hF : FitAll TT W 1048576 Tryz.f5.params.toList args.toList) : Ret Tryz.prog 5 args.toList W (.bool true) := by
  obtain ⟨u2, v2, u3, v3, hI⟩ := hI
  rw [show Tryz.f5.params.toList = [9] by kernel_rfl] at hF
  generalize args.toList = l at hF
  obtain ⟨a, l, rfl, ha, hF⟩ := fitAll_cons hF
  obtain rfl := fitAll_nil hF
  obtain ⟨s, rfl, hs⟩ := fit_str rfl rfl ha
  exact takes_ret s (by omega) W hI
end dataTakes
end Go.Proofs.YtbladfkakmdigaaGreatDoor
