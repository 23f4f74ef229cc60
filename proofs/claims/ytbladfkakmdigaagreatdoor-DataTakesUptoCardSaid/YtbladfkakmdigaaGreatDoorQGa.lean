/-
  What the laws of these data stand on: contracts of functions, and plain laws.
-/
import Derived.Test.YtbladfkakmdigaaGreatDoorQXa
import Derived.Test.YtbladfkakmdigaaGreatDoorQXb
import Derived.Test.YtbladfkakmdigaaGreatDoorQXc
import Derived.Test.YtbladfkakmdigaaGreatDoorQXd
import Derived.Test.YtbladfkakmdigaaGreatDoorQBa
import Derived.Test.YtbladfkakmdigaaGreatDoorQFa
import Derived.Test.YtbladfkakmdigaaGreatDoorQDa
set_option linter.unusedVariables false
set_option linter.unusedSimpArgs false
set_option linter.unnecessarySimpa false
set_option maxRecDepth 100000
set_option linter.unusedVariables false
set_option linter.unusedSimpArgs false
namespace Go.Proofs.YtbladfkakmdigaaGreatDoor
open Go.SX
theorem refP_step (w : Int) (b : ByteArray) (q : Nat) : bitsTo w b ((q + 1) / 8) ++ bitsAt w (bAt b ((q + 1) / 8 : Nat)) ((q + 1) / 8 : Nat) ((q + 1) % 8) = (bitsTo w b (q / 8) ++ bitsAt w (bAt b (q / 8 : Nat)) (q / 8 : Nat) (q % 8)) ++ (if bAt b (q / 8 : Nat) / 2 ^ (7 - q % 8) % 2 = 1 then [256 * w + q] else []) := by
  have hv : 256 * w + 8 * ((q / 8 : Nat) : Int) + ((q % 8 : Nat) : Int) = 256 * w + q := by omega
  by_cases h : q % 8 = 7
  · have e1 : (q + 1) / 8 = q / 8 + 1 := by omega
    have e2 : (q + 1) % 8 = 0 := by omega
    rw [e1, e2, h]
    have e3 : bitsAt w (bAt b (q / 8 : Nat)) (q / 8 : Nat) 8 = bitsAt w (bAt b (q / 8 : Nat)) (q / 8 : Nat) 7 ++ (if bAt b (q / 8 : Nat) / 2 ^ (7 - 7) % 2 = 1 then [256 * w + 8 * ((q / 8 : Nat) : Int) + ((7 : Nat) : Int)] else []) := rfl
    simp only [bitsTo]
    rw [e3, ← h, hv]
    simp [bitsAt]
  · have e1 : (q + 1) / 8 = q / 8 := by omega
    have e2 : (q + 1) % 8 = q % 8 + 1 := by omega
    rw [e1, e2]
    simp only [bitsAt]
    rw [hv]
    simp
set_option maxHeartbeats 4000000 in
theorem rnum_conS (s : ByteArray) (bad : Bool) (n : Nat) (hn : n ≤ 4) (hs : s.size < 4294967281) : Con Tryz.prog (fun _ => True) 73 (fun m => .ref (m 0) 0 0 :: [Value.int .i64 n].map .v) (fun _ => rdH s bad) (fun p : Int × ByteArray × Bool => RQ (numO n s) s bad p ∧ 0 ≤ p.1 ∧ p.1 < 256 ^ n) (fun p _ => .v (.int .i64 p.1)) (fun p _ => rdH p.2.1 p.2.2) (fun _ => False) := by
  refine Con.of (TTok _ _) Tryz.func73 (by kernel_rfl) rfl rfl rfl (fun σ => rfl) (fun σ => rfl) (fun _ _ _ => rfl) (fun _ σ _ => rfl) (fun _ _ => CEnd.of rfl rfl rfl) ?_
  repeat' ((conv => whnf); first | (with_reducible first | refine TR.seq ?_ | refine TR.regionL ?_ | refine TR.drawn (TTok _ _) mixed ?_ | refine TR.block ?_ | refine TR.ret ?_ | refine TR.exit ?_ | refine TR.skip ?_ | refine TR.condB rfl ?_ | refine TRL.nil ?_ | refine Br.cond_t ?_ | refine Br.cond_f ?_ | refine Br.yes (by first | decide | assumption | (apply decide_eq_true; omega)) ?_ | refine Br.non (by first | decide | assumption | (apply decide_eq_false; omega)) ?_ | refine Br.cond_ff ?_ | refine Br.eqT (by omega) ?_ | refine Br.eqF (by omega) ?_ | refine Br.neT (by omega) ?_ | refine Br.neF (by omega) ?_ | refine Nm.keep ?_ | refine Need.mk (by dsimp only; omega) ?_ | refine Ld.mk' _ rfl ?_ | refine Need.mk (by first | decide | omega | kernel_rfl) ?_ | refine Nm.i64 (by omega) ?_ | refine Nm.u64 (by omega) ?_ | refine Nm.u8 (by omega) ?_) | (refine TRL.con [0] [0] (rtake_con _ _ _ n rfl hs) rfl rfl rfl rfl ⟨rfl, trivial⟩ rfl rfl (fun ⟨x, r, b⟩ hq => ⟨trivial, ?_⟩) (fun _ h => h.elim); dsimp only) | refine TRL.step (TTok _ _) ?_ | (refine x_exq (TTok _ _) ?_; (conv => whnf); fail_if_success (guard_target =ₛ False)))
  obtain ⟨hq, hx1, hx2⟩ := hq
  dsimp only at hq hx1 hx2
  have hfin : RQ (numO n s) s bad (numL (sInts x), r, b) := by
    rcases hq with ⟨h1, h2⟩ | ⟨h1, h2, h3⟩
    · exact .inl ⟨by unfold numO; rw [h1]; rfl, h2⟩
    · exact .inr ⟨by unfold numO; rw [h1]; rfl, h2, h3⟩
  clear hq
  have hrng : 0 ≤ numL (sInts x) ∧ numL (sInts x) < 256 ^ n := by
    have h1 := numL_range n (sInts x) (sInts_range x)
    rw [List.take_of_length_le (by rw [sInts_length]; omega)] at h1
    exact h1
  refine TR.loopH (fun k : Nat => [(6, .v (.int .i64 (numL ((sInts x).take k)))), (7, .v (.int .i64 k))]) (fun _ => []) (fun k => k ≤ x.size) (fun k => x.size - k) 0 (Nat.zero_le _) ?_ ?_
  · repeat' ((conv => whnf); first | exact trivial | exact Fgt.nil | exact Fgt.mk rfl rfl rfl | refine And.intro rfl ?_ | refine And.intro ?_ ?_)
  · intro k hk
    by_cases hkn : k < x.size
    · have hg := sInts_get x k hkn
      have hx := bAt_range x k
      have hnx := numL_take (sInts x) k _ hg
      have hr := numL_range k (sInts x) (sInts_range x)
      have hp : (256 : Int) ^ k ≤ 4294967296 := by
        have : k = 0 ∨ k = 1 ∨ k = 2 ∨ k = 3 := by omega
        rcases this with rfl | rfl | rfl | rfl <;> decide
      repeat' ((conv => whnf); first | (with_reducible first | refine TR.seq ?_ | refine TR.regionL ?_ | refine TR.drawn (TTok _ _) mixed ?_ | refine TR.block ?_ | refine TR.ret ?_ | refine TR.exit ?_ | refine TR.skip ?_ | refine TR.condB rfl ?_ | refine TRL.nil ?_ | refine Br.cond_t ?_ | refine Br.cond_f ?_ | refine Br.yes (by first | decide | assumption | (apply decide_eq_true; omega)) ?_ | refine Br.non (by first | decide | assumption | (apply decide_eq_false; omega)) ?_ | refine Br.cond_ff ?_ | refine Br.eqT (by omega) ?_ | refine Br.eqF (by omega) ?_ | refine Br.neT (by omega) ?_ | refine Br.neF (by omega) ?_ | refine Ld.mk' _ rfl ?_ | refine Need.mk (by first | decide | omega | kernel_rfl) ?_ | refine Nm.i64 (by omega) ?_ | refine Nm.u64 (by omega) ?_ | refine Nm.u8 (by omega) ?_) | refine Nm.keep ?_ | refine Need.mk (by dsimp only; omega) ?_ | refine TRL.step (TTok _ _) ?_ | (refine x_exq (TTok _ _) ?_; (conv => whnf); fail_if_success (guard_target =ₛ False)))
      all_goals (conv => whnf)
      refine ⟨k + 1, by omega, by omega, ?_⟩
      repeat' ((conv => whnf); first | exact trivial | exact Fgt.nil | exact Fgt.mk rfl rfl rfl | refine And.intro rfl ?_ | refine And.intro ?_ ?_)
      all_goals exact congrArg (fun z => AV.v (Value.int IntKind.i64 z)) (by rw [hnx]; omega)
    · obtain rfl : k = x.size := by omega
      repeat' ((conv => whnf); first | (with_reducible first | refine TR.seq ?_ | refine TR.regionL ?_ | refine TR.drawn (TTok _ _) mixed ?_ | refine TR.block ?_ | refine TR.ret ?_ | refine TR.exit ?_ | refine TR.skip ?_ | refine TR.condB rfl ?_ | refine TRL.nil ?_ | refine Br.cond_t ?_ | refine Br.cond_f ?_ | refine Br.yes (by first | decide | assumption | (apply decide_eq_true; omega)) ?_ | refine Br.non (by first | decide | assumption | (apply decide_eq_false; omega)) ?_ | refine Br.cond_ff ?_ | refine Br.eqT (by omega) ?_ | refine Br.eqF (by omega) ?_ | refine Br.neT (by omega) ?_ | refine Br.neF (by omega) ?_ | refine Ld.mk' _ rfl ?_ | refine Need.mk (by first | decide | omega | kernel_rfl) ?_ | refine Nm.i64 (by omega) ?_ | refine Nm.u64 (by omega) ?_ | refine Nm.u8 (by omega) ?_) | refine Nm.keep ?_ | refine Need.mk (by dsimp only; omega) ?_ | refine TRL.step (TTok _ _) ?_ | (refine x_exq (TTok _ _) ?_; (conv => whnf); fail_if_success (guard_target =ₛ False)))
      all_goals (conv => whnf)
      all_goals exact ⟨_, ⟨hfin, hrng⟩, by rw [List.take_of_length_le (by rw [sInts_length]; omega)], rfl, trivial⟩

def tyR : (Nat × List Int) ⊕ ByteArray → (Nat → Nat) → AV
  | .inl p, n => .sl (n 1) p.1 0 p.2.length
  | .inr _, _ => .v (.slice none 0 0)
def tyC : (Nat × List Int) ⊕ ByteArray → (Nat → Nat) → List (Option Chunk)
  | .inl p, _ => [some ⟨.own, 125, 2, 0, [.v (.string ⟨#[]⟩), .v (.bool false)]⟩, some ⟨.row, 3, 1, p.1, its p.2⟩]
  | .inr r, _ => rdH r true
def tyQ (T : Option (List Int)) : (Nat × List Int) ⊕ ByteArray → Prop
  | .inl p => T = some p.2
  | .inr r => T = none
theorem ty_none {s1 r1 r2 r3 x : ByteArray} {last w n : Int} {b1 b2 b3 : Bool} (h1 : RQ (numO 1 s1) s1 false (w, r1, b1) ∧ 0 ≤ w ∧ w < 256 ^ 1) (h2 : RQ (numO 1 r1) r1 b1 (n, r2, b2) ∧ 0 ≤ n ∧ n < 256 ^ 1) (h3 : RQ (tkO n.toNat r2) r2 b2 (x, r3, b3) ∧ x.size ≤ n.toNat ∧ x.size ≤ r2.size)
    (h : w ≤ last ∨ n < 1 ∨ n > 32 ∨ b3 = true ∨ bAt x (n - 1) = 0) : tyStep s1 last = none := by
  unfold tyStep
  rcases h1.1 with ⟨e1, g1⟩ | ⟨e1, g1, _⟩
  · dsimp only at e1 g1
    subst g1
    rcases h2.1 with ⟨e2, g2⟩ | ⟨e2, g2, _⟩
    · dsimp only at e2 g2
      subst g2
      rcases h3.1 with ⟨e3, g3⟩ | ⟨e3, g3, _⟩
      · dsimp only at e3 g3
        subst g3
        have hz := tkO_size e3
        simp only [e1, e2, e3, Option.bind_some]
        refine if_neg ?_
        rintro ⟨c1, c2, c3, c4⟩
        rcases h with h | h | h | h | h
        · omega
        · omega
        · omega
        · cases h
        · rw [show n - 1 = (x.size : Int) - 1 by omega] at h
          exact c4 h
      · simp [e1, e2, e3]
    · simp [e1, e2]
  · simp [e1]
theorem rq_tkf {n : Nat} {s x r : ByteArray} {b : Bool} (h : RQ (tkO n s) s b (x, r, false)) : x.size = n ∧ r.size + n = s.size := by
  rcases h with ⟨h, _⟩ | ⟨_, h, _⟩
  · exact tkO_size h
  · cases h
theorem ty_some {s1 r1 r2 r3 x : ByteArray} {last w n : Int} {b1 b2 : Bool} (h1 : RQ (numO 1 s1) s1 false (w, r1, b1) ∧ 0 ≤ w ∧ w < 256 ^ 1) (h2 : RQ (numO 1 r1) r1 b1 (n, r2, b2) ∧ 0 ≤ n ∧ n < 256 ^ 1) (h3 : RQ (tkO n.toNat r2) r2 b2 (x, r3, false) ∧ x.size ≤ n.toNat ∧ x.size ≤ r2.size)
    (c1 : ¬ w ≤ last) (c2 : ¬ n < 1) (c3 : ¬ n > 32) (c4 : bAt x (n - 1) ≠ 0) : tyStep s1 last = some (w, x, r3) ∧ (x.size : Int) = n ∧ r3.size + x.size + 2 = s1.size := by
  have k3 : b2 = false ∧ tkO n.toNat r2 = some (x, r3) := by
    rcases h3.1 with ⟨e3, g3⟩ | ⟨e3, g3, _⟩
    · exact ⟨g3.symm, e3⟩
    · cases g3
  obtain ⟨rfl, e3⟩ := k3
  have k2 : b1 = false ∧ numO 1 r1 = some (n, r2) := by
    rcases h2.1 with ⟨e3, g3⟩ | ⟨e3, g3, _⟩
    · exact ⟨g3.symm, e3⟩
    · cases g3
  obtain ⟨rfl, e2⟩ := k2
  have e1 : numO 1 s1 = some (w, r1) := by
    rcases h1.1 with ⟨e3, g3⟩ | ⟨e3, g3, _⟩
    · exact e3
    · cases g3
  have hz := tkO_size e3
  have z1 := num1_range e1
  have z2 := num1_range e2
  refine ⟨?_, by omega, by omega⟩
  unfold tyStep
  simp only [e1, e2, e3, Option.bind_some]
  refine if_pos ⟨by omega, by omega, by omega, ?_⟩
  rw [show (x.size : Int) - 1 = n - 1 by omega]
  exact c4
set_option maxHeartbeats 16000000 in
theorem rtypes_con (s : ByteArray) (hs : s.size < 4294967281) : Con Tryz.prog (fun _ => True) 85 (fun n => [.ref (n 0) 0 0]) (fun _ => rdH s false) (tyQ (typesO (s.size + 1) s (-1) [])) tyR tyC (fun _ => False) := by
  refine Con.of (TTok _ _) Tryz.func85 (by kernel_rfl) rfl rfl rfl (fun σ => rfl) (fun σ => rfl) (fun p σ _ => by cases p <;> rfl) (fun p σ _ => by cases p <;> simp [tyC, rdH, mapR, renK, renL, renA, renL_its]) (fun p _ => by cases p <;> exact CEnd.of rfl rfl (by simp [tyC, rdH, refsInC, refsInL, refsIn, hasO, refsInL_its])) ?_
  obtain ⟨T, hT⟩ : ∃ T, typesO (s.size + 1) s (-1) [] = T := ⟨_, rfl⟩
  rw [hT]
  repeat' ((conv => whnf); first | refine TR.nil_slot 3 1 3 1 rfl rfl ?_ | (with_reducible first | refine TR.seq ?_ | refine TR.regionL ?_ | refine TR.drawn (TTok _ _) mixed ?_ | refine TR.block ?_ | refine TR.ret ?_ | refine TR.exit ?_ | refine TR.skip ?_ | refine TR.condB rfl ?_ | refine TRL.nil ?_ | refine Br.cond_t ?_ | refine Br.cond_f ?_ | refine Br.yes (by first | decide | assumption | (apply decide_eq_true; omega)) ?_ | refine Br.non (by first | decide | assumption | (apply decide_eq_false; omega)) ?_ | refine Br.cond_ff ?_ | refine Br.eqT (by omega) ?_ | refine Br.eqF (by omega) ?_ | refine Br.neT (by omega) ?_ | refine Br.neF (by omega) ?_ | refine Ld.mk' _ rfl ?_ | refine Need.mk (by first | decide | omega | kernel_rfl) ?_ | refine Nm.i64 (by omega) ?_ | refine Nm.u64 (by omega) ?_ | refine Nm.u8 (by omega) ?_ | refine Nm.keep ?_ | refine Need.mk (by dsimp only; omega) ?_) | refine TRL.step (TTok _ _) ?_ | (refine x_exq (TTok _ _) ?_; (conv => whnf); fail_if_success (guard_target =ₛ False)))
  refine TR.loopH (fun x : Nat × ByteArray × Int × List Int × Nat => [(3, .sl 1 x.2.2.2.2 0 x.2.2.2.1.length), (4, .v (.int .i64 x.2.2.1))]) (fun x => [(0, ⟨.own, 125, 2, 0, [.v (.string x.2.1), .v (.bool false)]⟩), (1, ⟨.row, 3, 1, x.2.2.2.2, its x.2.2.2.1⟩)]) (fun x => typesO (x.1 + 1) x.2.1 x.2.2.1 x.2.2.2.1 = T ∧ x.2.1.size ≤ x.1 ∧ x.2.2.2.1.length + 8 * x.2.1.size ≤ 8 * s.size ∧ -1 ≤ x.2.2.1 ∧ x.2.2.1 ≤ 255) (fun x => x.2.1.size) (s.size, s, -1, [], 0) ⟨hT, Nat.le_refl _, by simp, Int.le_refl _, by dsimp only; omega⟩ ?_ ?_
  · repeat' ((conv => whnf); first | exact trivial | exact Fgt.nil | exact Fgt.mk rfl rfl rfl | exact Fgt.mk rfl (by simp only [noRefC, nr_app, nr_map, nr_its, nr_byt', noRefL, noRef, Bool.and_self]) rfl | refine And.intro rfl ?_ | refine And.intro ?_ ?_)
  · rintro ⟨f, s1, last, out, v⟩ ⟨h1, h2, h3, h4, h5⟩
    dsimp only at h1 h2 h3 h4 h5 ⊢
    by_cases hz : s1.size = 0
    · have he := ba_nil hz
      subst he
      repeat' ((conv => whnf); first | (with_reducible first | refine TR.seq ?_ | refine TR.regionL ?_ | refine TR.drawn (TTok _ _) mixed ?_ | refine TR.block ?_ | refine TR.ret ?_ | refine TR.exit ?_ | refine TR.skip ?_ | refine TR.condB rfl ?_ | refine TRL.nil ?_ | refine Br.cond_t ?_ | refine Br.cond_f ?_ | refine Br.yes (by first | decide | assumption | (apply decide_eq_true; omega)) ?_ | refine Br.non (by first | decide | assumption | (apply decide_eq_false; omega)) ?_ | refine Br.cond_ff ?_ | refine Br.eqT (by omega) ?_ | refine Br.eqF (by omega) ?_ | refine Br.neT (by omega) ?_ | refine Br.neF (by omega) ?_ | refine Ld.mk' _ rfl ?_ | refine Need.mk (by first | decide | omega | kernel_rfl) ?_ | refine Nm.i64 (by omega) ?_ | refine Nm.u64 (by omega) ?_ | refine Nm.u8 (by omega) ?_ | refine Nm.keep ?_ | refine Need.mk (by dsimp only; omega) ?_) | refine TRL.step (TTok _ _) ?_ | (refine x_exq (TTok _ _) ?_; (conv => whnf); fail_if_success (guard_target =ₛ False)))
      all_goals (conv => whnf)
      all_goals exact ⟨.inl (v, out), h1.symm.trans (by unfold typesO; exact if_pos rfl), rfl, rfl, rfl, trivial⟩
    · have he : ¬ (s1 = ⟨#[]⟩) := fun e => hz (by rw [e]; rfl)
      have hT1 : T = (tyStep s1 last).bind fun (w, b, s') => typesO f s' w (out ++ bitsTo w b b.size) := by
        rw [← h1]
        simp only [typesO, if_neg hz]
      clear h1
      have hbe : (!decide (s1 = ⟨#[]⟩)) = true := by simp [he]
      repeat' ((conv => whnf); first | (with_reducible first | refine TR.seq ?_ | refine TR.regionL ?_ | refine TR.drawn (TTok _ _) mixed ?_ | refine TR.block ?_ | refine TR.ret ?_ | refine TR.exit ?_ | refine TR.skip ?_ | refine TR.condB rfl ?_ | refine TRL.nil ?_ | refine Br.cond_t ?_ | refine Br.cond_f ?_ | refine Br.yes (by first | decide | assumption | (apply decide_eq_true; omega)) ?_ | refine Br.non (by first | decide | assumption | (apply decide_eq_false; omega)) ?_ | refine Br.cond_ff ?_ | refine Br.eqT (by omega) ?_ | refine Br.eqF (by omega) ?_ | refine Br.neT (by omega) ?_ | refine Br.neF (by omega) ?_ | refine Ld.mk' _ rfl ?_ | refine Need.mk (by first | decide | omega | kernel_rfl) ?_ | refine Nm.i64 (by omega) ?_ | refine Nm.u64 (by omega) ?_ | refine Nm.u8 (by omega) ?_ | refine Nm.keep ?_ | refine Need.mk (by dsimp only; omega) ?_) | refine Br.yes hbe ?_ | (refine TRL.con [0] [0] (rnum_conS s1 false 1 (by omega) (by omega)) rfl rfl rfl rfl ⟨rfl, trivial⟩ rfl rfl (fun ⟨w, r1, b1⟩ q1 => ⟨trivial, ?_⟩) (fun _ h => h.elim); have hz1 := rq_num q1.1; have hr1 := q1.2; dsimp only at hz1 hr1 ⊢) | (refine TRL.con [0] [0] (rnum_conS _ _ 1 (by omega) (by omega)) rfl rfl rfl rfl ⟨rfl, trivial⟩ rfl rfl (fun ⟨n, r2, b2⟩ q2 => ⟨trivial, ?_⟩) (fun _ h => h.elim); have hz2 := rq_num q2.1; have hr2 := q2.2; dsimp only at hz2 hr2 ⊢) | (refine TRL.con [0] [0] (rtake_con _ _ n n.toNat (by omega) (by omega)) rfl rfl rfl rfl ⟨rfl, trivial⟩ rfl rfl (fun ⟨b, r3, b3⟩ q3 => ⟨trivial, ?_⟩) (fun _ h => h.elim); have hz3 := rq_tk q3.1; dsimp only at hz3 ⊢; cases b3 <;> (try have hsz := rq_tkf q3.1)) | refine Br.dec (fun hc => ?_) (fun hc => ?_) | refine Br.eq (fun hc => ?_) (fun hc => ?_) | refine TRL.step (TTok _ _) ?_ | (refine x_exq (TTok _ _) ?_; (conv => whnf); fail_if_success (guard_target =ₛ False)))
      all_goals (conv => whnf)
      all_goals first | (have hN : T = none := by rw [hT1, ty_none q1 q2 q3 (by first | exact .inl (by assumption) | exact .inr (.inl (by assumption)) | exact .inr (.inr (.inl (by assumption))) | exact .inr (.inr (.inr (.inl rfl))) | exact .inr (.inr (.inr (.inr (by assumption)))))]; rfl
                         exact ⟨.inr _, hN, rfl, rfl, trivial⟩) | skip
      obtain ⟨hS1, hn, hz4⟩ := ty_some q1 q2 q3 (by assumption) (by assumption) (by assumption) (by assumption)
      have hS : T = typesO f r3 w (out ++ bitsTo w b b.size) := by rw [hT1, hS1]; rfl
      have c1 : last < w := by omega
      have c3 : b.size ≤ 32 := by omega
      refine TR.loopH (fun x : Nat × Nat => [(3, .sl 1 x.2 0 (out ++ (bitsTo w b (x.1 / 8) ++ bitsAt w (bAt b (x.1 / 8 : Nat)) (x.1 / 8 : Nat) (x.1 % 8))).length), (8, .v (.int .i64 x.1))]) (fun x => [(1, ⟨.row, 3, 1, x.2, its (out ++ (bitsTo w b (x.1 / 8) ++ bitsAt w (bAt b (x.1 / 8 : Nat)) (x.1 / 8 : Nat) (x.1 % 8)))⟩)]) (fun x => x.1 ≤ 8 * b.size) (fun x => 8 * b.size - x.1) (0, v) (Nat.zero_le _) ?_ ?_
      · repeat' ((conv => whnf); first | exact trivial | exact Fgt.nil | exact Fgt.mk rfl rfl rfl | exact Fgt.mk rfl (by simp only [noRefC, nr_app, nr_map, nr_its, nr_byt', noRefL, noRef, Bool.and_self]) rfl | refine And.intro rfl ?_ | refine And.intro ?_ ?_)
        all_goals simp [bitsTo, bitsAt]
      · rintro ⟨q, v1⟩ hq
        dsimp only at hq ⊢
        have hst := refP_step w b q
        have hl1 := bitsTo_len w b (q / 8)
        have hl2 := bitsAt_len w (bAt b (q / 8 : Nat)) (q / 8 : Nat) (q % 8)
        have hx := bAt_range b (q / 8 : Nat)
        by_cases hqn : q < 8 * b.size
        · have hlen1 : (out ++ (bitsTo w b (q / 8) ++ bitsAt w (bAt b (q / 8 : Nat)) (q / 8 : Nat) (q % 8))).length + 1 ≤ 34359738380 := by simp only [List.length_append]; omega
          have hdiv : IntKind.i64.wrap ((q : Int).tdiv 8) = ((q / 8 : Nat) : Int) := by
            rw [Int.tdiv_eq_ediv_of_nonneg (by omega), wrap_i64 (by omega)]
            omega
          have hrem : (q : Int).tmod 8 = ((q % 8 : Nat) : Int) := by
            rw [Int.tmod_eq_emod_of_nonneg (by omega)]
            omega
          have e7 : (7 - ((q % 8 : Nat) : Int)).toNat = 7 - q % 8 := by omega
          have hdv : 0 ≤ bAt b (q / 8 : Nat) / 2 ^ (7 - ((q % 8 : Nat) : Int)).toNat ∧ bAt b (q / 8 : Nat) / 2 ^ (7 - ((q % 8 : Nat) : Int)).toNat ≤ 255 := by
            have hp : (0 : Int) < 2 ^ (7 - ((q % 8 : Nat) : Int)).toNat := Int.pow_pos (by decide)
            refine ⟨Int.ediv_nonneg (by omega) (Int.le_of_lt hp), Int.le_trans (Int.ediv_le_self _ (by omega)) (by omega)⟩
          have hrm : (bAt b (q / 8 : Nat) / 2 ^ (7 - ((q % 8 : Nat) : Int)).toNat).tmod 2 = bAt b (q / 8 : Nat) / 2 ^ (7 - ((q % 8 : Nat) : Int)).toNat % 2 := by
            rw [Int.tmod_eq_emod_of_nonneg hdv.1]
          generalize hL : bitsTo w b (q / 8) ++ bitsAt w (bAt b (q / 8 : Nat)) (q / 8 : Nat) (q % 8) = L at hst hlen1
          generalize hL2 : bitsTo w b ((q + 1) / 8) ++ bitsAt w (bAt b ((q + 1) / 8 : Nat)) ((q + 1) / 8 : Nat) ((q + 1) % 8) = L2 at hst
          repeat' ((conv => whnf); first | (with_reducible first | refine TR.seq ?_ | refine TR.regionL ?_ | refine TR.drawn (TTok _ _) mixed ?_ | refine TR.block ?_ | refine TR.ret ?_ | refine TR.exit ?_ | refine TR.skip ?_ | refine TR.condB rfl ?_ | refine TRL.nil ?_ | refine Br.cond_t ?_ | refine Br.cond_f ?_ | refine Br.yes (by first | decide | assumption | (apply decide_eq_true; omega)) ?_ | refine Br.non (by first | decide | assumption | (apply decide_eq_false; omega)) ?_ | refine Br.cond_ff ?_ | refine Br.eqT (by omega) ?_ | refine Br.eqF (by omega) ?_ | refine Br.neT (by omega) ?_ | refine Br.neF (by omega) ?_ | refine Sh.shr8 (by omega) ?_ | refine Nm.mk' _ hdiv ?_ | refine Nm.mk' _ hrem ?_ | refine Nm.mk' _ hrm ?_ | refine Ld.mk' _ rfl ?_ | refine Need.mk (by first | decide | omega | kernel_rfl) ?_ | refine Nm.i64 (by omega) ?_ | refine Nm.u64 (by omega) ?_ | refine Nm.u8 (by omega) ?_) | refine x_app (TTok _ _) (c := 1) 8 rfl rfl rfl rfl rfl rfl rfl rfl rfl rfl (Nat.zero_lt_succ 0) rfl rfl rfl rfl rfl rfl rfl rfl rfl (by simp [its]) (by unfold maxLen; omega) (by omega) ?_ | refine Br.eq (fun hc => ?_) (fun hc => ?_) | refine Sh.shrL ?_ | refine Sh.shlL ?_ | refine Nm.fd (by decide) ?_ | refine Nm.keep ?_ | refine Need.mk (by dsimp only; omega) ?_ | refine TRL.step (TTok _ _) ?_ | (refine x_exq (TTok _ _) ?_; (conv => whnf); fail_if_success (guard_target =ₛ False)))
          all_goals (conv => whnf)
          · refine ⟨(q + 1, v1 + 1), by dsimp only; omega, by dsimp only; omega, ?_⟩
            dsimp only
            rw [hL2]
            repeat' ((conv => whnf); first | exact trivial | exact Fgt.nil | exact Fgt.mk rfl rfl rfl | exact Fgt.mk rfl (by simp only [noRefC, nr_app, nr_map, nr_its, nr_byt', noRefL, noRef, Bool.and_self]) rfl | refine And.intro rfl ?_ | refine And.intro ?_ ?_)
            all_goals (rw [e7] at hc; rw [if_pos hc] at hst; rw [hst])
            · simp only [List.length_append, List.length_singleton, Nat.add_assoc]
            · rw [← List.append_assoc, its_app _ [_], its_one]
          · refine ⟨(q + 1, v1), by dsimp only; omega, by dsimp only; omega, ?_⟩
            dsimp only
            rw [hL2]
            repeat' ((conv => whnf); first | exact trivial | exact Fgt.nil | exact Fgt.mk rfl rfl rfl | exact Fgt.mk rfl (by simp only [noRefC, nr_app, nr_map, nr_its, nr_byt', noRefL, noRef, Bool.and_self]) rfl | refine And.intro rfl ?_ | refine And.intro ?_ ?_)
            all_goals (rw [e7] at hc; rw [if_neg hc, List.append_nil] at hst; rw [hst])
        · obtain rfl : q = 8 * b.size := by omega
          repeat' ((conv => whnf); first | (with_reducible first | refine TR.seq ?_ | refine TR.regionL ?_ | refine TR.drawn (TTok _ _) mixed ?_ | refine TR.block ?_ | refine TR.ret ?_ | refine TR.exit ?_ | refine TR.skip ?_ | refine TR.condB rfl ?_ | refine TRL.nil ?_ | refine Br.cond_t ?_ | refine Br.cond_f ?_ | refine Br.yes (by first | decide | assumption | (apply decide_eq_true; omega)) ?_ | refine Br.non (by first | decide | assumption | (apply decide_eq_false; omega)) ?_ | refine Br.cond_ff ?_ | refine Br.eqT (by omega) ?_ | refine Br.eqF (by omega) ?_ | refine Br.neT (by omega) ?_ | refine Br.neF (by omega) ?_ | refine Ld.mk' _ rfl ?_ | refine Need.mk (by first | decide | omega | kernel_rfl) ?_ | refine Nm.i64 (by omega) ?_ | refine Nm.u64 (by omega) ?_ | refine Nm.u8 (by omega) ?_ | refine Nm.keep ?_ | refine Need.mk (by dsimp only; omega) ?_) | refine TRL.step (TTok _ _) ?_ | (refine x_exq (TTok _ _) ?_; (conv => whnf); fail_if_success (guard_target =ₛ False)))
          all_goals (conv => whnf)
          have hm8 : 8 * b.size / 8 = b.size := by omega
          have hm0 : 8 * b.size % 8 = 0 := by omega
          rw [hm8, hm0] at *
          refine ⟨(f - 1, r3, w, out ++ bitsTo w b b.size, v1), ?_, by dsimp only; omega, ?_⟩
          · have := bitsTo_len w b b.size
            refine ⟨?_, by dsimp only; omega, by simp only [List.length_append]; omega, by dsimp only; omega, by dsimp only; omega⟩
            rw [hS, show f - 1 + 1 = f by omega]
          · repeat' ((conv => whnf); first | exact trivial | exact Fgt.nil | exact Fgt.mk rfl rfl rfl | exact Fgt.mk rfl (by simp only [noRefC, nr_app, nr_map, nr_its, nr_byt', noRefL, noRef, Bool.and_self]) rfl | refine And.intro rfl ?_ | refine And.intro ?_ ?_)
            all_goals simp [bitsAt]
end Go.Proofs.YtbladfkakmdigaaGreatDoor
set_option maxRecDepth 100000
set_option linter.unusedVariables false
set_option linter.unusedSimpArgs false
namespace Go.Proofs.YtbladfkakmdigaaGreatDoor
open Go.SX
theorem TRL.at {X : Ctx} {all rest : List Oper} {i : Nat} {o : Oper} {st : St} {K : Exit → St → Prop} {f : FuncId} {xs : List Operand} {ts : Array TypeId} (ho : o.op = .call { callee := .value (.func f), args := xs.toArray, argTypes := ts }) (h : TRL X all i (o :: rest) K st) : TRL X all i (o :: rest) K st := h
theorem sumAll {α β : Type} {P : α ⊕ β → Prop} (h0 : ∀ q, P (.inl q)) (h1 : ∀ q, P (.inr q)) : ∀ p, P p
  | .inl q => h0 q
  | .inr q => h1 q
theorem rtypes_bad (s : ByteArray) (hs : s.size < 4294967281) : Con Tryz.prog (fun _ => True) 85 (fun n => [.ref (n 0) 0 0]) (fun _ => rdH s true) (fun _ : Unit => True) (fun _ n => .sl (n 1) 0 0 0) (fun _ _ => [some ⟨.own, 125, 2, 0, [.v (.string s), .v (.bool true)]⟩, some ⟨.row, 3, 1, 0, []⟩]) (fun _ => False) := by
  refine Con.of (TTok _ _) Tryz.func85 (by kernel_rfl) rfl rfl rfl (fun σ => rfl) (fun σ => rfl) (fun _ _ _ => rfl) (fun p σ _ => rfl) (fun p _ => CEnd.of rfl rfl rfl) ?_
  by_cases hz : s = ⟨#[]⟩
  · subst hz
    repeat' ((conv => whnf); first | refine TR.nil_slot 3 1 3 1 rfl rfl ?_ | (with_reducible first | refine TR.seq ?_ | refine TR.regionL ?_ | refine TR.drawn (TTok _ _) mixed ?_ | refine TR.block ?_ | refine TR.ret ?_ | refine TR.exit ?_ | refine TR.skip ?_ | refine TR.condB rfl ?_ | refine TRL.nil ?_ | refine Br.cond_t ?_ | refine Br.cond_f ?_ | refine Br.yes (by first | decide | assumption | (apply decide_eq_true; omega)) ?_ | refine Br.non (by first | decide | assumption | (apply decide_eq_false; omega)) ?_ | refine Br.cond_ff ?_ | refine Br.eqT (by omega) ?_ | refine Br.eqF (by omega) ?_ | refine Br.neT (by omega) ?_ | refine Br.neF (by omega) ?_ | refine Ld.mk' _ rfl ?_ | refine Need.mk (by first | decide | omega | kernel_rfl) ?_ | refine Nm.i64 (by omega) ?_ | refine Nm.u64 (by omega) ?_ | refine Nm.u8 (by omega) ?_ | refine Nm.keep ?_ | refine Need.mk (by dsimp only; omega) ?_) | refine TRn.step ?_ | refine TR.loopN 1 ?_ | refine TRL.step (TTok _ _) ?_ | (refine x_exq (TTok _ _) ?_; (conv => whnf); fail_if_success (guard_target =ₛ False)))
    all_goals (conv => whnf)
    all_goals exact ⟨(), trivial, rfl, rfl, rfl, trivial⟩
  · have hbe : (!decide (s = ⟨#[]⟩)) = true := by simp [hz]
    repeat' ((conv => whnf); first | refine TR.nil_slot 3 1 3 1 rfl rfl ?_ | (with_reducible first | refine TR.seq ?_ | refine TR.regionL ?_ | refine TR.drawn (TTok _ _) mixed ?_ | refine TR.block ?_ | refine TR.ret ?_ | refine TR.exit ?_ | refine TR.skip ?_ | refine TR.condB rfl ?_ | refine TRL.nil ?_ | refine Br.cond_t ?_ | refine Br.cond_f ?_ | refine Br.yes (by first | decide | assumption | (apply decide_eq_true; omega)) ?_ | refine Br.non (by first | decide | assumption | (apply decide_eq_false; omega)) ?_ | refine Br.cond_ff ?_ | refine Br.eqT (by omega) ?_ | refine Br.eqF (by omega) ?_ | refine Br.neT (by omega) ?_ | refine Br.neF (by omega) ?_ | refine Ld.mk' _ rfl ?_ | refine Need.mk (by first | decide | omega | kernel_rfl) ?_ | refine Nm.i64 (by omega) ?_ | refine Nm.u64 (by omega) ?_ | refine Nm.u8 (by omega) ?_ | refine Nm.keep ?_ | refine Need.mk (by dsimp only; omega) ?_) | refine Br.yes hbe ?_ | refine TRn.step ?_ | refine TR.loopN 1 ?_ | refine TRL.step (TTok _ _) ?_ | (refine x_exq (TTok _ _) ?_; (conv => whnf); fail_if_success (guard_target =ₛ False)))
    all_goals (conv => whnf)
    all_goals exact ⟨(), trivial, rfl, rfl, rfl, trivial⟩
theorem ns_fwd {s0 : ByteArray} {x0 : ByteArray} {s1 : ByteArray} {b1 : Bool} (h0 : RQ (nameO s0) s0 false (x0, s1, b1)) : (nsO s0 = ((typesO (s1.size + 1) s1 (-1) []).bind fun l => some (x0, l)) ∧ b1 = false) ∨ (nsO s0 = none ∧ b1 = true) := by
  unfold nsO
  rcases h0 with ⟨e0, g0⟩ | ⟨e0, g0, _⟩
  rotate_left
  · right
    simp only [e0, Option.bind_some, Option.bind_none, true_and]
    exact g0
  left
  dsimp only at e0 g0
  simp only [e0, Option.bind_some, true_and]
  skip
  rw [g0]
theorem nsW_none {d : ByteArray} (h : nsO d = none) : nsW d = none := by
  unfold nsW
  rw [h]
  split <;> rfl
theorem nsW_long {d : ByteArray} (h : (d.size : Int) > 2000) : nsW d = none := by
  unfold nsW
  rw [if_neg (by omega)]
theorem nsW_some {d : ByteArray} {q} (h : nsO d = some q) (hd : ¬ (d.size : Int) > 2000) : nsW d = some q := by
  unfold nsW
  rw [if_pos (by omega), h]
set_option maxHeartbeats 8000000 in
theorem rns_top (d : ByteArray) (hs : d.size < 4294967281) : Con Tryz.prog (fun _ => True) 30 (fun _ => [Value.string d].map .v) (fun _ => []) (nsQ d) (nsR (.bool true) (.bool false)) nsC (fun _ => False) := by
  refine Con.of (TTok _ _) Tryz.func30 (by kernel_rfl) rfl rfl rfl (fun σ => rfl) (fun σ => rfl) (fun p σ _ => nsR_nat _ _ p σ) (fun p σ _ => nsC_nat p σ) (fun p _ => ns_fin _ _ p) ?_
  repeat' ((conv => whnf); first | (with_reducible first | refine TR.seq ?_ | refine TR.regionL ?_ | refine TR.drawn (TTok _ _) mixed ?_ | refine TR.block ?_ | refine TR.ret ?_ | refine TR.exit ?_ | refine TR.skip ?_ | refine TR.condB rfl ?_ | refine TRL.nil ?_ | refine Br.cond_t ?_ | refine Br.cond_f ?_ | refine Br.yes (by first | decide | assumption | (apply decide_eq_true; omega)) ?_ | refine Br.non (by first | decide | assumption | (apply decide_eq_false; omega)) ?_ | refine Br.cond_ff ?_ | refine Br.eqT (by omega) ?_ | refine Br.eqF (by omega) ?_ | refine Br.neT (by omega) ?_ | refine Br.neF (by omega) ?_ | refine Ld.mk' _ rfl ?_ | refine Need.mk (by first | decide | omega | kernel_rfl) ?_ | refine Nm.i64 (by omega) ?_ | refine Nm.u64 (by omega) ?_ | refine Nm.u8 (by omega) ?_ | refine Nm.keep ?_ | refine Need.mk (by dsimp only; omega) ?_) | (refine TRL.con [8] [8] (rname_con _ _ (by omega)) rfl rfl rfl rfl ⟨rfl, trivial⟩ rfl rfl (fun ⟨x, r, b⟩ hq => ⟨trivial, ?_⟩) (fun _ h => h.elim); have hz := rq_name hq; dsimp only at hz ⊢; cases b) | refine TRL.con [8] [8, 0] (rtypes_con _ (by omega)) rfl rfl rfl rfl ⟨rfl, trivial⟩ rfl rfl (sumAll (fun ⟨v, l⟩ ht => ⟨⟨rfl, trivial⟩, ?_⟩) (fun r9 ht => ⟨trivial, ?_⟩)) (fun _ h => h.elim) | refine TRL.con [8] [8, 0] (rtypes_bad _ (by omega)) rfl rfl rfl rfl ⟨rfl, trivial⟩ rfl rfl (fun _ _ => ⟨⟨rfl, trivial⟩, ?_⟩) (fun _ h => h.elim) | refine Br.dec (fun hc => ?_) (fun hc => ?_) | refine Br.eq (fun hc => ?_) (fun hc => ?_) | refine TRL.step (TTok _ _) ?_ | (refine x_exq (TTok _ _) ?_; (conv => whnf); fail_if_success (guard_target =ₛ False)))
  all_goals (conv => whnf)
  all_goals (have hf := ns_fwd (s0 := d) (by assumption))
  all_goals first
    | (have hN : nsO d = none := by
         rcases hf with ⟨e, g⟩ | ⟨e, g⟩
         · cases g
         · exact e
       exact ⟨none, nsW_none hN, rfl, trivial⟩)
    | (have ht' : typesO _ _ _ _ = none := ht
       have hN : nsO d = none := by
         rcases hf with ⟨e, g⟩ | ⟨e, g⟩
         · rw [e, ht']; rfl
         · exact e
       exact ⟨none, nsW_none hN, rfl, trivial⟩)
    | (have hc' : (d.size : Int) > 2000 := by assumption
       exact ⟨none, nsW_long hc', rfl, trivial⟩)
    | (have ht' : typesO _ _ _ _ = some l := ht
       exact ⟨some (v, x, l), nsW_some (by
         rcases hf with ⟨e, g⟩ | ⟨e, g⟩
         · rw [e, ht']; rfl
         · cases g) (by assumption), rfl, rfl, trivial⟩)
theorem n3_fwd {s0 : ByteArray} {x0 : Int} {s1 : ByteArray} {b1 : Bool} {x1 : Int} {s2 : ByteArray} {b2 : Bool} {x2 : Int} {s3 : ByteArray} {b3 : Bool} {n3 : Int} {s4 : ByteArray} {b4 : Bool} {x3 : ByteArray} {s5 : ByteArray} {b5 : Bool} {n4 : Int} {s6 : ByteArray} {b6 : Bool} {x4 : ByteArray} {s7 : ByteArray} {b7 : Bool} (h0 : RQ (numO 1 s0) s0 false (x0, s1, b1) ∧ 0 ≤ x0 ∧ x0 < 256 ^ 1) (h1 : RQ (numO 1 s1) s1 b1 (x1, s2, b2) ∧ 0 ≤ x1 ∧ x1 < 256 ^ 1) (h2 : RQ (numO 2 s2) s2 b2 (x2, s3, b3)) (h3 : RQ (numO 1 s3) s3 b3 (n3, s4, b4) ∧ 0 ≤ n3 ∧ n3 < 256 ^ 1) (h4 : RQ (tkO n3.toNat s4) s4 b4 (x3, s5, b5) ∧ x3.size ≤ n3.toNat ∧ x3.size ≤ s4.size) (h5 : RQ (numO 1 s5) s5 b5 (n4, s6, b6) ∧ 0 ≤ n4 ∧ n4 < 256 ^ 1) (h6 : RQ (tkO n4.toNat s6) s6 b6 (x4, s7, b7) ∧ x4.size ≤ n4.toNat ∧ x4.size ≤ s6.size) : (n3O s0 = ((cond (!decide (x4 = ⟨#[]⟩)) (some ()) none).bind fun _ => (typesO (s7.size + 1) s7 (-1) []).bind fun l => some (x0, x1, x2, x3, x4, l)) ∧ b7 = false ∧ ((x4.size : Int) = n4)) ∨ (n3O s0 = none ∧ b7 = true) := by
  unfold n3O
  rcases h0.1 with ⟨e0, g0⟩ | ⟨e0, g0, _⟩
  rotate_left
  · right
    simp only [e0, Option.bind_some, Option.bind_none, true_and]
    have g1 : b2 = true := by
      rcases h1.1 with ⟨_, g⟩ | ⟨_, g, _⟩
      · dsimp only at g0 g; rw [g]; exact g0
      · exact g
    have g2 : b3 = true := by
      rcases h2 with ⟨_, g⟩ | ⟨_, g, _⟩
      · dsimp only at g1 g; rw [g]; exact g1
      · exact g
    have g3 : b4 = true := by
      rcases h3.1 with ⟨_, g⟩ | ⟨_, g, _⟩
      · dsimp only at g2 g; rw [g]; exact g2
      · exact g
    have g4 : b5 = true := by
      rcases h4.1 with ⟨_, g⟩ | ⟨_, g, _⟩
      · dsimp only at g3 g; rw [g]; exact g3
      · exact g
    have g5 : b6 = true := by
      rcases h5.1 with ⟨_, g⟩ | ⟨_, g, _⟩
      · dsimp only at g4 g; rw [g]; exact g4
      · exact g
    have g6 : b7 = true := by
      rcases h6.1 with ⟨_, g⟩ | ⟨_, g, _⟩
      · dsimp only at g5 g; rw [g]; exact g5
      · exact g
    exact g6
  rcases h1.1 with ⟨e1, g1⟩ | ⟨e1, g1, _⟩
  rotate_left
  · right
    simp only [e0, e1, Option.bind_some, Option.bind_none, true_and]
    have g2 : b3 = true := by
      rcases h2 with ⟨_, g⟩ | ⟨_, g, _⟩
      · dsimp only at g1 g; rw [g]; exact g1
      · exact g
    have g3 : b4 = true := by
      rcases h3.1 with ⟨_, g⟩ | ⟨_, g, _⟩
      · dsimp only at g2 g; rw [g]; exact g2
      · exact g
    have g4 : b5 = true := by
      rcases h4.1 with ⟨_, g⟩ | ⟨_, g, _⟩
      · dsimp only at g3 g; rw [g]; exact g3
      · exact g
    have g5 : b6 = true := by
      rcases h5.1 with ⟨_, g⟩ | ⟨_, g, _⟩
      · dsimp only at g4 g; rw [g]; exact g4
      · exact g
    have g6 : b7 = true := by
      rcases h6.1 with ⟨_, g⟩ | ⟨_, g, _⟩
      · dsimp only at g5 g; rw [g]; exact g5
      · exact g
    exact g6
  rcases h2 with ⟨e2, g2⟩ | ⟨e2, g2, _⟩
  rotate_left
  · right
    simp only [e0, e1, e2, Option.bind_some, Option.bind_none, true_and]
    have g3 : b4 = true := by
      rcases h3.1 with ⟨_, g⟩ | ⟨_, g, _⟩
      · dsimp only at g2 g; rw [g]; exact g2
      · exact g
    have g4 : b5 = true := by
      rcases h4.1 with ⟨_, g⟩ | ⟨_, g, _⟩
      · dsimp only at g3 g; rw [g]; exact g3
      · exact g
    have g5 : b6 = true := by
      rcases h5.1 with ⟨_, g⟩ | ⟨_, g, _⟩
      · dsimp only at g4 g; rw [g]; exact g4
      · exact g
    have g6 : b7 = true := by
      rcases h6.1 with ⟨_, g⟩ | ⟨_, g, _⟩
      · dsimp only at g5 g; rw [g]; exact g5
      · exact g
    exact g6
  rcases h3.1 with ⟨e3, g3⟩ | ⟨e3, g3, _⟩
  rotate_left
  · right
    simp only [e0, e1, e2, e3, Option.bind_some, Option.bind_none, true_and]
    have g4 : b5 = true := by
      rcases h4.1 with ⟨_, g⟩ | ⟨_, g, _⟩
      · dsimp only at g3 g; rw [g]; exact g3
      · exact g
    have g5 : b6 = true := by
      rcases h5.1 with ⟨_, g⟩ | ⟨_, g, _⟩
      · dsimp only at g4 g; rw [g]; exact g4
      · exact g
    have g6 : b7 = true := by
      rcases h6.1 with ⟨_, g⟩ | ⟨_, g, _⟩
      · dsimp only at g5 g; rw [g]; exact g5
      · exact g
    exact g6
  rcases h4.1 with ⟨e4, g4⟩ | ⟨e4, g4, _⟩
  rotate_left
  · right
    simp only [e0, e1, e2, e3, e4, Option.bind_some, Option.bind_none, true_and]
    have g5 : b6 = true := by
      rcases h5.1 with ⟨_, g⟩ | ⟨_, g, _⟩
      · dsimp only at g4 g; rw [g]; exact g4
      · exact g
    have g6 : b7 = true := by
      rcases h6.1 with ⟨_, g⟩ | ⟨_, g, _⟩
      · dsimp only at g5 g; rw [g]; exact g5
      · exact g
    exact g6
  rcases h5.1 with ⟨e5, g5⟩ | ⟨e5, g5, _⟩
  rotate_left
  · right
    simp only [e0, e1, e2, e3, e4, e5, Option.bind_some, Option.bind_none, true_and]
    have g6 : b7 = true := by
      rcases h6.1 with ⟨_, g⟩ | ⟨_, g, _⟩
      · dsimp only at g5 g; rw [g]; exact g5
      · exact g
    exact g6
  rcases h6.1 with ⟨e6, g6⟩ | ⟨e6, g6, _⟩
  rotate_left
  · right
    simp only [e0, e1, e2, e3, e4, e5, e6, Option.bind_some, Option.bind_none, true_and]
    exact g6
  left
  dsimp only at e0 g0 e1 g1 e2 g2 e3 g3 e4 g4 e5 g5 e6 g6
  have hz := tkO_size e6
  have hr := h5.2.1
  simp only [e0, e1, e2, e3, e4, e5, e6, Option.bind_some, true_and]
  refine ⟨?_, by omega⟩
  rw [g6, g5, g4, g3, g2, g1, g0]
theorem n3W_none {d : ByteArray} (h : n3O d = none) : n3W d = none := by
  unfold n3W
  rw [h]
  split <;> rfl
theorem n3W_long {d : ByteArray} (h : (d.size : Int) > 2000) : n3W d = none := by
  unfold n3W
  rw [if_neg (by omega)]
theorem n3W_some {d : ByteArray} {q} (h : n3O d = some q) (hd : ¬ (d.size : Int) > 2000) : n3W d = some q := by
  unfold n3W
  rw [if_pos (by omega), h]
set_option maxHeartbeats 8000000 in
theorem rn3_top (d : ByteArray) (hs : d.size < 4294967281) : Con Tryz.prog (fun _ => True) 32 (fun _ => [Value.string d].map .v) (fun _ => []) (n3Q d) (n3R (.bool true) (.bool false)) n3C (fun _ => False) := by
  refine Con.of (TTok _ _) Tryz.func32 (by kernel_rfl) rfl rfl rfl (fun σ => rfl) (fun σ => rfl) (fun p σ _ => n3R_nat _ _ p σ) (fun p σ _ => n3C_nat p σ) (fun p _ => n3_fin _ _ p) ?_
  repeat' ((conv => whnf); first | (with_reducible first | refine TR.seq ?_ | refine TR.regionL ?_ | refine TR.drawn (TTok _ _) mixed ?_ | refine TR.block ?_ | refine TR.ret ?_ | refine TR.exit ?_ | refine TR.skip ?_ | refine TR.condB rfl ?_ | refine TRL.nil ?_ | refine Br.cond_t ?_ | refine Br.cond_f ?_ | refine Br.yes (by first | decide | assumption | (apply decide_eq_true; omega)) ?_ | refine Br.non (by first | decide | assumption | (apply decide_eq_false; omega)) ?_ | refine Br.cond_ff ?_ | refine Br.eqT (by omega) ?_ | refine Br.eqF (by omega) ?_ | refine Br.neT (by omega) ?_ | refine Br.neF (by omega) ?_ | refine Ld.mk' _ rfl ?_ | refine Need.mk (by first | decide | omega | kernel_rfl) ?_ | refine Nm.i64 (by omega) ?_ | refine Nm.u64 (by omega) ?_ | refine Nm.u8 (by omega) ?_ | refine Nm.keep ?_ | refine Need.mk (by dsimp only; omega) ?_) | (refine TRL.con [9] [9] (rname_con _ _ (by omega)) rfl rfl rfl rfl ⟨rfl, trivial⟩ rfl rfl (fun ⟨x, r, b⟩ hq => ⟨trivial, ?_⟩) (fun _ h => h.elim); have hz := rq_name hq; dsimp only at hz ⊢) | (refine TRL.con [9] [9] (rnum_conS _ _ 1 (by omega) (by omega)) rfl rfl rfl rfl ⟨rfl, trivial⟩ rfl rfl (fun ⟨x, r, b⟩ hq => ⟨trivial, ?_⟩) (fun _ h => h.elim); have hz := rq_num hq.1; have hr := hq.2; dsimp only at hz hr ⊢) | (refine TRL.con [9] [9] (rnum_con _ _ 2 (by omega) (by omega)) rfl rfl rfl rfl ⟨rfl, trivial⟩ rfl rfl (fun ⟨x, r, b⟩ hq => ⟨trivial, ?_⟩) (fun _ h => h.elim); have hz := rq_num hq; dsimp only at hz ⊢) | (refine TRL.con [9] [9] (rtake_con _ _ x x.toNat (by omega) (by omega)) rfl rfl rfl rfl ⟨rfl, trivial⟩ rfl rfl (fun ⟨y, r, b⟩ hq => ⟨trivial, ?_⟩) (fun _ h => h.elim); have hz := rq_tk hq.1; dsimp only at hz ⊢) | refine TRL.con [9] [9, 0] (rtypes_con _ (by omega)) rfl rfl rfl rfl ⟨rfl, trivial⟩ rfl rfl (sumAll (fun ⟨v, l⟩ ht => ⟨⟨rfl, trivial⟩, ?_⟩) (fun r9 ht => ⟨trivial, ?_⟩)) (fun _ h => h.elim) | refine TRL.con [9] [9, 0] (rtypes_bad _ (by omega)) rfl rfl rfl rfl ⟨rfl, trivial⟩ rfl rfl (fun _ _ => ⟨⟨rfl, trivial⟩, ?_⟩) (fun _ h => h.elim) | (refine TRL.at (f := 85) rfl ?_; cases b) | refine Br.dec (fun hc => ?_) (fun hc => ?_) | refine Br.eq (fun hc => ?_) (fun hc => ?_) | refine TRL.step (TTok _ _) ?_ | (refine x_exq (TTok _ _) ?_; (conv => whnf); fail_if_success (guard_target =ₛ False)))
  all_goals (conv => whnf)
  all_goals (have hf := n3_fwd (s0 := d) (by assumption) (by assumption) (by assumption) (by assumption) (by assumption) (by assumption) (by assumption))
  all_goals first
    | (have hN : n3O d = none := by
         rcases hf with ⟨e, g⟩ | ⟨e, g⟩
         · cases g.1
         · exact e
       exact ⟨none, n3W_none hN, rfl, trivial⟩)
    | (have ht' : typesO _ _ _ _ = none := ht
       have hN : n3O d = none := by
         rcases hf with ⟨e, g⟩ | ⟨e, g⟩
         · rw [e, ht']; generalize (!decide (y = ⟨#[]⟩)) = bb; cases bb <;> rfl
         · exact e
       exact ⟨none, n3W_none hN, rfl, trivial⟩)
    | (have hc' : (d.size : Int) > 2000 := by assumption
       exact ⟨none, n3W_long hc', rfl, trivial⟩)
    | (have hx : _ = (0 : Int) := hc
       have hN : n3O d = none := by
         rcases hf with ⟨e, g⟩ | ⟨e, g⟩
         · have hy : y = ⟨#[]⟩ := ba_nil (by have := g.2; omega)
           rw [e, decide_eq_true hy]; rfl
         · exact e
       exact ⟨none, n3W_none hN, rfl, trivial⟩)
    | (have ht' : typesO _ _ _ _ = some l := ht
       have hx : _ ≠ (0 : Int) := (by assumption)
       exact ⟨some (v, _, _, _, _, _, l), n3W_some (by
         rcases hf with ⟨e, g⟩ | ⟨e, g⟩
         · have hne : ¬ (y = ⟨#[]⟩) := fun h => by rw [h] at g; exact hx g.2.symm
           rw [e, ht', decide_eq_false hne]; rfl
         · cases g) (by assumption), rfl, rfl, trivial⟩)
end Go.Proofs.YtbladfkakmdigaaGreatDoor
set_option maxRecDepth 100000
set_option linter.unusedVariables false
set_option linter.unusedSimpArgs false
namespace Go.Proofs.YtbladfkakmdigaaGreatDoor
open Go.SX
theorem rns_none (d : ByteArray) (hs : d.size < 4294967281) (h : nsW d = none) : Con Tryz.prog (fun _ => True) 30 (fun _ => [Value.string d].map .v) (fun _ => []) (fun _ : Unit => True) (fun _ => nsR (.bool true) (.bool false) none) (fun _ => nsC none) (fun _ => False) :=
  (rns_top d hs).map (fun _ : Unit => True) (fun _ => none) (fun p hp => by
    cases p with
    | none => exact ⟨(), trivial, rfl⟩
    | some q => exact nomatch (h.symm.trans hp : none = some _)) (fun _ _ => h)
theorem rns_some (d : ByteArray) (hs : d.size < 4294967281) (q : ByteArray × List Int) (h : nsW d = some q) : Con Tryz.prog (fun _ => True) 30 (fun _ => [Value.string d].map .v) (fun _ => []) (fun _ : Nat => True) (fun v => nsR (.bool true) (.bool false) (some (v, q))) (fun v => nsC (some (v, q))) (fun _ => False) :=
  (rns_top d hs).map (fun _ : Nat => True) (fun v => some (v, q)) (fun p hp => by
    cases p with
    | none => exact nomatch (h.symm.trans hp : some _ = none)
    | some p =>
      obtain ⟨v, q'⟩ := p
      have := Option.some.inj (h.symm.trans hp)
      subst this
      exact ⟨v, trivial, rfl⟩) (fun _ _ => h)
theorem rn3_none (d : ByteArray) (hs : d.size < 4294967281) (h : n3W d = none) : Con Tryz.prog (fun _ => True) 32 (fun _ => [Value.string d].map .v) (fun _ => []) (fun _ : Unit => True) (fun _ => n3R (.bool true) (.bool false) none) (fun _ => n3C none) (fun _ => False) :=
  (rn3_top d hs).map (fun _ : Unit => True) (fun _ => none) (fun p hp => by
    cases p with
    | none => exact ⟨(), trivial, rfl⟩
    | some q => exact nomatch (h.symm.trans hp : none = some _)) (fun _ _ => h)
theorem rn3_some (d : ByteArray) (hs : d.size < 4294967281) (q : Int × Int × Int × ByteArray × ByteArray × List Int) (h : n3W d = some q) : Con Tryz.prog (fun _ => True) 32 (fun _ => [Value.string d].map .v) (fun _ => []) (fun _ : Nat => True) (fun v => n3R (.bool true) (.bool false) (some (v, q))) (fun v => n3C (some (v, q))) (fun _ => False) :=
  (rn3_top d hs).map (fun _ : Nat => True) (fun v => some (v, q)) (fun p hp => by
    cases p with
    | none => exact nomatch (h.symm.trans hp : some _ = none)
    | some p =>
      obtain ⟨v, q'⟩ := p
      have := Option.some.inj (h.symm.trans hp)
      subst this
      exact ⟨v, trivial, rfl⟩) (fun _ _ => h)
end Go.Proofs.YtbladfkakmdigaaGreatDoor
