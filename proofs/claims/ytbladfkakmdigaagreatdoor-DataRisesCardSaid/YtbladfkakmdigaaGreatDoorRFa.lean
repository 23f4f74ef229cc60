/-
  What the laws of these data stand on: contracts of functions, and plain laws.
-/
import Derived.Test.YtbladfkakmdigaaGreatDoorRXa
import Derived.Test.YtbladfkakmdigaaGreatDoorRXb
import Derived.Test.YtbladfkakmdigaaGreatDoorRXc
import Derived.Test.YtbladfkakmdigaaGreatDoorRXd
import Derived.Test.YtbladfkakmdigaaGreatDoorRBa
set_option linter.unusedVariables false
set_option linter.unusedSimpArgs false
set_option linter.unnecessarySimpa false
set_option maxRecDepth 100000
set_option linter.unusedVariables false
set_option linter.unusedSimpArgs false
namespace Go.Proofs.YtbladfkakmdigaaGreatDoor
open Go.SX
set_option maxHeartbeats 16000000 in
theorem types_con (s : ByteArray) (hs : s.size < 4294967281) : Con Tryz.prog (fun _ => True) 84 (fun n => [.ref (n 0) 0 0]) (fun _ => [some ⟨.own, 192, 1, 0, [.v (.string s)]⟩]) (fun p : Nat × List Int => typesO (s.size + 1) s (-1) [] = some p.2) (fun p n => .sl (n 1) p.1 0 p.2.length) (fun p _ => [some ⟨.own, 192, 1, 0, [.v (.string ⟨#[]⟩)]⟩, some ⟨.row, 3, 1, p.1, its p.2⟩]) (fun ch => typesO (s.size + 1) s (-1) [] = none ∧ ch = stopC) := by
  refine Con.of (TTok _ _) Tryz.func84 (by kernel_rfl) rfl rfl rfl (fun σ => rfl) (fun σ => rfl) (fun _ _ _ => rfl) (fun p σ _ => by simp [mapR, renK, renL, renA, renL_its]) (fun p _ => CEnd.of rfl rfl (by simp [refsInC, refsInL, refsIn, hasO, refsInL_its])) ?_
  obtain ⟨T, hT⟩ : ∃ T, typesO (s.size + 1) s (-1) [] = T := ⟨_, rfl⟩
  rw [hT]
  repeat' ((conv => whnf); first | refine TR.nil_slot 3 1 3 1 rfl rfl ?_ | (with_reducible first | refine TR.seq ?_ | refine TR.regionL ?_ | refine TR.drawn (TTok _ _) mixed ?_ | refine TR.block ?_ | refine TR.ret ?_ | refine TR.exit ?_ | refine TR.skip ?_ | refine TR.condB rfl ?_ | refine TRL.nil ?_ | refine Br.cond_t ?_ | refine Br.cond_f ?_ | refine Br.yes (by first | decide | assumption | (apply decide_eq_true; omega)) ?_ | refine Br.non (by first | decide | assumption | (apply decide_eq_false; omega)) ?_ | refine Br.cond_ff ?_ | refine Br.eqT (by omega) ?_ | refine Br.eqF (by omega) ?_ | refine Br.neT (by omega) ?_ | refine Br.neF (by omega) ?_ | refine Ld.mk' _ rfl ?_ | refine Need.mk (by first | decide | omega | kernel_rfl) ?_ | refine Nm.i64 (by omega) ?_ | refine Nm.u64 (by omega) ?_ | refine Nm.u8 (by omega) ?_ | refine Nm.keep ?_ | refine Need.mk (by dsimp only; omega) ?_) | refine TRL.step (TTok _ _) ?_ | (refine x_exq (TTok _ _) ?_; (conv => whnf); fail_if_success (guard_target =ₛ False)))
  refine TR.loopH (fun x : Nat × ByteArray × Int × List Int × Nat => [(3, .sl 1 x.2.2.2.2 0 x.2.2.2.1.length), (4, .v (.int .i64 x.2.2.1))]) (fun x => [(0, ⟨.own, 192, 1, 0, [.v (.string x.2.1)]⟩), (1, ⟨.row, 3, 1, x.2.2.2.2, its x.2.2.2.1⟩)]) (fun x => typesO (x.1 + 1) x.2.1 x.2.2.1 x.2.2.2.1 = T ∧ x.2.1.size ≤ x.1 ∧ x.2.2.2.1.length + 8 * x.2.1.size ≤ 8 * s.size ∧ -1 ≤ x.2.2.1 ∧ x.2.2.1 ≤ 255) (fun x => x.2.1.size) (s.size, s, -1, [], 0) ⟨hT, Nat.le_refl _, by simp, Int.le_refl _, by dsimp only; omega⟩ ?_ ?_
  · repeat' ((conv => whnf); first | exact trivial | exact Fgt.nil | exact Fgt.mk rfl rfl rfl | exact Fgt.mk rfl (by simp only [noRefC, nr_app, nr_map, nr_its, nr_byt', noRefL, noRef, Bool.and_self]) rfl | refine And.intro rfl ?_ | refine And.intro ?_ ?_)
  · rintro ⟨f, s1, last, out, v⟩ ⟨h1, h2, h3, h4, h5⟩
    dsimp only at h1 h2 h3 h4 h5 ⊢
    by_cases hz : s1.size = 0
    · have he := ba_nil hz
      subst he
      repeat' ((conv => whnf); first | (with_reducible first | refine TR.seq ?_ | refine TR.regionL ?_ | refine TR.drawn (TTok _ _) mixed ?_ | refine TR.block ?_ | refine TR.ret ?_ | refine TR.exit ?_ | refine TR.skip ?_ | refine TR.condB rfl ?_ | refine TRL.nil ?_ | refine Br.cond_t ?_ | refine Br.cond_f ?_ | refine Br.yes (by first | decide | assumption | (apply decide_eq_true; omega)) ?_ | refine Br.non (by first | decide | assumption | (apply decide_eq_false; omega)) ?_ | refine Br.cond_ff ?_ | refine Br.eqT (by omega) ?_ | refine Br.eqF (by omega) ?_ | refine Br.neT (by omega) ?_ | refine Br.neF (by omega) ?_ | refine Ld.mk' _ rfl ?_ | refine Need.mk (by first | decide | omega | kernel_rfl) ?_ | refine Nm.i64 (by omega) ?_ | refine Nm.u64 (by omega) ?_ | refine Nm.u8 (by omega) ?_ | refine Nm.keep ?_ | refine Need.mk (by dsimp only; omega) ?_) | refine TRL.step (TTok _ _) ?_ | (refine x_exq (TTok _ _) ?_; (conv => whnf); fail_if_success (guard_target =ₛ False)))
      all_goals (conv => whnf)
      all_goals exact ⟨(v, out), h1.symm.trans (by unfold typesO; exact if_pos rfl), rfl, rfl, rfl, trivial⟩
    · have he : ¬ (s1 = ⟨#[]⟩) := fun e => hz (by rw [e]; rfl)
      have hT1 : T = (tyStep s1 last).bind fun (w, b, s') => typesO f s' w (out ++ bitsTo w b b.size) := by
        rw [← h1]
        simp only [typesO, if_neg hz]
      clear h1
      have hbe : (!decide (s1 = ⟨#[]⟩)) = true := by simp [he]
      cases g1 : numO 1 s1 with
      | none =>
        have hN : T = none := by rw [hT1]; simp [tyStep, g1]
        repeat' ((conv => whnf); first | (with_reducible first | refine TR.seq ?_ | refine TR.regionL ?_ | refine TR.drawn (TTok _ _) mixed ?_ | refine TR.block ?_ | refine TR.ret ?_ | refine TR.exit ?_ | refine TR.skip ?_ | refine TR.condB rfl ?_ | refine TRL.nil ?_ | refine Br.cond_t ?_ | refine Br.cond_f ?_ | refine Br.yes (by first | decide | assumption | (apply decide_eq_true; omega)) ?_ | refine Br.non (by first | decide | assumption | (apply decide_eq_false; omega)) ?_ | refine Br.cond_ff ?_ | refine Br.eqT (by omega) ?_ | refine Br.eqF (by omega) ?_ | refine Br.neT (by omega) ?_ | refine Br.neF (by omega) ?_ | refine Ld.mk' _ rfl ?_ | refine Need.mk (by first | decide | omega | kernel_rfl) ?_ | refine Nm.i64 (by omega) ?_ | refine Nm.u64 (by omega) ?_ | refine Nm.u8 (by omega) ?_ | refine Nm.keep ?_ | refine Need.mk (by dsimp only; omega) ?_) | refine Br.yes hbe ?_ | refine TRL.met rfl rfl rfl rfl rfl rfl rfl rfl rfl (number_met _ 1 (by omega) (by omega)) ?_ | refine optK.none g1 ?_ | refine TRL.step (TTok _ _) ?_ | (refine x_exq (TTok _ _) ?_; (conv => whnf); fail_if_success (guard_target =ₛ False)))
        all_goals (conv => whnf)
        all_goals exact ⟨hN, rfl⟩
      | some q1 =>
        obtain ⟨w, s2⟩ := q1
        have r1 := num1_range g1
        cases g2 : numO 1 s2 with
        | none =>
          have hN : T = none := by rw [hT1]; simp [tyStep, g1, g2]
          repeat' ((conv => whnf); first | (with_reducible first | refine TR.seq ?_ | refine TR.regionL ?_ | refine TR.drawn (TTok _ _) mixed ?_ | refine TR.block ?_ | refine TR.ret ?_ | refine TR.exit ?_ | refine TR.skip ?_ | refine TR.condB rfl ?_ | refine TRL.nil ?_ | refine Br.cond_t ?_ | refine Br.cond_f ?_ | refine Br.yes (by first | decide | assumption | (apply decide_eq_true; omega)) ?_ | refine Br.non (by first | decide | assumption | (apply decide_eq_false; omega)) ?_ | refine Br.cond_ff ?_ | refine Br.eqT (by omega) ?_ | refine Br.eqF (by omega) ?_ | refine Br.neT (by omega) ?_ | refine Br.neF (by omega) ?_ | refine Ld.mk' _ rfl ?_ | refine Need.mk (by first | decide | omega | kernel_rfl) ?_ | refine Nm.i64 (by omega) ?_ | refine Nm.u64 (by omega) ?_ | refine Nm.u8 (by omega) ?_ | refine Nm.keep ?_ | refine Need.mk (by dsimp only; omega) ?_) | refine Br.yes hbe ?_ | refine TRL.met rfl rfl rfl rfl rfl rfl rfl rfl rfl (number_met _ 1 (by omega) (by omega)) ?_ | (refine optK.some g1 ?_; dsimp only) | refine optK.none g2 ?_ | refine TRL.step (TTok _ _) ?_ | (refine x_exq (TTok _ _) ?_; (conv => whnf); fail_if_success (guard_target =ₛ False)))
          all_goals (conv => whnf)
          all_goals exact ⟨hN, rfl⟩
        | some q2 =>
          obtain ⟨n, s3⟩ := q2
          have r2 := num1_range g2
          cases g3 : tkO n.toNat s3 with
          | none =>
            have hN : T = none := by rw [hT1]; simp [tyStep, g1, g2, g3]
            repeat' ((conv => whnf); first | (with_reducible first | refine TR.seq ?_ | refine TR.regionL ?_ | refine TR.drawn (TTok _ _) mixed ?_ | refine TR.block ?_ | refine TR.ret ?_ | refine TR.exit ?_ | refine TR.skip ?_ | refine TR.condB rfl ?_ | refine TRL.nil ?_ | refine Br.cond_t ?_ | refine Br.cond_f ?_ | refine Br.yes (by first | decide | assumption | (apply decide_eq_true; omega)) ?_ | refine Br.non (by first | decide | assumption | (apply decide_eq_false; omega)) ?_ | refine Br.cond_ff ?_ | refine Br.eqT (by omega) ?_ | refine Br.eqF (by omega) ?_ | refine Br.neT (by omega) ?_ | refine Br.neF (by omega) ?_ | refine Ld.mk' _ rfl ?_ | refine Need.mk (by first | decide | omega | kernel_rfl) ?_ | refine Nm.i64 (by omega) ?_ | refine Nm.u64 (by omega) ?_ | refine Nm.u8 (by omega) ?_ | refine Nm.keep ?_ | refine Need.mk (by dsimp only; omega) ?_) | refine Br.yes hbe ?_ | refine TRL.met rfl rfl rfl rfl rfl rfl rfl rfl rfl (number_met _ 1 (by omega) (by omega)) ?_ | (refine optK.some g1 ?_; dsimp only) | (refine optK.some g2 ?_; dsimp only) | refine TRL.met rfl rfl rfl rfl rfl rfl rfl rfl rfl (bytes_metI _ n n.toNat (by omega) (by omega)) ?_ | refine optK.none g3 ?_ | refine TRL.step (TTok _ _) ?_ | (refine x_exq (TTok _ _) ?_; (conv => whnf); fail_if_success (guard_target =ₛ False)))
            all_goals (conv => whnf)
            all_goals exact ⟨hN, rfl⟩
          | some q3 =>
            obtain ⟨b, s4⟩ := q3
            have r3 := tkO_size g3
            by_cases c1 : last < w
            · by_cases c2 : 0 < b.size
              · by_cases c3 : b.size ≤ 32
                · by_cases c4 : bAt b (b.size - 1) = 0
                  · have hN : T = none := by rw [hT1]; simp [tyStep, g1, g2, g3, c4]
                    repeat' ((conv => whnf); first | (with_reducible first | refine TR.seq ?_ | refine TR.regionL ?_ | refine TR.drawn (TTok _ _) mixed ?_ | refine TR.block ?_ | refine TR.ret ?_ | refine TR.exit ?_ | refine TR.skip ?_ | refine TR.condB rfl ?_ | refine TRL.nil ?_ | refine Br.cond_t ?_ | refine Br.cond_f ?_ | refine Br.yes (by first | decide | assumption | (apply decide_eq_true; omega)) ?_ | refine Br.non (by first | decide | assumption | (apply decide_eq_false; omega)) ?_ | refine Br.cond_ff ?_ | refine Br.eqT (by omega) ?_ | refine Br.eqF (by omega) ?_ | refine Br.neT (by omega) ?_ | refine Br.neF (by omega) ?_ | refine Ld.mk' _ rfl ?_ | refine Need.mk (by first | decide | omega | kernel_rfl) ?_ | refine Nm.i64 (by omega) ?_ | refine Nm.u64 (by omega) ?_ | refine Nm.u8 (by omega) ?_ | refine Nm.keep ?_ | refine Need.mk (by dsimp only; omega) ?_) | refine Br.yes hbe ?_ | refine TRL.met rfl rfl rfl rfl rfl rfl rfl rfl rfl (number_met _ 1 (by omega) (by omega)) ?_ | (refine optK.some g1 ?_; dsimp only) | (refine optK.some g2 ?_; dsimp only) | refine TRL.met rfl rfl rfl rfl rfl rfl rfl rfl rfl (bytes_metI _ n n.toNat (by omega) (by omega)) ?_ | (refine optK.some g3 ?_; dsimp only) | refine TRL.met rfl rfl rfl rfl rfl rfl rfl rfl rfl (must_met _ _) ?_ | refine optK.none (by simp [c4]) ?_ | refine TRL.step (TTok _ _) ?_ | (refine x_exq (TTok _ _) ?_; (conv => whnf); fail_if_success (guard_target =ₛ False)))
                    all_goals (conv => whnf)
                    all_goals exact ⟨hN, rfl⟩
                  · have hbn : (bAt b ((b.size : Int) - 1) != 0) = true := by simpa using c4
                    have hS : T = typesO f s4 w (out ++ bitsTo w b b.size) := by rw [hT1]; simp [tyStep, g1, g2, g3, c1, c2, c3, c4]
                    repeat' ((conv => whnf); first | (with_reducible first | refine TR.seq ?_ | refine TR.regionL ?_ | refine TR.drawn (TTok _ _) mixed ?_ | refine TR.block ?_ | refine TR.ret ?_ | refine TR.exit ?_ | refine TR.skip ?_ | refine TR.condB rfl ?_ | refine TRL.nil ?_ | refine Br.cond_t ?_ | refine Br.cond_f ?_ | refine Br.yes (by first | decide | assumption | (apply decide_eq_true; omega)) ?_ | refine Br.non (by first | decide | assumption | (apply decide_eq_false; omega)) ?_ | refine Br.cond_ff ?_ | refine Br.eqT (by omega) ?_ | refine Br.eqF (by omega) ?_ | refine Br.neT (by omega) ?_ | refine Br.neF (by omega) ?_ | refine Ld.mk' _ rfl ?_ | refine Need.mk (by first | decide | omega | kernel_rfl) ?_ | refine Nm.i64 (by omega) ?_ | refine Nm.u64 (by omega) ?_ | refine Nm.u8 (by omega) ?_ | refine Nm.keep ?_ | refine Need.mk (by dsimp only; omega) ?_) | refine Br.yes hbe ?_ | refine TRL.met rfl rfl rfl rfl rfl rfl rfl rfl rfl (number_met _ 1 (by omega) (by omega)) ?_ | (refine optK.some g1 ?_; dsimp only) | (refine optK.some g2 ?_; dsimp only) | refine TRL.met rfl rfl rfl rfl rfl rfl rfl rfl rfl (bytes_metI _ n n.toNat (by omega) (by omega)) ?_ | (refine optK.some g3 ?_; dsimp only) | refine TRL.met rfl rfl rfl rfl rfl rfl rfl rfl rfl (must_met _ _) ?_ | (refine optK.some (p := ()) (by rw [hbn]; rfl) ?_; dsimp only) | refine sIntsK.mk ?_ | refine TRL.step (TTok _ _) ?_ | (refine x_exq (TTok _ _) ?_; (conv => whnf); fail_if_success (guard_target =ₛ False)))
                    refine TR.loopH (fun x : Nat × Nat => [(3, .sl 1 x.2 0 (out ++ bitsTo w b x.1).length), (48, .v (.int .i64 x.1))]) (fun x => [(1, ⟨.row, 3, 1, x.2, its (out ++ bitsTo w b x.1)⟩)]) (fun x => x.1 ≤ b.size) (fun x => b.size - x.1) (0, v) (Nat.zero_le _) ?_ ?_
                    · repeat' ((conv => whnf); first | exact trivial | exact Fgt.nil | exact Fgt.mk rfl rfl rfl | exact Fgt.mk rfl (by simp only [noRefC, nr_app, nr_map, nr_its, nr_byt', noRefL, noRef, Bool.and_self]) rfl | refine And.intro rfl ?_ | refine And.intro ?_ ?_)
                      all_goals simp [bitsTo]
                    · rintro ⟨i, v1⟩ hi
                      dsimp only at hi ⊢
                      by_cases hib : i < b.size
                      · have hg := sInts_get b i hib
                        have hld := subL_byt (sInts b) i _ hg
                        have hx := bAt_range b i
                        have hld2 : subL (byt (sInts b)) (0 * 1 + ((i : Int)).toNat * 1) 1 = some [AV.v (Value.int IntKind.u8 (bAt b i))] := by simpa using hld
                        have hbl := bitsTo_len w b i
                        have hol1 := or_low w (w * 256) (i * 8) 8 (by simp) (by omega) (by simp; omega) (by omega)
                        repeat' ((conv => whnf); first | (with_reducible first | refine TR.seq ?_ | refine TR.regionL ?_ | refine TR.drawn (TTok _ _) mixed ?_ | refine TR.block ?_ | refine TR.ret ?_ | refine TR.exit ?_ | refine TR.skip ?_ | refine TR.condB rfl ?_ | refine TRL.nil ?_ | refine Br.cond_t ?_ | refine Br.cond_f ?_ | refine Br.yes (by first | decide | assumption | (apply decide_eq_true; omega)) ?_ | refine Br.non (by first | decide | assumption | (apply decide_eq_false; omega)) ?_ | refine Br.cond_ff ?_ | refine Br.eqT (by omega) ?_ | refine Br.eqF (by omega) ?_ | refine Br.neT (by omega) ?_ | refine Br.neF (by omega) ?_ | refine Ld.mk' _ rfl ?_ | refine Need.mk (by first | decide | omega | kernel_rfl) ?_ | refine Nm.i64 (by omega) ?_ | refine Nm.u64 (by omega) ?_ | refine Nm.u8 (by omega) ?_ | refine Nm.keep ?_ | refine Need.mk (by dsimp only; omega) ?_) | refine Ld.mk' _ hld2 ?_ | refine TRL.step (TTok _ _) ?_ | (refine x_exq (TTok _ _) ?_; (conv => whnf); fail_if_success (guard_target =ₛ False)))
                        refine TR.loopH (fun x : Nat × Nat => [(3, .sl 1 x.2 0 (out ++ bitsTo w b i ++ bitsAt w (bAt b i) i x.1).length), (53, .v (.int .i64 x.1))]) (fun x => [(1, ⟨.row, 3, 1, x.2, its (out ++ bitsTo w b i ++ bitsAt w (bAt b i) i x.1)⟩)]) (fun x => x.1 ≤ 8) (fun x => 8 - x.1) (0, v1) (Nat.zero_le _) ?_ ?_
                        · repeat' ((conv => whnf); first | exact trivial | exact Fgt.nil | exact Fgt.mk rfl rfl rfl | exact Fgt.mk rfl (by simp only [noRefC, nr_app, nr_map, nr_its, nr_byt', noRefL, noRef, Bool.and_self]) rfl | refine And.intro rfl ?_ | refine And.intro ?_ ?_)
                          all_goals simp [bitsAt]
                        · rintro ⟨k, v2⟩ hk
                          dsimp only at hk ⊢
                          have hal := bitsAt_len w (bAt b i) i k
                          by_cases hk8 : k < 8
                          · have hk7 : (7 - (k : Int)).toNat = 7 - k := by omega
                            have hdv : 0 ≤ bAt b i / 2 ^ (7 - (k : Int)).toNat ∧ bAt b i / 2 ^ (7 - (k : Int)).toNat ≤ 255 := by
                              have hp : (0 : Int) < 2 ^ (7 - (k : Int)).toNat := Int.pow_pos (by decide)
                              refine ⟨Int.ediv_nonneg (by omega) (Int.le_of_lt hp), Int.le_trans (Int.ediv_le_self _ (by omega)) (by omega)⟩
                            have hand := and1_u8 _ hdv
                            have hol2 := or_low (w * 32 + i) (w * 256 + i * 8) k 3 (by simp; omega) (by omega) (by simp; omega) (by omega)
                            have hlen1 : (out ++ bitsTo w b i ++ bitsAt w (bAt b i) i k).length + 1 ≤ 34359738380 := by simp only [List.length_append]; omega
                            repeat' ((conv => whnf); first | (with_reducible first | refine TR.seq ?_ | refine TR.regionL ?_ | refine TR.drawn (TTok _ _) mixed ?_ | refine TR.block ?_ | refine TR.ret ?_ | refine TR.exit ?_ | refine TR.skip ?_ | refine TR.condB rfl ?_ | refine TRL.nil ?_ | refine Br.cond_t ?_ | refine Br.cond_f ?_ | refine Br.yes (by first | decide | assumption | (apply decide_eq_true; omega)) ?_ | refine Br.non (by first | decide | assumption | (apply decide_eq_false; omega)) ?_ | refine Br.cond_ff ?_ | refine Br.eqT (by omega) ?_ | refine Br.eqF (by omega) ?_ | refine Br.neT (by omega) ?_ | refine Br.neF (by omega) ?_ | refine Sh.shr8 (by omega) ?_ | refine Nm.mk' _ hand ?_ | refine Nm.mk' _ hol1 ?_ | refine Nm.mk' _ hol2 ?_ | refine Ld.mk' _ rfl ?_ | refine Need.mk (by first | decide | omega | kernel_rfl) ?_ | refine Nm.i64 (by omega) ?_ | refine Nm.u64 (by omega) ?_ | refine Nm.u8 (by omega) ?_) | refine Sh.shrL ?_ | refine Sh.shlL ?_ | refine Nm.fd (by decide) ?_ | refine Br.eq (fun hc => ?_) (fun hc => ?_) | refine x_app (TTok _ _) (c := 1) 8 rfl rfl rfl rfl rfl rfl rfl rfl rfl rfl (Nat.zero_lt_succ 0) rfl rfl rfl rfl rfl rfl rfl rfl rfl (by simp [its]) (by unfold maxLen; omega) (by omega) ?_ | refine Nm.keep ?_ | refine Need.mk (by dsimp only; omega) ?_ | refine TRL.step (TTok _ _) ?_ | (refine x_exq (TTok _ _) ?_; (conv => whnf); fail_if_success (guard_target =ₛ False)))
                            all_goals (conv => whnf)
                            · refine ⟨(k + 1, v2 + 1), by dsimp only; omega, by dsimp only; omega, ?_⟩
                              repeat' ((conv => whnf); first | exact trivial | exact Fgt.nil | exact Fgt.mk rfl rfl rfl | exact Fgt.mk rfl (by simp only [noRefC, nr_app, nr_map, nr_its, nr_byt', noRefL, noRef, Bool.and_self]) rfl | refine And.intro rfl ?_ | refine And.intro ?_ ?_)
                              all_goals (rw [hk7] at hc)
                              · have e : (out ++ bitsTo w b i ++ bitsAt w (bAt b i) i (k + 1)).length = (out ++ bitsTo w b i ++ bitsAt w (bAt b i) i k).length + 1 := by simp [bitsAt, hc] <;> omega
                                rw [e]
                              · have e : out ++ bitsTo w b i ++ bitsAt w (bAt b i) i (k + 1) = (out ++ bitsTo w b i ++ bitsAt w (bAt b i) i k) ++ [256 * w + 8 * i + k] := by simp [bitsAt, hc]
                                have e2 : 256 * w + 8 * (i : Int) + k = w * 256 + i * 8 + k := by omega
                                have e3 : its (out ++ bitsTo w b i ++ bitsAt w (bAt b i) i (k + 1)) = its (out ++ bitsTo w b i ++ bitsAt w (bAt b i) i k) ++ [.v (.int .i64 (w * 256 + i * 8 + k))] := by rw [e, its_app, its_one, e2]
                                exact congrArg (fun z => Chunk.mk .row 3 1 (v2 + 1) z) e3.symm
                            · refine ⟨(k + 1, v2), by dsimp only; omega, by dsimp only; omega, ?_⟩
                              repeat' ((conv => whnf); first | exact trivial | exact Fgt.nil | exact Fgt.mk rfl rfl rfl | exact Fgt.mk rfl (by simp only [noRefC, nr_app, nr_map, nr_its, nr_byt', noRefL, noRef, Bool.and_self]) rfl | refine And.intro rfl ?_ | refine And.intro ?_ ?_)
                              all_goals (rw [hk7] at hc; have e : bitsAt w (bAt b i) i (k + 1) = bitsAt w (bAt b i) i k := by simp [bitsAt, hc])
                              all_goals rw [e]
                          · obtain rfl : k = 8 := by omega
                            repeat' ((conv => whnf); first | (with_reducible first | refine TR.seq ?_ | refine TR.regionL ?_ | refine TR.drawn (TTok _ _) mixed ?_ | refine TR.block ?_ | refine TR.ret ?_ | refine TR.exit ?_ | refine TR.skip ?_ | refine TR.condB rfl ?_ | refine TRL.nil ?_ | refine Br.cond_t ?_ | refine Br.cond_f ?_ | refine Br.yes (by first | decide | assumption | (apply decide_eq_true; omega)) ?_ | refine Br.non (by first | decide | assumption | (apply decide_eq_false; omega)) ?_ | refine Br.cond_ff ?_ | refine Br.eqT (by omega) ?_ | refine Br.eqF (by omega) ?_ | refine Br.neT (by omega) ?_ | refine Br.neF (by omega) ?_ | refine Ld.mk' _ rfl ?_ | refine Need.mk (by first | decide | omega | kernel_rfl) ?_ | refine Nm.i64 (by omega) ?_ | refine Nm.u64 (by omega) ?_ | refine Nm.u8 (by omega) ?_ | refine Nm.keep ?_ | refine Need.mk (by dsimp only; omega) ?_) | refine TRL.step (TTok _ _) ?_ | (refine x_exq (TTok _ _) ?_; (conv => whnf); fail_if_success (guard_target =ₛ False)))
                            all_goals (conv => whnf)
                            refine ⟨(i + 1, v2), by dsimp only; omega, by dsimp only; omega, ?_⟩
                            repeat' ((conv => whnf); first | exact trivial | exact Fgt.nil | exact Fgt.mk rfl rfl rfl | exact Fgt.mk rfl (by simp only [noRefC, nr_app, nr_map, nr_its, nr_byt', noRefL, noRef, Bool.and_self]) rfl | refine And.intro rfl ?_ | refine And.intro ?_ ?_)
                            all_goals (have e : out ++ bitsTo w b (i + 1) = out ++ bitsTo w b i ++ bitsAt w (bAt b i) i 8 := by simp [bitsTo])
                            all_goals rw [e]
                      · obtain rfl : i = b.size := by omega
                        repeat' ((conv => whnf); first | (with_reducible first | refine TR.seq ?_ | refine TR.regionL ?_ | refine TR.drawn (TTok _ _) mixed ?_ | refine TR.block ?_ | refine TR.ret ?_ | refine TR.exit ?_ | refine TR.skip ?_ | refine TR.condB rfl ?_ | refine TRL.nil ?_ | refine Br.cond_t ?_ | refine Br.cond_f ?_ | refine Br.yes (by first | decide | assumption | (apply decide_eq_true; omega)) ?_ | refine Br.non (by first | decide | assumption | (apply decide_eq_false; omega)) ?_ | refine Br.cond_ff ?_ | refine Br.eqT (by omega) ?_ | refine Br.eqF (by omega) ?_ | refine Br.neT (by omega) ?_ | refine Br.neF (by omega) ?_ | refine Ld.mk' _ rfl ?_ | refine Need.mk (by first | decide | omega | kernel_rfl) ?_ | refine Nm.i64 (by omega) ?_ | refine Nm.u64 (by omega) ?_ | refine Nm.u8 (by omega) ?_ | refine Nm.keep ?_ | refine Need.mk (by dsimp only; omega) ?_) | refine TRL.step (TTok _ _) ?_ | (refine x_exq (TTok _ _) ?_; (conv => whnf); fail_if_success (guard_target =ₛ False)))
                        all_goals (conv => whnf)
                        refine ⟨(f - 1, s4, w, out ++ bitsTo w b b.size, v1), ?_, by dsimp only; omega, ?_⟩
                        · have := bitsTo_len w b b.size
                          refine ⟨?_, by dsimp only; omega, by simp only [List.length_append]; omega, by dsimp only; omega, by dsimp only; omega⟩
                          rw [hS, show f - 1 + 1 = f by omega]
                        · repeat' ((conv => whnf); first | exact trivial | exact Fgt.nil | exact Fgt.mk rfl rfl rfl | exact Fgt.mk rfl (by simp only [noRefC, nr_app, nr_map, nr_its, nr_byt', noRefL, noRef, Bool.and_self]) rfl | refine And.intro rfl ?_ | refine And.intro ?_ ?_)
                · have hN : T = none := by rw [hT1]; simp [tyStep, g1, g2, g3, c3]
                  have hb3 : decide ((b.size : Int) ≤ 32) = false := decide_eq_false (by omega)
                  repeat' ((conv => whnf); first | (with_reducible first | refine TR.seq ?_ | refine TR.regionL ?_ | refine TR.drawn (TTok _ _) mixed ?_ | refine TR.block ?_ | refine TR.ret ?_ | refine TR.exit ?_ | refine TR.skip ?_ | refine TR.condB rfl ?_ | refine TRL.nil ?_ | refine Br.cond_t ?_ | refine Br.cond_f ?_ | refine Br.yes (by first | decide | assumption | (apply decide_eq_true; omega)) ?_ | refine Br.non (by first | decide | assumption | (apply decide_eq_false; omega)) ?_ | refine Br.cond_ff ?_ | refine Br.eqT (by omega) ?_ | refine Br.eqF (by omega) ?_ | refine Br.neT (by omega) ?_ | refine Br.neF (by omega) ?_ | refine Ld.mk' _ rfl ?_ | refine Need.mk (by first | decide | omega | kernel_rfl) ?_ | refine Nm.i64 (by omega) ?_ | refine Nm.u64 (by omega) ?_ | refine Nm.u8 (by omega) ?_ | refine Nm.keep ?_ | refine Need.mk (by dsimp only; omega) ?_) | refine Br.yes hbe ?_ | refine TRL.met rfl rfl rfl rfl rfl rfl rfl rfl rfl (number_met _ 1 (by omega) (by omega)) ?_ | (refine optK.some g1 ?_; dsimp only) | (refine optK.some g2 ?_; dsimp only) | refine TRL.met rfl rfl rfl rfl rfl rfl rfl rfl rfl (bytes_metI _ n n.toNat (by omega) (by omega)) ?_ | (refine optK.some g3 ?_; dsimp only) | refine TRL.met rfl rfl rfl rfl rfl rfl rfl rfl rfl (must_met _ _) ?_ | refine optK.none rfl ?_ | refine TRL.step (TTok _ _) ?_ | (refine x_exq (TTok _ _) ?_; (conv => whnf); fail_if_success (guard_target =ₛ False)))
                  all_goals (conv => whnf)
                  all_goals exact ⟨hN, rfl⟩
              · have hN : T = none := by rw [hT1]; simp [tyStep, g1, g2, g3, c2]
                repeat' ((conv => whnf); first | (with_reducible first | refine TR.seq ?_ | refine TR.regionL ?_ | refine TR.drawn (TTok _ _) mixed ?_ | refine TR.block ?_ | refine TR.ret ?_ | refine TR.exit ?_ | refine TR.skip ?_ | refine TR.condB rfl ?_ | refine TRL.nil ?_ | refine Br.cond_t ?_ | refine Br.cond_f ?_ | refine Br.yes (by first | decide | assumption | (apply decide_eq_true; omega)) ?_ | refine Br.non (by first | decide | assumption | (apply decide_eq_false; omega)) ?_ | refine Br.cond_ff ?_ | refine Br.eqT (by omega) ?_ | refine Br.eqF (by omega) ?_ | refine Br.neT (by omega) ?_ | refine Br.neF (by omega) ?_ | refine Ld.mk' _ rfl ?_ | refine Need.mk (by first | decide | omega | kernel_rfl) ?_ | refine Nm.i64 (by omega) ?_ | refine Nm.u64 (by omega) ?_ | refine Nm.u8 (by omega) ?_ | refine Nm.keep ?_ | refine Need.mk (by dsimp only; omega) ?_) | refine Br.yes hbe ?_ | refine TRL.met rfl rfl rfl rfl rfl rfl rfl rfl rfl (number_met _ 1 (by omega) (by omega)) ?_ | (refine optK.some g1 ?_; dsimp only) | (refine optK.some g2 ?_; dsimp only) | refine TRL.met rfl rfl rfl rfl rfl rfl rfl rfl rfl (bytes_metI _ n n.toNat (by omega) (by omega)) ?_ | (refine optK.some g3 ?_; dsimp only) | refine TRL.met rfl rfl rfl rfl rfl rfl rfl rfl rfl (must_met _ _) ?_ | refine optK.none rfl ?_ | refine TRL.step (TTok _ _) ?_ | (refine x_exq (TTok _ _) ?_; (conv => whnf); fail_if_success (guard_target =ₛ False)))
                all_goals (conv => whnf)
                all_goals exact ⟨hN, rfl⟩
            · have hN : T = none := by rw [hT1]; simp [tyStep, g1, g2, g3, c1]
              repeat' ((conv => whnf); first | (with_reducible first | refine TR.seq ?_ | refine TR.regionL ?_ | refine TR.drawn (TTok _ _) mixed ?_ | refine TR.block ?_ | refine TR.ret ?_ | refine TR.exit ?_ | refine TR.skip ?_ | refine TR.condB rfl ?_ | refine TRL.nil ?_ | refine Br.cond_t ?_ | refine Br.cond_f ?_ | refine Br.yes (by first | decide | assumption | (apply decide_eq_true; omega)) ?_ | refine Br.non (by first | decide | assumption | (apply decide_eq_false; omega)) ?_ | refine Br.cond_ff ?_ | refine Br.eqT (by omega) ?_ | refine Br.eqF (by omega) ?_ | refine Br.neT (by omega) ?_ | refine Br.neF (by omega) ?_ | refine Ld.mk' _ rfl ?_ | refine Need.mk (by first | decide | omega | kernel_rfl) ?_ | refine Nm.i64 (by omega) ?_ | refine Nm.u64 (by omega) ?_ | refine Nm.u8 (by omega) ?_ | refine Nm.keep ?_ | refine Need.mk (by dsimp only; omega) ?_) | refine Br.yes hbe ?_ | refine TRL.met rfl rfl rfl rfl rfl rfl rfl rfl rfl (number_met _ 1 (by omega) (by omega)) ?_ | (refine optK.some g1 ?_; dsimp only) | (refine optK.some g2 ?_; dsimp only) | refine TRL.met rfl rfl rfl rfl rfl rfl rfl rfl rfl (bytes_metI _ n n.toNat (by omega) (by omega)) ?_ | (refine optK.some g3 ?_; dsimp only) | refine TRL.met rfl rfl rfl rfl rfl rfl rfl rfl rfl (must_met _ _) ?_ | refine optK.none rfl ?_ | refine TRL.step (TTok _ _) ?_ | (refine x_exq (TTok _ _) ?_; (conv => whnf); fail_if_success (guard_target =ₛ False)))
              all_goals (conv => whnf)
              all_goals exact ⟨hN, rfl⟩
end Go.Proofs.YtbladfkakmdigaaGreatDoor
set_option maxRecDepth 100000
set_option linter.unusedVariables false
set_option linter.unusedSimpArgs false
namespace Go.SX
theorem optAll {α : Type} {P : Option α → Prop} (h0 : P none) (h1 : ∀ q, P (some q)) : ∀ p, P p
  | none => h0
  | some q => h1 q
theorem TRL.conP {X : Ctx} {all rest : List Oper} {i : Nat} {o : Oper} {st : St} {K : Exit → St → Prop} {f : FuncId} {cal : Operand} {xs : List Operand} {ts : Array TypeId} {cap : List AV} {A : (Nat → Nat) → List AV} {H : (Nat → Nat) → List (Option Chunk)} {α : Type} {Q : α → Prop} {R : α → (Nat → Nat) → AV} {C : α → (Nat → Nat) → List (Option Chunk)} {N : Prop} {c0 : List PanicEntry} (σ σ1 : List Nat)
    (hcon : Con X.P X.I f A H Q R C (fun ch => N ∧ ch = c0)) (ho : o.op = .call { callee := .value cal, args := xs.toArray, argTypes := ts }) (hg : o.guard = none) (hcal : calleeA (evA st.fr cal) = some (f, cap)) (hargs : xs.map (evA st.fr) ++ cap = A (getN σ)) (hm : atC' st.ch σ (H (getN σ))) (hnd : nodupN σ1 = true) (hpre : (preN (H id).length σ σ1 && Nat.beq (H id).length σ.length && nodupN σ) = true)
    (h : ∀ p, Q p → newS st.ch (H id) σ1 (C p (getN σ1)) ∧ appK ⟨[], [], o.dst, R p (getN σ1), ownS σ1 (C p (getN σ1))⟩ st fun st' => TRL X all (i + 1) rest K st') (hb : N → K (.panic c0) ⟨st.fr, goneS st.ch σ (H (getN σ))⟩) : TRL X all i (o :: rest) K st :=
  TRL.con σ σ1 hcon ho hg hcal hargs hm hnd hpre h fun ch ⟨h1, h2⟩ => by rw [h2]; exact hb h1
end Go.SX
namespace Go.Proofs.YtbladfkakmdigaaGreatDoor
open Go.SX
noncomputable def nsO (s0 : ByteArray) : Option (ByteArray × List Int) := (nameO s0).bind fun (x0, s1) => (typesO (s1.size + 1) s1 (-1) []).bind fun l => some (x0, l)
def nsA (v : Nat) (q : ByteArray × List Int) (c : Nat) : AV := .agg [.v (.string q.1), .sl c v 0 q.2.length]
set_option maxHeartbeats 8000000 in
theorem ns_clo (s : ByteArray) (hs : s.size < 4294967281) : Con Tryz.prog (fun _ => True) 83 (fun n => [.ref (n 0) 0 0]) (fun _ => [some ⟨.own, 192, 1, 0, [.v (.string s)]⟩]) (fun p : Nat × ByteArray × List Int => nsO s = some p.2) (fun p n => nsA p.1 p.2 (n 1)) (fun p _ => [some ⟨.own, 192, 1, 0, [.v (.string ⟨#[]⟩)]⟩, some ⟨.row, 3, 1, p.1, its p.2.2⟩]) (fun ch => nsO s = none ∧ ch = stopC) := by
  refine Con.of (TTok _ _) Tryz.func83 (by kernel_rfl) rfl rfl rfl (fun σ => rfl) (fun σ => rfl) (fun _ _ _ => rfl) (fun p σ _ => by simp [mapR, renK, renL, renA, renL_its]) (fun p _ => CEnd.of rfl rfl (by simp [refsInC, refsInL, refsIn, hasO, refsInL_its])) ?_
  repeat' ((conv => whnf); first | (with_reducible first | refine TR.seq ?_ | refine TR.regionL ?_ | refine TR.drawn (TTok _ _) mixed ?_ | refine TR.block ?_ | refine TR.ret ?_ | refine TR.exit ?_ | refine TR.skip ?_ | refine TR.condB rfl ?_ | refine TRL.nil ?_ | refine Br.cond_t ?_ | refine Br.cond_f ?_ | refine Br.yes (by first | decide | assumption | (apply decide_eq_true; omega)) ?_ | refine Br.non (by first | decide | assumption | (apply decide_eq_false; omega)) ?_ | refine Br.cond_ff ?_ | refine Br.eqT (by omega) ?_ | refine Br.eqF (by omega) ?_ | refine Br.neT (by omega) ?_ | refine Br.neF (by omega) ?_ | refine Ld.mk' _ rfl ?_ | refine Need.mk (by first | decide | omega | kernel_rfl) ?_ | refine Nm.i64 (by omega) ?_ | refine Nm.u64 (by omega) ?_ | refine Nm.u8 (by omega) ?_ | refine Nm.keep ?_ | refine Need.mk (by dsimp only; omega) ?_) | refine TRL.met rfl rfl rfl rfl rfl rfl rfl rfl rfl (name_met _ (by omega)) ?_ | refine TRL.met rfl rfl rfl rfl rfl rfl rfl rfl rfl (number_met _ 1 (by omega) (by omega)) ?_ | refine TRL.met rfl rfl rfl rfl rfl rfl rfl rfl rfl (number_met _ 2 (by omega) (by omega)) ?_ | refine TRL.met rfl rfl rfl rfl rfl rfl rfl rfl rfl (bytes_metI _ x x.toNat (by omega) (by omega)) ?_ | refine TRL.met rfl rfl rfl rfl rfl rfl rfl rfl rfl (must_met _ _) ?_ | (refine optK.mk (fun ⟨x, y⟩ hc => ?_) (fun hc => ?_) <;> (try dsimp only) <;> (try have hz := nameO_size hc) <;> (try have hr := num1_range hc) <;> (try have hz := numO_size hc) <;> (try have hz := tkO_size hc)) | (refine optK.mk (fun _ hc => ?_) (fun hc => ?_) <;> (try dsimp only)) | (refine TRL.conP [0] [0, 1] (types_con _ (by omega)) rfl rfl rfl rfl ⟨rfl, trivial⟩ rfl rfl (fun ⟨v, l⟩ ht => ⟨⟨rfl, trivial⟩, ?_⟩) (fun hb => ?_) <;> (try dsimp only at ht) <;> (try dsimp only)) | refine TRL.step (TTok _ _) ?_ | (refine x_exq (TTok _ _) ?_; (conv => whnf); fail_if_success (guard_target =ₛ False)))
  all_goals (conv => whnf)
  all_goals first | (refine ⟨?_, rfl⟩; simp only [nsO, *, Option.bind_some, Option.bind_none]; done) | exact ⟨(v, _, l), by (simp only [nsO, *, Option.bind_some] <;> rfl), rfl, rfl, rfl, trivial⟩ | exact ⟨(v, (_, l)), by (simp only [nsO, *, Option.bind_some] <;> rfl), rfl, rfl, rfl, trivial⟩ | skip
  all_goals trace_state
noncomputable def nsW (d : ByteArray) : Option (ByteArray × List Int) := if d.size ≤ 2000 then nsO d else none
def nsR (e0 e1 : Value) : Option (Nat × ByteArray × List Int) → (Nat → Nat) → AV
  | some p, n => .tup [nsA p.1 p.2 (n 0), .v e0]
  | none, _ => .tup [.agg [.v (.string ⟨#[]⟩), .v (.slice none 0 0)], .v e1]
def nsC : Option (Nat × ByteArray × List Int) → (Nat → Nat) → List (Option Chunk)
  | some p, _ => [some ⟨.row, 3, 1, p.1, its p.2.2⟩]
  | none, _ => []
def nsQ (d : ByteArray) : Option (Nat × ByteArray × List Int) → Prop
  | some p => nsW d = some p.2
  | none => nsW d = none
theorem nsR_nat (e0 e1 : Value) (p : Option (Nat × ByteArray × List Int)) (σ : List Nat) : renA σ (nsR e0 e1 p id) = nsR e0 e1 p (getN σ) := by cases p <;> rfl
theorem nsC_nat (p : Option (Nat × ByteArray × List Int)) (σ : List Nat) : mapR σ (nsC p id) = nsC p (getN σ) := by cases p <;> simp [nsC, mapR, renK, renL_its]
theorem ns_fin (e0 e1 : Value) (p : Option (Nat × ByteArray × List Int)) : CEnd [] (nsC p id) (nsR e0 e1 p id) := by
  cases p with
  | none => exact CEnd.of rfl rfl rfl
  | some p => exact CEnd.of rfl rfl (by simp [nsC, refsInC, refsInL_its])
set_option maxHeartbeats 8000000 in
theorem ns_take (d : ByteArray) (hs : d.size < 4294967281) : Con Tryz.prog (fun _ => True) 82 (fun _ => [Value.string d, .func (.func 83) #[] #[]].map .v) (fun _ => []) (nsQ d) (nsR (.int .i64 0) (.int .i64 6)) nsC (fun _ => False) := by
  refine Con.of_calls ⟨Tryz.f82, Tryz.func82, by kernel_rfl, by kernel_rfl⟩ (fun p σ _ => nsR_nat _ _ p σ) (fun p σ _ => nsC_nat p σ) (fun p _ => ns_fin _ _ p) (fun w _ => ?_)
  refine calls_catch2 (P := Tryz.prog) (T := TT) (I := fun _ => True) (g := 176) (d0 := 6) (d1 := 2) (pv := .iface 189 (.agg #[])) (R := fun av s => ∃ p, nsQ d p ∧ av = nsR (.int .i64 0) (.int .i64 6) p id ∧ subC (nsC p id) s.ch) (fun _ _ => trivial) (TTok 0 _) Tryz.func82 (by kernel_rfl) rfl rfl rfl rfl rfl ?_ Tryz.func176 rfl rfl rfl rfl rfl rfl rfl (by decide) rfl rfl ?_
  · refine quiet_take (P := Tryz.prog) (T := TT) (TTok 0 _) Tryz.func176 (by kernel_rfl) rfl rfl rfl rfl rfl rfl rfl (by decide) rfl ?_
    repeat' ((conv => whnf); first | (with_reducible first | refine TR.seq ?_ | refine TR.regionL ?_ | refine TR.drawn (TTok _ _) mixed ?_ | refine TR.block ?_ | refine TR.ret ?_ | refine TR.exit ?_ | refine TR.skip ?_ | refine TR.condB rfl ?_ | refine TRL.nil ?_ | refine Br.cond_t ?_ | refine Br.cond_f ?_ | refine Br.yes (by first | decide | assumption | (apply decide_eq_true; omega)) ?_ | refine Br.non (by first | decide | assumption | (apply decide_eq_false; omega)) ?_ | refine Br.cond_ff ?_ | refine Br.eqT (by omega) ?_ | refine Br.eqF (by omega) ?_ | refine Br.neT (by omega) ?_ | refine Br.neF (by omega) ?_ | refine Nm.keep ?_ | refine Need.mk (by dsimp only; omega) ?_ | refine Ld.mk' _ rfl ?_ | refine Need.mk (by first | decide | omega | kernel_rfl) ?_ | refine Nm.i64 (by omega) ?_ | refine Nm.u64 (by omega) ?_ | refine Nm.u8 (by omega) ?_) | refine TRL.step (TTok _ _) ?_ | (refine x_exq (TTok _ _) ?_; (conv => whnf); fail_if_success (guard_target =ₛ False)))
    all_goals rfl
  · by_cases h0 : d.size ≤ 2000
    · have hb0 : decide ((d.size : Int) ≤ 2000) = true := decide_eq_true (by omega)
      have hW : nsW d = nsO d := by unfold nsW; rw [if_pos h0]
      repeat' ((conv => whnf); first | refine And.intro rfl ?_ | (with_reducible first | refine TR.seq ?_ | refine TR.regionL ?_ | refine TR.drawn (TTok _ _) mixed ?_ | refine TR.block ?_ | refine TR.ret ?_ | refine TR.exit ?_ | refine TR.skip ?_ | refine TR.condB rfl ?_ | refine TRL.nil ?_ | refine Br.cond_t ?_ | refine Br.cond_f ?_ | refine Br.yes (by first | decide | assumption | (apply decide_eq_true; omega)) ?_ | refine Br.non (by first | decide | assumption | (apply decide_eq_false; omega)) ?_ | refine Br.cond_ff ?_ | refine Br.eqT (by omega) ?_ | refine Br.eqF (by omega) ?_ | refine Br.neT (by omega) ?_ | refine Br.neF (by omega) ?_ | refine Nm.keep ?_ | refine Need.mk (by dsimp only; omega) ?_ | refine Ld.mk' _ rfl ?_ | refine Need.mk (by first | decide | omega | kernel_rfl) ?_ | refine Nm.i64 (by omega) ?_ | refine Nm.u64 (by omega) ?_ | refine Nm.u8 (by omega) ?_) | refine TRL.act rfl (x_store0 (TTok _ _) rfl rfl rfl rfl rfl rfl ?_) | refine x_assert (TTok _ _) rfl rfl rfl ⟨by simp, by simp⟩ ?_ | refine TRL.met rfl rfl rfl rfl rfl rfl rfl rfl rfl (must_met _ _) ?_ | (refine TRL.conP [10] [10, 0] (ns_clo d hs) rfl rfl rfl rfl ⟨rfl, trivial⟩ rfl rfl (fun ⟨v, x0, l⟩ hq => ⟨⟨rfl, trivial⟩, ?_⟩) (fun hb => ?_) <;> (try dsimp only at hq) <;> (try dsimp only [nsA])) | refine optK.none (by rw [hb0]; rfl) ?_ | (refine optK.some (p := ()) (by rw [hb0]; rfl) ?_; dsimp only) | (refine optK.some (p := ()) (by simp) ?_; dsimp only) | (refine TRL.step (TTok _ _) ?_; (conv => whnf); fail_if_success (guard_target =ₛ False)) | refine TRL.stepQ (TTok _ _) ?_ | (refine x_exq (TTok _ _) ?_; (conv => whnf); fail_if_success (guard_target =ₛ False)))
      all_goals (conv => whnf)
      all_goals first | exact ⟨some (v, x0, l), hW.trans hq, rfl, rfl, trivial⟩ | exact ⟨none, hW.trans hb, rfl, trivial⟩
    · have hb0 : decide ((d.size : Int) ≤ 2000) = false := decide_eq_false (by omega)
      have hW : nsW d = none := by unfold nsW; rw [if_neg h0]
      repeat' ((conv => whnf); first | refine And.intro rfl ?_ | (with_reducible first | refine TR.seq ?_ | refine TR.regionL ?_ | refine TR.drawn (TTok _ _) mixed ?_ | refine TR.block ?_ | refine TR.ret ?_ | refine TR.exit ?_ | refine TR.skip ?_ | refine TR.condB rfl ?_ | refine TRL.nil ?_ | refine Br.cond_t ?_ | refine Br.cond_f ?_ | refine Br.yes (by first | decide | assumption | (apply decide_eq_true; omega)) ?_ | refine Br.non (by first | decide | assumption | (apply decide_eq_false; omega)) ?_ | refine Br.cond_ff ?_ | refine Br.eqT (by omega) ?_ | refine Br.eqF (by omega) ?_ | refine Br.neT (by omega) ?_ | refine Br.neF (by omega) ?_ | refine Nm.keep ?_ | refine Need.mk (by dsimp only; omega) ?_ | refine Ld.mk' _ rfl ?_ | refine Need.mk (by first | decide | omega | kernel_rfl) ?_ | refine Nm.i64 (by omega) ?_ | refine Nm.u64 (by omega) ?_ | refine Nm.u8 (by omega) ?_) | refine TRL.act rfl (x_store0 (TTok _ _) rfl rfl rfl rfl rfl rfl ?_) | refine x_assert (TTok _ _) rfl rfl rfl ⟨by simp, by simp⟩ ?_ | refine TRL.met rfl rfl rfl rfl rfl rfl rfl rfl rfl (must_met _ _) ?_ | (refine TRL.conP [10] [10, 0] (ns_clo d hs) rfl rfl rfl rfl ⟨rfl, trivial⟩ rfl rfl (fun ⟨v, x0, l⟩ hq => ⟨⟨rfl, trivial⟩, ?_⟩) (fun hb => ?_) <;> (try dsimp only at hq) <;> (try dsimp only [nsA])) | refine optK.none (by rw [hb0]; rfl) ?_ | (refine optK.some (p := ()) (by rw [hb0]; rfl) ?_; dsimp only) | (refine optK.some (p := ()) (by simp) ?_; dsimp only) | (refine TRL.step (TTok _ _) ?_; (conv => whnf); fail_if_success (guard_target =ₛ False)) | refine TRL.stepQ (TTok _ _) ?_ | (refine x_exq (TTok _ _) ?_; (conv => whnf); fail_if_success (guard_target =ₛ False)))
      all_goals (conv => whnf)
      all_goals exact ⟨none, hW, rfl, trivial⟩
theorem ns_top (d : ByteArray) (hs : d.size < 4294967281) : Con Tryz.prog (fun _ => True) 29 (fun _ => [Value.string d].map .v) (fun _ => []) (nsQ d) (nsR (.int .i64 0) (.int .i64 6)) nsC (fun _ => False) := by
  refine Con.of (TTok _ _) Tryz.func29 (by kernel_rfl) rfl rfl rfl (fun σ => rfl) (fun σ => rfl) (fun p σ _ => nsR_nat _ _ p σ) (fun p σ _ => nsC_nat p σ) (fun p _ => ns_fin _ _ p) ?_
  repeat' ((conv => whnf); first | (with_reducible first | refine TR.seq ?_ | refine TR.regionL ?_ | refine TR.drawn (TTok _ _) mixed ?_ | refine TR.block ?_ | refine TR.ret ?_ | refine TR.exit ?_ | refine TR.skip ?_ | refine TR.condB rfl ?_ | refine TRL.nil ?_ | refine Br.cond_t ?_ | refine Br.cond_f ?_ | refine Br.yes (by first | decide | assumption | (apply decide_eq_true; omega)) ?_ | refine Br.non (by first | decide | assumption | (apply decide_eq_false; omega)) ?_ | refine Br.cond_ff ?_ | refine Br.eqT (by omega) ?_ | refine Br.eqF (by omega) ?_ | refine Br.neT (by omega) ?_ | refine Br.neF (by omega) ?_ | refine Nm.keep ?_ | refine Need.mk (by dsimp only; omega) ?_ | refine Ld.mk' _ rfl ?_ | refine Need.mk (by first | decide | omega | kernel_rfl) ?_ | refine Nm.i64 (by omega) ?_ | refine Nm.u64 (by omega) ?_ | refine Nm.u8 (by omega) ?_) | (refine TRL.con [] [0] (ns_take d hs) rfl rfl rfl rfl trivial rfl rfl (optAll (fun hq => ⟨trivial, ?_⟩) (fun ⟨v, x0, l⟩ hq => ⟨⟨rfl, trivial⟩, ?_⟩)) (fun _ h => h.elim)) | refine TRL.step (TTok _ _) ?_ | (refine x_exq (TTok _ _) ?_; (conv => whnf); fail_if_success (guard_target =ₛ False)))
  all_goals (conv => whnf)
  · exact ⟨none, hq, rfl, trivial⟩
  · exact ⟨some (v, x0, l), hq, rfl, rfl, trivial⟩
noncomputable def n3O (s0 : ByteArray) : Option (Int × Int × Int × ByteArray × ByteArray × List Int) := (numO 1 s0).bind fun (x0, s1) => (numO 1 s1).bind fun (x1, s2) => (numO 2 s2).bind fun (x2, s3) => (numO 1 s3).bind fun (n3, s4) => (tkO n3.toNat s4).bind fun (x3, s5) => (numO 1 s5).bind fun (n4, s6) => (tkO n4.toNat s6).bind fun (x4, s7) => (cond (!decide (x4 = ⟨#[]⟩)) (some ()) none).bind fun _ => (typesO (s7.size + 1) s7 (-1) []).bind fun l => some (x0, x1, x2, x3, x4, l)
def n3A (v : Nat) (q : Int × Int × Int × ByteArray × ByteArray × List Int) (c : Nat) : AV := .agg [.v (.int .i64 q.1), .v (.int .i64 q.2.1), .v (.int .i64 q.2.2.1), .v (.string q.2.2.2.1), .v (.string q.2.2.2.2.1), .sl c v 0 q.2.2.2.2.2.length]
set_option maxHeartbeats 8000000 in
theorem n3_clo (s : ByteArray) (hs : s.size < 4294967281) : Con Tryz.prog (fun _ => True) 87 (fun n => [.ref (n 0) 0 0]) (fun _ => [some ⟨.own, 192, 1, 0, [.v (.string s)]⟩]) (fun p : Nat × Int × Int × Int × ByteArray × ByteArray × List Int => n3O s = some p.2) (fun p n => n3A p.1 p.2 (n 1)) (fun p _ => [some ⟨.own, 192, 1, 0, [.v (.string ⟨#[]⟩)]⟩, some ⟨.row, 3, 1, p.1, its p.2.2.2.2.2.2⟩]) (fun ch => n3O s = none ∧ ch = stopC) := by
  refine Con.of (TTok _ _) Tryz.func87 (by kernel_rfl) rfl rfl rfl (fun σ => rfl) (fun σ => rfl) (fun _ _ _ => rfl) (fun p σ _ => by simp [mapR, renK, renL, renA, renL_its]) (fun p _ => CEnd.of rfl rfl (by simp [refsInC, refsInL, refsIn, hasO, refsInL_its])) ?_
  repeat' ((conv => whnf); first | (with_reducible first | refine TR.seq ?_ | refine TR.regionL ?_ | refine TR.drawn (TTok _ _) mixed ?_ | refine TR.block ?_ | refine TR.ret ?_ | refine TR.exit ?_ | refine TR.skip ?_ | refine TR.condB rfl ?_ | refine TRL.nil ?_ | refine Br.cond_t ?_ | refine Br.cond_f ?_ | refine Br.yes (by first | decide | assumption | (apply decide_eq_true; omega)) ?_ | refine Br.non (by first | decide | assumption | (apply decide_eq_false; omega)) ?_ | refine Br.cond_ff ?_ | refine Br.eqT (by omega) ?_ | refine Br.eqF (by omega) ?_ | refine Br.neT (by omega) ?_ | refine Br.neF (by omega) ?_ | refine Ld.mk' _ rfl ?_ | refine Need.mk (by first | decide | omega | kernel_rfl) ?_ | refine Nm.i64 (by omega) ?_ | refine Nm.u64 (by omega) ?_ | refine Nm.u8 (by omega) ?_ | refine Nm.keep ?_ | refine Need.mk (by dsimp only; omega) ?_) | refine TRL.met rfl rfl rfl rfl rfl rfl rfl rfl rfl (name_met _ (by omega)) ?_ | refine TRL.met rfl rfl rfl rfl rfl rfl rfl rfl rfl (number_met _ 1 (by omega) (by omega)) ?_ | refine TRL.met rfl rfl rfl rfl rfl rfl rfl rfl rfl (number_met _ 2 (by omega) (by omega)) ?_ | refine TRL.met rfl rfl rfl rfl rfl rfl rfl rfl rfl (bytes_metI _ x x.toNat (by omega) (by omega)) ?_ | refine TRL.met rfl rfl rfl rfl rfl rfl rfl rfl rfl (must_met _ _) ?_ | (refine optK.mk (fun ⟨x, y⟩ hc => ?_) (fun hc => ?_) <;> (try dsimp only) <;> (try have hz := nameO_size hc) <;> (try have hr := num1_range hc) <;> (try have hz := numO_size hc) <;> (try have hz := tkO_size hc)) | (refine optK.mk (fun _ hc => ?_) (fun hc => ?_) <;> (try dsimp only)) | (refine TRL.conP [0] [0, 1] (types_con _ (by omega)) rfl rfl rfl rfl ⟨rfl, trivial⟩ rfl rfl (fun ⟨v, l⟩ ht => ⟨⟨rfl, trivial⟩, ?_⟩) (fun hb => ?_) <;> (try dsimp only at ht) <;> (try dsimp only)) | refine TRL.step (TTok _ _) ?_ | (refine x_exq (TTok _ _) ?_; (conv => whnf); fail_if_success (guard_target =ₛ False)))
  all_goals (conv => whnf)
  all_goals first | (refine ⟨?_, rfl⟩; simp only [n3O, *, Option.bind_some, Option.bind_none]; done) | exact ⟨(v, _, l), by (simp only [n3O, *, Option.bind_some] <;> rfl), rfl, rfl, rfl, trivial⟩ | exact ⟨(v, (_, _, _, _, _, l)), by (simp only [n3O, *, Option.bind_some] <;> rfl), rfl, rfl, rfl, trivial⟩ | skip
  all_goals trace_state
noncomputable def n3W (d : ByteArray) : Option (Int × Int × Int × ByteArray × ByteArray × List Int) := if d.size ≤ 2000 then n3O d else none
def n3R (e0 e1 : Value) : Option (Nat × Int × Int × Int × ByteArray × ByteArray × List Int) → (Nat → Nat) → AV
  | some p, n => .tup [n3A p.1 p.2 (n 0), .v e0]
  | none, _ => .tup [.agg [.v (.int .i64 0), .v (.int .i64 0), .v (.int .i64 0), .v (.string ⟨#[]⟩), .v (.string ⟨#[]⟩), .v (.slice none 0 0)], .v e1]
def n3C : Option (Nat × Int × Int × Int × ByteArray × ByteArray × List Int) → (Nat → Nat) → List (Option Chunk)
  | some p, _ => [some ⟨.row, 3, 1, p.1, its p.2.2.2.2.2.2⟩]
  | none, _ => []
def n3Q (d : ByteArray) : Option (Nat × Int × Int × Int × ByteArray × ByteArray × List Int) → Prop
  | some p => n3W d = some p.2
  | none => n3W d = none
theorem n3R_nat (e0 e1 : Value) (p : Option (Nat × Int × Int × Int × ByteArray × ByteArray × List Int)) (σ : List Nat) : renA σ (n3R e0 e1 p id) = n3R e0 e1 p (getN σ) := by cases p <;> rfl
theorem n3C_nat (p : Option (Nat × Int × Int × Int × ByteArray × ByteArray × List Int)) (σ : List Nat) : mapR σ (n3C p id) = n3C p (getN σ) := by cases p <;> simp [n3C, mapR, renK, renL_its]
theorem n3_fin (e0 e1 : Value) (p : Option (Nat × Int × Int × Int × ByteArray × ByteArray × List Int)) : CEnd [] (n3C p id) (n3R e0 e1 p id) := by
  cases p with
  | none => exact CEnd.of rfl rfl rfl
  | some p => exact CEnd.of rfl rfl (by simp [n3C, refsInC, refsInL_its])
set_option maxHeartbeats 8000000 in
theorem n3_take (d : ByteArray) (hs : d.size < 4294967281) : Con Tryz.prog (fun _ => True) 86 (fun _ => [Value.string d, .func (.func 87) #[] #[]].map .v) (fun _ => []) (n3Q d) (n3R (.int .i64 0) (.int .i64 6)) n3C (fun _ => False) := by
  refine Con.of_calls ⟨Tryz.f86, Tryz.func86, by kernel_rfl, by kernel_rfl⟩ (fun p σ _ => n3R_nat _ _ p σ) (fun p σ _ => n3C_nat p σ) (fun p _ => n3_fin _ _ p) (fun w _ => ?_)
  refine calls_catch2 (P := Tryz.prog) (T := TT) (I := fun _ => True) (g := 177) (d0 := 6) (d1 := 2) (pv := .iface 189 (.agg #[])) (R := fun av s => ∃ p, n3Q d p ∧ av = n3R (.int .i64 0) (.int .i64 6) p id ∧ subC (n3C p id) s.ch) (fun _ _ => trivial) (TTok 0 _) Tryz.func86 (by kernel_rfl) rfl rfl rfl rfl rfl ?_ Tryz.func177 rfl rfl rfl rfl rfl rfl rfl (by decide) rfl rfl ?_
  · refine quiet_take (P := Tryz.prog) (T := TT) (TTok 0 _) Tryz.func177 (by kernel_rfl) rfl rfl rfl rfl rfl rfl rfl (by decide) rfl ?_
    repeat' ((conv => whnf); first | (with_reducible first | refine TR.seq ?_ | refine TR.regionL ?_ | refine TR.drawn (TTok _ _) mixed ?_ | refine TR.block ?_ | refine TR.ret ?_ | refine TR.exit ?_ | refine TR.skip ?_ | refine TR.condB rfl ?_ | refine TRL.nil ?_ | refine Br.cond_t ?_ | refine Br.cond_f ?_ | refine Br.yes (by first | decide | assumption | (apply decide_eq_true; omega)) ?_ | refine Br.non (by first | decide | assumption | (apply decide_eq_false; omega)) ?_ | refine Br.cond_ff ?_ | refine Br.eqT (by omega) ?_ | refine Br.eqF (by omega) ?_ | refine Br.neT (by omega) ?_ | refine Br.neF (by omega) ?_ | refine Nm.keep ?_ | refine Need.mk (by dsimp only; omega) ?_ | refine Ld.mk' _ rfl ?_ | refine Need.mk (by first | decide | omega | kernel_rfl) ?_ | refine Nm.i64 (by omega) ?_ | refine Nm.u64 (by omega) ?_ | refine Nm.u8 (by omega) ?_) | refine TRL.step (TTok _ _) ?_ | (refine x_exq (TTok _ _) ?_; (conv => whnf); fail_if_success (guard_target =ₛ False)))
    all_goals rfl
  · by_cases h0 : d.size ≤ 2000
    · have hb0 : decide ((d.size : Int) ≤ 2000) = true := decide_eq_true (by omega)
      have hW : n3W d = n3O d := by unfold n3W; rw [if_pos h0]
      repeat' ((conv => whnf); first | refine And.intro rfl ?_ | (with_reducible first | refine TR.seq ?_ | refine TR.regionL ?_ | refine TR.drawn (TTok _ _) mixed ?_ | refine TR.block ?_ | refine TR.ret ?_ | refine TR.exit ?_ | refine TR.skip ?_ | refine TR.condB rfl ?_ | refine TRL.nil ?_ | refine Br.cond_t ?_ | refine Br.cond_f ?_ | refine Br.yes (by first | decide | assumption | (apply decide_eq_true; omega)) ?_ | refine Br.non (by first | decide | assumption | (apply decide_eq_false; omega)) ?_ | refine Br.cond_ff ?_ | refine Br.eqT (by omega) ?_ | refine Br.eqF (by omega) ?_ | refine Br.neT (by omega) ?_ | refine Br.neF (by omega) ?_ | refine Nm.keep ?_ | refine Need.mk (by dsimp only; omega) ?_ | refine Ld.mk' _ rfl ?_ | refine Need.mk (by first | decide | omega | kernel_rfl) ?_ | refine Nm.i64 (by omega) ?_ | refine Nm.u64 (by omega) ?_ | refine Nm.u8 (by omega) ?_) | refine TRL.act rfl (x_store0 (TTok _ _) rfl rfl rfl rfl rfl rfl ?_) | refine x_assert (TTok _ _) rfl rfl rfl ⟨by simp, by simp⟩ ?_ | refine TRL.met rfl rfl rfl rfl rfl rfl rfl rfl rfl (must_met _ _) ?_ | (refine TRL.conP [10] [10, 0] (n3_clo d hs) rfl rfl rfl rfl ⟨rfl, trivial⟩ rfl rfl (fun ⟨v, x0, x1, x2, x3, x4, l⟩ hq => ⟨⟨rfl, trivial⟩, ?_⟩) (fun hb => ?_) <;> (try dsimp only at hq) <;> (try dsimp only [n3A])) | refine optK.none (by rw [hb0]; rfl) ?_ | (refine optK.some (p := ()) (by rw [hb0]; rfl) ?_; dsimp only) | (refine optK.some (p := ()) (by simp) ?_; dsimp only) | (refine TRL.step (TTok _ _) ?_; (conv => whnf); fail_if_success (guard_target =ₛ False)) | refine TRL.stepQ (TTok _ _) ?_ | (refine x_exq (TTok _ _) ?_; (conv => whnf); fail_if_success (guard_target =ₛ False)))
      all_goals (conv => whnf)
      all_goals first | exact ⟨some (v, x0, x1, x2, x3, x4, l), hW.trans hq, rfl, rfl, trivial⟩ | exact ⟨none, hW.trans hb, rfl, trivial⟩
    · have hb0 : decide ((d.size : Int) ≤ 2000) = false := decide_eq_false (by omega)
      have hW : n3W d = none := by unfold n3W; rw [if_neg h0]
      repeat' ((conv => whnf); first | refine And.intro rfl ?_ | (with_reducible first | refine TR.seq ?_ | refine TR.regionL ?_ | refine TR.drawn (TTok _ _) mixed ?_ | refine TR.block ?_ | refine TR.ret ?_ | refine TR.exit ?_ | refine TR.skip ?_ | refine TR.condB rfl ?_ | refine TRL.nil ?_ | refine Br.cond_t ?_ | refine Br.cond_f ?_ | refine Br.yes (by first | decide | assumption | (apply decide_eq_true; omega)) ?_ | refine Br.non (by first | decide | assumption | (apply decide_eq_false; omega)) ?_ | refine Br.cond_ff ?_ | refine Br.eqT (by omega) ?_ | refine Br.eqF (by omega) ?_ | refine Br.neT (by omega) ?_ | refine Br.neF (by omega) ?_ | refine Nm.keep ?_ | refine Need.mk (by dsimp only; omega) ?_ | refine Ld.mk' _ rfl ?_ | refine Need.mk (by first | decide | omega | kernel_rfl) ?_ | refine Nm.i64 (by omega) ?_ | refine Nm.u64 (by omega) ?_ | refine Nm.u8 (by omega) ?_) | refine TRL.act rfl (x_store0 (TTok _ _) rfl rfl rfl rfl rfl rfl ?_) | refine x_assert (TTok _ _) rfl rfl rfl ⟨by simp, by simp⟩ ?_ | refine TRL.met rfl rfl rfl rfl rfl rfl rfl rfl rfl (must_met _ _) ?_ | (refine TRL.conP [10] [10, 0] (n3_clo d hs) rfl rfl rfl rfl ⟨rfl, trivial⟩ rfl rfl (fun ⟨v, x0, x1, x2, x3, x4, l⟩ hq => ⟨⟨rfl, trivial⟩, ?_⟩) (fun hb => ?_) <;> (try dsimp only at hq) <;> (try dsimp only [n3A])) | refine optK.none (by rw [hb0]; rfl) ?_ | (refine optK.some (p := ()) (by rw [hb0]; rfl) ?_; dsimp only) | (refine optK.some (p := ()) (by simp) ?_; dsimp only) | (refine TRL.step (TTok _ _) ?_; (conv => whnf); fail_if_success (guard_target =ₛ False)) | refine TRL.stepQ (TTok _ _) ?_ | (refine x_exq (TTok _ _) ?_; (conv => whnf); fail_if_success (guard_target =ₛ False)))
      all_goals (conv => whnf)
      all_goals exact ⟨none, hW, rfl, trivial⟩
theorem n3_top (d : ByteArray) (hs : d.size < 4294967281) : Con Tryz.prog (fun _ => True) 31 (fun _ => [Value.string d].map .v) (fun _ => []) (n3Q d) (n3R (.int .i64 0) (.int .i64 6)) n3C (fun _ => False) := by
  refine Con.of (TTok _ _) Tryz.func31 (by kernel_rfl) rfl rfl rfl (fun σ => rfl) (fun σ => rfl) (fun p σ _ => n3R_nat _ _ p σ) (fun p σ _ => n3C_nat p σ) (fun p _ => n3_fin _ _ p) ?_
  repeat' ((conv => whnf); first | (with_reducible first | refine TR.seq ?_ | refine TR.regionL ?_ | refine TR.drawn (TTok _ _) mixed ?_ | refine TR.block ?_ | refine TR.ret ?_ | refine TR.exit ?_ | refine TR.skip ?_ | refine TR.condB rfl ?_ | refine TRL.nil ?_ | refine Br.cond_t ?_ | refine Br.cond_f ?_ | refine Br.yes (by first | decide | assumption | (apply decide_eq_true; omega)) ?_ | refine Br.non (by first | decide | assumption | (apply decide_eq_false; omega)) ?_ | refine Br.cond_ff ?_ | refine Br.eqT (by omega) ?_ | refine Br.eqF (by omega) ?_ | refine Br.neT (by omega) ?_ | refine Br.neF (by omega) ?_ | refine Nm.keep ?_ | refine Need.mk (by dsimp only; omega) ?_ | refine Ld.mk' _ rfl ?_ | refine Need.mk (by first | decide | omega | kernel_rfl) ?_ | refine Nm.i64 (by omega) ?_ | refine Nm.u64 (by omega) ?_ | refine Nm.u8 (by omega) ?_) | (refine TRL.con [] [0] (n3_take d hs) rfl rfl rfl rfl trivial rfl rfl (optAll (fun hq => ⟨trivial, ?_⟩) (fun ⟨v, x0, x1, x2, x3, x4, l⟩ hq => ⟨⟨rfl, trivial⟩, ?_⟩)) (fun _ h => h.elim)) | refine TRL.step (TTok _ _) ?_ | (refine x_exq (TTok _ _) ?_; (conv => whnf); fail_if_success (guard_target =ₛ False)))
  all_goals (conv => whnf)
  · exact ⟨none, hq, rfl, trivial⟩
  · exact ⟨some (v, x0, x1, x2, x3, x4, l), hq, rfl, rfl, trivial⟩
end Go.Proofs.YtbladfkakmdigaaGreatDoor
set_option maxRecDepth 100000
set_option linter.unusedVariables false
set_option linter.unusedSimpArgs false
namespace Go.Proofs.YtbladfkakmdigaaGreatDoor
open Go.SX
theorem numbers_con (l : List Int) (v1 v2 : Nat) (hl : l.length < 4398046511104) : Con Tryz.prog (fun _ => True) 33 (fun n => [.sl (n 0) v1 0 l.length, .sl (n 1) v2 0 l.length]) (fun _ => [some ⟨.row, 3, 1, v1, its l⟩, some ⟨.row, 3, 1, v2, its l⟩]) (fun _ : Unit => True) (fun _ _ => .v (.bool true)) (fun _ _ => [some ⟨.row, 3, 1, v1, its l⟩, some ⟨.row, 3, 1, v2, its l⟩]) (fun _ => False) := by
  refine Con.of (TTok _ _) Tryz.func33 (by kernel_rfl) rfl (by simp [refsInC, refsInL_its]) rfl (fun σ => rfl) (fun σ => by simp [mapR, renK, renL_its]) (fun _ _ _ => rfl) (fun p σ _ => by simp [mapR, renK, renL_its]) (fun p _ => CEnd.of rfl rfl (by simp [refsInC, refsInL_its])) ?_
  repeat' ((conv => whnf); first | (with_reducible first | refine TR.seq ?_ | refine TR.regionL ?_ | refine TR.drawn (TTok _ _) mixed ?_ | refine TR.block ?_ | refine TR.ret ?_ | refine TR.exit ?_ | refine TR.skip ?_ | refine TR.condB rfl ?_ | refine TRL.nil ?_ | refine Br.cond_t ?_ | refine Br.cond_f ?_ | refine Br.yes (by first | decide | assumption | (apply decide_eq_true; omega)) ?_ | refine Br.non (by first | decide | assumption | (apply decide_eq_false; omega)) ?_ | refine Br.cond_ff ?_ | refine Br.eqT (by omega) ?_ | refine Br.eqF (by omega) ?_ | refine Br.neT (by omega) ?_ | refine Br.neF (by omega) ?_ | refine Ld.mk' _ rfl ?_ | refine Need.mk (by first | decide | omega | kernel_rfl) ?_ | refine Nm.i64 (by omega) ?_ | refine Nm.u64 (by omega) ?_ | refine Nm.u8 (by omega) ?_ | refine Nm.keep ?_ | refine Need.mk (by dsimp only; omega) ?_) | refine Br.neF rfl ?_ | refine TRL.step (TTok _ _) ?_ | (refine x_exq (TTok _ _) ?_; (conv => whnf); fail_if_success (guard_target =ₛ False)))
  refine TR.loopH (fun k : Nat => [(5, .v (.int .i64 k))]) (fun _ => []) (fun k => k ≤ l.length) (fun k => l.length - k) 0 (Nat.zero_le _) ?_ ?_
  · repeat' ((conv => whnf); first | exact trivial | exact Fgt.nil | exact Fgt.mk rfl rfl rfl | refine And.intro rfl ?_ | refine And.intro ?_ ?_)
  · intro k hk
    by_cases hkn : k < l.length
    · obtain ⟨z, hz⟩ : ∃ z, l[k]? = some z := ⟨l[k], List.getElem?_eq_getElem hkn⟩
      have hld := subL_its l k z hz
      have hld2 : subL (its l) (0 * 1 + ((k : Int)).toNat * 1) 1 = some [AV.v (Value.int IntKind.i64 z)] := by simpa using hld
      repeat' ((conv => whnf); first | (with_reducible first | refine TR.seq ?_ | refine TR.regionL ?_ | refine TR.drawn (TTok _ _) mixed ?_ | refine TR.block ?_ | refine TR.ret ?_ | refine TR.exit ?_ | refine TR.skip ?_ | refine TR.condB rfl ?_ | refine TRL.nil ?_ | refine Br.cond_t ?_ | refine Br.cond_f ?_ | refine Br.yes (by first | decide | assumption | (apply decide_eq_true; omega)) ?_ | refine Br.non (by first | decide | assumption | (apply decide_eq_false; omega)) ?_ | refine Br.cond_ff ?_ | refine Br.eqT (by omega) ?_ | refine Br.eqF (by omega) ?_ | refine Br.neT (by omega) ?_ | refine Br.neF (by omega) ?_ | refine Ld.mk' _ rfl ?_ | refine Need.mk (by first | decide | omega | kernel_rfl) ?_ | refine Nm.i64 (by omega) ?_ | refine Nm.u64 (by omega) ?_ | refine Nm.u8 (by omega) ?_ | refine Nm.keep ?_ | refine Need.mk (by dsimp only; omega) ?_) | refine Ld.mk' _ hld2 ?_ | refine Br.neF rfl ?_ | refine TRL.step (TTok _ _) ?_ | (refine x_exq (TTok _ _) ?_; (conv => whnf); fail_if_success (guard_target =ₛ False)))
      all_goals (conv => whnf)
      refine ⟨k + 1, by omega, by omega, ?_⟩
      repeat' ((conv => whnf); first | exact trivial | exact Fgt.nil | exact Fgt.mk rfl rfl rfl | refine And.intro rfl ?_ | refine And.intro ?_ ?_)
    · obtain rfl : k = l.length := by omega
      repeat' ((conv => whnf); first | (with_reducible first | refine TR.seq ?_ | refine TR.regionL ?_ | refine TR.drawn (TTok _ _) mixed ?_ | refine TR.block ?_ | refine TR.ret ?_ | refine TR.exit ?_ | refine TR.skip ?_ | refine TR.condB rfl ?_ | refine TRL.nil ?_ | refine Br.cond_t ?_ | refine Br.cond_f ?_ | refine Br.yes (by first | decide | assumption | (apply decide_eq_true; omega)) ?_ | refine Br.non (by first | decide | assumption | (apply decide_eq_false; omega)) ?_ | refine Br.cond_ff ?_ | refine Br.eqT (by omega) ?_ | refine Br.eqF (by omega) ?_ | refine Br.neT (by omega) ?_ | refine Br.neF (by omega) ?_ | refine Ld.mk' _ rfl ?_ | refine Need.mk (by first | decide | omega | kernel_rfl) ?_ | refine Nm.i64 (by omega) ?_ | refine Nm.u64 (by omega) ?_ | refine Nm.u8 (by omega) ?_ | refine Nm.keep ?_ | refine Need.mk (by dsimp only; omega) ?_) | refine TRL.step (TTok _ _) ?_ | (refine x_exq (TTok _ _) ?_; (conv => whnf); fail_if_success (guard_target =ₛ False)))
      all_goals (conv => whnf)
      all_goals exact ⟨(), trivial, rfl, rfl, rfl, trivial⟩
end Go.Proofs.YtbladfkakmdigaaGreatDoor
namespace Go.SX
theorem Con.map {P : Program} {I : World → Prop} {f : FuncId} {A : (Nat → Nat) → List AV} {H : (Nat → Nat) → List (Option Chunk)} {α β : Type} {Q : α → Prop} {R : α → (Nat → Nat) → AV} {C : α → (Nat → Nat) → List (Option Chunk)} {B : List PanicEntry → Prop} (h : Con P I f A H Q R C B) (Q' : β → Prop) (g : β → α) (h1 : ∀ p, Q p → ∃ b, Q' b ∧ g b = p) (h2 : ∀ b, Q' b → Q (g b)) :
    Con P I f A H Q' (fun b => R (g b)) (fun b => C (g b)) B :=
  ⟨h.has, h.cl, h.ca, h.nA, h.nH, fun b σ hb => h.nR _ σ (h2 b hb), fun b σ hb => h.nC _ σ (h2 b hb), fun b hb => h.fin _ (h2 b hb), fun w ρ xs q1 q2 q3 => (h.run w ρ xs q1 q2 q3).mono fun e w' hx => by
    rcases hx with ⟨v, p, ρ', e1, e2, e3⟩ | hx
    · obtain ⟨b, hb, rfl⟩ := h1 p e2
      exact .inl ⟨v, b, ρ', e1, hb, e3⟩
    · exact .inr hx⟩
end Go.SX
namespace Go.Proofs.YtbladfkakmdigaaGreatDoor
open Go.SX
theorem ns_some (d : ByteArray) (hs : d.size < 4294967281) (q : ByteArray × List Int) (h : nsW d = some q) : Con Tryz.prog (fun _ => True) 29 (fun _ => [Value.string d].map .v) (fun _ => []) (fun _ : Nat => True) (fun v => nsR (.int .i64 0) (.int .i64 6) (some (v, q))) (fun v => nsC (some (v, q))) (fun _ => False) :=
  (ns_top d hs).map (fun _ : Nat => True) (fun v => some (v, q)) (fun p hp => by
    cases p with
    | none => exact nomatch (h.symm.trans hp : some _ = none)
    | some p =>
      obtain ⟨v, q'⟩ := p
      have := Option.some.inj (h.symm.trans hp)
      subst this
      exact ⟨v, trivial, rfl⟩) (fun _ _ => h)
theorem n3_some (d : ByteArray) (hs : d.size < 4294967281) (q : Int × Int × Int × ByteArray × ByteArray × List Int) (h : n3W d = some q) : Con Tryz.prog (fun _ => True) 31 (fun _ => [Value.string d].map .v) (fun _ => []) (fun _ : Nat => True) (fun v => n3R (.int .i64 0) (.int .i64 6) (some (v, q))) (fun v => n3C (some (v, q))) (fun _ => False) :=
  (n3_top d hs).map (fun _ : Nat => True) (fun v => some (v, q)) (fun p hp => by
    cases p with
    | none => exact nomatch (h.symm.trans hp : some _ = none)
    | some p =>
      obtain ⟨v, q'⟩ := p
      have := Option.some.inj (h.symm.trans hp)
      subst this
      exact ⟨v, trivial, rfl⟩) (fun _ _ => h)
end Go.Proofs.YtbladfkakmdigaaGreatDoor
