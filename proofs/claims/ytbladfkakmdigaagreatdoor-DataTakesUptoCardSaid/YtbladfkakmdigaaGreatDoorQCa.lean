/-
  What the laws of these data stand on: contracts of functions, and plain laws.
-/
import Derived.Test.YtbladfkakmdigaaGreatDoorQXa
import Derived.Test.YtbladfkakmdigaaGreatDoorQXb
import Derived.Test.YtbladfkakmdigaaGreatDoorQXc
import Derived.Test.YtbladfkakmdigaaGreatDoorQXd
import Derived.Test.YtbladfkakmdigaaGreatDoorQBa
set_option linter.unusedVariables false
set_option linter.unusedSimpArgs false
set_option linter.unnecessarySimpa false
set_option maxRecDepth 100000
set_option linter.unusedVariables false
set_option linter.unusedSimpArgs false
namespace Go.Proofs.YtbladfkakmdigaaGreatDoor
open Go.SX
theorem restO_size {s b r : ByteArray} (h : restO s = some (b, r)) : b.size ≤ s.size ∧ r.size ≤ s.size := by
  unfold restO at h
  split at h
  · cases h
  · simp only [Option.some.injEq, Prod.mk.injEq] at h
    obtain ⟨rfl, rfl⟩ := h
    exact ⟨Nat.le_refl _, Nat.zero_le _⟩
noncomputable def soaO (s0 : ByteArray) : Option ((ByteArray × ByteArray × Int × Int × Int × Int × Int) × ByteArray) := (nameO s0).bind fun (x0, s1) => (nameO s1).bind fun (x1, s2) => (numO 4 s2).bind fun (x2, s3) => (numO 4 s3).bind fun (x3, s4) => (numO 4 s4).bind fun (x4, s5) => (numO 4 s5).bind fun (x5, s6) => (numO 4 s6).bind fun (x6, s7) => some ((x0, x1, x2, x3, x4, x5, x6), s7)
def soaV (q : ByteArray × ByteArray × Int × Int × Int × Int × Int) : Value := .agg #[.string q.1, .string q.2.1, .int .i64 q.2.2.1, .int .i64 q.2.2.2.1, .int .i64 q.2.2.2.2.1, .int .i64 q.2.2.2.2.2.1, .int .i64 q.2.2.2.2.2.2]
theorem soa_size {s0 r : ByteArray} {q : ByteArray × ByteArray × Int × Int × Int × Int × Int} (h : soaO s0 = some (q, r)) : r.size ≤ s0.size := by
  unfold soaO at h
  cases h0 : nameO s0 with
  | none => rw [h0] at h; cases h
  | some y0 =>
  obtain ⟨x0, s1⟩ := y0
  rw [h0] at h
  simp only [Option.bind_some] at h
  have z0 := nameO_size h0
  cases h1 : nameO s1 with
  | none => rw [h1] at h; cases h
  | some y1 =>
  obtain ⟨x1, s2⟩ := y1
  rw [h1] at h
  simp only [Option.bind_some] at h
  have z1 := nameO_size h1
  cases h2 : numO 4 s2 with
  | none => rw [h2] at h; cases h
  | some y2 =>
  obtain ⟨x2, s3⟩ := y2
  rw [h2] at h
  simp only [Option.bind_some] at h
  have z2 := numO_size h2
  cases h3 : numO 4 s3 with
  | none => rw [h3] at h; cases h
  | some y3 =>
  obtain ⟨x3, s4⟩ := y3
  rw [h3] at h
  simp only [Option.bind_some] at h
  have z3 := numO_size h3
  cases h4 : numO 4 s4 with
  | none => rw [h4] at h; cases h
  | some y4 =>
  obtain ⟨x4, s5⟩ := y4
  rw [h4] at h
  simp only [Option.bind_some] at h
  have z4 := numO_size h4
  cases h5 : numO 4 s5 with
  | none => rw [h5] at h; cases h
  | some y5 =>
  obtain ⟨x5, s6⟩ := y5
  rw [h5] at h
  simp only [Option.bind_some] at h
  have z5 := numO_size h5
  cases h6 : numO 4 s6 with
  | none => rw [h6] at h; cases h
  | some y6 =>
  obtain ⟨x6, s7⟩ := y6
  rw [h6] at h
  simp only [Option.bind_some] at h
  have z6 := numO_size h6
  simp only [Option.some.injEq, Prod.mk.injEq] at h
  rw [← h.2]
  omega
set_option maxHeartbeats 8000000 in
theorem soa_met (s : ByteArray) (hs : s.size < 4294967281) : SoM 69 s [] (soaO s) (fun p => p.2) (fun p => soaV p.1) := by
  refine MetO.of (TTok _ _) Tryz.func69 (by kernel_rfl) rfl (fun _ _ => rfl) rfl ?_
  repeat' ((conv => whnf); first | (with_reducible first | refine TR.seq ?_ | refine TR.regionL ?_ | refine TR.drawn (TTok _ _) mixed ?_ | refine TR.block ?_ | refine TR.ret ?_ | refine TR.exit ?_ | refine TR.skip ?_ | refine TR.condB rfl ?_ | refine TRL.nil ?_ | refine Br.cond_t ?_ | refine Br.cond_f ?_ | refine Br.yes (by first | decide | assumption | (apply decide_eq_true; omega)) ?_ | refine Br.non (by first | decide | assumption | (apply decide_eq_false; omega)) ?_ | refine Br.cond_ff ?_ | refine Br.eqT (by omega) ?_ | refine Br.eqF (by omega) ?_ | refine Br.neT (by omega) ?_ | refine Br.neF (by omega) ?_ | refine Nm.keep ?_ | refine Need.mk (by dsimp only; omega) ?_ | refine Ld.mk' _ rfl ?_ | refine Need.mk (by first | decide | omega | kernel_rfl) ?_ | refine Nm.i64 (by omega) ?_ | refine Nm.u64 (by omega) ?_ | refine Nm.u8 (by omega) ?_) | refine TRL.met rfl rfl rfl rfl rfl rfl rfl rfl rfl (name_met _ (by omega)) ?_ | refine TRL.met rfl rfl rfl rfl rfl rfl rfl rfl rfl (number_met _ 1 (by omega) (by omega)) ?_ | refine TRL.met rfl rfl rfl rfl rfl rfl rfl rfl rfl (number_met _ 2 (by omega) (by omega)) ?_ | refine TRL.met rfl rfl rfl rfl rfl rfl rfl rfl rfl (number_met _ 4 (by omega) (by omega)) ?_ | refine TRL.met rfl rfl rfl rfl rfl rfl rfl rfl rfl (rest_met _ (by omega)) ?_ | (refine optK.mk (fun ⟨x, y⟩ hc => ?_) (fun hc => ?_) <;> (try dsimp only) <;> (try have hz := nameO_size hc) <;> (try have hz := numO_size hc) <;> (try have hz := restO_size hc)) | refine TRn.step ?_ | refine TR.loopN 9 ?_ | refine TRL.step (TTok _ _) ?_ | (refine x_exq (TTok _ _) ?_; (conv => whnf); fail_if_success (guard_target =ₛ False)))
  all_goals (conv => whnf)
  all_goals first | (refine ⟨?_, rfl⟩; simp only [soaO, *, Option.bind_some, Option.bind_none]; done) | (refine ⟨_, by simp only [soaO, *, Option.bind_some]; rfl, rfl, rfl⟩)
def soaT (d : ByteArray) : Value := .tuple #[.agg #[.string ⟨#[]⟩, .string ⟨#[]⟩, .int .i64 0, .int .i64 0, .int .i64 0, .int .i64 0, .int .i64 0], .int .i64 6]
noncomputable def soaW (d : ByteArray) : Option (ByteArray × ByteArray × Int × Int × Int × Int × Int) := if d.size ≤ 2000 then (soaO d).bind fun (q, r) => if r.size = 0 then some q else none else none
set_option maxHeartbeats 8000000 in
theorem soa_take (d : ByteArray) (hs : d.size < 4294967281) (w : World) : Ret Tryz.prog 68 [.string d, .func (.func 69) #[] #[]] w (match soaW d with | some q => .tuple #[soaV q, .int .i64 0] | none => soaT d) := by
  refine Ret.of_calls ⟨Tryz.f68, Tryz.func68, by kernel_rfl, by kernel_rfl⟩ ?_
  refine calls_catch2 (P := Tryz.prog) (T := TT) (I := fun _ => True) (g := 172) (d0 := 6) (d1 := 2) (pv := .iface 189 (.agg #[])) (R := fun av _ => val av = some _) (fun _ _ => trivial) (TTok 0 _) Tryz.func68 (by kernel_rfl) rfl rfl rfl rfl rfl ?_ Tryz.func172 rfl rfl rfl rfl rfl rfl rfl (by decide) rfl rfl ?_
  · refine quiet_take (P := Tryz.prog) (T := TT) (TTok 0 _) Tryz.func172 (by kernel_rfl) rfl rfl rfl rfl rfl rfl rfl (by decide) rfl ?_
    repeat' ((conv => whnf); first | (with_reducible first | refine TR.seq ?_ | refine TR.regionL ?_ | refine TR.drawn (TTok _ _) mixed ?_ | refine TR.block ?_ | refine TR.ret ?_ | refine TR.exit ?_ | refine TR.skip ?_ | refine TR.condB rfl ?_ | refine TRL.nil ?_ | refine Br.cond_t ?_ | refine Br.cond_f ?_ | refine Br.yes (by first | decide | assumption | (apply decide_eq_true; omega)) ?_ | refine Br.non (by first | decide | assumption | (apply decide_eq_false; omega)) ?_ | refine Br.cond_ff ?_ | refine Br.eqT (by omega) ?_ | refine Br.eqF (by omega) ?_ | refine Br.neT (by omega) ?_ | refine Br.neF (by omega) ?_ | refine Nm.keep ?_ | refine Need.mk (by dsimp only; omega) ?_ | refine Ld.mk' _ rfl ?_ | refine Need.mk (by first | decide | omega | kernel_rfl) ?_ | refine Nm.i64 (by omega) ?_ | refine Nm.u64 (by omega) ?_ | refine Nm.u8 (by omega) ?_) | refine TRL.step (TTok _ _) ?_ | (refine x_exq (TTok _ _) ?_; (conv => whnf); fail_if_success (guard_target =ₛ False)))
    all_goals rfl
  · by_cases h0 : d.size ≤ 2000
    · have hb0 : decide ((d.size : Int) ≤ 2000) = true := decide_eq_true (by omega)
      cases hq : soaO d with
      | none =>
        have hW : soaW d = none := by unfold soaW; rw [if_pos h0, hq]; rfl
        rw [hW]
        repeat' ((conv => whnf); first | refine And.intro rfl ?_ | (with_reducible first | refine TR.seq ?_ | refine TR.regionL ?_ | refine TR.drawn (TTok _ _) mixed ?_ | refine TR.block ?_ | refine TR.ret ?_ | refine TR.exit ?_ | refine TR.skip ?_ | refine TR.condB rfl ?_ | refine TRL.nil ?_ | refine Br.cond_t ?_ | refine Br.cond_f ?_ | refine Br.yes (by first | decide | assumption | (apply decide_eq_true; omega)) ?_ | refine Br.non (by first | decide | assumption | (apply decide_eq_false; omega)) ?_ | refine Br.cond_ff ?_ | refine Br.eqT (by omega) ?_ | refine Br.eqF (by omega) ?_ | refine Br.neT (by omega) ?_ | refine Br.neF (by omega) ?_ | refine Nm.keep ?_ | refine Need.mk (by dsimp only; omega) ?_ | refine Ld.mk' _ rfl ?_ | refine Need.mk (by first | decide | omega | kernel_rfl) ?_ | refine Nm.i64 (by omega) ?_ | refine Nm.u64 (by omega) ?_ | refine Nm.u8 (by omega) ?_) | refine TRL.act rfl (x_store0 (TTok _ _) rfl rfl rfl rfl rfl rfl ?_) | refine x_assert (TTok _ _) rfl rfl rfl ⟨by simp, by simp⟩ ?_ | refine TRL.met rfl rfl rfl rfl rfl rfl rfl rfl rfl (must_met _ _) ?_ | refine TRL.met rfl rfl rfl rfl rfl rfl rfl rfl rfl (soa_met _ hs) ?_ | refine optK.none hq ?_ | (refine optK.some hq ?_; dsimp only) | refine optK.none (by rw [hb0]; rfl) ?_ | refine optK.none (by rw [hb1]; rfl) ?_ | (refine optK.some (p := ()) (by rw [hb1]; rfl) ?_; dsimp only) | (refine optK.some (p := ()) (by rw [hb0]; rfl) ?_; dsimp only) | (refine TRL.step (TTok _ _) ?_; (conv => whnf); fail_if_success (guard_target =ₛ False)) | refine TRL.stepQ (TTok _ _) ?_ | (refine x_exq (TTok _ _) ?_; (conv => whnf); fail_if_success (guard_target =ₛ False)))
        all_goals (conv => whnf)
        all_goals rfl
      | some q =>
        obtain ⟨q, r⟩ := q
        have hz := soa_size hq
        by_cases h1 : r.size = 0
        · have hW : soaW d = some q := by unfold soaW; rw [if_pos h0, hq]; exact if_pos h1
          rw [hW]
          have he := ba_nil h1
          have hb1 : decide (r = ⟨#[]⟩) = true := by simp [he]
          obtain ⟨q0, q1, q2, q3, q4, q5, q6⟩ := q
          repeat' ((conv => whnf); first | refine And.intro rfl ?_ | (with_reducible first | refine TR.seq ?_ | refine TR.regionL ?_ | refine TR.drawn (TTok _ _) mixed ?_ | refine TR.block ?_ | refine TR.ret ?_ | refine TR.exit ?_ | refine TR.skip ?_ | refine TR.condB rfl ?_ | refine TRL.nil ?_ | refine Br.cond_t ?_ | refine Br.cond_f ?_ | refine Br.yes (by first | decide | assumption | (apply decide_eq_true; omega)) ?_ | refine Br.non (by first | decide | assumption | (apply decide_eq_false; omega)) ?_ | refine Br.cond_ff ?_ | refine Br.eqT (by omega) ?_ | refine Br.eqF (by omega) ?_ | refine Br.neT (by omega) ?_ | refine Br.neF (by omega) ?_ | refine Nm.keep ?_ | refine Need.mk (by dsimp only; omega) ?_ | refine Ld.mk' _ rfl ?_ | refine Need.mk (by first | decide | omega | kernel_rfl) ?_ | refine Nm.i64 (by omega) ?_ | refine Nm.u64 (by omega) ?_ | refine Nm.u8 (by omega) ?_) | refine TRL.act rfl (x_store0 (TTok _ _) rfl rfl rfl rfl rfl rfl ?_) | refine x_assert (TTok _ _) rfl rfl rfl ⟨by simp, by simp⟩ ?_ | refine TRL.met rfl rfl rfl rfl rfl rfl rfl rfl rfl (must_met _ _) ?_ | refine TRL.met rfl rfl rfl rfl rfl rfl rfl rfl rfl (soa_met _ hs) ?_ | refine optK.none hq ?_ | (refine optK.some hq ?_; dsimp only) | refine optK.none (by rw [hb0]; rfl) ?_ | refine optK.none (by rw [hb1]; rfl) ?_ | (refine optK.some (p := ()) (by rw [hb1]; rfl) ?_; dsimp only) | (refine optK.some (p := ()) (by rw [hb0]; rfl) ?_; dsimp only) | (refine TRL.step (TTok _ _) ?_; (conv => whnf); fail_if_success (guard_target =ₛ False)) | refine TRL.stepQ (TTok _ _) ?_ | (refine x_exq (TTok _ _) ?_; (conv => whnf); fail_if_success (guard_target =ₛ False)))
          all_goals (conv => whnf)
          all_goals rfl
        · have hW : soaW d = none := by unfold soaW; rw [if_pos h0, hq]; exact if_neg h1
          rw [hW]
          have he : ¬ (r = ⟨#[]⟩) := fun e => h1 (by rw [e]; rfl)
          have hb1 : decide (r = ⟨#[]⟩) = false := by simp [he]
          obtain ⟨q0, q1, q2, q3, q4, q5, q6⟩ := q
          repeat' ((conv => whnf); first | refine And.intro rfl ?_ | (with_reducible first | refine TR.seq ?_ | refine TR.regionL ?_ | refine TR.drawn (TTok _ _) mixed ?_ | refine TR.block ?_ | refine TR.ret ?_ | refine TR.exit ?_ | refine TR.skip ?_ | refine TR.condB rfl ?_ | refine TRL.nil ?_ | refine Br.cond_t ?_ | refine Br.cond_f ?_ | refine Br.yes (by first | decide | assumption | (apply decide_eq_true; omega)) ?_ | refine Br.non (by first | decide | assumption | (apply decide_eq_false; omega)) ?_ | refine Br.cond_ff ?_ | refine Br.eqT (by omega) ?_ | refine Br.eqF (by omega) ?_ | refine Br.neT (by omega) ?_ | refine Br.neF (by omega) ?_ | refine Nm.keep ?_ | refine Need.mk (by dsimp only; omega) ?_ | refine Ld.mk' _ rfl ?_ | refine Need.mk (by first | decide | omega | kernel_rfl) ?_ | refine Nm.i64 (by omega) ?_ | refine Nm.u64 (by omega) ?_ | refine Nm.u8 (by omega) ?_) | refine TRL.act rfl (x_store0 (TTok _ _) rfl rfl rfl rfl rfl rfl ?_) | refine x_assert (TTok _ _) rfl rfl rfl ⟨by simp, by simp⟩ ?_ | refine TRL.met rfl rfl rfl rfl rfl rfl rfl rfl rfl (must_met _ _) ?_ | refine TRL.met rfl rfl rfl rfl rfl rfl rfl rfl rfl (soa_met _ hs) ?_ | refine optK.none hq ?_ | (refine optK.some hq ?_; dsimp only) | refine optK.none (by rw [hb0]; rfl) ?_ | refine optK.none (by rw [hb1]; rfl) ?_ | (refine optK.some (p := ()) (by rw [hb1]; rfl) ?_; dsimp only) | (refine optK.some (p := ()) (by rw [hb0]; rfl) ?_; dsimp only) | (refine TRL.step (TTok _ _) ?_; (conv => whnf); fail_if_success (guard_target =ₛ False)) | refine TRL.stepQ (TTok _ _) ?_ | (refine x_exq (TTok _ _) ?_; (conv => whnf); fail_if_success (guard_target =ₛ False)))
          all_goals (conv => whnf)
          all_goals rfl
    · have hb0 : decide ((d.size : Int) ≤ 2000) = false := decide_eq_false (by omega)
      have hW : soaW d = none := by unfold soaW; rw [if_neg h0]
      rw [hW]
      repeat' ((conv => whnf); first | refine And.intro rfl ?_ | (with_reducible first | refine TR.seq ?_ | refine TR.regionL ?_ | refine TR.drawn (TTok _ _) mixed ?_ | refine TR.block ?_ | refine TR.ret ?_ | refine TR.exit ?_ | refine TR.skip ?_ | refine TR.condB rfl ?_ | refine TRL.nil ?_ | refine Br.cond_t ?_ | refine Br.cond_f ?_ | refine Br.yes (by first | decide | assumption | (apply decide_eq_true; omega)) ?_ | refine Br.non (by first | decide | assumption | (apply decide_eq_false; omega)) ?_ | refine Br.cond_ff ?_ | refine Br.eqT (by omega) ?_ | refine Br.eqF (by omega) ?_ | refine Br.neT (by omega) ?_ | refine Br.neF (by omega) ?_ | refine Nm.keep ?_ | refine Need.mk (by dsimp only; omega) ?_ | refine Ld.mk' _ rfl ?_ | refine Need.mk (by first | decide | omega | kernel_rfl) ?_ | refine Nm.i64 (by omega) ?_ | refine Nm.u64 (by omega) ?_ | refine Nm.u8 (by omega) ?_) | refine TRL.act rfl (x_store0 (TTok _ _) rfl rfl rfl rfl rfl rfl ?_) | refine x_assert (TTok _ _) rfl rfl rfl ⟨by simp, by simp⟩ ?_ | refine TRL.met rfl rfl rfl rfl rfl rfl rfl rfl rfl (must_met _ _) ?_ | refine TRL.met rfl rfl rfl rfl rfl rfl rfl rfl rfl (soa_met _ hs) ?_ | refine optK.none hq ?_ | (refine optK.some hq ?_; dsimp only) | refine optK.none (by rw [hb0]; rfl) ?_ | refine optK.none (by rw [hb1]; rfl) ?_ | (refine optK.some (p := ()) (by rw [hb1]; rfl) ?_; dsimp only) | (refine optK.some (p := ()) (by rw [hb0]; rfl) ?_; dsimp only) | (refine TRL.step (TTok _ _) ?_; (conv => whnf); fail_if_success (guard_target =ₛ False)) | refine TRL.stepQ (TTok _ _) ?_ | (refine x_exq (TTok _ _) ?_; (conv => whnf); fail_if_success (guard_target =ₛ False)))
      all_goals (conv => whnf)
      all_goals rfl
theorem soa_top (d : ByteArray) (hs : d.size < 4294967281) (w : World) : Ret Tryz.prog 21 [.string d] w (match soaW d with | some q => .tuple #[soaV q, .int .i64 0] | none => soaT d) := by
  have h := fun w => soa_take d hs w
  cases hW : soaW d with
  | none =>
    rw [hW] at h
    refine Ret.tj (I := fun _ => True) (fun _ _ => trivial) (TTok 0 _) Tryz.func21 (by kernel_rfl) rfl ?_
    repeat' ((conv => whnf); first | (with_reducible first | refine TJ.seq ?_ | refine TJ.region (TTok _ _) ?_ | refine TJ.drawn (TTok _ _) mixed ?_ | refine TJ.cond rfl ?_ | refine TJ.block ?_ | refine TJ.loop ?_ | refine LJ.step ?_ | refine TJ.ret ?_ | refine TJ.exit ?_ | refine TJ.skip ?_ | refine TJ.scope ?_ | refine TJ.label ?_ | refine Br.cond_t ?_ | refine Br.cond_f ?_ | refine Br.yes (by first | decide | assumption | (apply decide_eq_true; omega)) ?_ | refine Br.non (by first | decide | assumption | (apply decide_eq_false; omega)) ?_ | refine Br.cond_ff ?_ | refine Br.eqT (by omega) ?_ | refine Br.eqF (by omega) ?_ | refine Br.neT (by omega) ?_ | refine Br.neF (by omega) ?_ | refine Ld.mk' _ rfl ?_ | refine Need.mk (by first | decide | omega | kernel_rfl) ?_ | refine Nm.i64 (by omega) ?_ | refine Nm.u64 (by omega) ?_ | refine Nm.u8 (by omega) ?_ | refine x_ret (f := 68) rfl rfl (fun w _ => h w) ?_) | (refine x_exq (TTok _ _) ?_; (conv => whnf); fail_if_success (guard_target =ₛ False)))
    all_goals (conv => whnf)
    all_goals rfl
  | some q =>
    rw [hW] at h
    obtain ⟨q0, q1, q2, q3, q4, q5, q6⟩ := q
    refine Ret.tj (I := fun _ => True) (fun _ _ => trivial) (TTok 0 _) Tryz.func21 (by kernel_rfl) rfl ?_
    repeat' ((conv => whnf); first | (with_reducible first | refine TJ.seq ?_ | refine TJ.region (TTok _ _) ?_ | refine TJ.drawn (TTok _ _) mixed ?_ | refine TJ.cond rfl ?_ | refine TJ.block ?_ | refine TJ.loop ?_ | refine LJ.step ?_ | refine TJ.ret ?_ | refine TJ.exit ?_ | refine TJ.skip ?_ | refine TJ.scope ?_ | refine TJ.label ?_ | refine Br.cond_t ?_ | refine Br.cond_f ?_ | refine Br.yes (by first | decide | assumption | (apply decide_eq_true; omega)) ?_ | refine Br.non (by first | decide | assumption | (apply decide_eq_false; omega)) ?_ | refine Br.cond_ff ?_ | refine Br.eqT (by omega) ?_ | refine Br.eqF (by omega) ?_ | refine Br.neT (by omega) ?_ | refine Br.neF (by omega) ?_ | refine Ld.mk' _ rfl ?_ | refine Need.mk (by first | decide | omega | kernel_rfl) ?_ | refine Nm.i64 (by omega) ?_ | refine Nm.u64 (by omega) ?_ | refine Nm.u8 (by omega) ?_ | refine x_ret (f := 68) rfl rfl (fun w _ => h w) ?_) | (refine x_exq (TTok _ _) ?_; (conv => whnf); fail_if_success (guard_target =ₛ False)))
    all_goals (conv => whnf)
    all_goals rfl
noncomputable def sigO (s0 : ByteArray) : Option ((Int × Int × Int × Int × Int × Int × Int × ByteArray × ByteArray) × ByteArray) := (numO 2 s0).bind fun (x0, s1) => (numO 1 s1).bind fun (x1, s2) => (numO 1 s2).bind fun (x2, s3) => (numO 4 s3).bind fun (x3, s4) => (numO 4 s4).bind fun (x4, s5) => (numO 4 s5).bind fun (x5, s6) => (numO 2 s6).bind fun (x6, s7) => (nameO s7).bind fun (x7, s8) => (restO s8).bind fun (x8, s9) => some ((x0, x1, x2, x3, x4, x5, x6, x7, x8), s9)
def sigV (q : Int × Int × Int × Int × Int × Int × Int × ByteArray × ByteArray) : Value := .agg #[.int .i64 q.1, .int .i64 q.2.1, .int .i64 q.2.2.1, .int .i64 q.2.2.2.1, .int .i64 q.2.2.2.2.1, .int .i64 q.2.2.2.2.2.1, .int .i64 q.2.2.2.2.2.2.1, .string q.2.2.2.2.2.2.2.1, .string q.2.2.2.2.2.2.2.2]
theorem sig_size {s0 r : ByteArray} {q : Int × Int × Int × Int × Int × Int × Int × ByteArray × ByteArray} (h : sigO s0 = some (q, r)) : r.size ≤ s0.size := by
  unfold sigO at h
  cases h0 : numO 2 s0 with
  | none => rw [h0] at h; cases h
  | some y0 =>
  obtain ⟨x0, s1⟩ := y0
  rw [h0] at h
  simp only [Option.bind_some] at h
  have z0 := numO_size h0
  cases h1 : numO 1 s1 with
  | none => rw [h1] at h; cases h
  | some y1 =>
  obtain ⟨x1, s2⟩ := y1
  rw [h1] at h
  simp only [Option.bind_some] at h
  have z1 := numO_size h1
  cases h2 : numO 1 s2 with
  | none => rw [h2] at h; cases h
  | some y2 =>
  obtain ⟨x2, s3⟩ := y2
  rw [h2] at h
  simp only [Option.bind_some] at h
  have z2 := numO_size h2
  cases h3 : numO 4 s3 with
  | none => rw [h3] at h; cases h
  | some y3 =>
  obtain ⟨x3, s4⟩ := y3
  rw [h3] at h
  simp only [Option.bind_some] at h
  have z3 := numO_size h3
  cases h4 : numO 4 s4 with
  | none => rw [h4] at h; cases h
  | some y4 =>
  obtain ⟨x4, s5⟩ := y4
  rw [h4] at h
  simp only [Option.bind_some] at h
  have z4 := numO_size h4
  cases h5 : numO 4 s5 with
  | none => rw [h5] at h; cases h
  | some y5 =>
  obtain ⟨x5, s6⟩ := y5
  rw [h5] at h
  simp only [Option.bind_some] at h
  have z5 := numO_size h5
  cases h6 : numO 2 s6 with
  | none => rw [h6] at h; cases h
  | some y6 =>
  obtain ⟨x6, s7⟩ := y6
  rw [h6] at h
  simp only [Option.bind_some] at h
  have z6 := numO_size h6
  cases h7 : nameO s7 with
  | none => rw [h7] at h; cases h
  | some y7 =>
  obtain ⟨x7, s8⟩ := y7
  rw [h7] at h
  simp only [Option.bind_some] at h
  have z7 := nameO_size h7
  cases h8 : restO s8 with
  | none => rw [h8] at h; cases h
  | some y8 =>
  obtain ⟨x8, s9⟩ := y8
  rw [h8] at h
  simp only [Option.bind_some] at h
  have z8 := restO_size h8
  simp only [Option.some.injEq, Prod.mk.injEq] at h
  rw [← h.2]
  omega
set_option maxHeartbeats 8000000 in
theorem sig_met (s : ByteArray) (hs : s.size < 4294967281) : SoM 75 s [] (sigO s) (fun p => p.2) (fun p => sigV p.1) := by
  refine MetO.of (TTok _ _) Tryz.func75 (by kernel_rfl) rfl (fun _ _ => rfl) rfl ?_
  repeat' ((conv => whnf); first | (with_reducible first | refine TR.seq ?_ | refine TR.regionL ?_ | refine TR.drawn (TTok _ _) mixed ?_ | refine TR.block ?_ | refine TR.ret ?_ | refine TR.exit ?_ | refine TR.skip ?_ | refine TR.condB rfl ?_ | refine TRL.nil ?_ | refine Br.cond_t ?_ | refine Br.cond_f ?_ | refine Br.yes (by first | decide | assumption | (apply decide_eq_true; omega)) ?_ | refine Br.non (by first | decide | assumption | (apply decide_eq_false; omega)) ?_ | refine Br.cond_ff ?_ | refine Br.eqT (by omega) ?_ | refine Br.eqF (by omega) ?_ | refine Br.neT (by omega) ?_ | refine Br.neF (by omega) ?_ | refine Nm.keep ?_ | refine Need.mk (by dsimp only; omega) ?_ | refine Ld.mk' _ rfl ?_ | refine Need.mk (by first | decide | omega | kernel_rfl) ?_ | refine Nm.i64 (by omega) ?_ | refine Nm.u64 (by omega) ?_ | refine Nm.u8 (by omega) ?_) | refine TRL.met rfl rfl rfl rfl rfl rfl rfl rfl rfl (name_met _ (by omega)) ?_ | refine TRL.met rfl rfl rfl rfl rfl rfl rfl rfl rfl (number_met _ 1 (by omega) (by omega)) ?_ | refine TRL.met rfl rfl rfl rfl rfl rfl rfl rfl rfl (number_met _ 2 (by omega) (by omega)) ?_ | refine TRL.met rfl rfl rfl rfl rfl rfl rfl rfl rfl (number_met _ 4 (by omega) (by omega)) ?_ | refine TRL.met rfl rfl rfl rfl rfl rfl rfl rfl rfl (rest_met _ (by omega)) ?_ | (refine optK.mk (fun ⟨x, y⟩ hc => ?_) (fun hc => ?_) <;> (try dsimp only) <;> (try have hz := nameO_size hc) <;> (try have hz := numO_size hc) <;> (try have hz := restO_size hc)) | refine TRn.step ?_ | refine TR.loopN 9 ?_ | refine TRL.step (TTok _ _) ?_ | (refine x_exq (TTok _ _) ?_; (conv => whnf); fail_if_success (guard_target =ₛ False)))
  all_goals (conv => whnf)
  all_goals first | (refine ⟨?_, rfl⟩; simp only [sigO, *, Option.bind_some, Option.bind_none]; done) | (refine ⟨_, by simp only [sigO, *, Option.bind_some]; rfl, rfl, rfl⟩)
def sigT (d : ByteArray) : Value := .tuple #[.agg #[.int .i64 0, .int .i64 0, .int .i64 0, .int .i64 0, .int .i64 0, .int .i64 0, .int .i64 0, .string ⟨#[]⟩, .string ⟨#[]⟩], .int .i64 6]
noncomputable def sigW (d : ByteArray) : Option (Int × Int × Int × Int × Int × Int × Int × ByteArray × ByteArray) := if d.size ≤ 2000 then (sigO d).bind fun (q, r) => if r.size = 0 then some q else none else none
set_option maxHeartbeats 8000000 in
theorem sig_take (d : ByteArray) (hs : d.size < 4294967281) (w : World) : Ret Tryz.prog 74 [.string d, .func (.func 75) #[] #[]] w (match sigW d with | some q => .tuple #[sigV q, .int .i64 0] | none => sigT d) := by
  refine Ret.of_calls ⟨Tryz.f74, Tryz.func74, by kernel_rfl, by kernel_rfl⟩ ?_
  refine calls_catch2 (P := Tryz.prog) (T := TT) (I := fun _ => True) (g := 173) (d0 := 6) (d1 := 2) (pv := .iface 189 (.agg #[])) (R := fun av _ => val av = some _) (fun _ _ => trivial) (TTok 0 _) Tryz.func74 (by kernel_rfl) rfl rfl rfl rfl rfl ?_ Tryz.func173 rfl rfl rfl rfl rfl rfl rfl (by decide) rfl rfl ?_
  · refine quiet_take (P := Tryz.prog) (T := TT) (TTok 0 _) Tryz.func173 (by kernel_rfl) rfl rfl rfl rfl rfl rfl rfl (by decide) rfl ?_
    repeat' ((conv => whnf); first | (with_reducible first | refine TR.seq ?_ | refine TR.regionL ?_ | refine TR.drawn (TTok _ _) mixed ?_ | refine TR.block ?_ | refine TR.ret ?_ | refine TR.exit ?_ | refine TR.skip ?_ | refine TR.condB rfl ?_ | refine TRL.nil ?_ | refine Br.cond_t ?_ | refine Br.cond_f ?_ | refine Br.yes (by first | decide | assumption | (apply decide_eq_true; omega)) ?_ | refine Br.non (by first | decide | assumption | (apply decide_eq_false; omega)) ?_ | refine Br.cond_ff ?_ | refine Br.eqT (by omega) ?_ | refine Br.eqF (by omega) ?_ | refine Br.neT (by omega) ?_ | refine Br.neF (by omega) ?_ | refine Nm.keep ?_ | refine Need.mk (by dsimp only; omega) ?_ | refine Ld.mk' _ rfl ?_ | refine Need.mk (by first | decide | omega | kernel_rfl) ?_ | refine Nm.i64 (by omega) ?_ | refine Nm.u64 (by omega) ?_ | refine Nm.u8 (by omega) ?_) | refine TRL.step (TTok _ _) ?_ | (refine x_exq (TTok _ _) ?_; (conv => whnf); fail_if_success (guard_target =ₛ False)))
    all_goals rfl
  · by_cases h0 : d.size ≤ 2000
    · have hb0 : decide ((d.size : Int) ≤ 2000) = true := decide_eq_true (by omega)
      cases hq : sigO d with
      | none =>
        have hW : sigW d = none := by unfold sigW; rw [if_pos h0, hq]; rfl
        rw [hW]
        repeat' ((conv => whnf); first | refine And.intro rfl ?_ | (with_reducible first | refine TR.seq ?_ | refine TR.regionL ?_ | refine TR.drawn (TTok _ _) mixed ?_ | refine TR.block ?_ | refine TR.ret ?_ | refine TR.exit ?_ | refine TR.skip ?_ | refine TR.condB rfl ?_ | refine TRL.nil ?_ | refine Br.cond_t ?_ | refine Br.cond_f ?_ | refine Br.yes (by first | decide | assumption | (apply decide_eq_true; omega)) ?_ | refine Br.non (by first | decide | assumption | (apply decide_eq_false; omega)) ?_ | refine Br.cond_ff ?_ | refine Br.eqT (by omega) ?_ | refine Br.eqF (by omega) ?_ | refine Br.neT (by omega) ?_ | refine Br.neF (by omega) ?_ | refine Nm.keep ?_ | refine Need.mk (by dsimp only; omega) ?_ | refine Ld.mk' _ rfl ?_ | refine Need.mk (by first | decide | omega | kernel_rfl) ?_ | refine Nm.i64 (by omega) ?_ | refine Nm.u64 (by omega) ?_ | refine Nm.u8 (by omega) ?_) | refine TRL.act rfl (x_store0 (TTok _ _) rfl rfl rfl rfl rfl rfl ?_) | refine x_assert (TTok _ _) rfl rfl rfl ⟨by simp, by simp⟩ ?_ | refine TRL.met rfl rfl rfl rfl rfl rfl rfl rfl rfl (must_met _ _) ?_ | refine TRL.met rfl rfl rfl rfl rfl rfl rfl rfl rfl (sig_met _ hs) ?_ | refine optK.none hq ?_ | (refine optK.some hq ?_; dsimp only) | refine optK.none (by rw [hb0]; rfl) ?_ | refine optK.none (by rw [hb1]; rfl) ?_ | (refine optK.some (p := ()) (by rw [hb1]; rfl) ?_; dsimp only) | (refine optK.some (p := ()) (by rw [hb0]; rfl) ?_; dsimp only) | (refine TRL.step (TTok _ _) ?_; (conv => whnf); fail_if_success (guard_target =ₛ False)) | refine TRL.stepQ (TTok _ _) ?_ | (refine x_exq (TTok _ _) ?_; (conv => whnf); fail_if_success (guard_target =ₛ False)))
        all_goals (conv => whnf)
        all_goals rfl
      | some q =>
        obtain ⟨q, r⟩ := q
        have hz := sig_size hq
        by_cases h1 : r.size = 0
        · have hW : sigW d = some q := by unfold sigW; rw [if_pos h0, hq]; exact if_pos h1
          rw [hW]
          have he := ba_nil h1
          have hb1 : decide (r = ⟨#[]⟩) = true := by simp [he]
          obtain ⟨q0, q1, q2, q3, q4, q5, q6, q7, q8⟩ := q
          repeat' ((conv => whnf); first | refine And.intro rfl ?_ | (with_reducible first | refine TR.seq ?_ | refine TR.regionL ?_ | refine TR.drawn (TTok _ _) mixed ?_ | refine TR.block ?_ | refine TR.ret ?_ | refine TR.exit ?_ | refine TR.skip ?_ | refine TR.condB rfl ?_ | refine TRL.nil ?_ | refine Br.cond_t ?_ | refine Br.cond_f ?_ | refine Br.yes (by first | decide | assumption | (apply decide_eq_true; omega)) ?_ | refine Br.non (by first | decide | assumption | (apply decide_eq_false; omega)) ?_ | refine Br.cond_ff ?_ | refine Br.eqT (by omega) ?_ | refine Br.eqF (by omega) ?_ | refine Br.neT (by omega) ?_ | refine Br.neF (by omega) ?_ | refine Nm.keep ?_ | refine Need.mk (by dsimp only; omega) ?_ | refine Ld.mk' _ rfl ?_ | refine Need.mk (by first | decide | omega | kernel_rfl) ?_ | refine Nm.i64 (by omega) ?_ | refine Nm.u64 (by omega) ?_ | refine Nm.u8 (by omega) ?_) | refine TRL.act rfl (x_store0 (TTok _ _) rfl rfl rfl rfl rfl rfl ?_) | refine x_assert (TTok _ _) rfl rfl rfl ⟨by simp, by simp⟩ ?_ | refine TRL.met rfl rfl rfl rfl rfl rfl rfl rfl rfl (must_met _ _) ?_ | refine TRL.met rfl rfl rfl rfl rfl rfl rfl rfl rfl (sig_met _ hs) ?_ | refine optK.none hq ?_ | (refine optK.some hq ?_; dsimp only) | refine optK.none (by rw [hb0]; rfl) ?_ | refine optK.none (by rw [hb1]; rfl) ?_ | (refine optK.some (p := ()) (by rw [hb1]; rfl) ?_; dsimp only) | (refine optK.some (p := ()) (by rw [hb0]; rfl) ?_; dsimp only) | (refine TRL.step (TTok _ _) ?_; (conv => whnf); fail_if_success (guard_target =ₛ False)) | refine TRL.stepQ (TTok _ _) ?_ | (refine x_exq (TTok _ _) ?_; (conv => whnf); fail_if_success (guard_target =ₛ False)))
          all_goals (conv => whnf)
          all_goals rfl
        · have hW : sigW d = none := by unfold sigW; rw [if_pos h0, hq]; exact if_neg h1
          rw [hW]
          have he : ¬ (r = ⟨#[]⟩) := fun e => h1 (by rw [e]; rfl)
          have hb1 : decide (r = ⟨#[]⟩) = false := by simp [he]
          obtain ⟨q0, q1, q2, q3, q4, q5, q6, q7, q8⟩ := q
          repeat' ((conv => whnf); first | refine And.intro rfl ?_ | (with_reducible first | refine TR.seq ?_ | refine TR.regionL ?_ | refine TR.drawn (TTok _ _) mixed ?_ | refine TR.block ?_ | refine TR.ret ?_ | refine TR.exit ?_ | refine TR.skip ?_ | refine TR.condB rfl ?_ | refine TRL.nil ?_ | refine Br.cond_t ?_ | refine Br.cond_f ?_ | refine Br.yes (by first | decide | assumption | (apply decide_eq_true; omega)) ?_ | refine Br.non (by first | decide | assumption | (apply decide_eq_false; omega)) ?_ | refine Br.cond_ff ?_ | refine Br.eqT (by omega) ?_ | refine Br.eqF (by omega) ?_ | refine Br.neT (by omega) ?_ | refine Br.neF (by omega) ?_ | refine Nm.keep ?_ | refine Need.mk (by dsimp only; omega) ?_ | refine Ld.mk' _ rfl ?_ | refine Need.mk (by first | decide | omega | kernel_rfl) ?_ | refine Nm.i64 (by omega) ?_ | refine Nm.u64 (by omega) ?_ | refine Nm.u8 (by omega) ?_) | refine TRL.act rfl (x_store0 (TTok _ _) rfl rfl rfl rfl rfl rfl ?_) | refine x_assert (TTok _ _) rfl rfl rfl ⟨by simp, by simp⟩ ?_ | refine TRL.met rfl rfl rfl rfl rfl rfl rfl rfl rfl (must_met _ _) ?_ | refine TRL.met rfl rfl rfl rfl rfl rfl rfl rfl rfl (sig_met _ hs) ?_ | refine optK.none hq ?_ | (refine optK.some hq ?_; dsimp only) | refine optK.none (by rw [hb0]; rfl) ?_ | refine optK.none (by rw [hb1]; rfl) ?_ | (refine optK.some (p := ()) (by rw [hb1]; rfl) ?_; dsimp only) | (refine optK.some (p := ()) (by rw [hb0]; rfl) ?_; dsimp only) | (refine TRL.step (TTok _ _) ?_; (conv => whnf); fail_if_success (guard_target =ₛ False)) | refine TRL.stepQ (TTok _ _) ?_ | (refine x_exq (TTok _ _) ?_; (conv => whnf); fail_if_success (guard_target =ₛ False)))
          all_goals (conv => whnf)
          all_goals rfl
    · have hb0 : decide ((d.size : Int) ≤ 2000) = false := decide_eq_false (by omega)
      have hW : sigW d = none := by unfold sigW; rw [if_neg h0]
      rw [hW]
      repeat' ((conv => whnf); first | refine And.intro rfl ?_ | (with_reducible first | refine TR.seq ?_ | refine TR.regionL ?_ | refine TR.drawn (TTok _ _) mixed ?_ | refine TR.block ?_ | refine TR.ret ?_ | refine TR.exit ?_ | refine TR.skip ?_ | refine TR.condB rfl ?_ | refine TRL.nil ?_ | refine Br.cond_t ?_ | refine Br.cond_f ?_ | refine Br.yes (by first | decide | assumption | (apply decide_eq_true; omega)) ?_ | refine Br.non (by first | decide | assumption | (apply decide_eq_false; omega)) ?_ | refine Br.cond_ff ?_ | refine Br.eqT (by omega) ?_ | refine Br.eqF (by omega) ?_ | refine Br.neT (by omega) ?_ | refine Br.neF (by omega) ?_ | refine Nm.keep ?_ | refine Need.mk (by dsimp only; omega) ?_ | refine Ld.mk' _ rfl ?_ | refine Need.mk (by first | decide | omega | kernel_rfl) ?_ | refine Nm.i64 (by omega) ?_ | refine Nm.u64 (by omega) ?_ | refine Nm.u8 (by omega) ?_) | refine TRL.act rfl (x_store0 (TTok _ _) rfl rfl rfl rfl rfl rfl ?_) | refine x_assert (TTok _ _) rfl rfl rfl ⟨by simp, by simp⟩ ?_ | refine TRL.met rfl rfl rfl rfl rfl rfl rfl rfl rfl (must_met _ _) ?_ | refine TRL.met rfl rfl rfl rfl rfl rfl rfl rfl rfl (sig_met _ hs) ?_ | refine optK.none hq ?_ | (refine optK.some hq ?_; dsimp only) | refine optK.none (by rw [hb0]; rfl) ?_ | refine optK.none (by rw [hb1]; rfl) ?_ | (refine optK.some (p := ()) (by rw [hb1]; rfl) ?_; dsimp only) | (refine optK.some (p := ()) (by rw [hb0]; rfl) ?_; dsimp only) | (refine TRL.step (TTok _ _) ?_; (conv => whnf); fail_if_success (guard_target =ₛ False)) | refine TRL.stepQ (TTok _ _) ?_ | (refine x_exq (TTok _ _) ?_; (conv => whnf); fail_if_success (guard_target =ₛ False)))
      all_goals (conv => whnf)
      all_goals rfl
theorem sig_top (d : ByteArray) (hs : d.size < 4294967281) (w : World) : Ret Tryz.prog 23 [.string d] w (match sigW d with | some q => .tuple #[sigV q, .int .i64 0] | none => sigT d) := by
  have h := fun w => sig_take d hs w
  cases hW : sigW d with
  | none =>
    rw [hW] at h
    refine Ret.tj (I := fun _ => True) (fun _ _ => trivial) (TTok 0 _) Tryz.func23 (by kernel_rfl) rfl ?_
    repeat' ((conv => whnf); first | (with_reducible first | refine TJ.seq ?_ | refine TJ.region (TTok _ _) ?_ | refine TJ.drawn (TTok _ _) mixed ?_ | refine TJ.cond rfl ?_ | refine TJ.block ?_ | refine TJ.loop ?_ | refine LJ.step ?_ | refine TJ.ret ?_ | refine TJ.exit ?_ | refine TJ.skip ?_ | refine TJ.scope ?_ | refine TJ.label ?_ | refine Br.cond_t ?_ | refine Br.cond_f ?_ | refine Br.yes (by first | decide | assumption | (apply decide_eq_true; omega)) ?_ | refine Br.non (by first | decide | assumption | (apply decide_eq_false; omega)) ?_ | refine Br.cond_ff ?_ | refine Br.eqT (by omega) ?_ | refine Br.eqF (by omega) ?_ | refine Br.neT (by omega) ?_ | refine Br.neF (by omega) ?_ | refine Ld.mk' _ rfl ?_ | refine Need.mk (by first | decide | omega | kernel_rfl) ?_ | refine Nm.i64 (by omega) ?_ | refine Nm.u64 (by omega) ?_ | refine Nm.u8 (by omega) ?_ | refine x_ret (f := 74) rfl rfl (fun w _ => h w) ?_) | (refine x_exq (TTok _ _) ?_; (conv => whnf); fail_if_success (guard_target =ₛ False)))
    all_goals (conv => whnf)
    all_goals rfl
  | some q =>
    rw [hW] at h
    obtain ⟨q0, q1, q2, q3, q4, q5, q6, q7, q8⟩ := q
    refine Ret.tj (I := fun _ => True) (fun _ _ => trivial) (TTok 0 _) Tryz.func23 (by kernel_rfl) rfl ?_
    repeat' ((conv => whnf); first | (with_reducible first | refine TJ.seq ?_ | refine TJ.region (TTok _ _) ?_ | refine TJ.drawn (TTok _ _) mixed ?_ | refine TJ.cond rfl ?_ | refine TJ.block ?_ | refine TJ.loop ?_ | refine LJ.step ?_ | refine TJ.ret ?_ | refine TJ.exit ?_ | refine TJ.skip ?_ | refine TJ.scope ?_ | refine TJ.label ?_ | refine Br.cond_t ?_ | refine Br.cond_f ?_ | refine Br.yes (by first | decide | assumption | (apply decide_eq_true; omega)) ?_ | refine Br.non (by first | decide | assumption | (apply decide_eq_false; omega)) ?_ | refine Br.cond_ff ?_ | refine Br.eqT (by omega) ?_ | refine Br.eqF (by omega) ?_ | refine Br.neT (by omega) ?_ | refine Br.neF (by omega) ?_ | refine Ld.mk' _ rfl ?_ | refine Need.mk (by first | decide | omega | kernel_rfl) ?_ | refine Nm.i64 (by omega) ?_ | refine Nm.u64 (by omega) ?_ | refine Nm.u8 (by omega) ?_ | refine x_ret (f := 74) rfl rfl (fun w _ => h w) ?_) | (refine x_exq (TTok _ _) ?_; (conv => whnf); fail_if_success (guard_target =ₛ False)))
    all_goals (conv => whnf)
    all_goals rfl
noncomputable def keyO (s0 : ByteArray) : Option ((Int × Int × Int × ByteArray) × ByteArray) := (numO 2 s0).bind fun (x0, s1) => (numO 1 s1).bind fun (x1, s2) => (numO 1 s2).bind fun (x2, s3) => (restO s3).bind fun (x3, s4) => some ((x0, x1, x2, x3), s4)
def keyV (q : Int × Int × Int × ByteArray) : Value := .agg #[.int .i64 q.1, .int .i64 q.2.1, .int .i64 q.2.2.1, .string q.2.2.2]
theorem key_size {s0 r : ByteArray} {q : Int × Int × Int × ByteArray} (h : keyO s0 = some (q, r)) : r.size ≤ s0.size := by
  unfold keyO at h
  cases h0 : numO 2 s0 with
  | none => rw [h0] at h; cases h
  | some y0 =>
  obtain ⟨x0, s1⟩ := y0
  rw [h0] at h
  simp only [Option.bind_some] at h
  have z0 := numO_size h0
  cases h1 : numO 1 s1 with
  | none => rw [h1] at h; cases h
  | some y1 =>
  obtain ⟨x1, s2⟩ := y1
  rw [h1] at h
  simp only [Option.bind_some] at h
  have z1 := numO_size h1
  cases h2 : numO 1 s2 with
  | none => rw [h2] at h; cases h
  | some y2 =>
  obtain ⟨x2, s3⟩ := y2
  rw [h2] at h
  simp only [Option.bind_some] at h
  have z2 := numO_size h2
  cases h3 : restO s3 with
  | none => rw [h3] at h; cases h
  | some y3 =>
  obtain ⟨x3, s4⟩ := y3
  rw [h3] at h
  simp only [Option.bind_some] at h
  have z3 := restO_size h3
  simp only [Option.some.injEq, Prod.mk.injEq] at h
  rw [← h.2]
  omega
set_option maxHeartbeats 8000000 in
theorem key_met (s : ByteArray) (hs : s.size < 4294967281) : SoM 79 s [] (keyO s) (fun p => p.2) (fun p => keyV p.1) := by
  refine MetO.of (TTok _ _) Tryz.func79 (by kernel_rfl) rfl (fun _ _ => rfl) rfl ?_
  repeat' ((conv => whnf); first | (with_reducible first | refine TR.seq ?_ | refine TR.regionL ?_ | refine TR.drawn (TTok _ _) mixed ?_ | refine TR.block ?_ | refine TR.ret ?_ | refine TR.exit ?_ | refine TR.skip ?_ | refine TR.condB rfl ?_ | refine TRL.nil ?_ | refine Br.cond_t ?_ | refine Br.cond_f ?_ | refine Br.yes (by first | decide | assumption | (apply decide_eq_true; omega)) ?_ | refine Br.non (by first | decide | assumption | (apply decide_eq_false; omega)) ?_ | refine Br.cond_ff ?_ | refine Br.eqT (by omega) ?_ | refine Br.eqF (by omega) ?_ | refine Br.neT (by omega) ?_ | refine Br.neF (by omega) ?_ | refine Nm.keep ?_ | refine Need.mk (by dsimp only; omega) ?_ | refine Ld.mk' _ rfl ?_ | refine Need.mk (by first | decide | omega | kernel_rfl) ?_ | refine Nm.i64 (by omega) ?_ | refine Nm.u64 (by omega) ?_ | refine Nm.u8 (by omega) ?_) | refine TRL.met rfl rfl rfl rfl rfl rfl rfl rfl rfl (name_met _ (by omega)) ?_ | refine TRL.met rfl rfl rfl rfl rfl rfl rfl rfl rfl (number_met _ 1 (by omega) (by omega)) ?_ | refine TRL.met rfl rfl rfl rfl rfl rfl rfl rfl rfl (number_met _ 2 (by omega) (by omega)) ?_ | refine TRL.met rfl rfl rfl rfl rfl rfl rfl rfl rfl (number_met _ 4 (by omega) (by omega)) ?_ | refine TRL.met rfl rfl rfl rfl rfl rfl rfl rfl rfl (rest_met _ (by omega)) ?_ | (refine optK.mk (fun ⟨x, y⟩ hc => ?_) (fun hc => ?_) <;> (try dsimp only) <;> (try have hz := nameO_size hc) <;> (try have hz := numO_size hc) <;> (try have hz := restO_size hc)) | refine TRn.step ?_ | refine TR.loopN 9 ?_ | refine TRL.step (TTok _ _) ?_ | (refine x_exq (TTok _ _) ?_; (conv => whnf); fail_if_success (guard_target =ₛ False)))
  all_goals (conv => whnf)
  all_goals first | (refine ⟨?_, rfl⟩; simp only [keyO, *, Option.bind_some, Option.bind_none]; done) | (refine ⟨_, by simp only [keyO, *, Option.bind_some]; rfl, rfl, rfl⟩)
def keyT (d : ByteArray) : Value := .tuple #[.agg #[.int .i64 0, .int .i64 0, .int .i64 0, .string ⟨#[]⟩], .int .i64 6]
noncomputable def keyW (d : ByteArray) : Option (Int × Int × Int × ByteArray) := if d.size ≤ 2000 then (keyO d).bind fun (q, r) => if r.size = 0 then some q else none else none
set_option maxHeartbeats 8000000 in
theorem key_take (d : ByteArray) (hs : d.size < 4294967281) (w : World) : Ret Tryz.prog 78 [.string d, .func (.func 79) #[] #[]] w (match keyW d with | some q => .tuple #[keyV q, .int .i64 0] | none => keyT d) := by
  refine Ret.of_calls ⟨Tryz.f78, Tryz.func78, by kernel_rfl, by kernel_rfl⟩ ?_
  refine calls_catch2 (P := Tryz.prog) (T := TT) (I := fun _ => True) (g := 174) (d0 := 6) (d1 := 2) (pv := .iface 189 (.agg #[])) (R := fun av _ => val av = some _) (fun _ _ => trivial) (TTok 0 _) Tryz.func78 (by kernel_rfl) rfl rfl rfl rfl rfl ?_ Tryz.func174 rfl rfl rfl rfl rfl rfl rfl (by decide) rfl rfl ?_
  · refine quiet_take (P := Tryz.prog) (T := TT) (TTok 0 _) Tryz.func174 (by kernel_rfl) rfl rfl rfl rfl rfl rfl rfl (by decide) rfl ?_
    repeat' ((conv => whnf); first | (with_reducible first | refine TR.seq ?_ | refine TR.regionL ?_ | refine TR.drawn (TTok _ _) mixed ?_ | refine TR.block ?_ | refine TR.ret ?_ | refine TR.exit ?_ | refine TR.skip ?_ | refine TR.condB rfl ?_ | refine TRL.nil ?_ | refine Br.cond_t ?_ | refine Br.cond_f ?_ | refine Br.yes (by first | decide | assumption | (apply decide_eq_true; omega)) ?_ | refine Br.non (by first | decide | assumption | (apply decide_eq_false; omega)) ?_ | refine Br.cond_ff ?_ | refine Br.eqT (by omega) ?_ | refine Br.eqF (by omega) ?_ | refine Br.neT (by omega) ?_ | refine Br.neF (by omega) ?_ | refine Nm.keep ?_ | refine Need.mk (by dsimp only; omega) ?_ | refine Ld.mk' _ rfl ?_ | refine Need.mk (by first | decide | omega | kernel_rfl) ?_ | refine Nm.i64 (by omega) ?_ | refine Nm.u64 (by omega) ?_ | refine Nm.u8 (by omega) ?_) | refine TRL.step (TTok _ _) ?_ | (refine x_exq (TTok _ _) ?_; (conv => whnf); fail_if_success (guard_target =ₛ False)))
    all_goals rfl
  · by_cases h0 : d.size ≤ 2000
    · have hb0 : decide ((d.size : Int) ≤ 2000) = true := decide_eq_true (by omega)
      cases hq : keyO d with
      | none =>
        have hW : keyW d = none := by unfold keyW; rw [if_pos h0, hq]; rfl
        rw [hW]
        repeat' ((conv => whnf); first | refine And.intro rfl ?_ | (with_reducible first | refine TR.seq ?_ | refine TR.regionL ?_ | refine TR.drawn (TTok _ _) mixed ?_ | refine TR.block ?_ | refine TR.ret ?_ | refine TR.exit ?_ | refine TR.skip ?_ | refine TR.condB rfl ?_ | refine TRL.nil ?_ | refine Br.cond_t ?_ | refine Br.cond_f ?_ | refine Br.yes (by first | decide | assumption | (apply decide_eq_true; omega)) ?_ | refine Br.non (by first | decide | assumption | (apply decide_eq_false; omega)) ?_ | refine Br.cond_ff ?_ | refine Br.eqT (by omega) ?_ | refine Br.eqF (by omega) ?_ | refine Br.neT (by omega) ?_ | refine Br.neF (by omega) ?_ | refine Nm.keep ?_ | refine Need.mk (by dsimp only; omega) ?_ | refine Ld.mk' _ rfl ?_ | refine Need.mk (by first | decide | omega | kernel_rfl) ?_ | refine Nm.i64 (by omega) ?_ | refine Nm.u64 (by omega) ?_ | refine Nm.u8 (by omega) ?_) | refine TRL.act rfl (x_store0 (TTok _ _) rfl rfl rfl rfl rfl rfl ?_) | refine x_assert (TTok _ _) rfl rfl rfl ⟨by simp, by simp⟩ ?_ | refine TRL.met rfl rfl rfl rfl rfl rfl rfl rfl rfl (must_met _ _) ?_ | refine TRL.met rfl rfl rfl rfl rfl rfl rfl rfl rfl (key_met _ hs) ?_ | refine optK.none hq ?_ | (refine optK.some hq ?_; dsimp only) | refine optK.none (by rw [hb0]; rfl) ?_ | refine optK.none (by rw [hb1]; rfl) ?_ | (refine optK.some (p := ()) (by rw [hb1]; rfl) ?_; dsimp only) | (refine optK.some (p := ()) (by rw [hb0]; rfl) ?_; dsimp only) | (refine TRL.step (TTok _ _) ?_; (conv => whnf); fail_if_success (guard_target =ₛ False)) | refine TRL.stepQ (TTok _ _) ?_ | (refine x_exq (TTok _ _) ?_; (conv => whnf); fail_if_success (guard_target =ₛ False)))
        all_goals (conv => whnf)
        all_goals rfl
      | some q =>
        obtain ⟨q, r⟩ := q
        have hz := key_size hq
        by_cases h1 : r.size = 0
        · have hW : keyW d = some q := by unfold keyW; rw [if_pos h0, hq]; exact if_pos h1
          rw [hW]
          have he := ba_nil h1
          have hb1 : decide (r = ⟨#[]⟩) = true := by simp [he]
          obtain ⟨q0, q1, q2, q3⟩ := q
          repeat' ((conv => whnf); first | refine And.intro rfl ?_ | (with_reducible first | refine TR.seq ?_ | refine TR.regionL ?_ | refine TR.drawn (TTok _ _) mixed ?_ | refine TR.block ?_ | refine TR.ret ?_ | refine TR.exit ?_ | refine TR.skip ?_ | refine TR.condB rfl ?_ | refine TRL.nil ?_ | refine Br.cond_t ?_ | refine Br.cond_f ?_ | refine Br.yes (by first | decide | assumption | (apply decide_eq_true; omega)) ?_ | refine Br.non (by first | decide | assumption | (apply decide_eq_false; omega)) ?_ | refine Br.cond_ff ?_ | refine Br.eqT (by omega) ?_ | refine Br.eqF (by omega) ?_ | refine Br.neT (by omega) ?_ | refine Br.neF (by omega) ?_ | refine Nm.keep ?_ | refine Need.mk (by dsimp only; omega) ?_ | refine Ld.mk' _ rfl ?_ | refine Need.mk (by first | decide | omega | kernel_rfl) ?_ | refine Nm.i64 (by omega) ?_ | refine Nm.u64 (by omega) ?_ | refine Nm.u8 (by omega) ?_) | refine TRL.act rfl (x_store0 (TTok _ _) rfl rfl rfl rfl rfl rfl ?_) | refine x_assert (TTok _ _) rfl rfl rfl ⟨by simp, by simp⟩ ?_ | refine TRL.met rfl rfl rfl rfl rfl rfl rfl rfl rfl (must_met _ _) ?_ | refine TRL.met rfl rfl rfl rfl rfl rfl rfl rfl rfl (key_met _ hs) ?_ | refine optK.none hq ?_ | (refine optK.some hq ?_; dsimp only) | refine optK.none (by rw [hb0]; rfl) ?_ | refine optK.none (by rw [hb1]; rfl) ?_ | (refine optK.some (p := ()) (by rw [hb1]; rfl) ?_; dsimp only) | (refine optK.some (p := ()) (by rw [hb0]; rfl) ?_; dsimp only) | (refine TRL.step (TTok _ _) ?_; (conv => whnf); fail_if_success (guard_target =ₛ False)) | refine TRL.stepQ (TTok _ _) ?_ | (refine x_exq (TTok _ _) ?_; (conv => whnf); fail_if_success (guard_target =ₛ False)))
          all_goals (conv => whnf)
          all_goals rfl
        · have hW : keyW d = none := by unfold keyW; rw [if_pos h0, hq]; exact if_neg h1
          rw [hW]
          have he : ¬ (r = ⟨#[]⟩) := fun e => h1 (by rw [e]; rfl)
          have hb1 : decide (r = ⟨#[]⟩) = false := by simp [he]
          obtain ⟨q0, q1, q2, q3⟩ := q
          repeat' ((conv => whnf); first | refine And.intro rfl ?_ | (with_reducible first | refine TR.seq ?_ | refine TR.regionL ?_ | refine TR.drawn (TTok _ _) mixed ?_ | refine TR.block ?_ | refine TR.ret ?_ | refine TR.exit ?_ | refine TR.skip ?_ | refine TR.condB rfl ?_ | refine TRL.nil ?_ | refine Br.cond_t ?_ | refine Br.cond_f ?_ | refine Br.yes (by first | decide | assumption | (apply decide_eq_true; omega)) ?_ | refine Br.non (by first | decide | assumption | (apply decide_eq_false; omega)) ?_ | refine Br.cond_ff ?_ | refine Br.eqT (by omega) ?_ | refine Br.eqF (by omega) ?_ | refine Br.neT (by omega) ?_ | refine Br.neF (by omega) ?_ | refine Nm.keep ?_ | refine Need.mk (by dsimp only; omega) ?_ | refine Ld.mk' _ rfl ?_ | refine Need.mk (by first | decide | omega | kernel_rfl) ?_ | refine Nm.i64 (by omega) ?_ | refine Nm.u64 (by omega) ?_ | refine Nm.u8 (by omega) ?_) | refine TRL.act rfl (x_store0 (TTok _ _) rfl rfl rfl rfl rfl rfl ?_) | refine x_assert (TTok _ _) rfl rfl rfl ⟨by simp, by simp⟩ ?_ | refine TRL.met rfl rfl rfl rfl rfl rfl rfl rfl rfl (must_met _ _) ?_ | refine TRL.met rfl rfl rfl rfl rfl rfl rfl rfl rfl (key_met _ hs) ?_ | refine optK.none hq ?_ | (refine optK.some hq ?_; dsimp only) | refine optK.none (by rw [hb0]; rfl) ?_ | refine optK.none (by rw [hb1]; rfl) ?_ | (refine optK.some (p := ()) (by rw [hb1]; rfl) ?_; dsimp only) | (refine optK.some (p := ()) (by rw [hb0]; rfl) ?_; dsimp only) | (refine TRL.step (TTok _ _) ?_; (conv => whnf); fail_if_success (guard_target =ₛ False)) | refine TRL.stepQ (TTok _ _) ?_ | (refine x_exq (TTok _ _) ?_; (conv => whnf); fail_if_success (guard_target =ₛ False)))
          all_goals (conv => whnf)
          all_goals rfl
    · have hb0 : decide ((d.size : Int) ≤ 2000) = false := decide_eq_false (by omega)
      have hW : keyW d = none := by unfold keyW; rw [if_neg h0]
      rw [hW]
      repeat' ((conv => whnf); first | refine And.intro rfl ?_ | (with_reducible first | refine TR.seq ?_ | refine TR.regionL ?_ | refine TR.drawn (TTok _ _) mixed ?_ | refine TR.block ?_ | refine TR.ret ?_ | refine TR.exit ?_ | refine TR.skip ?_ | refine TR.condB rfl ?_ | refine TRL.nil ?_ | refine Br.cond_t ?_ | refine Br.cond_f ?_ | refine Br.yes (by first | decide | assumption | (apply decide_eq_true; omega)) ?_ | refine Br.non (by first | decide | assumption | (apply decide_eq_false; omega)) ?_ | refine Br.cond_ff ?_ | refine Br.eqT (by omega) ?_ | refine Br.eqF (by omega) ?_ | refine Br.neT (by omega) ?_ | refine Br.neF (by omega) ?_ | refine Nm.keep ?_ | refine Need.mk (by dsimp only; omega) ?_ | refine Ld.mk' _ rfl ?_ | refine Need.mk (by first | decide | omega | kernel_rfl) ?_ | refine Nm.i64 (by omega) ?_ | refine Nm.u64 (by omega) ?_ | refine Nm.u8 (by omega) ?_) | refine TRL.act rfl (x_store0 (TTok _ _) rfl rfl rfl rfl rfl rfl ?_) | refine x_assert (TTok _ _) rfl rfl rfl ⟨by simp, by simp⟩ ?_ | refine TRL.met rfl rfl rfl rfl rfl rfl rfl rfl rfl (must_met _ _) ?_ | refine TRL.met rfl rfl rfl rfl rfl rfl rfl rfl rfl (key_met _ hs) ?_ | refine optK.none hq ?_ | (refine optK.some hq ?_; dsimp only) | refine optK.none (by rw [hb0]; rfl) ?_ | refine optK.none (by rw [hb1]; rfl) ?_ | (refine optK.some (p := ()) (by rw [hb1]; rfl) ?_; dsimp only) | (refine optK.some (p := ()) (by rw [hb0]; rfl) ?_; dsimp only) | (refine TRL.step (TTok _ _) ?_; (conv => whnf); fail_if_success (guard_target =ₛ False)) | refine TRL.stepQ (TTok _ _) ?_ | (refine x_exq (TTok _ _) ?_; (conv => whnf); fail_if_success (guard_target =ₛ False)))
      all_goals (conv => whnf)
      all_goals rfl
theorem key_top (d : ByteArray) (hs : d.size < 4294967281) (w : World) : Ret Tryz.prog 25 [.string d] w (match keyW d with | some q => .tuple #[keyV q, .int .i64 0] | none => keyT d) := by
  have h := fun w => key_take d hs w
  cases hW : keyW d with
  | none =>
    rw [hW] at h
    refine Ret.tj (I := fun _ => True) (fun _ _ => trivial) (TTok 0 _) Tryz.func25 (by kernel_rfl) rfl ?_
    repeat' ((conv => whnf); first | (with_reducible first | refine TJ.seq ?_ | refine TJ.region (TTok _ _) ?_ | refine TJ.drawn (TTok _ _) mixed ?_ | refine TJ.cond rfl ?_ | refine TJ.block ?_ | refine TJ.loop ?_ | refine LJ.step ?_ | refine TJ.ret ?_ | refine TJ.exit ?_ | refine TJ.skip ?_ | refine TJ.scope ?_ | refine TJ.label ?_ | refine Br.cond_t ?_ | refine Br.cond_f ?_ | refine Br.yes (by first | decide | assumption | (apply decide_eq_true; omega)) ?_ | refine Br.non (by first | decide | assumption | (apply decide_eq_false; omega)) ?_ | refine Br.cond_ff ?_ | refine Br.eqT (by omega) ?_ | refine Br.eqF (by omega) ?_ | refine Br.neT (by omega) ?_ | refine Br.neF (by omega) ?_ | refine Ld.mk' _ rfl ?_ | refine Need.mk (by first | decide | omega | kernel_rfl) ?_ | refine Nm.i64 (by omega) ?_ | refine Nm.u64 (by omega) ?_ | refine Nm.u8 (by omega) ?_ | refine x_ret (f := 78) rfl rfl (fun w _ => h w) ?_) | (refine x_exq (TTok _ _) ?_; (conv => whnf); fail_if_success (guard_target =ₛ False)))
    all_goals (conv => whnf)
    all_goals rfl
  | some q =>
    rw [hW] at h
    obtain ⟨q0, q1, q2, q3⟩ := q
    refine Ret.tj (I := fun _ => True) (fun _ _ => trivial) (TTok 0 _) Tryz.func25 (by kernel_rfl) rfl ?_
    repeat' ((conv => whnf); first | (with_reducible first | refine TJ.seq ?_ | refine TJ.region (TTok _ _) ?_ | refine TJ.drawn (TTok _ _) mixed ?_ | refine TJ.cond rfl ?_ | refine TJ.block ?_ | refine TJ.loop ?_ | refine LJ.step ?_ | refine TJ.ret ?_ | refine TJ.exit ?_ | refine TJ.skip ?_ | refine TJ.scope ?_ | refine TJ.label ?_ | refine Br.cond_t ?_ | refine Br.cond_f ?_ | refine Br.yes (by first | decide | assumption | (apply decide_eq_true; omega)) ?_ | refine Br.non (by first | decide | assumption | (apply decide_eq_false; omega)) ?_ | refine Br.cond_ff ?_ | refine Br.eqT (by omega) ?_ | refine Br.eqF (by omega) ?_ | refine Br.neT (by omega) ?_ | refine Br.neF (by omega) ?_ | refine Ld.mk' _ rfl ?_ | refine Need.mk (by first | decide | omega | kernel_rfl) ?_ | refine Nm.i64 (by omega) ?_ | refine Nm.u64 (by omega) ?_ | refine Nm.u8 (by omega) ?_ | refine x_ret (f := 78) rfl rfl (fun w _ => h w) ?_) | (refine x_exq (TTok _ _) ?_; (conv => whnf); fail_if_success (guard_target =ₛ False)))
    all_goals (conv => whnf)
    all_goals rfl
noncomputable def dsrO (s0 : ByteArray) : Option ((Int × Int × Int × ByteArray) × ByteArray) := (numO 2 s0).bind fun (x0, s1) => (numO 1 s1).bind fun (x1, s2) => (numO 1 s2).bind fun (x2, s3) => (restO s3).bind fun (x3, s4) => some ((x0, x1, x2, x3), s4)
def dsrV (q : Int × Int × Int × ByteArray) : Value := .agg #[.int .i64 q.1, .int .i64 q.2.1, .int .i64 q.2.2.1, .string q.2.2.2]
theorem dsr_size {s0 r : ByteArray} {q : Int × Int × Int × ByteArray} (h : dsrO s0 = some (q, r)) : r.size ≤ s0.size := by
  unfold dsrO at h
  cases h0 : numO 2 s0 with
  | none => rw [h0] at h; cases h
  | some y0 =>
  obtain ⟨x0, s1⟩ := y0
  rw [h0] at h
  simp only [Option.bind_some] at h
  have z0 := numO_size h0
  cases h1 : numO 1 s1 with
  | none => rw [h1] at h; cases h
  | some y1 =>
  obtain ⟨x1, s2⟩ := y1
  rw [h1] at h
  simp only [Option.bind_some] at h
  have z1 := numO_size h1
  cases h2 : numO 1 s2 with
  | none => rw [h2] at h; cases h
  | some y2 =>
  obtain ⟨x2, s3⟩ := y2
  rw [h2] at h
  simp only [Option.bind_some] at h
  have z2 := numO_size h2
  cases h3 : restO s3 with
  | none => rw [h3] at h; cases h
  | some y3 =>
  obtain ⟨x3, s4⟩ := y3
  rw [h3] at h
  simp only [Option.bind_some] at h
  have z3 := restO_size h3
  simp only [Option.some.injEq, Prod.mk.injEq] at h
  rw [← h.2]
  omega
set_option maxHeartbeats 8000000 in
theorem dsr_met (s : ByteArray) (hs : s.size < 4294967281) : SoM 81 s [] (dsrO s) (fun p => p.2) (fun p => dsrV p.1) := by
  refine MetO.of (TTok _ _) Tryz.func81 (by kernel_rfl) rfl (fun _ _ => rfl) rfl ?_
  repeat' ((conv => whnf); first | (with_reducible first | refine TR.seq ?_ | refine TR.regionL ?_ | refine TR.drawn (TTok _ _) mixed ?_ | refine TR.block ?_ | refine TR.ret ?_ | refine TR.exit ?_ | refine TR.skip ?_ | refine TR.condB rfl ?_ | refine TRL.nil ?_ | refine Br.cond_t ?_ | refine Br.cond_f ?_ | refine Br.yes (by first | decide | assumption | (apply decide_eq_true; omega)) ?_ | refine Br.non (by first | decide | assumption | (apply decide_eq_false; omega)) ?_ | refine Br.cond_ff ?_ | refine Br.eqT (by omega) ?_ | refine Br.eqF (by omega) ?_ | refine Br.neT (by omega) ?_ | refine Br.neF (by omega) ?_ | refine Nm.keep ?_ | refine Need.mk (by dsimp only; omega) ?_ | refine Ld.mk' _ rfl ?_ | refine Need.mk (by first | decide | omega | kernel_rfl) ?_ | refine Nm.i64 (by omega) ?_ | refine Nm.u64 (by omega) ?_ | refine Nm.u8 (by omega) ?_) | refine TRL.met rfl rfl rfl rfl rfl rfl rfl rfl rfl (name_met _ (by omega)) ?_ | refine TRL.met rfl rfl rfl rfl rfl rfl rfl rfl rfl (number_met _ 1 (by omega) (by omega)) ?_ | refine TRL.met rfl rfl rfl rfl rfl rfl rfl rfl rfl (number_met _ 2 (by omega) (by omega)) ?_ | refine TRL.met rfl rfl rfl rfl rfl rfl rfl rfl rfl (number_met _ 4 (by omega) (by omega)) ?_ | refine TRL.met rfl rfl rfl rfl rfl rfl rfl rfl rfl (rest_met _ (by omega)) ?_ | (refine optK.mk (fun ⟨x, y⟩ hc => ?_) (fun hc => ?_) <;> (try dsimp only) <;> (try have hz := nameO_size hc) <;> (try have hz := numO_size hc) <;> (try have hz := restO_size hc)) | refine TRn.step ?_ | refine TR.loopN 9 ?_ | refine TRL.step (TTok _ _) ?_ | (refine x_exq (TTok _ _) ?_; (conv => whnf); fail_if_success (guard_target =ₛ False)))
  all_goals (conv => whnf)
  all_goals first | (refine ⟨?_, rfl⟩; simp only [dsrO, *, Option.bind_some, Option.bind_none]; done) | (refine ⟨_, by simp only [dsrO, *, Option.bind_some]; rfl, rfl, rfl⟩)
def dsrT (d : ByteArray) : Value := .tuple #[.agg #[.int .i64 0, .int .i64 0, .int .i64 0, .string ⟨#[]⟩], .int .i64 6]
noncomputable def dsrW (d : ByteArray) : Option (Int × Int × Int × ByteArray) := if d.size ≤ 2000 then (dsrO d).bind fun (q, r) => if r.size = 0 then some q else none else none
set_option maxHeartbeats 8000000 in
theorem dsr_take (d : ByteArray) (hs : d.size < 4294967281) (w : World) : Ret Tryz.prog 80 [.string d, .func (.func 81) #[] #[]] w (match dsrW d with | some q => .tuple #[dsrV q, .int .i64 0] | none => dsrT d) := by
  refine Ret.of_calls ⟨Tryz.f80, Tryz.func80, by kernel_rfl, by kernel_rfl⟩ ?_
  refine calls_catch2 (P := Tryz.prog) (T := TT) (I := fun _ => True) (g := 175) (d0 := 6) (d1 := 2) (pv := .iface 189 (.agg #[])) (R := fun av _ => val av = some _) (fun _ _ => trivial) (TTok 0 _) Tryz.func80 (by kernel_rfl) rfl rfl rfl rfl rfl ?_ Tryz.func175 rfl rfl rfl rfl rfl rfl rfl (by decide) rfl rfl ?_
  · refine quiet_take (P := Tryz.prog) (T := TT) (TTok 0 _) Tryz.func175 (by kernel_rfl) rfl rfl rfl rfl rfl rfl rfl (by decide) rfl ?_
    repeat' ((conv => whnf); first | (with_reducible first | refine TR.seq ?_ | refine TR.regionL ?_ | refine TR.drawn (TTok _ _) mixed ?_ | refine TR.block ?_ | refine TR.ret ?_ | refine TR.exit ?_ | refine TR.skip ?_ | refine TR.condB rfl ?_ | refine TRL.nil ?_ | refine Br.cond_t ?_ | refine Br.cond_f ?_ | refine Br.yes (by first | decide | assumption | (apply decide_eq_true; omega)) ?_ | refine Br.non (by first | decide | assumption | (apply decide_eq_false; omega)) ?_ | refine Br.cond_ff ?_ | refine Br.eqT (by omega) ?_ | refine Br.eqF (by omega) ?_ | refine Br.neT (by omega) ?_ | refine Br.neF (by omega) ?_ | refine Nm.keep ?_ | refine Need.mk (by dsimp only; omega) ?_ | refine Ld.mk' _ rfl ?_ | refine Need.mk (by first | decide | omega | kernel_rfl) ?_ | refine Nm.i64 (by omega) ?_ | refine Nm.u64 (by omega) ?_ | refine Nm.u8 (by omega) ?_) | refine TRL.step (TTok _ _) ?_ | (refine x_exq (TTok _ _) ?_; (conv => whnf); fail_if_success (guard_target =ₛ False)))
    all_goals rfl
  · by_cases h0 : d.size ≤ 2000
    · have hb0 : decide ((d.size : Int) ≤ 2000) = true := decide_eq_true (by omega)
      cases hq : dsrO d with
      | none =>
        have hW : dsrW d = none := by unfold dsrW; rw [if_pos h0, hq]; rfl
        rw [hW]
        repeat' ((conv => whnf); first | refine And.intro rfl ?_ | (with_reducible first | refine TR.seq ?_ | refine TR.regionL ?_ | refine TR.drawn (TTok _ _) mixed ?_ | refine TR.block ?_ | refine TR.ret ?_ | refine TR.exit ?_ | refine TR.skip ?_ | refine TR.condB rfl ?_ | refine TRL.nil ?_ | refine Br.cond_t ?_ | refine Br.cond_f ?_ | refine Br.yes (by first | decide | assumption | (apply decide_eq_true; omega)) ?_ | refine Br.non (by first | decide | assumption | (apply decide_eq_false; omega)) ?_ | refine Br.cond_ff ?_ | refine Br.eqT (by omega) ?_ | refine Br.eqF (by omega) ?_ | refine Br.neT (by omega) ?_ | refine Br.neF (by omega) ?_ | refine Nm.keep ?_ | refine Need.mk (by dsimp only; omega) ?_ | refine Ld.mk' _ rfl ?_ | refine Need.mk (by first | decide | omega | kernel_rfl) ?_ | refine Nm.i64 (by omega) ?_ | refine Nm.u64 (by omega) ?_ | refine Nm.u8 (by omega) ?_) | refine TRL.act rfl (x_store0 (TTok _ _) rfl rfl rfl rfl rfl rfl ?_) | refine x_assert (TTok _ _) rfl rfl rfl ⟨by simp, by simp⟩ ?_ | refine TRL.met rfl rfl rfl rfl rfl rfl rfl rfl rfl (must_met _ _) ?_ | refine TRL.met rfl rfl rfl rfl rfl rfl rfl rfl rfl (dsr_met _ hs) ?_ | refine optK.none hq ?_ | (refine optK.some hq ?_; dsimp only) | refine optK.none (by rw [hb0]; rfl) ?_ | refine optK.none (by rw [hb1]; rfl) ?_ | (refine optK.some (p := ()) (by rw [hb1]; rfl) ?_; dsimp only) | (refine optK.some (p := ()) (by rw [hb0]; rfl) ?_; dsimp only) | (refine TRL.step (TTok _ _) ?_; (conv => whnf); fail_if_success (guard_target =ₛ False)) | refine TRL.stepQ (TTok _ _) ?_ | (refine x_exq (TTok _ _) ?_; (conv => whnf); fail_if_success (guard_target =ₛ False)))
        all_goals (conv => whnf)
        all_goals rfl
      | some q =>
        obtain ⟨q, r⟩ := q
        have hz := dsr_size hq
        by_cases h1 : r.size = 0
        · have hW : dsrW d = some q := by unfold dsrW; rw [if_pos h0, hq]; exact if_pos h1
          rw [hW]
          have he := ba_nil h1
          have hb1 : decide (r = ⟨#[]⟩) = true := by simp [he]
          obtain ⟨q0, q1, q2, q3⟩ := q
          repeat' ((conv => whnf); first | refine And.intro rfl ?_ | (with_reducible first | refine TR.seq ?_ | refine TR.regionL ?_ | refine TR.drawn (TTok _ _) mixed ?_ | refine TR.block ?_ | refine TR.ret ?_ | refine TR.exit ?_ | refine TR.skip ?_ | refine TR.condB rfl ?_ | refine TRL.nil ?_ | refine Br.cond_t ?_ | refine Br.cond_f ?_ | refine Br.yes (by first | decide | assumption | (apply decide_eq_true; omega)) ?_ | refine Br.non (by first | decide | assumption | (apply decide_eq_false; omega)) ?_ | refine Br.cond_ff ?_ | refine Br.eqT (by omega) ?_ | refine Br.eqF (by omega) ?_ | refine Br.neT (by omega) ?_ | refine Br.neF (by omega) ?_ | refine Nm.keep ?_ | refine Need.mk (by dsimp only; omega) ?_ | refine Ld.mk' _ rfl ?_ | refine Need.mk (by first | decide | omega | kernel_rfl) ?_ | refine Nm.i64 (by omega) ?_ | refine Nm.u64 (by omega) ?_ | refine Nm.u8 (by omega) ?_) | refine TRL.act rfl (x_store0 (TTok _ _) rfl rfl rfl rfl rfl rfl ?_) | refine x_assert (TTok _ _) rfl rfl rfl ⟨by simp, by simp⟩ ?_ | refine TRL.met rfl rfl rfl rfl rfl rfl rfl rfl rfl (must_met _ _) ?_ | refine TRL.met rfl rfl rfl rfl rfl rfl rfl rfl rfl (dsr_met _ hs) ?_ | refine optK.none hq ?_ | (refine optK.some hq ?_; dsimp only) | refine optK.none (by rw [hb0]; rfl) ?_ | refine optK.none (by rw [hb1]; rfl) ?_ | (refine optK.some (p := ()) (by rw [hb1]; rfl) ?_; dsimp only) | (refine optK.some (p := ()) (by rw [hb0]; rfl) ?_; dsimp only) | (refine TRL.step (TTok _ _) ?_; (conv => whnf); fail_if_success (guard_target =ₛ False)) | refine TRL.stepQ (TTok _ _) ?_ | (refine x_exq (TTok _ _) ?_; (conv => whnf); fail_if_success (guard_target =ₛ False)))
          all_goals (conv => whnf)
          all_goals rfl
        · have hW : dsrW d = none := by unfold dsrW; rw [if_pos h0, hq]; exact if_neg h1
          rw [hW]
          have he : ¬ (r = ⟨#[]⟩) := fun e => h1 (by rw [e]; rfl)
          have hb1 : decide (r = ⟨#[]⟩) = false := by simp [he]
          obtain ⟨q0, q1, q2, q3⟩ := q
          repeat' ((conv => whnf); first | refine And.intro rfl ?_ | (with_reducible first | refine TR.seq ?_ | refine TR.regionL ?_ | refine TR.drawn (TTok _ _) mixed ?_ | refine TR.block ?_ | refine TR.ret ?_ | refine TR.exit ?_ | refine TR.skip ?_ | refine TR.condB rfl ?_ | refine TRL.nil ?_ | refine Br.cond_t ?_ | refine Br.cond_f ?_ | refine Br.yes (by first | decide | assumption | (apply decide_eq_true; omega)) ?_ | refine Br.non (by first | decide | assumption | (apply decide_eq_false; omega)) ?_ | refine Br.cond_ff ?_ | refine Br.eqT (by omega) ?_ | refine Br.eqF (by omega) ?_ | refine Br.neT (by omega) ?_ | refine Br.neF (by omega) ?_ | refine Nm.keep ?_ | refine Need.mk (by dsimp only; omega) ?_ | refine Ld.mk' _ rfl ?_ | refine Need.mk (by first | decide | omega | kernel_rfl) ?_ | refine Nm.i64 (by omega) ?_ | refine Nm.u64 (by omega) ?_ | refine Nm.u8 (by omega) ?_) | refine TRL.act rfl (x_store0 (TTok _ _) rfl rfl rfl rfl rfl rfl ?_) | refine x_assert (TTok _ _) rfl rfl rfl ⟨by simp, by simp⟩ ?_ | refine TRL.met rfl rfl rfl rfl rfl rfl rfl rfl rfl (must_met _ _) ?_ | refine TRL.met rfl rfl rfl rfl rfl rfl rfl rfl rfl (dsr_met _ hs) ?_ | refine optK.none hq ?_ | (refine optK.some hq ?_; dsimp only) | refine optK.none (by rw [hb0]; rfl) ?_ | refine optK.none (by rw [hb1]; rfl) ?_ | (refine optK.some (p := ()) (by rw [hb1]; rfl) ?_; dsimp only) | (refine optK.some (p := ()) (by rw [hb0]; rfl) ?_; dsimp only) | (refine TRL.step (TTok _ _) ?_; (conv => whnf); fail_if_success (guard_target =ₛ False)) | refine TRL.stepQ (TTok _ _) ?_ | (refine x_exq (TTok _ _) ?_; (conv => whnf); fail_if_success (guard_target =ₛ False)))
          all_goals (conv => whnf)
          all_goals rfl
    · have hb0 : decide ((d.size : Int) ≤ 2000) = false := decide_eq_false (by omega)
      have hW : dsrW d = none := by unfold dsrW; rw [if_neg h0]
      rw [hW]
      repeat' ((conv => whnf); first | refine And.intro rfl ?_ | (with_reducible first | refine TR.seq ?_ | refine TR.regionL ?_ | refine TR.drawn (TTok _ _) mixed ?_ | refine TR.block ?_ | refine TR.ret ?_ | refine TR.exit ?_ | refine TR.skip ?_ | refine TR.condB rfl ?_ | refine TRL.nil ?_ | refine Br.cond_t ?_ | refine Br.cond_f ?_ | refine Br.yes (by first | decide | assumption | (apply decide_eq_true; omega)) ?_ | refine Br.non (by first | decide | assumption | (apply decide_eq_false; omega)) ?_ | refine Br.cond_ff ?_ | refine Br.eqT (by omega) ?_ | refine Br.eqF (by omega) ?_ | refine Br.neT (by omega) ?_ | refine Br.neF (by omega) ?_ | refine Nm.keep ?_ | refine Need.mk (by dsimp only; omega) ?_ | refine Ld.mk' _ rfl ?_ | refine Need.mk (by first | decide | omega | kernel_rfl) ?_ | refine Nm.i64 (by omega) ?_ | refine Nm.u64 (by omega) ?_ | refine Nm.u8 (by omega) ?_) | refine TRL.act rfl (x_store0 (TTok _ _) rfl rfl rfl rfl rfl rfl ?_) | refine x_assert (TTok _ _) rfl rfl rfl ⟨by simp, by simp⟩ ?_ | refine TRL.met rfl rfl rfl rfl rfl rfl rfl rfl rfl (must_met _ _) ?_ | refine TRL.met rfl rfl rfl rfl rfl rfl rfl rfl rfl (dsr_met _ hs) ?_ | refine optK.none hq ?_ | (refine optK.some hq ?_; dsimp only) | refine optK.none (by rw [hb0]; rfl) ?_ | refine optK.none (by rw [hb1]; rfl) ?_ | (refine optK.some (p := ()) (by rw [hb1]; rfl) ?_; dsimp only) | (refine optK.some (p := ()) (by rw [hb0]; rfl) ?_; dsimp only) | (refine TRL.step (TTok _ _) ?_; (conv => whnf); fail_if_success (guard_target =ₛ False)) | refine TRL.stepQ (TTok _ _) ?_ | (refine x_exq (TTok _ _) ?_; (conv => whnf); fail_if_success (guard_target =ₛ False)))
      all_goals (conv => whnf)
      all_goals rfl
theorem dsr_top (d : ByteArray) (hs : d.size < 4294967281) (w : World) : Ret Tryz.prog 27 [.string d] w (match dsrW d with | some q => .tuple #[dsrV q, .int .i64 0] | none => dsrT d) := by
  have h := fun w => dsr_take d hs w
  cases hW : dsrW d with
  | none =>
    rw [hW] at h
    refine Ret.tj (I := fun _ => True) (fun _ _ => trivial) (TTok 0 _) Tryz.func27 (by kernel_rfl) rfl ?_
    repeat' ((conv => whnf); first | (with_reducible first | refine TJ.seq ?_ | refine TJ.region (TTok _ _) ?_ | refine TJ.drawn (TTok _ _) mixed ?_ | refine TJ.cond rfl ?_ | refine TJ.block ?_ | refine TJ.loop ?_ | refine LJ.step ?_ | refine TJ.ret ?_ | refine TJ.exit ?_ | refine TJ.skip ?_ | refine TJ.scope ?_ | refine TJ.label ?_ | refine Br.cond_t ?_ | refine Br.cond_f ?_ | refine Br.yes (by first | decide | assumption | (apply decide_eq_true; omega)) ?_ | refine Br.non (by first | decide | assumption | (apply decide_eq_false; omega)) ?_ | refine Br.cond_ff ?_ | refine Br.eqT (by omega) ?_ | refine Br.eqF (by omega) ?_ | refine Br.neT (by omega) ?_ | refine Br.neF (by omega) ?_ | refine Ld.mk' _ rfl ?_ | refine Need.mk (by first | decide | omega | kernel_rfl) ?_ | refine Nm.i64 (by omega) ?_ | refine Nm.u64 (by omega) ?_ | refine Nm.u8 (by omega) ?_ | refine x_ret (f := 80) rfl rfl (fun w _ => h w) ?_) | (refine x_exq (TTok _ _) ?_; (conv => whnf); fail_if_success (guard_target =ₛ False)))
    all_goals (conv => whnf)
    all_goals rfl
  | some q =>
    rw [hW] at h
    obtain ⟨q0, q1, q2, q3⟩ := q
    refine Ret.tj (I := fun _ => True) (fun _ _ => trivial) (TTok 0 _) Tryz.func27 (by kernel_rfl) rfl ?_
    repeat' ((conv => whnf); first | (with_reducible first | refine TJ.seq ?_ | refine TJ.region (TTok _ _) ?_ | refine TJ.drawn (TTok _ _) mixed ?_ | refine TJ.cond rfl ?_ | refine TJ.block ?_ | refine TJ.loop ?_ | refine LJ.step ?_ | refine TJ.ret ?_ | refine TJ.exit ?_ | refine TJ.skip ?_ | refine TJ.scope ?_ | refine TJ.label ?_ | refine Br.cond_t ?_ | refine Br.cond_f ?_ | refine Br.yes (by first | decide | assumption | (apply decide_eq_true; omega)) ?_ | refine Br.non (by first | decide | assumption | (apply decide_eq_false; omega)) ?_ | refine Br.cond_ff ?_ | refine Br.eqT (by omega) ?_ | refine Br.eqF (by omega) ?_ | refine Br.neT (by omega) ?_ | refine Br.neF (by omega) ?_ | refine Ld.mk' _ rfl ?_ | refine Need.mk (by first | decide | omega | kernel_rfl) ?_ | refine Nm.i64 (by omega) ?_ | refine Nm.u64 (by omega) ?_ | refine Nm.u8 (by omega) ?_ | refine x_ret (f := 80) rfl rfl (fun w _ => h w) ?_) | (refine x_exq (TTok _ _) ?_; (conv => whnf); fail_if_success (guard_target =ₛ False)))
    all_goals (conv => whnf)
    all_goals rfl
end Go.Proofs.YtbladfkakmdigaaGreatDoor
