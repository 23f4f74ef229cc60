/-
  What the laws of these data stand on: contracts of functions, and plain laws.
-/
import Derived.Test.YtdmgmkifjboojaaGreatDoorFXa
import Derived.Test.YtdmgmkifjboojaaGreatDoorFXb
import Derived.Test.YtdmgmkifjboojaaGreatDoorFXc
import Derived.Test.YtdmgmkifjboojaaGreatDoorFXd
import Derived.Test.YtdmgmkifjboojaaGreatDoorFBa
import Derived.Test.YtdmgmkifjboojaaGreatDoorFBb
set_option linter.unusedVariables false
set_option linter.unusedSimpArgs false
set_option linter.unnecessarySimpa false
set_option maxRecDepth 100000
set_option linter.unusedVariables false
set_option linter.unusedSimpArgs false
namespace Go.Proofs.YtdmgmkifjboojaaGreatDoor
open Go.SX
set_option maxHeartbeats 16000000 in
theorem finds_nn (I : World → Prop) (n : ByteArray) (l : List Up) (la : List An) (f : Up → Nat × List Value) (g : Up → List (Bool × Int × Int)) (H : FindsH I n l la f g) (b0 b1 b2 : Option Addr) (n0 n1 n2 d0 d1 d2 : Nat) (j5 j6 j7 j8 : Int) (h2 : (bestU n l).name ≠ ⟨#[]⟩) (h4 : bestA n la ≠ ⟨#[]⟩) :
    Con Tryz.prog I 5 (fun s => [.agg [.v (.slice b0 n0 d0), .v (.slice b1 n1 d1), .v (.slice b2 n2 d2), .sl (s 0) 0 0 l.length, .sl (s 1) 0 0 la.length, .v (.int .i64 j5), .v (.int .i64 j6), .v (.int .i64 j7), .v (.int .i64 j8)], .v (.string n)]) (fun _ => coH l la 0 0) (fun _ : Unit => True) (fun _ _ => .v (.bool true)) (fun _ _ => coH l la 0 0) (fun _ => False) := by
  obtain ⟨hI, hn, hl, hla, hs, hsa, hf, hg⟩ := H
  have c0 := rupstream I n hn l la 0 0 (by omega) hs (.slice b0 n0 d0) (.slice b1 n1 d1) (.slice b2 n2 d2) (.int .i64 j5) (.int .i64 j6) (.int .i64 j7) (.int .i64 j8)
  have c1 := upstream_con I n hn l la 0 0 (by omega) hs f hf (.slice b0 n0 d0) (.slice b1 n1 d1) (.slice b2 n2 d2) (.int .i64 j5) (.int .i64 j6) (.int .i64 j7) (.int .i64 j8)
  have ex := fun w (hw : I w) => examples_ret I hI hw
  have hAz : (bestA n la).size < 1073741824 := by
    rcases bestA_mem n la with h | ⟨a, h5, h6, _⟩
    · rw [h]; decide
    · rw [← h6]; exact hsa _ h5
  have c2 := anchor_con I n hn l la 0 0 (by omega) hsa (.slice b0 n0 d0) (.slice b1 n1 d1) (.slice b2 n2 d2) (.int .i64 j5) (.int .i64 j6) (.int .i64 j7) (.int .i64 j8) _ rfl
  have c3 := ranchor_some I n hn l la 0 0 (by omega) hsa (.slice b0 n0 d0) (.slice b1 n1 d1) (.slice b2 n2 d2) (.int .i64 j5) (.int .i64 j6) (.int .i64 j7) (.int .i64 j8) _ rfl h4
  have hAd : decide (bestA n la = ⟨#[]⟩) = false := decide_eq_false h4
  rw [hAd] at c2
  have hal : (ownA (bestA n la) la).length ≤ la.length := List.length_filter_le _ _
  generalize (ownA (bestA n la) la) = oa at *
  generalize bestA n la = a at *
  have haa : (!decide (a = a)) = false := by simp
  have hmU : bestU n l ∈ l := by
    rcases bestU_mem n l with h | h
    · exact (h2 (by rw [h]; rfl)).elim
    · exact h
  have hUz := hs _ hmU
  obtain ⟨g1, g2, g3⟩ := hg _ hmU
  have hUd : decide ((bestU n l).name = ⟨#[]⟩) = false := decide_eq_false h2
  rw [hUd, g1] at c1
  dsimp only at c1
  have hUp : ∀ p, PU n l p → (0 ≤ p ∧ p.toNat < l.length ∧ l[p.toNat]? = some (bestU n l)) := by
    rintro p (⟨_, h⟩ | ⟨q1, q2, q3, _⟩)
    · exact (h2 (by rw [h]; rfl)).elim
    · exact ⟨q1, q2, q3⟩
  have hkk : (g (bestU n l)).length < 1099511627776 := by rw [g2]; have := (hf _ (List.mem_cons_of_mem _ hmU)).2.2.1; rw [g1] at this; exact this
  generalize g (bestU n l) = gs at *
  generalize bestU n l = U at *
  obtain ⟨un, ua, um, uc, uf⟩ := U
  dsimp only at *
  subst g2
  have hUU : (!decide (un = un)) = false := by simp
  refine Con.of (TTok _ _) Tryz.func5 (by kernel_rfl) rfl (by simp [coH, refsInC, refsInL_vals]) rfl (fun σ => rfl) (fun σ => by simp [coH, mapR, renK, renL_vals]) (fun _ _ _ => rfl) (fun _ σ _ => by simp [coH, mapR, renK, renL_vals]) (fun _ _ => CEnd.of (by simp [coH, keepS, keep1, allOwn, CK.owned]) rfl (by simp [coH, refsInC, refsInL_vals])) ?_
  unfold coH at *
  unfold coC at c1
  unfold anCC at c2
  unfold anCC at c3
  repeat' ((conv => whnf); first | (with_reducible first | refine TR.seq ?_ | refine TR.regionL ?_ | refine TR.drawn (TTok _ _) mixed ?_ | refine TR.block ?_ | refine TR.ret ?_ | refine TR.exit ?_ | refine TR.skip ?_ | refine TR.condB rfl ?_ | refine TRL.nil ?_ | refine Br.cond_t ?_ | refine Br.cond_f ?_ | refine Br.yes (by first | decide | assumption | (apply decide_eq_true; omega)) ?_ | refine Br.non (by first | decide | assumption | (apply decide_eq_false; omega)) ?_ | refine Br.cond_ff ?_ | refine Br.eqT (by omega) ?_ | refine Br.eqF (by omega) ?_ | refine Br.neT (by omega) ?_ | refine Br.neF (by omega) ?_ | refine x_ret (f := 15) rfl rfl (fun w hw => ex w hw) ?_ | refine Ld.mk' _ rfl ?_ | refine Need.mk (by first | decide | omega | kernel_rfl) ?_ | refine Nm.i64 (by omega) ?_ | refine Nm.u64 (by omega) ?_ | refine Nm.u8 (by omega) ?_ | refine Nm.keep ?_ | refine Need.mk (by dsimp only; omega) ?_) | (refine TRL.con [0, 1] [0, 1] c0 rfl rfl rfl rfl ⟨rfl, rfl, trivial⟩ rfl rfl (fun p0 hp0 => ⟨trivial, ?_⟩) (fun _ h => h.elim)) | (refine TRL.con [0, 1] [0, 1, 26] c3 rfl rfl rfl rfl ⟨rfl, rfl, trivial⟩ rfl rfl (fun p3 _ => ⟨⟨rfl, trivial⟩, ?_⟩) (fun _ h => h.elim)) | refine Br.non rfl ?_ | refine Br.yes rfl ?_ | refine TRL.step (TTok _ _) ?_ | (refine x_exq (TTok _ _) ?_; (conv => whnf); fail_if_success (guard_target =ₛ False)))
  all_goals (conv => whnf)
  obtain ⟨e1, e2, e3⟩ := hUp p0 hp0
  refine TR.loopH (fun i : Nat => [(10, .v (.int .i64 i))]) (fun i => []) (fun i => i ≤ 2) (fun i => 2 - i) 0 (by omega) ?_ ?_
  · repeat' ((conv => whnf); first | exact trivial | exact Fgt.nil | exact Fgt.mk rfl rfl rfl | exact Fgt.mk rfl (by simp only [noRefC, noRefL_cat, noRefL_vals, mixC_noRef]; rfl) rfl | refine And.intro rfl ?_ | refine And.intro ?_ ?_)
    all_goals trace_state
  · intro i hi
    have hge : eqR BinOp.neq ((!false) == decide (p0 ≥ 0)) = false := by rw [decide_eq_true (show p0 ≥ 0 by omega)]; rfl
    have hff : eqR BinOp.neq (uf == uf) = false := by cases uf <;> rfl
    have hsub : ∀ o, o = p0.toNat * 3 → subL ((upsC l).map .v) o 3 = some [.v (.string un), .v (.slice ua gs.length uc), .v (.bool uf)] := by
      rintro _ rfl
      exact subL_flat upC 3 (fun _ => rfl) l p0.toNat _ e3
    by_cases hi2 : i < 2
    · skip
      repeat' ((conv => whnf); first | (with_reducible first | refine TR.seq ?_ | refine TR.regionL ?_ | refine TR.drawn (TTok _ _) mixed ?_ | refine TR.block ?_ | refine TR.ret ?_ | refine TR.exit ?_ | refine TR.skip ?_ | refine TR.condB rfl ?_ | refine TRL.nil ?_ | refine Br.cond_t ?_ | refine Br.cond_f ?_ | refine Br.yes (by first | decide | assumption | (apply decide_eq_true; omega)) ?_ | refine Br.non (by first | decide | assumption | (apply decide_eq_false; omega)) ?_ | refine Br.cond_ff ?_ | refine Br.eqT (by omega) ?_ | refine Br.eqF (by omega) ?_ | refine Br.neT (by omega) ?_ | refine Br.neF (by omega) ?_ | refine Ld.mk' _ (hsub _ (by dsimp only; omega)) ?_ | refine Ld.mk' _ rfl ?_ | refine Need.mk (by first | decide | omega | kernel_rfl) ?_ | refine Nm.i64 (by omega) ?_ | refine Nm.u64 (by omega) ?_ | refine Nm.u8 (by omega) ?_ | refine Nm.keep ?_ | refine Need.mk (by dsimp only; omega) ?_) | (refine TRL.con [0, 1] [0, 1, 37] c1 rfl rfl rfl rfl ⟨rfl, rfl, trivial⟩ rfl rfl (fun p1 _ => ⟨⟨rfl, trivial⟩, ?_⟩) (fun _ h => h.elim)) | refine Br.non hge ?_ | refine Br.non hff ?_ | refine Br.non hUU ?_ | refine Br.non rfl ?_ | refine Br.yes rfl ?_ | refine TRL.step (TTok _ _) ?_ | (refine x_exq (TTok _ _) ?_; (conv => whnf); fail_if_success (guard_target =ₛ False)))
      all_goals (conv => whnf)
      refine TR.loopH (fun j : Nat => [(14, .v (.int .i64 j))]) (fun j => [(37, ⟨.row, 38, 3, p1, mixC adC moC gs j⟩)]) (fun j => j ≤ gs.length) (fun j => gs.length - j) 0 (Nat.zero_le _) ?_ ?_
      · repeat' ((conv => whnf); first | exact trivial | exact Fgt.nil | exact Fgt.mk rfl rfl rfl | exact Fgt.mk rfl (by simp only [noRefC, noRefL_cat, noRefL_vals, mixC_noRef]; rfl) rfl | refine And.intro rfl ?_ | refine And.intro ?_ ?_)
        all_goals trace_state
      · intro j hj
        by_cases hjl : j < gs.length
        · obtain ⟨⟨zb, zh, zl⟩, hz⟩ : ∃ z, gs[j]? = some z := ⟨gs[j], by rw [List.getElem?_eq_getElem]⟩
          obtain ⟨b, o, rfl, hcell⟩ := g3 (by omega)
          obtain ⟨m1, m2⟩ := mixC_at adC moC 3 (fun _ => rfl) (fun _ => rfl) gs j _ hz
          have hld : ∀ o, o = j * 3 → subL (mixC adC moC gs j) o 3 = some [.v (.bool zb), .v (.int .u64 zh), .v (.int .u64 zl)] := by rintro _ rfl; exact m1
          have hl1 : ∀ o, o = j * 3 + 1 → subL (mixC adC moC gs j) o 1 = some [.v (.int .u64 zh)] := by rintro _ rfl; exact subL_in m1
          have hpt : ∀ o, o = j * 3 → putL (mixC adC moC gs j) o [.v (.bool false), .v (.int .u64 (IntKind.u64.wrap (zh + 1))), .v (.int .u64 99)] = some (mixC adC moC gs (j + 1)) := by rintro _ rfl; exact m2
          have hzz : eqR BinOp.neq (zb == zb && (zh == zh && (zl == zl && true))) = false := by rw [show (zb == zb && (zh == zh && (zl == zl && true))) = true by simp]; rfl
          have hcz : ∀ q, q = o + j * 3 → ∀ w, I w → ∀ i u, (adC (zb, zh, zl))[i]? = some u → w.cell? ⟨b, q + i, none⟩ = some u := by
            rintro _ rfl w hw i u hu
            have hi3 : i < 3 := by
              rcases Nat.lt_or_ge i 3 with h | h
              · exact h
              · rw [List.getElem?_eq_none (by simpa [adC] using h)] at hu; cases hu
            have := hcell w hw (j * 3 + i) u (by rw [flat_get adC 3 (fun _ => rfl) gs j i _ hz hi3]; exact hu)
            rw [Nat.add_assoc]
            exact this
          repeat' ((conv => whnf); first | (with_reducible first | refine TR.seq ?_ | refine TR.regionL ?_ | refine TR.drawn (TTok _ _) mixed ?_ | refine TR.block ?_ | refine TR.ret ?_ | refine TR.exit ?_ | refine TR.skip ?_ | refine TR.condB rfl ?_ | refine TRL.nil ?_ | refine Br.cond_t ?_ | refine Br.cond_f ?_ | refine Br.yes (by first | decide | assumption | (apply decide_eq_true; omega)) ?_ | refine Br.non (by first | decide | assumption | (apply decide_eq_false; omega)) ?_ | refine Br.cond_ff ?_ | refine Br.eqT (by omega) ?_ | refine Br.eqF (by omega) ?_ | refine Br.neT (by omega) ?_ | refine Br.neF (by omega) ?_ | refine Ld.mk' _ (hld _ (by dsimp only; omega)) ?_ | refine Ld.mk' _ (hl1 _ (by dsimp only; omega)) ?_ | refine Ld.mk' _ (hpt _ (by dsimp only; omega)) ?_ | refine Ld.mk' _ rfl ?_ | refine Need.mk (by first | decide | omega | kernel_rfl) ?_ | refine Nm.i64 (by omega) ?_ | refine Nm.u64 (by omega) ?_ | refine Nm.u8 (by omega) ?_ | refine Nm.keep ?_ | refine Need.mk (by dsimp only; omega) ?_) | (refine x_load_exA (TTok _ _) rfl rfl rfl rfl rfl (hcz _ (by dsimp only; omega)) ?_) | refine Br.non hzz ?_ | refine Br.non rfl ?_ | refine Br.yes rfl ?_ | refine TRL.step (TTok _ _) ?_ | (refine x_exq (TTok _ _) ?_; (conv => whnf); fail_if_success (guard_target =ₛ False)))
          all_goals (conv => whnf)
          all_goals refine ⟨j + 1, by omega, by omega, ?_⟩
          all_goals repeat' ((conv => whnf); first | exact trivial | exact Fgt.nil | exact Fgt.mk rfl rfl rfl | exact Fgt.mk rfl (by simp only [noRefC, noRefL_cat, noRefL_vals, mixC_noRef]; rfl) rfl | refine And.intro rfl ?_ | refine And.intro ?_ ?_)
          all_goals trace_state
        · skip
          repeat' ((conv => whnf); first | (with_reducible first | refine TR.seq ?_ | refine TR.regionL ?_ | refine TR.drawn (TTok _ _) mixed ?_ | refine TR.block ?_ | refine TR.ret ?_ | refine TR.exit ?_ | refine TR.skip ?_ | refine TR.condB rfl ?_ | refine TRL.nil ?_ | refine Br.cond_t ?_ | refine Br.cond_f ?_ | refine Br.yes (by first | decide | assumption | (apply decide_eq_true; omega)) ?_ | refine Br.non (by first | decide | assumption | (apply decide_eq_false; omega)) ?_ | refine Br.cond_ff ?_ | refine Br.eqT (by omega) ?_ | refine Br.eqF (by omega) ?_ | refine Br.neT (by omega) ?_ | refine Br.neF (by omega) ?_ | refine Ld.mk' _ rfl ?_ | refine Need.mk (by first | decide | omega | kernel_rfl) ?_ | refine Nm.i64 (by omega) ?_ | refine Nm.u64 (by omega) ?_ | refine Nm.u8 (by omega) ?_ | refine Nm.keep ?_ | refine Need.mk (by dsimp only; omega) ?_) | (refine TRL.con [0, 1] [0, 1, 104] c2 rfl rfl rfl rfl ⟨rfl, rfl, trivial⟩ rfl rfl (fun p2 _ => ⟨⟨rfl, trivial⟩, ?_⟩) (fun _ h => h.elim)) | refine Br.non haa ?_ | refine Br.non rfl ?_ | refine Br.yes rfl ?_ | refine TRL.step (TTok _ _) ?_ | (refine x_exq (TTok _ _) ?_; (conv => whnf); fail_if_success (guard_target =ₛ False)))
          all_goals (conv => whnf)
          refine TR.loopH (fun k : Nat => [(18, .v (.int .i64 k))]) (fun k => [(104, ⟨.row, 49, 4, p2, mixC dsC zdC oa k⟩)]) (fun k => k ≤ oa.length) (fun k => oa.length - k) 0 (Nat.zero_le _) ?_ ?_
          · repeat' ((conv => whnf); first | exact trivial | exact Fgt.nil | exact Fgt.mk rfl rfl rfl | exact Fgt.mk rfl (by simp only [noRefC, noRefL_cat, noRefL_vals, mixC_noRef]; rfl) rfl | refine And.intro rfl ?_ | refine And.intro ?_ ?_)
            all_goals trace_state
          · intro k hk
            by_cases hkl : k < oa.length
            · obtain ⟨⟨xn, xt, xa, xk, xd⟩, hx⟩ : ∃ x, oa[k]? = some x := ⟨oa[k], by rw [List.getElem?_eq_getElem]⟩
              obtain ⟨m1, m2⟩ := mixC_at dsC zdC 4 (fun _ => rfl) (fun _ => rfl) oa k _ hx
              have m3 := subL_flat dsC 4 (fun _ => rfl) oa k _ hx
              have hld : ∀ o, o = k * 4 → subL (mixC dsC zdC oa k) o 4 = some [.v (.int .i64 xt), .v (.int .i64 xa), .v (.int .i64 xk), .v (.string xd)] := by rintro _ rfl; exact m1
              have hl2 : ∀ o, o = k * 4 → subL ((oa.flatMap dsC).map .v) o 4 = some [.v (.int .i64 xt), .v (.int .i64 xa), .v (.int .i64 xk), .v (.string xd)] := by rintro _ rfl; exact m3
              have hpt : ∀ o, o = k * 4 → putL (mixC dsC zdC oa k) o [.v (.int .i64 0), .v (.int .i64 0), .v (.int .i64 0), .v (.string ⟨#[]⟩)] = some (mixC dsC zdC oa (k + 1)) := by rintro _ rfl; exact m2
              have hyy : eqR BinOp.neq (xt == xt && (xa == xa && (xk == xk && (decide (xd = xd) && true)))) = false := by rw [show (xt == xt && (xa == xa && (xk == xk && (decide (xd = xd) && true)))) = true by simp]; rfl
              repeat' ((conv => whnf); first | (with_reducible first | refine TR.seq ?_ | refine TR.regionL ?_ | refine TR.drawn (TTok _ _) mixed ?_ | refine TR.block ?_ | refine TR.ret ?_ | refine TR.exit ?_ | refine TR.skip ?_ | refine TR.condB rfl ?_ | refine TRL.nil ?_ | refine Br.cond_t ?_ | refine Br.cond_f ?_ | refine Br.yes (by first | decide | assumption | (apply decide_eq_true; omega)) ?_ | refine Br.non (by first | decide | assumption | (apply decide_eq_false; omega)) ?_ | refine Br.cond_ff ?_ | refine Br.eqT (by omega) ?_ | refine Br.eqF (by omega) ?_ | refine Br.neT (by omega) ?_ | refine Br.neF (by omega) ?_ | refine Ld.mk' _ (hld _ (by dsimp only; omega)) ?_ | refine Ld.mk' _ (hl2 _ (by dsimp only; omega)) ?_ | refine Ld.mk' _ (hpt _ (by dsimp only; omega)) ?_ | refine Ld.mk' _ rfl ?_ | refine Need.mk (by first | decide | omega | kernel_rfl) ?_ | refine Nm.i64 (by omega) ?_ | refine Nm.u64 (by omega) ?_ | refine Nm.u8 (by omega) ?_ | refine Nm.keep ?_ | refine Need.mk (by dsimp only; omega) ?_) | refine Br.non hyy ?_ | refine Br.non rfl ?_ | refine Br.yes rfl ?_ | refine TRL.step (TTok _ _) ?_ | (refine x_exq (TTok _ _) ?_; (conv => whnf); fail_if_success (guard_target =ₛ False)))
              all_goals (conv => whnf)
              all_goals refine ⟨k + 1, by omega, by omega, ?_⟩
              all_goals repeat' ((conv => whnf); first | exact trivial | exact Fgt.nil | exact Fgt.mk rfl rfl rfl | exact Fgt.mk rfl (by simp only [noRefC, noRefL_cat, noRefL_vals, mixC_noRef]; rfl) rfl | refine And.intro rfl ?_ | refine And.intro ?_ ?_)
              all_goals trace_state
            · skip
              repeat' ((conv => whnf); first | (with_reducible first | refine TR.seq ?_ | refine TR.regionL ?_ | refine TR.drawn (TTok _ _) mixed ?_ | refine TR.block ?_ | refine TR.ret ?_ | refine TR.exit ?_ | refine TR.skip ?_ | refine TR.condB rfl ?_ | refine TRL.nil ?_ | refine Br.cond_t ?_ | refine Br.cond_f ?_ | refine Br.yes (by first | decide | assumption | (apply decide_eq_true; omega)) ?_ | refine Br.non (by first | decide | assumption | (apply decide_eq_false; omega)) ?_ | refine Br.cond_ff ?_ | refine Br.eqT (by omega) ?_ | refine Br.eqF (by omega) ?_ | refine Br.neT (by omega) ?_ | refine Br.neF (by omega) ?_ | refine Ld.mk' _ rfl ?_ | refine Need.mk (by first | decide | omega | kernel_rfl) ?_ | refine Nm.i64 (by omega) ?_ | refine Nm.u64 (by omega) ?_ | refine Nm.u8 (by omega) ?_ | refine Nm.keep ?_ | refine Need.mk (by dsimp only; omega) ?_) | refine Br.non rfl ?_ | refine Br.yes rfl ?_ | refine TRL.step (TTok _ _) ?_ | (refine x_exq (TTok _ _) ?_; (conv => whnf); fail_if_success (guard_target =ₛ False)))
              all_goals (conv => whnf)
              all_goals refine ⟨i + 1, by omega, by omega, ?_⟩
              all_goals repeat' ((conv => whnf); first | exact trivial | exact Fgt.nil | exact Fgt.mk rfl rfl rfl | exact Fgt.mk rfl (by simp only [noRefC, noRefL_cat, noRefL_vals, mixC_noRef]; rfl) rfl | refine And.intro rfl ?_ | refine And.intro ?_ ?_)
              all_goals trace_state
    · obtain rfl : i = 2 := by omega
      repeat' ((conv => whnf); first | (with_reducible first | refine TR.seq ?_ | refine TR.regionL ?_ | refine TR.drawn (TTok _ _) mixed ?_ | refine TR.block ?_ | refine TR.ret ?_ | refine TR.exit ?_ | refine TR.skip ?_ | refine TR.condB rfl ?_ | refine TRL.nil ?_ | refine Br.cond_t ?_ | refine Br.cond_f ?_ | refine Br.yes (by first | decide | assumption | (apply decide_eq_true; omega)) ?_ | refine Br.non (by first | decide | assumption | (apply decide_eq_false; omega)) ?_ | refine Br.cond_ff ?_ | refine Br.eqT (by omega) ?_ | refine Br.eqF (by omega) ?_ | refine Br.neT (by omega) ?_ | refine Br.neF (by omega) ?_ | refine Ld.mk' _ rfl ?_ | refine Need.mk (by first | decide | omega | kernel_rfl) ?_ | refine Nm.i64 (by omega) ?_ | refine Nm.u64 (by omega) ?_ | refine Nm.u8 (by omega) ?_ | refine Nm.keep ?_ | refine Need.mk (by dsimp only; omega) ?_) | refine Br.non rfl ?_ | refine Br.yes rfl ?_ | refine TRL.step (TTok _ _) ?_ | (refine x_exq (TTok _ _) ?_; (conv => whnf); fail_if_success (guard_target =ₛ False)))
      all_goals (conv => whnf)
      all_goals first | exact ⟨(), trivial, rfl, rfl, rfl, trivial⟩ | trace_state
end Go.Proofs.YtdmgmkifjboojaaGreatDoor
set_option maxRecDepth 100000
set_option linter.unusedVariables false
set_option linter.unusedSimpArgs false
namespace Go.Proofs.YtdmgmkifjboojaaGreatDoor
open Go.SX
set_option maxHeartbeats 16000000 in
theorem finds_ne (I : World → Prop) (n : ByteArray) (l : List Up) (la : List An) (f : Up → Nat × List Value) (g : Up → List (Bool × Int × Int)) (H : FindsH I n l la f g) (b0 b1 b2 : Option Addr) (n0 n1 n2 d0 d1 d2 : Nat) (j5 j6 j7 j8 : Int) (h2 : (bestU n l).name ≠ ⟨#[]⟩) (h4 : bestA n la = ⟨#[]⟩) :
    Con Tryz.prog I 5 (fun s => [.agg [.v (.slice b0 n0 d0), .v (.slice b1 n1 d1), .v (.slice b2 n2 d2), .sl (s 0) 0 0 l.length, .sl (s 1) 0 0 la.length, .v (.int .i64 j5), .v (.int .i64 j6), .v (.int .i64 j7), .v (.int .i64 j8)], .v (.string n)]) (fun _ => coH l la 0 0) (fun _ : Unit => True) (fun _ _ => .v (.bool true)) (fun _ _ => coH l la 0 0) (fun _ => False) := by
  obtain ⟨hI, hn, hl, hla, hs, hsa, hf, hg⟩ := H
  have c0 := rupstream I n hn l la 0 0 (by omega) hs (.slice b0 n0 d0) (.slice b1 n1 d1) (.slice b2 n2 d2) (.int .i64 j5) (.int .i64 j6) (.int .i64 j7) (.int .i64 j8)
  have c1 := upstream_con I n hn l la 0 0 (by omega) hs f hf (.slice b0 n0 d0) (.slice b1 n1 d1) (.slice b2 n2 d2) (.int .i64 j5) (.int .i64 j6) (.int .i64 j7) (.int .i64 j8)
  have ex := fun w (hw : I w) => examples_ret I hI hw
  have c2 := anchor_con I n hn l la 0 0 (by omega) hsa (.slice b0 n0 d0) (.slice b1 n1 d1) (.slice b2 n2 d2) (.int .i64 j5) (.int .i64 j6) (.int .i64 j7) (.int .i64 j8) _ h4
  have c3 := ranchor_nil I n hn l la 0 0 (by omega) hsa (.slice b0 n0 d0) (.slice b1 n1 d1) (.slice b2 n2 d2) (.int .i64 j5) (.int .i64 j6) (.int .i64 j7) (.int .i64 j8) h4
  have hAd : decide ((⟨#[]⟩ : ByteArray) = ⟨#[]⟩) = true := decide_eq_true rfl
  rw [hAd, ownA_nil] at c2
  have haa : (!decide ((⟨#[]⟩ : ByteArray) = ⟨#[]⟩)) = false := by simp
  have hmU : bestU n l ∈ l := by
    rcases bestU_mem n l with h | h
    · exact (h2 (by rw [h]; rfl)).elim
    · exact h
  have hUz := hs _ hmU
  obtain ⟨g1, g2, g3⟩ := hg _ hmU
  have hUd : decide ((bestU n l).name = ⟨#[]⟩) = false := decide_eq_false h2
  rw [hUd, g1] at c1
  dsimp only at c1
  have hUp : ∀ p, PU n l p → (0 ≤ p ∧ p.toNat < l.length ∧ l[p.toNat]? = some (bestU n l)) := by
    rintro p (⟨_, h⟩ | ⟨q1, q2, q3, _⟩)
    · exact (h2 (by rw [h]; rfl)).elim
    · exact ⟨q1, q2, q3⟩
  have hkk : (g (bestU n l)).length < 1099511627776 := by rw [g2]; have := (hf _ (List.mem_cons_of_mem _ hmU)).2.2.1; rw [g1] at this; exact this
  generalize g (bestU n l) = gs at *
  generalize bestU n l = U at *
  obtain ⟨un, ua, um, uc, uf⟩ := U
  dsimp only at *
  subst g2
  have hUU : (!decide (un = un)) = false := by simp
  refine Con.of (TTok _ _) Tryz.func5 (by kernel_rfl) rfl (by simp [coH, refsInC, refsInL_vals]) rfl (fun σ => rfl) (fun σ => by simp [coH, mapR, renK, renL_vals]) (fun _ _ _ => rfl) (fun _ σ _ => by simp [coH, mapR, renK, renL_vals]) (fun _ _ => CEnd.of (by simp [coH, keepS, keep1, allOwn, CK.owned]) rfl (by simp [coH, refsInC, refsInL_vals])) ?_
  unfold coH at *
  unfold coC at c1
  unfold anCC at c2
  repeat' ((conv => whnf); first | (with_reducible first | refine TR.seq ?_ | refine TR.regionL ?_ | refine TR.drawn (TTok _ _) mixed ?_ | refine TR.block ?_ | refine TR.ret ?_ | refine TR.exit ?_ | refine TR.skip ?_ | refine TR.condB rfl ?_ | refine TRL.nil ?_ | refine Br.cond_t ?_ | refine Br.cond_f ?_ | refine Br.yes (by first | decide | assumption | (apply decide_eq_true; omega)) ?_ | refine Br.non (by first | decide | assumption | (apply decide_eq_false; omega)) ?_ | refine Br.cond_ff ?_ | refine Br.eqT (by omega) ?_ | refine Br.eqF (by omega) ?_ | refine Br.neT (by omega) ?_ | refine Br.neF (by omega) ?_ | refine x_ret (f := 15) rfl rfl (fun w hw => ex w hw) ?_ | refine Ld.mk' _ rfl ?_ | refine Need.mk (by first | decide | omega | kernel_rfl) ?_ | refine Nm.i64 (by omega) ?_ | refine Nm.u64 (by omega) ?_ | refine Nm.u8 (by omega) ?_ | refine Nm.keep ?_ | refine Need.mk (by dsimp only; omega) ?_) | (refine TRL.con [0, 1] [0, 1] c0 rfl rfl rfl rfl ⟨rfl, rfl, trivial⟩ rfl rfl (fun p0 hp0 => ⟨trivial, ?_⟩) (fun _ h => h.elim)) | (refine TRL.con [0, 1] [0, 1] c3 rfl rfl rfl rfl ⟨rfl, rfl, trivial⟩ rfl rfl (fun p3 _ => ⟨trivial, ?_⟩) (fun _ h => h.elim)) | refine Br.non rfl ?_ | refine Br.yes rfl ?_ | refine TRL.step (TTok _ _) ?_ | (refine x_exq (TTok _ _) ?_; (conv => whnf); fail_if_success (guard_target =ₛ False)))
  all_goals (conv => whnf)
  obtain ⟨e1, e2, e3⟩ := hUp p0 hp0
  refine TR.loopH (fun i : Nat => [(10, .v (.int .i64 i))]) (fun i => []) (fun i => i ≤ 2) (fun i => 2 - i) 0 (by omega) ?_ ?_
  · repeat' ((conv => whnf); first | exact trivial | exact Fgt.nil | exact Fgt.mk rfl rfl rfl | exact Fgt.mk rfl (by simp only [noRefC, noRefL_cat, noRefL_vals, mixC_noRef]; rfl) rfl | refine And.intro rfl ?_ | refine And.intro ?_ ?_)
    all_goals trace_state
  · intro i hi
    have hge : eqR BinOp.neq ((!false) == decide (p0 ≥ 0)) = false := by rw [decide_eq_true (show p0 ≥ 0 by omega)]; rfl
    have hff : eqR BinOp.neq (uf == uf) = false := by cases uf <;> rfl
    have hsub : ∀ o, o = p0.toNat * 3 → subL ((upsC l).map .v) o 3 = some [.v (.string un), .v (.slice ua gs.length uc), .v (.bool uf)] := by
      rintro _ rfl
      exact subL_flat upC 3 (fun _ => rfl) l p0.toNat _ e3
    by_cases hi2 : i < 2
    · skip
      repeat' ((conv => whnf); first | (with_reducible first | refine TR.seq ?_ | refine TR.regionL ?_ | refine TR.drawn (TTok _ _) mixed ?_ | refine TR.block ?_ | refine TR.ret ?_ | refine TR.exit ?_ | refine TR.skip ?_ | refine TR.condB rfl ?_ | refine TRL.nil ?_ | refine Br.cond_t ?_ | refine Br.cond_f ?_ | refine Br.yes (by first | decide | assumption | (apply decide_eq_true; omega)) ?_ | refine Br.non (by first | decide | assumption | (apply decide_eq_false; omega)) ?_ | refine Br.cond_ff ?_ | refine Br.eqT (by omega) ?_ | refine Br.eqF (by omega) ?_ | refine Br.neT (by omega) ?_ | refine Br.neF (by omega) ?_ | refine Ld.mk' _ (hsub _ (by dsimp only; omega)) ?_ | refine Ld.mk' _ rfl ?_ | refine Need.mk (by first | decide | omega | kernel_rfl) ?_ | refine Nm.i64 (by omega) ?_ | refine Nm.u64 (by omega) ?_ | refine Nm.u8 (by omega) ?_ | refine Nm.keep ?_ | refine Need.mk (by dsimp only; omega) ?_) | (refine TRL.con [0, 1] [0, 1, 37] c1 rfl rfl rfl rfl ⟨rfl, rfl, trivial⟩ rfl rfl (fun p1 _ => ⟨⟨rfl, trivial⟩, ?_⟩) (fun _ h => h.elim)) | refine Br.non hge ?_ | refine Br.non hff ?_ | refine Br.non hUU ?_ | refine Br.non rfl ?_ | refine Br.yes rfl ?_ | refine TRL.step (TTok _ _) ?_ | (refine x_exq (TTok _ _) ?_; (conv => whnf); fail_if_success (guard_target =ₛ False)))
      all_goals (conv => whnf)
      refine TR.loopH (fun j : Nat => [(14, .v (.int .i64 j))]) (fun j => [(37, ⟨.row, 38, 3, p1, mixC adC moC gs j⟩)]) (fun j => j ≤ gs.length) (fun j => gs.length - j) 0 (Nat.zero_le _) ?_ ?_
      · repeat' ((conv => whnf); first | exact trivial | exact Fgt.nil | exact Fgt.mk rfl rfl rfl | exact Fgt.mk rfl (by simp only [noRefC, noRefL_cat, noRefL_vals, mixC_noRef]; rfl) rfl | refine And.intro rfl ?_ | refine And.intro ?_ ?_)
        all_goals trace_state
      · intro j hj
        by_cases hjl : j < gs.length
        · obtain ⟨⟨zb, zh, zl⟩, hz⟩ : ∃ z, gs[j]? = some z := ⟨gs[j], by rw [List.getElem?_eq_getElem]⟩
          obtain ⟨b, o, rfl, hcell⟩ := g3 (by omega)
          obtain ⟨m1, m2⟩ := mixC_at adC moC 3 (fun _ => rfl) (fun _ => rfl) gs j _ hz
          have hld : ∀ o, o = j * 3 → subL (mixC adC moC gs j) o 3 = some [.v (.bool zb), .v (.int .u64 zh), .v (.int .u64 zl)] := by rintro _ rfl; exact m1
          have hl1 : ∀ o, o = j * 3 + 1 → subL (mixC adC moC gs j) o 1 = some [.v (.int .u64 zh)] := by rintro _ rfl; exact subL_in m1
          have hpt : ∀ o, o = j * 3 → putL (mixC adC moC gs j) o [.v (.bool false), .v (.int .u64 (IntKind.u64.wrap (zh + 1))), .v (.int .u64 99)] = some (mixC adC moC gs (j + 1)) := by rintro _ rfl; exact m2
          have hzz : eqR BinOp.neq (zb == zb && (zh == zh && (zl == zl && true))) = false := by rw [show (zb == zb && (zh == zh && (zl == zl && true))) = true by simp]; rfl
          have hcz : ∀ q, q = o + j * 3 → ∀ w, I w → ∀ i u, (adC (zb, zh, zl))[i]? = some u → w.cell? ⟨b, q + i, none⟩ = some u := by
            rintro _ rfl w hw i u hu
            have hi3 : i < 3 := by
              rcases Nat.lt_or_ge i 3 with h | h
              · exact h
              · rw [List.getElem?_eq_none (by simpa [adC] using h)] at hu; cases hu
            have := hcell w hw (j * 3 + i) u (by rw [flat_get adC 3 (fun _ => rfl) gs j i _ hz hi3]; exact hu)
            rw [Nat.add_assoc]
            exact this
          repeat' ((conv => whnf); first | (with_reducible first | refine TR.seq ?_ | refine TR.regionL ?_ | refine TR.drawn (TTok _ _) mixed ?_ | refine TR.block ?_ | refine TR.ret ?_ | refine TR.exit ?_ | refine TR.skip ?_ | refine TR.condB rfl ?_ | refine TRL.nil ?_ | refine Br.cond_t ?_ | refine Br.cond_f ?_ | refine Br.yes (by first | decide | assumption | (apply decide_eq_true; omega)) ?_ | refine Br.non (by first | decide | assumption | (apply decide_eq_false; omega)) ?_ | refine Br.cond_ff ?_ | refine Br.eqT (by omega) ?_ | refine Br.eqF (by omega) ?_ | refine Br.neT (by omega) ?_ | refine Br.neF (by omega) ?_ | refine Ld.mk' _ (hld _ (by dsimp only; omega)) ?_ | refine Ld.mk' _ (hl1 _ (by dsimp only; omega)) ?_ | refine Ld.mk' _ (hpt _ (by dsimp only; omega)) ?_ | refine Ld.mk' _ rfl ?_ | refine Need.mk (by first | decide | omega | kernel_rfl) ?_ | refine Nm.i64 (by omega) ?_ | refine Nm.u64 (by omega) ?_ | refine Nm.u8 (by omega) ?_ | refine Nm.keep ?_ | refine Need.mk (by dsimp only; omega) ?_) | (refine x_load_exA (TTok _ _) rfl rfl rfl rfl rfl (hcz _ (by dsimp only; omega)) ?_) | refine Br.non hzz ?_ | refine Br.non rfl ?_ | refine Br.yes rfl ?_ | refine TRL.step (TTok _ _) ?_ | (refine x_exq (TTok _ _) ?_; (conv => whnf); fail_if_success (guard_target =ₛ False)))
          all_goals (conv => whnf)
          all_goals refine ⟨j + 1, by omega, by omega, ?_⟩
          all_goals repeat' ((conv => whnf); first | exact trivial | exact Fgt.nil | exact Fgt.mk rfl rfl rfl | exact Fgt.mk rfl (by simp only [noRefC, noRefL_cat, noRefL_vals, mixC_noRef]; rfl) rfl | refine And.intro rfl ?_ | refine And.intro ?_ ?_)
          all_goals trace_state
        · skip
          repeat' ((conv => whnf); first | (with_reducible first | refine TR.seq ?_ | refine TR.regionL ?_ | refine TR.drawn (TTok _ _) mixed ?_ | refine TR.block ?_ | refine TR.ret ?_ | refine TR.exit ?_ | refine TR.skip ?_ | refine TR.condB rfl ?_ | refine TRL.nil ?_ | refine Br.cond_t ?_ | refine Br.cond_f ?_ | refine Br.yes (by first | decide | assumption | (apply decide_eq_true; omega)) ?_ | refine Br.non (by first | decide | assumption | (apply decide_eq_false; omega)) ?_ | refine Br.cond_ff ?_ | refine Br.eqT (by omega) ?_ | refine Br.eqF (by omega) ?_ | refine Br.neT (by omega) ?_ | refine Br.neF (by omega) ?_ | refine Ld.mk' _ rfl ?_ | refine Need.mk (by first | decide | omega | kernel_rfl) ?_ | refine Nm.i64 (by omega) ?_ | refine Nm.u64 (by omega) ?_ | refine Nm.u8 (by omega) ?_ | refine Nm.keep ?_ | refine Need.mk (by dsimp only; omega) ?_) | (refine TRL.con [0, 1] [0, 1, 104] c2 rfl rfl rfl rfl ⟨rfl, rfl, trivial⟩ rfl rfl (fun p2 _ => ⟨⟨rfl, trivial⟩, ?_⟩) (fun _ h => h.elim)) | refine Br.non haa ?_ | refine Br.non rfl ?_ | refine Br.yes rfl ?_ | refine TRL.step (TTok _ _) ?_ | (refine x_exq (TTok _ _) ?_; (conv => whnf); fail_if_success (guard_target =ₛ False)))
          all_goals (conv => whnf)
          refine TR.loopH (fun k : Nat => [(18, .v (.int .i64 k))]) (fun k => []) (fun k => k ≤ 0) (fun k => 0 - k) 0 (Nat.zero_le _) ?_ ?_
          · repeat' ((conv => whnf); first | exact trivial | exact Fgt.nil | exact Fgt.mk rfl rfl rfl | exact Fgt.mk rfl (by simp only [noRefC, noRefL_cat, noRefL_vals, mixC_noRef]; rfl) rfl | refine And.intro rfl ?_ | refine And.intro ?_ ?_)
            all_goals trace_state
          · intro k hk
            by_cases hkl : k < 0
            · omega
            · skip
              repeat' ((conv => whnf); first | (with_reducible first | refine TR.seq ?_ | refine TR.regionL ?_ | refine TR.drawn (TTok _ _) mixed ?_ | refine TR.block ?_ | refine TR.ret ?_ | refine TR.exit ?_ | refine TR.skip ?_ | refine TR.condB rfl ?_ | refine TRL.nil ?_ | refine Br.cond_t ?_ | refine Br.cond_f ?_ | refine Br.yes (by first | decide | assumption | (apply decide_eq_true; omega)) ?_ | refine Br.non (by first | decide | assumption | (apply decide_eq_false; omega)) ?_ | refine Br.cond_ff ?_ | refine Br.eqT (by omega) ?_ | refine Br.eqF (by omega) ?_ | refine Br.neT (by omega) ?_ | refine Br.neF (by omega) ?_ | refine Ld.mk' _ rfl ?_ | refine Need.mk (by first | decide | omega | kernel_rfl) ?_ | refine Nm.i64 (by omega) ?_ | refine Nm.u64 (by omega) ?_ | refine Nm.u8 (by omega) ?_ | refine Nm.keep ?_ | refine Need.mk (by dsimp only; omega) ?_) | refine Br.non rfl ?_ | refine Br.yes rfl ?_ | refine TRL.step (TTok _ _) ?_ | (refine x_exq (TTok _ _) ?_; (conv => whnf); fail_if_success (guard_target =ₛ False)))
              all_goals (conv => whnf)
              all_goals refine ⟨i + 1, by omega, by omega, ?_⟩
              all_goals repeat' ((conv => whnf); first | exact trivial | exact Fgt.nil | exact Fgt.mk rfl rfl rfl | exact Fgt.mk rfl (by simp only [noRefC, noRefL_cat, noRefL_vals, mixC_noRef]; rfl) rfl | refine And.intro rfl ?_ | refine And.intro ?_ ?_)
              all_goals trace_state
    · obtain rfl : i = 2 := by omega
      repeat' ((conv => whnf); first | (with_reducible first | refine TR.seq ?_ | refine TR.regionL ?_ | refine TR.drawn (TTok _ _) mixed ?_ | refine TR.block ?_ | refine TR.ret ?_ | refine TR.exit ?_ | refine TR.skip ?_ | refine TR.condB rfl ?_ | refine TRL.nil ?_ | refine Br.cond_t ?_ | refine Br.cond_f ?_ | refine Br.yes (by first | decide | assumption | (apply decide_eq_true; omega)) ?_ | refine Br.non (by first | decide | assumption | (apply decide_eq_false; omega)) ?_ | refine Br.cond_ff ?_ | refine Br.eqT (by omega) ?_ | refine Br.eqF (by omega) ?_ | refine Br.neT (by omega) ?_ | refine Br.neF (by omega) ?_ | refine Ld.mk' _ rfl ?_ | refine Need.mk (by first | decide | omega | kernel_rfl) ?_ | refine Nm.i64 (by omega) ?_ | refine Nm.u64 (by omega) ?_ | refine Nm.u8 (by omega) ?_ | refine Nm.keep ?_ | refine Need.mk (by dsimp only; omega) ?_) | refine Br.non rfl ?_ | refine Br.yes rfl ?_ | refine TRL.step (TTok _ _) ?_ | (refine x_exq (TTok _ _) ?_; (conv => whnf); fail_if_success (guard_target =ₛ False)))
      all_goals (conv => whnf)
      all_goals first | exact ⟨(), trivial, rfl, rfl, rfl, trivial⟩ | trace_state
end Go.Proofs.YtdmgmkifjboojaaGreatDoor
set_option maxRecDepth 100000
set_option linter.unusedVariables false
set_option linter.unusedSimpArgs false
namespace Go.Proofs.YtdmgmkifjboojaaGreatDoor
open Go.SX
set_option maxHeartbeats 16000000 in
theorem finds_en (I : World → Prop) (n : ByteArray) (l : List Up) (la : List An) (f : Up → Nat × List Value) (g : Up → List (Bool × Int × Int)) (H : FindsH I n l la f g) (b0 b1 b2 : Option Addr) (n0 n1 n2 d0 d1 d2 : Nat) (j5 j6 j7 j8 : Int) (h2 : (bestU n l).name = ⟨#[]⟩) (h4 : bestA n la ≠ ⟨#[]⟩) :
    Con Tryz.prog I 5 (fun s => [.agg [.v (.slice b0 n0 d0), .v (.slice b1 n1 d1), .v (.slice b2 n2 d2), .sl (s 0) 0 0 l.length, .sl (s 1) 0 0 la.length, .v (.int .i64 j5), .v (.int .i64 j6), .v (.int .i64 j7), .v (.int .i64 j8)], .v (.string n)]) (fun _ => coH l la 0 0) (fun _ : Unit => True) (fun _ _ => .v (.bool true)) (fun _ _ => coH l la 0 0) (fun _ => False) := by
  obtain ⟨hI, hn, hl, hla, hs, hsa, hf, hg⟩ := H
  have c0 := rupstream I n hn l la 0 0 (by omega) hs (.slice b0 n0 d0) (.slice b1 n1 d1) (.slice b2 n2 d2) (.int .i64 j5) (.int .i64 j6) (.int .i64 j7) (.int .i64 j8)
  have c1 := upstream_con I n hn l la 0 0 (by omega) hs f hf (.slice b0 n0 d0) (.slice b1 n1 d1) (.slice b2 n2 d2) (.int .i64 j5) (.int .i64 j6) (.int .i64 j7) (.int .i64 j8)
  have ex := fun w (hw : I w) => examples_ret I hI hw
  have hAz : (bestA n la).size < 1073741824 := by
    rcases bestA_mem n la with h | ⟨a, h5, h6, _⟩
    · rw [h]; decide
    · rw [← h6]; exact hsa _ h5
  have c2 := anchor_con I n hn l la 0 0 (by omega) hsa (.slice b0 n0 d0) (.slice b1 n1 d1) (.slice b2 n2 d2) (.int .i64 j5) (.int .i64 j6) (.int .i64 j7) (.int .i64 j8) _ rfl
  have c3 := ranchor_some I n hn l la 0 0 (by omega) hsa (.slice b0 n0 d0) (.slice b1 n1 d1) (.slice b2 n2 d2) (.int .i64 j5) (.int .i64 j6) (.int .i64 j7) (.int .i64 j8) _ rfl h4
  have hAd : decide (bestA n la = ⟨#[]⟩) = false := decide_eq_false h4
  rw [hAd] at c2
  have hal : (ownA (bestA n la) la).length ≤ la.length := List.length_filter_le _ _
  generalize (ownA (bestA n la) la) = oa at *
  generalize bestA n la = a at *
  have haa : (!decide (a = a)) = false := by simp
  have hUp : ∀ p, PU n l p → p = -1 := by
    rintro p (⟨h, _⟩ | ⟨q1, q2, q3, q4⟩)
    · exact h
    · exfalso
      rw [h2] at q4
      have := (undB_size q4).2
      simp [ByteArray.size] at this
  rw [h2] at c1
  have hUd : decide ((⟨#[]⟩ : ByteArray) = ⟨#[]⟩) = true := decide_eq_true rfl
  rw [hUd] at c1
  generalize f (bestU n l) = fq at *
  generalize bestU n l = U at *
  refine Con.of (TTok _ _) Tryz.func5 (by kernel_rfl) rfl (by simp [coH, refsInC, refsInL_vals]) rfl (fun σ => rfl) (fun σ => by simp [coH, mapR, renK, renL_vals]) (fun _ _ _ => rfl) (fun _ σ _ => by simp [coH, mapR, renK, renL_vals]) (fun _ _ => CEnd.of (by simp [coH, keepS, keep1, allOwn, CK.owned]) rfl (by simp [coH, refsInC, refsInL_vals])) ?_
  unfold coH at *
  unfold coC at c1
  unfold anCC at c2
  unfold anCC at c3
  repeat' ((conv => whnf); first | (with_reducible first | refine TR.seq ?_ | refine TR.regionL ?_ | refine TR.drawn (TTok _ _) mixed ?_ | refine TR.block ?_ | refine TR.ret ?_ | refine TR.exit ?_ | refine TR.skip ?_ | refine TR.condB rfl ?_ | refine TRL.nil ?_ | refine Br.cond_t ?_ | refine Br.cond_f ?_ | refine Br.yes (by first | decide | assumption | (apply decide_eq_true; omega)) ?_ | refine Br.non (by first | decide | assumption | (apply decide_eq_false; omega)) ?_ | refine Br.cond_ff ?_ | refine Br.eqT (by omega) ?_ | refine Br.eqF (by omega) ?_ | refine Br.neT (by omega) ?_ | refine Br.neF (by omega) ?_ | refine x_ret (f := 15) rfl rfl (fun w hw => ex w hw) ?_ | refine Ld.mk' _ rfl ?_ | refine Need.mk (by first | decide | omega | kernel_rfl) ?_ | refine Nm.i64 (by omega) ?_ | refine Nm.u64 (by omega) ?_ | refine Nm.u8 (by omega) ?_ | refine Nm.keep ?_ | refine Need.mk (by dsimp only; omega) ?_) | (refine TRL.con [0, 1] [0, 1] c0 rfl rfl rfl rfl ⟨rfl, rfl, trivial⟩ rfl rfl (fun p0 hp0 => ⟨trivial, ?_⟩) (fun _ h => h.elim)) | (refine TRL.con [0, 1] [0, 1, 26] c3 rfl rfl rfl rfl ⟨rfl, rfl, trivial⟩ rfl rfl (fun p3 _ => ⟨⟨rfl, trivial⟩, ?_⟩) (fun _ h => h.elim)) | refine Br.non rfl ?_ | refine Br.yes rfl ?_ | refine TRL.step (TTok _ _) ?_ | (refine x_exq (TTok _ _) ?_; (conv => whnf); fail_if_success (guard_target =ₛ False)))
  all_goals (conv => whnf)
  obtain rfl := hUp p0 hp0
  refine TR.loopH (fun i : Nat => [(10, .v (.int .i64 i))]) (fun i => []) (fun i => i ≤ 2) (fun i => 2 - i) 0 (by omega) ?_ ?_
  · repeat' ((conv => whnf); first | exact trivial | exact Fgt.nil | exact Fgt.mk rfl rfl rfl | exact Fgt.mk rfl (by simp only [noRefC, noRefL_cat, noRefL_vals, mixC_noRef]; rfl) rfl | refine And.intro rfl ?_ | refine And.intro ?_ ?_)
    all_goals trace_state
  · intro i hi
    by_cases hi2 : i < 2
    · skip
      repeat' ((conv => whnf); first | (with_reducible first | refine TR.seq ?_ | refine TR.regionL ?_ | refine TR.drawn (TTok _ _) mixed ?_ | refine TR.block ?_ | refine TR.ret ?_ | refine TR.exit ?_ | refine TR.skip ?_ | refine TR.condB rfl ?_ | refine TRL.nil ?_ | refine Br.cond_t ?_ | refine Br.cond_f ?_ | refine Br.yes (by first | decide | assumption | (apply decide_eq_true; omega)) ?_ | refine Br.non (by first | decide | assumption | (apply decide_eq_false; omega)) ?_ | refine Br.cond_ff ?_ | refine Br.eqT (by omega) ?_ | refine Br.eqF (by omega) ?_ | refine Br.neT (by omega) ?_ | refine Br.neF (by omega) ?_ | refine Ld.mk' _ rfl ?_ | refine Need.mk (by first | decide | omega | kernel_rfl) ?_ | refine Nm.i64 (by omega) ?_ | refine Nm.u64 (by omega) ?_ | refine Nm.u8 (by omega) ?_ | refine Nm.keep ?_ | refine Need.mk (by dsimp only; omega) ?_) | (refine TRL.con [0, 1] [0, 1, 37] c1 rfl rfl rfl rfl ⟨rfl, rfl, trivial⟩ rfl rfl (fun p1 _ => ⟨⟨rfl, trivial⟩, ?_⟩) (fun _ h => h.elim)) | (refine TRL.con [0, 1] [0, 1, 104] c2 rfl rfl rfl rfl ⟨rfl, rfl, trivial⟩ rfl rfl (fun p2 _ => ⟨⟨rfl, trivial⟩, ?_⟩) (fun _ h => h.elim)) | refine Br.non haa ?_ | refine Br.non rfl ?_ | refine Br.yes rfl ?_ | refine TRL.step (TTok _ _) ?_ | (refine x_exq (TTok _ _) ?_; (conv => whnf); fail_if_success (guard_target =ₛ False)))
      all_goals (conv => whnf)
      refine TR.loopH (fun k : Nat => [(18, .v (.int .i64 k))]) (fun k => [(104, ⟨.row, 49, 4, p2, mixC dsC zdC oa k⟩)]) (fun k => k ≤ oa.length) (fun k => oa.length - k) 0 (Nat.zero_le _) ?_ ?_
      · repeat' ((conv => whnf); first | exact trivial | exact Fgt.nil | exact Fgt.mk rfl rfl rfl | exact Fgt.mk rfl (by simp only [noRefC, noRefL_cat, noRefL_vals, mixC_noRef]; rfl) rfl | refine And.intro rfl ?_ | refine And.intro ?_ ?_)
        all_goals trace_state
      · intro k hk
        by_cases hkl : k < oa.length
        · obtain ⟨⟨xn, xt, xa, xk, xd⟩, hx⟩ : ∃ x, oa[k]? = some x := ⟨oa[k], by rw [List.getElem?_eq_getElem]⟩
          obtain ⟨m1, m2⟩ := mixC_at dsC zdC 4 (fun _ => rfl) (fun _ => rfl) oa k _ hx
          have m3 := subL_flat dsC 4 (fun _ => rfl) oa k _ hx
          have hld : ∀ o, o = k * 4 → subL (mixC dsC zdC oa k) o 4 = some [.v (.int .i64 xt), .v (.int .i64 xa), .v (.int .i64 xk), .v (.string xd)] := by rintro _ rfl; exact m1
          have hl2 : ∀ o, o = k * 4 → subL ((oa.flatMap dsC).map .v) o 4 = some [.v (.int .i64 xt), .v (.int .i64 xa), .v (.int .i64 xk), .v (.string xd)] := by rintro _ rfl; exact m3
          have hpt : ∀ o, o = k * 4 → putL (mixC dsC zdC oa k) o [.v (.int .i64 0), .v (.int .i64 0), .v (.int .i64 0), .v (.string ⟨#[]⟩)] = some (mixC dsC zdC oa (k + 1)) := by rintro _ rfl; exact m2
          have hyy : eqR BinOp.neq (xt == xt && (xa == xa && (xk == xk && (decide (xd = xd) && true)))) = false := by rw [show (xt == xt && (xa == xa && (xk == xk && (decide (xd = xd) && true)))) = true by simp]; rfl
          repeat' ((conv => whnf); first | (with_reducible first | refine TR.seq ?_ | refine TR.regionL ?_ | refine TR.drawn (TTok _ _) mixed ?_ | refine TR.block ?_ | refine TR.ret ?_ | refine TR.exit ?_ | refine TR.skip ?_ | refine TR.condB rfl ?_ | refine TRL.nil ?_ | refine Br.cond_t ?_ | refine Br.cond_f ?_ | refine Br.yes (by first | decide | assumption | (apply decide_eq_true; omega)) ?_ | refine Br.non (by first | decide | assumption | (apply decide_eq_false; omega)) ?_ | refine Br.cond_ff ?_ | refine Br.eqT (by omega) ?_ | refine Br.eqF (by omega) ?_ | refine Br.neT (by omega) ?_ | refine Br.neF (by omega) ?_ | refine Ld.mk' _ (hld _ (by dsimp only; omega)) ?_ | refine Ld.mk' _ (hl2 _ (by dsimp only; omega)) ?_ | refine Ld.mk' _ (hpt _ (by dsimp only; omega)) ?_ | refine Ld.mk' _ rfl ?_ | refine Need.mk (by first | decide | omega | kernel_rfl) ?_ | refine Nm.i64 (by omega) ?_ | refine Nm.u64 (by omega) ?_ | refine Nm.u8 (by omega) ?_ | refine Nm.keep ?_ | refine Need.mk (by dsimp only; omega) ?_) | refine Br.non hyy ?_ | refine Br.non rfl ?_ | refine Br.yes rfl ?_ | refine TRL.step (TTok _ _) ?_ | (refine x_exq (TTok _ _) ?_; (conv => whnf); fail_if_success (guard_target =ₛ False)))
          all_goals (conv => whnf)
          all_goals refine ⟨k + 1, by omega, by omega, ?_⟩
          all_goals repeat' ((conv => whnf); first | exact trivial | exact Fgt.nil | exact Fgt.mk rfl rfl rfl | exact Fgt.mk rfl (by simp only [noRefC, noRefL_cat, noRefL_vals, mixC_noRef]; rfl) rfl | refine And.intro rfl ?_ | refine And.intro ?_ ?_)
          all_goals trace_state
        · skip
          repeat' ((conv => whnf); first | (with_reducible first | refine TR.seq ?_ | refine TR.regionL ?_ | refine TR.drawn (TTok _ _) mixed ?_ | refine TR.block ?_ | refine TR.ret ?_ | refine TR.exit ?_ | refine TR.skip ?_ | refine TR.condB rfl ?_ | refine TRL.nil ?_ | refine Br.cond_t ?_ | refine Br.cond_f ?_ | refine Br.yes (by first | decide | assumption | (apply decide_eq_true; omega)) ?_ | refine Br.non (by first | decide | assumption | (apply decide_eq_false; omega)) ?_ | refine Br.cond_ff ?_ | refine Br.eqT (by omega) ?_ | refine Br.eqF (by omega) ?_ | refine Br.neT (by omega) ?_ | refine Br.neF (by omega) ?_ | refine Ld.mk' _ rfl ?_ | refine Need.mk (by first | decide | omega | kernel_rfl) ?_ | refine Nm.i64 (by omega) ?_ | refine Nm.u64 (by omega) ?_ | refine Nm.u8 (by omega) ?_ | refine Nm.keep ?_ | refine Need.mk (by dsimp only; omega) ?_) | refine Br.non rfl ?_ | refine Br.yes rfl ?_ | refine TRL.step (TTok _ _) ?_ | (refine x_exq (TTok _ _) ?_; (conv => whnf); fail_if_success (guard_target =ₛ False)))
          all_goals (conv => whnf)
          all_goals refine ⟨i + 1, by omega, by omega, ?_⟩
          all_goals repeat' ((conv => whnf); first | exact trivial | exact Fgt.nil | exact Fgt.mk rfl rfl rfl | exact Fgt.mk rfl (by simp only [noRefC, noRefL_cat, noRefL_vals, mixC_noRef]; rfl) rfl | refine And.intro rfl ?_ | refine And.intro ?_ ?_)
          all_goals trace_state
    · obtain rfl : i = 2 := by omega
      repeat' ((conv => whnf); first | (with_reducible first | refine TR.seq ?_ | refine TR.regionL ?_ | refine TR.drawn (TTok _ _) mixed ?_ | refine TR.block ?_ | refine TR.ret ?_ | refine TR.exit ?_ | refine TR.skip ?_ | refine TR.condB rfl ?_ | refine TRL.nil ?_ | refine Br.cond_t ?_ | refine Br.cond_f ?_ | refine Br.yes (by first | decide | assumption | (apply decide_eq_true; omega)) ?_ | refine Br.non (by first | decide | assumption | (apply decide_eq_false; omega)) ?_ | refine Br.cond_ff ?_ | refine Br.eqT (by omega) ?_ | refine Br.eqF (by omega) ?_ | refine Br.neT (by omega) ?_ | refine Br.neF (by omega) ?_ | refine Ld.mk' _ rfl ?_ | refine Need.mk (by first | decide | omega | kernel_rfl) ?_ | refine Nm.i64 (by omega) ?_ | refine Nm.u64 (by omega) ?_ | refine Nm.u8 (by omega) ?_ | refine Nm.keep ?_ | refine Need.mk (by dsimp only; omega) ?_) | refine Br.non rfl ?_ | refine Br.yes rfl ?_ | refine TRL.step (TTok _ _) ?_ | (refine x_exq (TTok _ _) ?_; (conv => whnf); fail_if_success (guard_target =ₛ False)))
      all_goals (conv => whnf)
      all_goals first | exact ⟨(), trivial, rfl, rfl, rfl, trivial⟩ | trace_state
end Go.Proofs.YtdmgmkifjboojaaGreatDoor
set_option maxRecDepth 100000
set_option linter.unusedVariables false
set_option linter.unusedSimpArgs false
namespace Go.Proofs.YtdmgmkifjboojaaGreatDoor
open Go.SX
set_option maxHeartbeats 16000000 in
theorem finds_ee (I : World → Prop) (n : ByteArray) (l : List Up) (la : List An) (f : Up → Nat × List Value) (g : Up → List (Bool × Int × Int)) (H : FindsH I n l la f g) (b0 b1 b2 : Option Addr) (n0 n1 n2 d0 d1 d2 : Nat) (j5 j6 j7 j8 : Int) (h2 : (bestU n l).name = ⟨#[]⟩) (h4 : bestA n la = ⟨#[]⟩) :
    Con Tryz.prog I 5 (fun s => [.agg [.v (.slice b0 n0 d0), .v (.slice b1 n1 d1), .v (.slice b2 n2 d2), .sl (s 0) 0 0 l.length, .sl (s 1) 0 0 la.length, .v (.int .i64 j5), .v (.int .i64 j6), .v (.int .i64 j7), .v (.int .i64 j8)], .v (.string n)]) (fun _ => coH l la 0 0) (fun _ : Unit => True) (fun _ _ => .v (.bool true)) (fun _ _ => coH l la 0 0) (fun _ => False) := by
  obtain ⟨hI, hn, hl, hla, hs, hsa, hf, hg⟩ := H
  have c0 := rupstream I n hn l la 0 0 (by omega) hs (.slice b0 n0 d0) (.slice b1 n1 d1) (.slice b2 n2 d2) (.int .i64 j5) (.int .i64 j6) (.int .i64 j7) (.int .i64 j8)
  have c1 := upstream_con I n hn l la 0 0 (by omega) hs f hf (.slice b0 n0 d0) (.slice b1 n1 d1) (.slice b2 n2 d2) (.int .i64 j5) (.int .i64 j6) (.int .i64 j7) (.int .i64 j8)
  have ex := fun w (hw : I w) => examples_ret I hI hw
  have c2 := anchor_con I n hn l la 0 0 (by omega) hsa (.slice b0 n0 d0) (.slice b1 n1 d1) (.slice b2 n2 d2) (.int .i64 j5) (.int .i64 j6) (.int .i64 j7) (.int .i64 j8) _ h4
  have c3 := ranchor_nil I n hn l la 0 0 (by omega) hsa (.slice b0 n0 d0) (.slice b1 n1 d1) (.slice b2 n2 d2) (.int .i64 j5) (.int .i64 j6) (.int .i64 j7) (.int .i64 j8) h4
  have hAd : decide ((⟨#[]⟩ : ByteArray) = ⟨#[]⟩) = true := decide_eq_true rfl
  rw [hAd, ownA_nil] at c2
  have haa : (!decide ((⟨#[]⟩ : ByteArray) = ⟨#[]⟩)) = false := by simp
  have hUp : ∀ p, PU n l p → p = -1 := by
    rintro p (⟨h, _⟩ | ⟨q1, q2, q3, q4⟩)
    · exact h
    · exfalso
      rw [h2] at q4
      have := (undB_size q4).2
      simp [ByteArray.size] at this
  rw [h2] at c1
  have hUd : decide ((⟨#[]⟩ : ByteArray) = ⟨#[]⟩) = true := decide_eq_true rfl
  rw [hUd] at c1
  generalize f (bestU n l) = fq at *
  generalize bestU n l = U at *
  refine Con.of (TTok _ _) Tryz.func5 (by kernel_rfl) rfl (by simp [coH, refsInC, refsInL_vals]) rfl (fun σ => rfl) (fun σ => by simp [coH, mapR, renK, renL_vals]) (fun _ _ _ => rfl) (fun _ σ _ => by simp [coH, mapR, renK, renL_vals]) (fun _ _ => CEnd.of (by simp [coH, keepS, keep1, allOwn, CK.owned]) rfl (by simp [coH, refsInC, refsInL_vals])) ?_
  unfold coH at *
  unfold coC at c1
  unfold anCC at c2
  repeat' ((conv => whnf); first | (with_reducible first | refine TR.seq ?_ | refine TR.regionL ?_ | refine TR.drawn (TTok _ _) mixed ?_ | refine TR.block ?_ | refine TR.ret ?_ | refine TR.exit ?_ | refine TR.skip ?_ | refine TR.condB rfl ?_ | refine TRL.nil ?_ | refine Br.cond_t ?_ | refine Br.cond_f ?_ | refine Br.yes (by first | decide | assumption | (apply decide_eq_true; omega)) ?_ | refine Br.non (by first | decide | assumption | (apply decide_eq_false; omega)) ?_ | refine Br.cond_ff ?_ | refine Br.eqT (by omega) ?_ | refine Br.eqF (by omega) ?_ | refine Br.neT (by omega) ?_ | refine Br.neF (by omega) ?_ | refine x_ret (f := 15) rfl rfl (fun w hw => ex w hw) ?_ | refine Ld.mk' _ rfl ?_ | refine Need.mk (by first | decide | omega | kernel_rfl) ?_ | refine Nm.i64 (by omega) ?_ | refine Nm.u64 (by omega) ?_ | refine Nm.u8 (by omega) ?_ | refine Nm.keep ?_ | refine Need.mk (by dsimp only; omega) ?_) | (refine TRL.con [0, 1] [0, 1] c0 rfl rfl rfl rfl ⟨rfl, rfl, trivial⟩ rfl rfl (fun p0 hp0 => ⟨trivial, ?_⟩) (fun _ h => h.elim)) | (refine TRL.con [0, 1] [0, 1] c3 rfl rfl rfl rfl ⟨rfl, rfl, trivial⟩ rfl rfl (fun p3 _ => ⟨trivial, ?_⟩) (fun _ h => h.elim)) | refine Br.non rfl ?_ | refine Br.yes rfl ?_ | refine TRL.step (TTok _ _) ?_ | (refine x_exq (TTok _ _) ?_; (conv => whnf); fail_if_success (guard_target =ₛ False)))
  all_goals (conv => whnf)
  obtain rfl := hUp p0 hp0
  refine TR.loopH (fun i : Nat => [(10, .v (.int .i64 i))]) (fun i => []) (fun i => i ≤ 2) (fun i => 2 - i) 0 (by omega) ?_ ?_
  · repeat' ((conv => whnf); first | exact trivial | exact Fgt.nil | exact Fgt.mk rfl rfl rfl | exact Fgt.mk rfl (by simp only [noRefC, noRefL_cat, noRefL_vals, mixC_noRef]; rfl) rfl | refine And.intro rfl ?_ | refine And.intro ?_ ?_)
    all_goals trace_state
  · intro i hi
    by_cases hi2 : i < 2
    · skip
      repeat' ((conv => whnf); first | (with_reducible first | refine TR.seq ?_ | refine TR.regionL ?_ | refine TR.drawn (TTok _ _) mixed ?_ | refine TR.block ?_ | refine TR.ret ?_ | refine TR.exit ?_ | refine TR.skip ?_ | refine TR.condB rfl ?_ | refine TRL.nil ?_ | refine Br.cond_t ?_ | refine Br.cond_f ?_ | refine Br.yes (by first | decide | assumption | (apply decide_eq_true; omega)) ?_ | refine Br.non (by first | decide | assumption | (apply decide_eq_false; omega)) ?_ | refine Br.cond_ff ?_ | refine Br.eqT (by omega) ?_ | refine Br.eqF (by omega) ?_ | refine Br.neT (by omega) ?_ | refine Br.neF (by omega) ?_ | refine Ld.mk' _ rfl ?_ | refine Need.mk (by first | decide | omega | kernel_rfl) ?_ | refine Nm.i64 (by omega) ?_ | refine Nm.u64 (by omega) ?_ | refine Nm.u8 (by omega) ?_ | refine Nm.keep ?_ | refine Need.mk (by dsimp only; omega) ?_) | (refine TRL.con [0, 1] [0, 1, 37] c1 rfl rfl rfl rfl ⟨rfl, rfl, trivial⟩ rfl rfl (fun p1 _ => ⟨⟨rfl, trivial⟩, ?_⟩) (fun _ h => h.elim)) | (refine TRL.con [0, 1] [0, 1, 104] c2 rfl rfl rfl rfl ⟨rfl, rfl, trivial⟩ rfl rfl (fun p2 _ => ⟨⟨rfl, trivial⟩, ?_⟩) (fun _ h => h.elim)) | refine Br.non haa ?_ | refine Br.non rfl ?_ | refine Br.yes rfl ?_ | refine TRL.step (TTok _ _) ?_ | (refine x_exq (TTok _ _) ?_; (conv => whnf); fail_if_success (guard_target =ₛ False)))
      all_goals (conv => whnf)
      refine TR.loopH (fun k : Nat => [(18, .v (.int .i64 k))]) (fun k => []) (fun k => k ≤ 0) (fun k => 0 - k) 0 (Nat.zero_le _) ?_ ?_
      · repeat' ((conv => whnf); first | exact trivial | exact Fgt.nil | exact Fgt.mk rfl rfl rfl | exact Fgt.mk rfl (by simp only [noRefC, noRefL_cat, noRefL_vals, mixC_noRef]; rfl) rfl | refine And.intro rfl ?_ | refine And.intro ?_ ?_)
        all_goals trace_state
      · intro k hk
        by_cases hkl : k < 0
        · omega
        · skip
          repeat' ((conv => whnf); first | (with_reducible first | refine TR.seq ?_ | refine TR.regionL ?_ | refine TR.drawn (TTok _ _) mixed ?_ | refine TR.block ?_ | refine TR.ret ?_ | refine TR.exit ?_ | refine TR.skip ?_ | refine TR.condB rfl ?_ | refine TRL.nil ?_ | refine Br.cond_t ?_ | refine Br.cond_f ?_ | refine Br.yes (by first | decide | assumption | (apply decide_eq_true; omega)) ?_ | refine Br.non (by first | decide | assumption | (apply decide_eq_false; omega)) ?_ | refine Br.cond_ff ?_ | refine Br.eqT (by omega) ?_ | refine Br.eqF (by omega) ?_ | refine Br.neT (by omega) ?_ | refine Br.neF (by omega) ?_ | refine Ld.mk' _ rfl ?_ | refine Need.mk (by first | decide | omega | kernel_rfl) ?_ | refine Nm.i64 (by omega) ?_ | refine Nm.u64 (by omega) ?_ | refine Nm.u8 (by omega) ?_ | refine Nm.keep ?_ | refine Need.mk (by dsimp only; omega) ?_) | refine Br.non rfl ?_ | refine Br.yes rfl ?_ | refine TRL.step (TTok _ _) ?_ | (refine x_exq (TTok _ _) ?_; (conv => whnf); fail_if_success (guard_target =ₛ False)))
          all_goals (conv => whnf)
          all_goals refine ⟨i + 1, by omega, by omega, ?_⟩
          all_goals repeat' ((conv => whnf); first | exact trivial | exact Fgt.nil | exact Fgt.mk rfl rfl rfl | exact Fgt.mk rfl (by simp only [noRefC, noRefL_cat, noRefL_vals, mixC_noRef]; rfl) rfl | refine And.intro rfl ?_ | refine And.intro ?_ ?_)
          all_goals trace_state
    · obtain rfl : i = 2 := by omega
      repeat' ((conv => whnf); first | (with_reducible first | refine TR.seq ?_ | refine TR.regionL ?_ | refine TR.drawn (TTok _ _) mixed ?_ | refine TR.block ?_ | refine TR.ret ?_ | refine TR.exit ?_ | refine TR.skip ?_ | refine TR.condB rfl ?_ | refine TRL.nil ?_ | refine Br.cond_t ?_ | refine Br.cond_f ?_ | refine Br.yes (by first | decide | assumption | (apply decide_eq_true; omega)) ?_ | refine Br.non (by first | decide | assumption | (apply decide_eq_false; omega)) ?_ | refine Br.cond_ff ?_ | refine Br.eqT (by omega) ?_ | refine Br.eqF (by omega) ?_ | refine Br.neT (by omega) ?_ | refine Br.neF (by omega) ?_ | refine Ld.mk' _ rfl ?_ | refine Need.mk (by first | decide | omega | kernel_rfl) ?_ | refine Nm.i64 (by omega) ?_ | refine Nm.u64 (by omega) ?_ | refine Nm.u8 (by omega) ?_ | refine Nm.keep ?_ | refine Need.mk (by dsimp only; omega) ?_) | refine Br.non rfl ?_ | refine Br.yes rfl ?_ | refine TRL.step (TTok _ _) ?_ | (refine x_exq (TTok _ _) ?_; (conv => whnf); fail_if_success (guard_target =ₛ False)))
      all_goals (conv => whnf)
      all_goals first | exact ⟨(), trivial, rfl, rfl, rfl, trivial⟩ | trace_state
end Go.Proofs.YtdmgmkifjboojaaGreatDoor
set_option maxRecDepth 100000
set_option linter.unusedVariables false
namespace Go.Proofs.YtdmgmkifjboojaaGreatDoor
open Go.SX
theorem finds_con (I : World → Prop) (n : ByteArray) (l : List Up) (la : List An) (f : Up → Nat × List Value) (g : Up → List (Bool × Int × Int)) (H : FindsH I n l la f g) (b0 b1 b2 : Option Addr) (n0 n1 n2 d0 d1 d2 : Nat) (j5 j6 j7 j8 : Int) :
    Con Tryz.prog I 5 (fun s => [.agg [.v (.slice b0 n0 d0), .v (.slice b1 n1 d1), .v (.slice b2 n2 d2), .sl (s 0) 0 0 l.length, .sl (s 1) 0 0 la.length, .v (.int .i64 j5), .v (.int .i64 j6), .v (.int .i64 j7), .v (.int .i64 j8)], .v (.string n)]) (fun _ => coH l la 0 0) (fun _ : Unit => True) (fun _ _ => .v (.bool true)) (fun _ _ => coH l la 0 0) (fun _ => False) := by
  by_cases h2 : (bestU n l).name = ⟨#[]⟩
  · by_cases h4 : bestA n la = ⟨#[]⟩
    · exact finds_ee I n l la f g H b0 b1 b2 n0 n1 n2 d0 d1 d2 j5 j6 j7 j8 h2 h4
    · exact finds_en I n l la f g H b0 b1 b2 n0 n1 n2 d0 d1 d2 j5 j6 j7 j8 h2 h4
  · by_cases h4 : bestA n la = ⟨#[]⟩
    · exact finds_ne I n l la f g H b0 b1 b2 n0 n1 n2 d0 d1 d2 j5 j6 j7 j8 h2 h4
    · exact finds_nn I n l la f g H b0 b1 b2 n0 n1 n2 d0 d1 d2 j5 j6 j7 j8 h2 h4
structure SvX (W : World) (u : Up) (gs : List (Bool × Int × Int)) : Prop where
  len : gs.length = u.m
  at_ : (u.sv = .slice none 0 0 ∧ u.m = 0) ∨ ∃ ad c, u.sv = .slice (some ad) u.m c ∧ (u.m ≠ 0 → ad.spot = none) ∧ ∀ j q, (gs.flatMap adC)[j]? = some q → W.cell? (ad.add j) = some q
theorem fit_svx {W : World} {B n : Nat} {cs : List Value} (h : Fit TT W B (n + 3) 22 cs) : ∃ ad m c gs, cs = [.slice ad m c] ∧ m ≤ B ∧ ∀ nm fw, SvX W ⟨nm, ad, m, c, fw⟩ gs := by
  rcases h with rfl | ⟨a, m, cap, rfl, hmc, hB, ⟨_, hsp⟩, hc⟩
  · exact ⟨_, _, _, [], rfl, Nat.zero_le _, fun nm fw => ⟨rfl, .inl ⟨rfl, rfl⟩⟩⟩
  · obtain ⟨l, h1, h2⟩ := list_of (P := fun i (z : Bool × Int × Int) => ∀ j q, (adC z)[j]? = some q → W.cell? (a.add (i * 3 + j)) = some q) m fun i hi => by
      obtain ⟨xs, g1, g2, g3⟩ := hc i hi
      obtain ⟨hl, p1, p2, p3, _⟩ := g3
      match xs, hl with
      | [x0, x1, x2], _ =>
        obtain ⟨y0, e1⟩ := p1
        obtain ⟨y1, e2, _⟩ := p2
        obtain ⟨y2, e3, _⟩ := p3
        simp at e1 e2 e3
        subst e1 e2 e3
        refine ⟨(y0, y1, y2), fun j q hq => ?_⟩
        have hj : j < 3 := by
          rcases Nat.lt_or_ge j 3 with h1 | h1
          · exact h1
          · rw [List.getElem?_eq_none (by simpa [adC] using h1)] at hq; cases hq
        rw [← adds]
        exact (g2 j hj).trans hq
    refine ⟨_, _, _, l, rfl, hB, fun nm fw => ⟨h1, .inr ⟨a, cap, rfl, fun hm => (hsp _ rfl (by dsimp only at hm; omega) (by decide)).1, fun j q hq => ?_⟩⟩⟩
    obtain ⟨i, r, k, g1, g2, rfl⟩ := flat_dec adC 3 (fun _ => rfl) l j q hq
    exact h2 i r g1 k q g2
theorem fit_upx {W : World} {B n : Nat} {xs : List Value} (h : Fit TT W B (n + 4) 47 xs) : ∃ (u : Up) (gs : List (Bool × Int × Int)), xs = upC u ∧ u.name.size ≤ B ∧ u.m ≤ B ∧ SvX W u gs := by
  obtain ⟨hl, p1, p2, p3, _⟩ := h
  match xs, hl with
  | [x0, x1, x2], _ =>
    obtain ⟨s, e1, hs⟩ := p1
    obtain ⟨ad, m, c, gs, e2, h4, h5⟩ := fit_svx p2
    obtain ⟨b, e3⟩ := p3
    simp at e1 e2 e3
    subst e1 e2 e3
    exact ⟨⟨s, ad, m, c, b⟩, gs, rfl, hs, h4, h5 _ _⟩
theorem fit_upsx {W : World} {B n : Nat} {cs : List Value} (h : Fit TT W B (n + 5) 25 cs) : ∃ (sv : Value) (l : List Up), cs = [sv] ∧ l.length ≤ B ∧ FSlE W sv l.length 3 (upsC l) ∧ ∀ u, u ∈ l → u.name.size ≤ B ∧ u.m ≤ B ∧ ∃ gs, SvX W u gs := by
  rcases h with rfl | ⟨a, m, cap, rfl, hmc, hB, ⟨_, hsp⟩, hc⟩
  · exact ⟨_, [], rfl, Nat.zero_le _, ⟨rfl, .inl ⟨rfl, rfl⟩⟩, fun u hu => by simp at hu⟩
  · obtain ⟨l, h1, h2⟩ := list_of (P := fun i (u : Up) => (∀ j q, (upC u)[j]? = some q → W.cell? (a.add (i * 3 + j)) = some q) ∧ u.name.size ≤ B ∧ u.m ≤ B ∧ ∃ gs, SvX W u gs) m fun i hi => by
      obtain ⟨xs, g1, g2, g3⟩ := hc i hi
      obtain ⟨u, us, rfl, h4, h5, h6⟩ := fit_upx g3
      refine ⟨u, fun j q hq => ?_, h4, h5, us, h6⟩
      have hj : j < 3 := by
        rcases Nat.lt_or_ge j 3 with h1 | h1
        · exact h1
        · rw [List.getElem?_eq_none (by simpa [upC] using h1)] at hq; cases hq
      rw [← adds]
      exact (g2 j hj).trans hq
    subst h1
    refine ⟨_, l, rfl, hB, ⟨flatMap_len upC 3 (fun _ => rfl) l, .inr ⟨a, cap, rfl, hmc, fun hcap => hsp _ rfl hcap (by decide), fun j q hq => ?_⟩⟩, fun u hu => ?_⟩
    · obtain ⟨i, r, k, g1, g2, rfl⟩ := flat_dec upC 3 (fun _ => rfl) l j q hq
      exact (h2 i r g1).1 k q g2
    · obtain ⟨i, hi⟩ := List.mem_iff_getElem?.1 hu
      exact (h2 i u hi).2
theorem fit_cfgx {W : World} {B : Nat} {v : Value} (h : FitV TT W B 28 v) : ∃ (b0 b1 b2 : Option Addr) (n0 n1 n2 d0 d1 d2 : Nat) (su sa : Value) (l : List Up) (la : List An) (j5 j6 j7 j8 : Int), v = .agg #[.slice b0 n0 d0, .slice b1 n1 d1, .slice b2 n2 d2, su, sa, .int .i64 j5, .int .i64 j6, .int .i64 j7, .int .i64 j8] ∧
    l.length ≤ B ∧ FSlE W su l.length 3 (upsC l) ∧ (∀ u, u ∈ l → u.name.size ≤ B ∧ u.m ≤ B ∧ ∃ gs, SvX W u gs) ∧ la.length ≤ B ∧ FSlE W sa la.length 5 (ansC la) ∧ ∀ u, u ∈ la → u.name.size ≤ B := by
  obtain ⟨cs, hf, rfl⟩ := h
  obtain ⟨hl, h0, h1, h2, h3, h4, h5, h6, h7, h8, _⟩ := hf
  match cs, hl with
  | [y0, y1, y2, y3, y4, y5, y6, y7, y8], _ =>
    obtain ⟨a0, n0, d0, e0⟩ := fit_sl rfl rfl h0
    obtain ⟨a1, n1, d1, e1⟩ := fit_sl rfl rfl h1
    obtain ⟨a2, n2, d2, e2⟩ := fit_sl rfl rfl h2
    obtain ⟨su, l, e3, g3, g4, g5⟩ := fit_upsx h3
    obtain ⟨sa, la, e4, g6, g7, g8⟩ := fit_ans h4
    obtain ⟨x5, e5, _⟩ := h5
    obtain ⟨x6, e6, _⟩ := h6
    obtain ⟨x7, e7, _⟩ := h7
    obtain ⟨x8, e8, _⟩ := h8
    simp at e0 e1 e2 e3 e4 e5 e6 e7 e8
    subst e0 e1 e2 e3 e4 e5 e6 e7 e8
    exact ⟨_, _, _, _, _, _, _, _, _, _, _, l, la, _, _, _, _, rfl, g3, g4, g5, g6, g7, g8⟩
theorem cell_kept {W w : World} {a : Addr} {q : Value} (hw : Mod W w fun _ => False) (h6 : W.cell? a = some q) : w.cell? a = some q := by
  have h8 := hw.block _ (cell_lt' h6) (fun h => h)
  simp only [World.cell?] at h6 ⊢
  rw [h8]
  exact h6
theorem SvX.at {W : World} {u : Up} {gs : List (Bool × Int × Int)} (h : SvX W u gs) (hm : u.m < 1099511627776) : SvAt (fun w => Mod W w fun _ => False) u.sv u.m (gs.flatMap adC) := by
  obtain ⟨h1, h3⟩ := h
  refine ⟨by rw [flatMap_len adC 3 (fun _ => rfl), h1], fun q hq => ?_, hm, ?_⟩
  · simp only [List.mem_flatMap] at hq
    obtain ⟨z, _, hz⟩ := hq
    simp [adC] at hz
    rcases hz with rfl | rfl | rfl <;> rfl
  · rcases h3 with h3 | ⟨ad, c, h4, _, h5⟩
    · exact .inl h3
    · exact .inr ⟨ad, c, h4, fun w hw j q hq => cell_kept hw (h5 j q hq)⟩
theorem SvX.spot {W : World} {u : Up} {gs : List (Bool × Int × Int)} (h : SvX W u gs) (hm : u.m ≠ 0) : ∃ b o, u.ad = some ⟨b, o, none⟩ ∧ ∀ w, (Mod W w fun _ => False) → ∀ i v, (gs.flatMap adC)[i]? = some v → w.cell? ⟨b, o + i, none⟩ = some v := by
  obtain ⟨h1, h3⟩ := h
  rcases h3 with ⟨_, h3⟩ | ⟨ad, c, h4, h5, h6⟩
  · exact (hm h3).elim
  · obtain ⟨b, o, s⟩ := ad
    have hs : s = none := h5 hm
    subst hs
    obtain ⟨nm, a, m, c', fw⟩ := u
    unfold Up.sv at h4
    dsimp only at h4
    cases h4
    refine ⟨b, o, rfl, fun w hw i v hv => ?_⟩
    have := cell_kept hw (h6 i v hv)
    rwa [add_none] at this
namespace configFinds
def inv (W : World) : Prop := 0 < W.heap.size
theorem inv_of {W : World} (h : laidMet Tryz.prog Rows.configFindsUptoRow.laid W) (_ : W.ShapedOpen Tryz.prog) : inv W :=
  laid_pos h (List.mem_of_getElem? (i := 2) rfl)
theorem returns (W : World) (args : Array Value) (hI : inv W) (hF : FitAll TT W 1048576 Tryz.f5.params.toList args.toList) : Ret Tryz.prog 5 args.toList W (.bool true) := by
  rw [show Tryz.f5.params.toList = [28, 9] by kernel_rfl] at hF
  generalize args.toList = r at hF
  obtain ⟨a, r, rfl, ha, hF⟩ := fitAll_cons hF
  obtain ⟨t, r, rfl, ht, hF⟩ := fitAll_cons hF
  obtain rfl := fitAll_nil hF
  obtain ⟨b0, b1, b2, n0, n1, n2, d0, d1, d2, su, sa, l, la, j5, j6, j7, j8, rfl, h1, h2, h3, h4, h5, h6⟩ := fit_cfgx ha
  obtain ⟨n, rfl, hn⟩ := fit_str rfl rfl ht
  have hsv : ∀ u, u ∈ up0 :: l → u.m ≤ 1048576 ∧ ∃ gs, SvX W u gs := fun u hu => by
    rcases List.mem_cons.1 hu with rfl | hu
    · exact ⟨Nat.zero_le _, [], rfl, .inl ⟨rfl, rfl⟩⟩
    · exact (h3 u hu).2
  obtain ⟨g, hg⟩ : ∃ g : Up → List (Bool × Int × Int), ∀ u, u ∈ up0 :: l → SvX W u (g u) := by
    classical
    refine ⟨fun u => if h : ∃ gs, SvX W u gs then h.choose else [], fun u hu => ?_⟩
    have h := (hsv u hu).2
    simp only [dif_pos h]
    exact h.choose_spec
  obtain ⟨L1, p1, p2, p3, p4, p5⟩ := ro_locE h2 hI 47 ((upsC l).map .v)
  obtain ⟨L2, q1, q2, q3, q4, q5⟩ := ro_locE h5 hI 51 ((ansC la).map .v)
  have H : FindsH (fun w => Mod W w fun _ => False) n l la (fun u => (u.m, (g u).flatMap adC)) g :=
    ⟨fun w w' h1 h2 => h1.trans h2 (fun x h => h.elim), by omega, by omega, by omega, fun u hu => by have := (h3 u hu).1; omega, fun u hu => by have := h6 u hu; omega,
      fun u hu => (hg u hu).at (Nat.lt_of_le_of_lt (hsv u hu).1 (by omega)), fun u hu => ⟨rfl, (hg u (List.mem_cons_of_mem _ hu)).len, fun hm => (hg u (List.mem_cons_of_mem _ hu)).spot hm⟩⟩
  refine Con.retF (finds_con _ n l la _ g H b0 b1 b2 n0 n1 n2 d0 d1 d2 j5 j6 j7 j8) (fun _ _ => rfl) (fun _ h => h) (fun w' hm => hm) (fun c => match c with | 0 => L1 | _ => L2) ?_ ?_
  · intro c k hk
    match c with
    | 0 =>
      obtain rfl := Option.some.inj hk.symm
      exact ⟨rfl, ⟨_, relL_vals _, p5⟩, p1, p2⟩
    | 1 =>
      obtain rfl := Option.some.inj hk.symm
      exact ⟨rfl, ⟨_, relL_vals _, q5⟩, q1, q2⟩
    | c + 2 => simp [coH, getO] at hk
  · refine ⟨⟨_, rfl, rfl, rfl, rfl, ⟨0, rfl, Nat.le_refl _, fun _ => p3, p4⟩, ⟨0, rfl, Nat.le_refl _, fun _ => q3, q4⟩, rfl, rfl, rfl, rfl, trivial⟩, rfl, trivial⟩
end configFinds
end Go.Proofs.YtdmgmkifjboojaaGreatDoor
