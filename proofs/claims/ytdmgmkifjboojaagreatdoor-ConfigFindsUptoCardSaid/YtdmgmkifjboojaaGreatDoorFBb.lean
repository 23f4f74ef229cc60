/-
  What the laws of these data stand on: contracts of functions, and plain laws.
-/
import Derived.Test.YtdmgmkifjboojaaGreatDoorRows
import Derived.Test.YtdmgmkifjboojaaGreatDoorFXa
import Derived.Test.YtdmgmkifjboojaaGreatDoorFXb
import Derived.Test.YtdmgmkifjboojaaGreatDoorFXc
import Derived.Test.YtdmgmkifjboojaaGreatDoorFXd
import Derived.Test.YtdmgmkifjboojaaGreatDoorFBa
set_option linter.unusedVariables false
set_option linter.unusedSimpArgs false
set_option linter.unnecessarySimpa false
set_option maxRecDepth 100000
set_option linter.unusedVariables false
set_option linter.unusedSimpArgs false
namespace Go.Proofs.YtdmgmkifjboojaaGreatDoor
open Go.SX
theorem flat_get {α : Type} (f : α → List Value) (k : Nat) (hf : ∀ a, (f a).length = k) : ∀ (l : List α) (i j : Nat) (a : α), l[i]? = some a → j < k → (l.flatMap f)[i * k + j]? = (f a)[j]?
  | [], i, j, a, h, _ => by simp at h
  | b :: l, 0, j, a, h, hj => by
    simp only [List.getElem?_cons_zero, Option.some.injEq] at h
    subst h
    rw [List.flatMap_cons, Nat.zero_mul, Nat.zero_add, List.getElem?_append_left (by rw [hf]; exact hj)]
  | b :: l, i + 1, j, a, h, hj => by
    have ih := flat_get f k hf l i j a (by simpa using h) hj
    rw [List.flatMap_cons, List.getElem?_append_right (by rw [hf, Nat.succ_mul]; omega), hf, show (i + 1) * k + j - k = i * k + j by rw [Nat.succ_mul]; omega]
    exact ih
theorem sub_one (us : List Value) (i : Nat) (v : Value) (h : us[i]? = some v) : subL (us.map .v) i 1 = some [.v v] := by
  have h2 := subL_flat (fun v : Value => [v]) 1 (fun _ => rfl) us i v h
  have e : us.flatMap (fun v => [v]) = us := by simp
  rw [e, Nat.mul_one] at h2
  exact h2
theorem up_name (l : List Up) (i : Nat) (u : Up) (h : l[i]? = some u) : subL ((upsC l).map .v) (i * 3) 1 = some [.v (.string u.name)] := by
  refine sub_one _ _ _ ?_
  have := flat_get upC 3 (fun _ => rfl) l i 0 u h (by decide)
  simpa [upsC, upC] using this
theorem an_name (l : List An) (i : Nat) (u : An) (h : l[i]? = some u) : subL ((ansC l).map .v) (i * 5) 1 = some [.v (.string u.name)] := by
  refine sub_one _ _ _ ?_
  have := flat_get anC 5 (fun _ => rfl) l i 0 u h (by decide)
  simpa [ansC, anC] using this
def PU (n : ByteArray) (l : List Up) (b : Int) : Prop := (b = -1 ∧ bestU n l = up0) ∨ (0 ≤ b ∧ b.toNat < l.length ∧ l[b.toNat]? = some (bestU n l) ∧ undB n (bestU n l).name = true)
theorem PU_zero (n : ByteArray) : PU n [] (-1) := .inl ⟨rfl, rfl⟩
theorem take_at {α : Type} {l : List α} {i j : Nat} {x : α} (h : (l.take i)[j]? = some x) : l[j]? = some x := by
  rw [List.getElem?_take] at h
  split at h
  · exact h
  · cases h
theorem take_up {α : Type} {l : List α} {i j : Nat} {x : α} (h : (l.take i)[j]? = some x) : (l.take (i + 1))[j]? = some x ∧ j < (l.take (i + 1)).length := by
  have h1 := h
  rw [List.getElem?_take] at h
  split at h
  · rename_i hji
    have h2 : (l.take (i + 1))[j]? = some x := by rw [List.getElem?_take, if_pos (by omega)]; exact h
    exact ⟨h2, (List.getElem?_eq_some_iff.1 h2).1⟩
  · cases h
theorem PU_keep {n : ByteArray} {l : List Up} {i : Nat} {b : Int} (h : PU n (l.take i) b) (he : bestU n (l.take (i + 1)) = bestU n (l.take i)) : PU n (l.take (i + 1)) b := by
  rcases h with ⟨h1, h2⟩ | ⟨h1, h2, h3, h4⟩
  · exact .inl ⟨h1, by rw [he]; exact h2⟩
  · obtain ⟨g1, g2⟩ := take_up h3
    exact .inr ⟨h1, g2, by rw [he]; exact g1, by rw [he]; exact h4⟩
theorem PU_new {n : ByteArray} {l : List Up} {i : Nat} {u : Up} (hu : l[i]? = some u) (hun : undB n u.name = true) (he : bestU n (l.take (i + 1)) = u) : PU n (l.take (i + 1)) i := by
  have h2 : (l.take (i + 1))[i]? = some u := by rw [List.getElem?_take, if_pos (by omega)]; exact hu
  exact .inr ⟨by omega, by rw [Int.toNat_natCast]; exact (List.getElem?_eq_some_iff.1 h2).1, by rw [he, Int.toNat_natCast]; exact h2, by rw [he]; exact hun⟩
set_option maxHeartbeats 8000000 in
theorem rupstream (I : World → Prop) (n : ByteArray) (hn : n.size < 1073741824) (l : List Up) (la : List An) (v v2 : Nat) (hl : l.length < 1073741824) (hs : ∀ u, u ∈ l → u.name.size < 1073741824) (a0 a1 a2 i5 i6 i7 i8 : Value) :
    Con Tryz.prog I 18 (fun s => [.agg [.v a0, .v a1, .v a2, .sl (s 0) v 0 l.length, .sl (s 1) v2 0 la.length, .v i5, .v i6, .v i7, .v i8], .v (.string n)]) (fun _ => coH l la v v2) (fun p : Int => PU n l p)
      (fun p _ => .v (.int .i64 p)) (fun _ _ => coH l la v v2) (fun _ => False) := by
  refine Con.of (TTok _ _) Tryz.func18 (by kernel_rfl) rfl (by simp [coH, refsInC, refsInL_vals]) rfl (fun σ => rfl) (fun σ => by simp [coH, mapR, renK, renL_vals]) (fun _ _ _ => rfl) (fun _ σ _ => by simp [coH, mapR, renK, renL_vals]) (fun _ _ => CEnd.of (by simp [coH, keepS, keep1, allOwn, CK.owned]) rfl (by simp [coH, refsInC, refsInL_vals])) ?_
  unfold coH
  repeat' ((conv => whnf); first | (with_reducible first | refine TR.seq ?_ | refine TR.regionL ?_ | refine TR.drawn (TTok _ _) mixed ?_ | refine TR.block ?_ | refine TR.ret ?_ | refine TR.exit ?_ | refine TR.skip ?_ | refine TR.condB rfl ?_ | refine TRL.nil ?_ | refine Br.cond_t ?_ | refine Br.cond_f ?_ | refine Br.yes (by first | decide | assumption | (apply decide_eq_true; omega)) ?_ | refine Br.non (by first | decide | assumption | (apply decide_eq_false; omega)) ?_ | refine Br.cond_ff ?_ | refine Br.eqT (by omega) ?_ | refine Br.eqF (by omega) ?_ | refine Br.neT (by omega) ?_ | refine Br.neF (by omega) ?_ | refine Ld.mk' _ rfl ?_ | refine Need.mk (by first | decide | omega | kernel_rfl) ?_ | refine Nm.i64 (by omega) ?_ | refine Nm.u64 (by omega) ?_ | refine Nm.u8 (by omega) ?_ | refine Nm.keep ?_ | refine Need.mk (by dsimp only; omega) ?_) | refine TRL.step (TTok _ _) ?_ | (refine x_exq (TTok _ _) ?_; (conv => whnf); fail_if_success (guard_target =ₛ False)))
  all_goals (conv => whnf)
  refine TR.loopH (fun x : Int × Int => [(6, .v (.int .i64 x.1)), (5, .v (.int .i64 x.2))]) (fun x => []) (fun x => 0 ≤ x.1 ∧ x.1 ≤ l.length ∧ PU n (l.take x.1.toNat) x.2) (fun x => (l.length - x.1).toNat) (0, -1) ⟨by simp, by simp, PU_zero n⟩ ?_ ?_
  · repeat' ((conv => whnf); first | exact trivial | exact Fgt.nil | exact Fgt.mk rfl rfl rfl | exact Fgt.mk rfl (by simp only [noRefC, noRefL_vals]; rfl) rfl | refine And.intro rfl ?_ | refine And.intro ?_ ?_)
  · rintro ⟨i, b⟩ ⟨i0, i1, hp⟩
    dsimp only at i0 i1 hp
    by_cases hi : i < l.length
    · obtain ⟨u, hu⟩ : ∃ u, l[i.toNat]? = some u := ⟨l[i.toNat], by rw [List.getElem?_eq_getElem]⟩
      have huz := hs u (List.mem_of_getElem? hu)
      have hsub : ∀ o, o = i.toNat * 3 → subL ((upsC l).map .v) o 1 = some [.v (.string u.name)] := by
        rintro _ rfl
        exact up_name l i.toNat u hu
      have hst := bestU_step n l i.toNat u hu
      have hnx : (i + 1).toNat = i.toNat + 1 := by omega
      have hc := fun w => runder n u.name (by omega) (by omega) w
      have hk := PU_keep hp
      have hw := PU_new (n := n) hu
      rw [show ((i.toNat : Nat) : Int) = i by omega] at hw
      rw [← hnx] at hk hw hst
      have hm1 := fun w => rmany u.name (by omega) w
      by_cases h1 : undB n u.name = true
      · rw [h1] at hc
        have hru : mny u.name = rgN u.name := if_pos (und_at.1 h1).2.1
        rcases hp with ⟨rfl, hp2⟩ | ⟨hp1, hp2, hp3, hp4⟩
        · have hq := hw h1 (by rw [hst, hp2]; unfold stepU; rw [if_pos ⟨h1, by show (0 : Nat) < _; exact (undB_size h1).2⟩])
          generalize u.name = un at *
          repeat' ((conv => whnf); first | (with_reducible first | refine TR.seq ?_ | refine TR.regionL ?_ | refine TR.drawn (TTok _ _) mixed ?_ | refine TR.block ?_ | refine TR.ret ?_ | refine TR.exit ?_ | refine TR.skip ?_ | refine TR.condB rfl ?_ | refine TRL.nil ?_ | refine Br.cond_t ?_ | refine Br.cond_f ?_ | refine Br.yes (by first | decide | assumption | (apply decide_eq_true; omega)) ?_ | refine Br.non (by first | decide | assumption | (apply decide_eq_false; omega)) ?_ | refine Br.cond_ff ?_ | refine Br.eqT (by omega) ?_ | refine Br.eqF (by omega) ?_ | refine Br.neT (by omega) ?_ | refine Br.neF (by omega) ?_ | refine Ld.mk' _ (hsub _ (by dsimp only; omega)) ?_ | refine Ld.mk' _ rfl ?_ | refine Need.mk (by first | decide | omega | kernel_rfl) ?_ | refine Nm.i64 (by omega) ?_ | refine Nm.u64 (by omega) ?_ | refine Nm.u8 (by omega) ?_ | refine Nm.keep ?_ | refine Need.mk (by dsimp only; omega) ?_ | refine x_ret (f := 43) rfl rfl (fun w _ => hc w) ?_) | refine Br.non rfl ?_ | refine Br.yes rfl ?_ | refine TRL.step (TTok _ _) ?_ | (refine x_exq (TTok _ _) ?_; (conv => whnf); fail_if_success (guard_target =ₛ False)))
          all_goals (conv => whnf)
          all_goals refine ⟨(i + 1, i), ⟨by dsimp only; omega, by dsimp only; omega, hq⟩, by dsimp only; omega, ?_⟩
          all_goals repeat' ((conv => whnf); first | exact trivial | exact Fgt.nil | exact Fgt.mk rfl rfl rfl | exact Fgt.mk rfl (by simp only [noRefC, noRefL_vals]; rfl) rfl | refine And.intro rfl ?_ | refine And.intro ?_ ?_)
          all_goals trace_state
        · have hbl := take_at hp3
          have hbz := hs _ (List.mem_of_getElem? hbl)
          have hsb : ∀ o, o = b.toNat * 3 → subL ((upsC l).map .v) o 1 = some [.v (.string (bestU n (l.take i.toNat)).name)] := by
            rintro _ rfl
            exact up_name l b.toNat _ hbl
          have hm2 := fun w => rmany (bestU n (l.take i.toNat)).name (by omega) w
          have hrb : mny (bestU n (l.take i.toNat)).name = rgN (bestU n (l.take i.toNat)).name := if_pos (und_at.1 hp4).2.1
          have hsz := und_sizes hp4 h1
          rw [← hrb, ← hru] at hsz
          have hbL : b.toNat < l.length := (List.getElem?_eq_some_iff.1 hbl).1
          by_cases h2 : (bestU n (l.take i.toNat)).name.size < u.name.size
          · have hq := hw h1 (by rw [hst]; unfold stepU; rw [if_pos ⟨h1, h2⟩])
            have hgt : mny (bestU n (l.take i.toNat)).name < mny u.name := hsz.1 h2
            generalize (bestU n (l.take i.toNat)).name = bn at *
            generalize u.name = un at *
            repeat' ((conv => whnf); first | (with_reducible first | refine TR.seq ?_ | refine TR.regionL ?_ | refine TR.drawn (TTok _ _) mixed ?_ | refine TR.block ?_ | refine TR.ret ?_ | refine TR.exit ?_ | refine TR.skip ?_ | refine TR.condB rfl ?_ | refine TRL.nil ?_ | refine Br.cond_t ?_ | refine Br.cond_f ?_ | refine Br.yes (by first | decide | assumption | (apply decide_eq_true; omega)) ?_ | refine Br.non (by first | decide | assumption | (apply decide_eq_false; omega)) ?_ | refine Br.cond_ff ?_ | refine Br.eqT (by omega) ?_ | refine Br.eqF (by omega) ?_ | refine Br.neT (by omega) ?_ | refine Br.neF (by omega) ?_ | refine Ld.mk' _ (hsub _ (by dsimp only; omega)) ?_ | refine Ld.mk' _ (hsb _ (by dsimp only; omega)) ?_ | refine Ld.mk' _ rfl ?_ | refine Need.mk (by first | decide | omega | kernel_rfl) ?_ | refine Nm.i64 (by omega) ?_ | refine Nm.u64 (by omega) ?_ | refine Nm.u8 (by omega) ?_ | refine Nm.keep ?_ | refine Need.mk (by dsimp only; omega) ?_ | refine x_ret (f := 43) rfl rfl (fun w _ => hc w) ?_ | refine x_ret (f := 44) rfl rfl (fun w _ => hm1 w) ?_ | refine x_ret (f := 44) rfl rfl (fun w _ => hm2 w) ?_) | refine Br.non rfl ?_ | refine Br.yes rfl ?_ | refine TRL.step (TTok _ _) ?_ | (refine x_exq (TTok _ _) ?_; (conv => whnf); fail_if_success (guard_target =ₛ False)))
            all_goals (conv => whnf)
            all_goals refine ⟨(i + 1, i), ⟨by dsimp only; omega, by dsimp only; omega, hq⟩, by dsimp only; omega, ?_⟩
            all_goals repeat' ((conv => whnf); first | exact trivial | exact Fgt.nil | exact Fgt.mk rfl rfl rfl | exact Fgt.mk rfl (by simp only [noRefC, noRefL_vals]; rfl) rfl | refine And.intro rfl ?_ | refine And.intro ?_ ?_)
            all_goals trace_state
          · have hq := hk (by rw [hst]; unfold stepU; rw [if_neg (fun h => h2 h.2)])
            have hgt : ¬ mny (bestU n (l.take i.toNat)).name < mny u.name := fun h => h2 (hsz.2 h)
            generalize (bestU n (l.take i.toNat)).name = bn at *
            generalize u.name = un at *
            repeat' ((conv => whnf); first | (with_reducible first | refine TR.seq ?_ | refine TR.regionL ?_ | refine TR.drawn (TTok _ _) mixed ?_ | refine TR.block ?_ | refine TR.ret ?_ | refine TR.exit ?_ | refine TR.skip ?_ | refine TR.condB rfl ?_ | refine TRL.nil ?_ | refine Br.cond_t ?_ | refine Br.cond_f ?_ | refine Br.yes (by first | decide | assumption | (apply decide_eq_true; omega)) ?_ | refine Br.non (by first | decide | assumption | (apply decide_eq_false; omega)) ?_ | refine Br.cond_ff ?_ | refine Br.eqT (by omega) ?_ | refine Br.eqF (by omega) ?_ | refine Br.neT (by omega) ?_ | refine Br.neF (by omega) ?_ | refine Ld.mk' _ (hsub _ (by dsimp only; omega)) ?_ | refine Ld.mk' _ (hsb _ (by dsimp only; omega)) ?_ | refine Ld.mk' _ rfl ?_ | refine Need.mk (by first | decide | omega | kernel_rfl) ?_ | refine Nm.i64 (by omega) ?_ | refine Nm.u64 (by omega) ?_ | refine Nm.u8 (by omega) ?_ | refine Nm.keep ?_ | refine Need.mk (by dsimp only; omega) ?_ | refine x_ret (f := 43) rfl rfl (fun w _ => hc w) ?_ | refine x_ret (f := 44) rfl rfl (fun w _ => hm1 w) ?_ | refine x_ret (f := 44) rfl rfl (fun w _ => hm2 w) ?_) | refine Br.non rfl ?_ | refine Br.yes rfl ?_ | refine TRL.step (TTok _ _) ?_ | (refine x_exq (TTok _ _) ?_; (conv => whnf); fail_if_success (guard_target =ₛ False)))
            all_goals (conv => whnf)
            all_goals refine ⟨(i + 1, b), ⟨by dsimp only; omega, by dsimp only; omega, hq⟩, by dsimp only; omega, ?_⟩
            all_goals repeat' ((conv => whnf); first | exact trivial | exact Fgt.nil | exact Fgt.mk rfl rfl rfl | exact Fgt.mk rfl (by simp only [noRefC, noRefL_vals]; rfl) rfl | refine And.intro rfl ?_ | refine And.intro ?_ ?_)
            all_goals trace_state
      · have h1' : undB n u.name = false := by
          cases e : undB n u.name with
          | false => rfl
          | true => exact (h1 e).elim
        rw [h1'] at hc
        have hq := hk (by rw [hst]; unfold stepU; rw [if_neg (fun h => h1 h.1)])
        generalize u.name = un at *
        repeat' ((conv => whnf); first | (with_reducible first | refine TR.seq ?_ | refine TR.regionL ?_ | refine TR.drawn (TTok _ _) mixed ?_ | refine TR.block ?_ | refine TR.ret ?_ | refine TR.exit ?_ | refine TR.skip ?_ | refine TR.condB rfl ?_ | refine TRL.nil ?_ | refine Br.cond_t ?_ | refine Br.cond_f ?_ | refine Br.yes (by first | decide | assumption | (apply decide_eq_true; omega)) ?_ | refine Br.non (by first | decide | assumption | (apply decide_eq_false; omega)) ?_ | refine Br.cond_ff ?_ | refine Br.eqT (by omega) ?_ | refine Br.eqF (by omega) ?_ | refine Br.neT (by omega) ?_ | refine Br.neF (by omega) ?_ | refine Ld.mk' _ (hsub _ (by dsimp only; omega)) ?_ | refine Ld.mk' _ rfl ?_ | refine Need.mk (by first | decide | omega | kernel_rfl) ?_ | refine Nm.i64 (by omega) ?_ | refine Nm.u64 (by omega) ?_ | refine Nm.u8 (by omega) ?_ | refine Nm.keep ?_ | refine Need.mk (by dsimp only; omega) ?_ | refine x_ret (f := 43) rfl rfl (fun w _ => hc w) ?_) | refine Br.non rfl ?_ | refine Br.yes rfl ?_ | refine TRL.step (TTok _ _) ?_ | (refine x_exq (TTok _ _) ?_; (conv => whnf); fail_if_success (guard_target =ₛ False)))
        all_goals (conv => whnf)
        all_goals refine ⟨(i + 1, b), ⟨by dsimp only; omega, by dsimp only; omega, hq⟩, by dsimp only; omega, ?_⟩
        all_goals repeat' ((conv => whnf); first | exact trivial | exact Fgt.nil | exact Fgt.mk rfl rfl rfl | exact Fgt.mk rfl (by simp only [noRefC, noRefL_vals]; rfl) rfl | refine And.intro rfl ?_ | refine And.intro ?_ ?_)
        all_goals trace_state
    · have hiL : i.toNat = l.length := by omega
      rw [hiL, List.take_length] at hp
      repeat' ((conv => whnf); first | (with_reducible first | refine TR.seq ?_ | refine TR.regionL ?_ | refine TR.drawn (TTok _ _) mixed ?_ | refine TR.block ?_ | refine TR.ret ?_ | refine TR.exit ?_ | refine TR.skip ?_ | refine TR.condB rfl ?_ | refine TRL.nil ?_ | refine Br.cond_t ?_ | refine Br.cond_f ?_ | refine Br.yes (by first | decide | assumption | (apply decide_eq_true; omega)) ?_ | refine Br.non (by first | decide | assumption | (apply decide_eq_false; omega)) ?_ | refine Br.cond_ff ?_ | refine Br.eqT (by omega) ?_ | refine Br.eqF (by omega) ?_ | refine Br.neT (by omega) ?_ | refine Br.neF (by omega) ?_ | refine Ld.mk' _ rfl ?_ | refine Need.mk (by first | decide | omega | kernel_rfl) ?_ | refine Nm.i64 (by omega) ?_ | refine Nm.u64 (by omega) ?_ | refine Nm.u8 (by omega) ?_ | refine Nm.keep ?_ | refine Need.mk (by dsimp only; omega) ?_) | refine Br.non rfl ?_ | refine Br.yes rfl ?_ | refine TRL.step (TTok _ _) ?_ | (refine x_exq (TTok _ _) ?_; (conv => whnf); fail_if_success (guard_target =ₛ False)))
      all_goals (conv => whnf)
      all_goals first | exact ⟨b, hp, rfl, rfl, rfl, trivial⟩ | trace_state
end Go.Proofs.YtdmgmkifjboojaaGreatDoor
set_option maxRecDepth 100000
set_option linter.unusedVariables false
set_option linter.unusedSimpArgs false
namespace Go.Proofs.YtdmgmkifjboojaaGreatDoor
open Go.SX
def PA (n : ByteArray) (l : List An) (b : Int) : Prop := (b = -1 ∧ bestA n l = ⟨#[]⟩) ∨ (0 ≤ b ∧ b.toNat < l.length ∧ ∃ a, l[b.toNat]? = some a ∧ a.name = bestA n l ∧ undB n (bestA n l) = true)
theorem PA_zero (n : ByteArray) : PA n [] (-1) := .inl ⟨rfl, rfl⟩
theorem PA_keep {n : ByteArray} {l : List An} {i : Nat} {b : Int} (h : PA n (l.take i) b) (he : bestA n (l.take (i + 1)) = bestA n (l.take i)) : PA n (l.take (i + 1)) b := by
  rcases h with ⟨h1, h2⟩ | ⟨h1, h2, a, h3, h4, h5⟩
  · exact .inl ⟨h1, by rw [he]; exact h2⟩
  · obtain ⟨g1, g2⟩ := take_up h3
    exact .inr ⟨h1, g2, a, g1, by rw [he]; exact h4, by rw [he]; exact h5⟩
theorem PA_new {n : ByteArray} {l : List An} {i : Nat} {u : An} (hu : l[i]? = some u) (hun : undB n u.name = true) (he : bestA n (l.take (i + 1)) = u.name) : PA n (l.take (i + 1)) i := by
  have h2 : (l.take (i + 1))[i]? = some u := by rw [List.getElem?_take, if_pos (by omega)]; exact hu
  exact .inr ⟨by omega, by rw [Int.toNat_natCast]; exact (List.getElem?_eq_some_iff.1 h2).1, u, by rw [Int.toNat_natCast]; exact h2, he.symm, by rw [he]; exact hun⟩
theorem subL_off {l : List AV} {i : Nat} {a b c d e : AV} (h : subL l i 5 = some [a, b, c, d, e]) : subL l (i + 1) 4 = some [b, c, d, e] := by
  induction i generalizing l with
  | zero =>
    match l, h with
    | x :: l, h =>
      simp only [subL] at h ⊢
      cases hr : subL l 0 4 with
      | none => rw [hr] at h; simp at h
      | some q =>
        rw [hr] at h
        simp only [Option.some.injEq, List.cons.injEq] at h
        rw [h.2]
  | succ i ih =>
    match l, h with
    | x :: l, h =>
      simp only [subL] at h ⊢
      exact ih h
set_option maxHeartbeats 8000000 in
theorem ranchor_nil (I : World → Prop) (n : ByteArray) (hn : n.size < 1073741824) (l : List Up) (la : List An) (v v2 : Nat) (hl : la.length < 1073741824) (hs : ∀ u, u ∈ la → u.name.size < 1073741824) (a0 a1 a2 i5 i6 i7 i8 : Value) (hB : bestA n la = ⟨#[]⟩) :
    Con Tryz.prog I 19 (fun s => [.agg [.v a0, .v a1, .v a2, .sl (s 0) v 0 l.length, .sl (s 1) v2 0 la.length, .v i5, .v i6, .v i7, .v i8], .v (.string n)]) (fun _ => coH l la v v2) (fun _ : Unit => True) (fun _ _ => .tup [.v (.string ⟨#[]⟩), .v (.slice none 0 0), .v (.bool false)]) (fun _ _ => coH l la v v2) (fun _ => False) := by
  refine Con.of (TTok _ _) Tryz.func19 (by kernel_rfl) rfl (by simp [coH, refsInC, refsInL_vals]) rfl (fun σ => rfl) (fun σ => by simp [coH, mapR, renK, renL_vals]) (fun _ _ _ => rfl) (fun _ σ _ => by simp [coH, mapR, renK, renL_vals]) (fun _ _ => CEnd.of (by simp [coH, keepS, keep1, allOwn, CK.owned]) rfl (by simp [coH, refsInC, refsInL_vals])) ?_
  unfold coH
  repeat' ((conv => whnf); first | (with_reducible first | refine TR.seq ?_ | refine TR.regionL ?_ | refine TR.drawn (TTok _ _) mixed ?_ | refine TR.block ?_ | refine TR.ret ?_ | refine TR.exit ?_ | refine TR.skip ?_ | refine TR.condB rfl ?_ | refine TRL.nil ?_ | refine Br.cond_t ?_ | refine Br.cond_f ?_ | refine Br.yes (by first | decide | assumption | (apply decide_eq_true; omega)) ?_ | refine Br.non (by first | decide | assumption | (apply decide_eq_false; omega)) ?_ | refine Br.cond_ff ?_ | refine Br.eqT (by omega) ?_ | refine Br.eqF (by omega) ?_ | refine Br.neT (by omega) ?_ | refine Br.neF (by omega) ?_ | refine Ld.mk' _ rfl ?_ | refine Need.mk (by first | decide | omega | kernel_rfl) ?_ | refine Nm.i64 (by omega) ?_ | refine Nm.u64 (by omega) ?_ | refine Nm.u8 (by omega) ?_ | refine Nm.keep ?_ | refine Need.mk (by dsimp only; omega) ?_) | refine TRL.step (TTok _ _) ?_ | (refine x_exq (TTok _ _) ?_; (conv => whnf); fail_if_success (guard_target =ₛ False)))
  all_goals (conv => whnf)
  refine TR.loopH (fun x : Int × Int => [(8, .v (.int .i64 x.1)), (7, .v (.int .i64 x.2))]) (fun x => []) (fun x => 0 ≤ x.1 ∧ x.1 ≤ la.length ∧ PA n (la.take x.1.toNat) x.2) (fun x => (la.length - x.1).toNat) (0, -1) ⟨by simp, by simp, PA_zero n⟩ ?_ ?_
  · repeat' ((conv => whnf); first | exact trivial | exact Fgt.nil | exact Fgt.mk rfl rfl rfl | exact Fgt.mk rfl (by simp only [noRefC, noRefL_cat, noRefL_vals]; rfl) rfl | refine And.intro rfl ?_ | refine And.intro ?_ ?_)
  · rintro ⟨i, b⟩ ⟨i0, i1, hp⟩
    dsimp only at i0 i1 hp
    by_cases hi : i < la.length
    · obtain ⟨u, hu⟩ : ∃ u, la[i.toNat]? = some u := ⟨la[i.toNat], by rw [List.getElem?_eq_getElem]⟩
      have huz := hs u (List.mem_of_getElem? hu)
      have hsub : ∀ o, o = i.toNat * 5 → subL ((ansC la).map .v) o 1 = some [.v (.string u.name)] := by
        rintro _ rfl
        exact an_name la i.toNat u hu
      have hst := bestA_step n la i.toNat u hu
      have hnx : (i + 1).toNat = i.toNat + 1 := by omega
      have hc := fun w => runder n u.name (by omega) (by omega) w
      have hk := PA_keep hp
      have hw := PA_new (n := n) hu
      rw [show ((i.toNat : Nat) : Int) = i by omega] at hw
      rw [← hnx] at hk hw hst
      have hm1 := fun w => rmany u.name (by omega) w
      by_cases h1 : undB n u.name = true
      · rw [h1] at hc
        have hru : mny u.name = rgN u.name := if_pos (und_at.1 h1).2.1
        rcases hp with ⟨rfl, hp2⟩ | ⟨hp1, hp2, a, hp3, hpa, hp4⟩
        · have hq := hw h1 (by rw [hst, hp2]; unfold stepA; rw [if_pos ⟨h1, by show (0 : Nat) < _; exact (undB_size h1).2⟩])
          generalize u.name = un at *
          repeat' ((conv => whnf); first | (with_reducible first | refine TR.seq ?_ | refine TR.regionL ?_ | refine TR.drawn (TTok _ _) mixed ?_ | refine TR.block ?_ | refine TR.ret ?_ | refine TR.exit ?_ | refine TR.skip ?_ | refine TR.condB rfl ?_ | refine TRL.nil ?_ | refine Br.cond_t ?_ | refine Br.cond_f ?_ | refine Br.yes (by first | decide | assumption | (apply decide_eq_true; omega)) ?_ | refine Br.non (by first | decide | assumption | (apply decide_eq_false; omega)) ?_ | refine Br.cond_ff ?_ | refine Br.eqT (by omega) ?_ | refine Br.eqF (by omega) ?_ | refine Br.neT (by omega) ?_ | refine Br.neF (by omega) ?_ | refine Ld.mk' _ (hsub _ (by dsimp only; omega)) ?_ | refine Ld.mk' _ rfl ?_ | refine Need.mk (by first | decide | omega | kernel_rfl) ?_ | refine Nm.i64 (by omega) ?_ | refine Nm.u64 (by omega) ?_ | refine Nm.u8 (by omega) ?_ | refine Nm.keep ?_ | refine Need.mk (by dsimp only; omega) ?_ | refine x_ret (f := 43) rfl rfl (fun w _ => hc w) ?_) | refine Br.non rfl ?_ | refine Br.yes rfl ?_ | refine TRL.step (TTok _ _) ?_ | (refine x_exq (TTok _ _) ?_; (conv => whnf); fail_if_success (guard_target =ₛ False)))
          all_goals (conv => whnf)
          all_goals refine ⟨(i + 1, i), ⟨by dsimp only; omega, by dsimp only; omega, hq⟩, by dsimp only; omega, ?_⟩
          all_goals repeat' ((conv => whnf); first | exact trivial | exact Fgt.nil | exact Fgt.mk rfl rfl rfl | exact Fgt.mk rfl (by simp only [noRefC, noRefL_cat, noRefL_vals]; rfl) rfl | refine And.intro rfl ?_ | refine And.intro ?_ ?_)
          all_goals trace_state
        · have hbl := take_at hp3
          have hbz := hs _ (List.mem_of_getElem? hbl)
          have hsb : ∀ o, o = b.toNat * 5 → subL ((ansC la).map .v) o 1 = some [.v (.string a.name)] := by
            rintro _ rfl
            exact an_name la b.toNat _ hbl
          rw [← hpa] at hp4 hst hk
          have hm2 := fun w => rmany a.name (by omega) w
          have hrb : mny a.name = rgN a.name := if_pos (und_at.1 hp4).2.1
          have hsz := und_sizes hp4 h1
          rw [← hrb, ← hru] at hsz
          have hbL : b.toNat < la.length := (List.getElem?_eq_some_iff.1 hbl).1
          by_cases h2 : a.name.size < u.name.size
          · have hq := hw h1 (by rw [hst]; unfold stepA; rw [if_pos ⟨h1, h2⟩])
            have hgt : mny a.name < mny u.name := hsz.1 h2
            generalize a.name = bn at *
            generalize u.name = un at *
            repeat' ((conv => whnf); first | (with_reducible first | refine TR.seq ?_ | refine TR.regionL ?_ | refine TR.drawn (TTok _ _) mixed ?_ | refine TR.block ?_ | refine TR.ret ?_ | refine TR.exit ?_ | refine TR.skip ?_ | refine TR.condB rfl ?_ | refine TRL.nil ?_ | refine Br.cond_t ?_ | refine Br.cond_f ?_ | refine Br.yes (by first | decide | assumption | (apply decide_eq_true; omega)) ?_ | refine Br.non (by first | decide | assumption | (apply decide_eq_false; omega)) ?_ | refine Br.cond_ff ?_ | refine Br.eqT (by omega) ?_ | refine Br.eqF (by omega) ?_ | refine Br.neT (by omega) ?_ | refine Br.neF (by omega) ?_ | refine Ld.mk' _ (hsub _ (by dsimp only; omega)) ?_ | refine Ld.mk' _ (hsb _ (by dsimp only; omega)) ?_ | refine Ld.mk' _ rfl ?_ | refine Need.mk (by first | decide | omega | kernel_rfl) ?_ | refine Nm.i64 (by omega) ?_ | refine Nm.u64 (by omega) ?_ | refine Nm.u8 (by omega) ?_ | refine Nm.keep ?_ | refine Need.mk (by dsimp only; omega) ?_ | refine x_ret (f := 43) rfl rfl (fun w _ => hc w) ?_ | refine x_ret (f := 44) rfl rfl (fun w _ => hm1 w) ?_ | refine x_ret (f := 44) rfl rfl (fun w _ => hm2 w) ?_) | refine Br.non rfl ?_ | refine Br.yes rfl ?_ | refine TRL.step (TTok _ _) ?_ | (refine x_exq (TTok _ _) ?_; (conv => whnf); fail_if_success (guard_target =ₛ False)))
            all_goals (conv => whnf)
            all_goals refine ⟨(i + 1, i), ⟨by dsimp only; omega, by dsimp only; omega, hq⟩, by dsimp only; omega, ?_⟩
            all_goals repeat' ((conv => whnf); first | exact trivial | exact Fgt.nil | exact Fgt.mk rfl rfl rfl | exact Fgt.mk rfl (by simp only [noRefC, noRefL_cat, noRefL_vals]; rfl) rfl | refine And.intro rfl ?_ | refine And.intro ?_ ?_)
            all_goals trace_state
          · have hq := hk (by rw [hst]; unfold stepA; rw [if_neg (fun h => h2 h.2)])
            have hgt : ¬ mny a.name < mny u.name := fun h => h2 (hsz.2 h)
            generalize a.name = bn at *
            generalize u.name = un at *
            repeat' ((conv => whnf); first | (with_reducible first | refine TR.seq ?_ | refine TR.regionL ?_ | refine TR.drawn (TTok _ _) mixed ?_ | refine TR.block ?_ | refine TR.ret ?_ | refine TR.exit ?_ | refine TR.skip ?_ | refine TR.condB rfl ?_ | refine TRL.nil ?_ | refine Br.cond_t ?_ | refine Br.cond_f ?_ | refine Br.yes (by first | decide | assumption | (apply decide_eq_true; omega)) ?_ | refine Br.non (by first | decide | assumption | (apply decide_eq_false; omega)) ?_ | refine Br.cond_ff ?_ | refine Br.eqT (by omega) ?_ | refine Br.eqF (by omega) ?_ | refine Br.neT (by omega) ?_ | refine Br.neF (by omega) ?_ | refine Ld.mk' _ (hsub _ (by dsimp only; omega)) ?_ | refine Ld.mk' _ (hsb _ (by dsimp only; omega)) ?_ | refine Ld.mk' _ rfl ?_ | refine Need.mk (by first | decide | omega | kernel_rfl) ?_ | refine Nm.i64 (by omega) ?_ | refine Nm.u64 (by omega) ?_ | refine Nm.u8 (by omega) ?_ | refine Nm.keep ?_ | refine Need.mk (by dsimp only; omega) ?_ | refine x_ret (f := 43) rfl rfl (fun w _ => hc w) ?_ | refine x_ret (f := 44) rfl rfl (fun w _ => hm1 w) ?_ | refine x_ret (f := 44) rfl rfl (fun w _ => hm2 w) ?_) | refine Br.non rfl ?_ | refine Br.yes rfl ?_ | refine TRL.step (TTok _ _) ?_ | (refine x_exq (TTok _ _) ?_; (conv => whnf); fail_if_success (guard_target =ₛ False)))
            all_goals (conv => whnf)
            all_goals refine ⟨(i + 1, b), ⟨by dsimp only; omega, by dsimp only; omega, hq⟩, by dsimp only; omega, ?_⟩
            all_goals repeat' ((conv => whnf); first | exact trivial | exact Fgt.nil | exact Fgt.mk rfl rfl rfl | exact Fgt.mk rfl (by simp only [noRefC, noRefL_cat, noRefL_vals]; rfl) rfl | refine And.intro rfl ?_ | refine And.intro ?_ ?_)
            all_goals trace_state
      · have h1' : undB n u.name = false := by
          cases e : undB n u.name with
          | false => rfl
          | true => exact (h1 e).elim
        rw [h1'] at hc
        have hq := hk (by rw [hst]; unfold stepA; rw [if_neg (fun h => h1 h.1)])
        generalize u.name = un at *
        repeat' ((conv => whnf); first | (with_reducible first | refine TR.seq ?_ | refine TR.regionL ?_ | refine TR.drawn (TTok _ _) mixed ?_ | refine TR.block ?_ | refine TR.ret ?_ | refine TR.exit ?_ | refine TR.skip ?_ | refine TR.condB rfl ?_ | refine TRL.nil ?_ | refine Br.cond_t ?_ | refine Br.cond_f ?_ | refine Br.yes (by first | decide | assumption | (apply decide_eq_true; omega)) ?_ | refine Br.non (by first | decide | assumption | (apply decide_eq_false; omega)) ?_ | refine Br.cond_ff ?_ | refine Br.eqT (by omega) ?_ | refine Br.eqF (by omega) ?_ | refine Br.neT (by omega) ?_ | refine Br.neF (by omega) ?_ | refine Ld.mk' _ (hsub _ (by dsimp only; omega)) ?_ | refine Ld.mk' _ rfl ?_ | refine Need.mk (by first | decide | omega | kernel_rfl) ?_ | refine Nm.i64 (by omega) ?_ | refine Nm.u64 (by omega) ?_ | refine Nm.u8 (by omega) ?_ | refine Nm.keep ?_ | refine Need.mk (by dsimp only; omega) ?_ | refine x_ret (f := 43) rfl rfl (fun w _ => hc w) ?_) | refine Br.non rfl ?_ | refine Br.yes rfl ?_ | refine TRL.step (TTok _ _) ?_ | (refine x_exq (TTok _ _) ?_; (conv => whnf); fail_if_success (guard_target =ₛ False)))
        all_goals (conv => whnf)
        all_goals refine ⟨(i + 1, b), ⟨by dsimp only; omega, by dsimp only; omega, hq⟩, by dsimp only; omega, ?_⟩
        all_goals repeat' ((conv => whnf); first | exact trivial | exact Fgt.nil | exact Fgt.mk rfl rfl rfl | exact Fgt.mk rfl (by simp only [noRefC, noRefL_cat, noRefL_vals]; rfl) rfl | refine And.intro rfl ?_ | refine And.intro ?_ ?_)
        all_goals trace_state
    · have hiL : i.toNat = la.length := by omega
      rw [hiL, List.take_length] at hp; unfold PA at hp; rw [hB] at hp
      rcases hp with ⟨rfl, hp2⟩ | ⟨hp1, hp2, a, hp3, hpa, hp4⟩
      · skip
        repeat' ((conv => whnf); first | (with_reducible first | refine TR.seq ?_ | refine TR.regionL ?_ | refine TR.drawn (TTok _ _) mixed ?_ | refine TR.block ?_ | refine TR.ret ?_ | refine TR.exit ?_ | refine TR.skip ?_ | refine TR.condB rfl ?_ | refine TRL.nil ?_ | refine Br.cond_t ?_ | refine Br.cond_f ?_ | refine Br.yes (by first | decide | assumption | (apply decide_eq_true; omega)) ?_ | refine Br.non (by first | decide | assumption | (apply decide_eq_false; omega)) ?_ | refine Br.cond_ff ?_ | refine Br.eqT (by omega) ?_ | refine Br.eqF (by omega) ?_ | refine Br.neT (by omega) ?_ | refine Br.neF (by omega) ?_ | refine Ld.mk' _ rfl ?_ | refine Need.mk (by first | decide | omega | kernel_rfl) ?_ | refine Nm.i64 (by omega) ?_ | refine Nm.u64 (by omega) ?_ | refine Nm.u8 (by omega) ?_ | refine Nm.keep ?_ | refine Need.mk (by dsimp only; omega) ?_) | refine Br.non rfl ?_ | refine Br.yes rfl ?_ | refine TRL.step (TTok _ _) ?_ | (refine x_exq (TTok _ _) ?_; (conv => whnf); fail_if_success (guard_target =ₛ False)))
        all_goals (conv => whnf)
        all_goals first | exact ⟨(), trivial, rfl, rfl, rfl, trivial⟩ | trace_state
      · exfalso
        have := (undB_size hp4).2
        simp [ByteArray.size] at this
set_option maxHeartbeats 8000000 in
theorem ranchor_some (I : World → Prop) (n : ByteArray) (hn : n.size < 1073741824) (l : List Up) (la : List An) (v v2 : Nat) (hl : la.length < 1073741824) (hs : ∀ u, u ∈ la → u.name.size < 1073741824) (a0 a1 a2 i5 i6 i7 i8 : Value) (B : ByteArray) (hB : bestA n la = B) (hne : B ≠ ⟨#[]⟩) :
    Con Tryz.prog I 19 (fun s => [.agg [.v a0, .v a1, .v a2, .sl (s 0) v 0 l.length, .sl (s 1) v2 0 la.length, .v i5, .v i6, .v i7, .v i8], .v (.string n)]) (fun _ => coH l la v v2) (fun _ : Nat => True) (fun p s => .tup [.v (.string B), .sl (s 2) p 0 (ownA B la).length, .v (.bool true)]) (fun p _ => anCC l la v v2 (ownA B la) p) (fun _ => False) := by
  refine Con.of (TTok _ _) Tryz.func19 (by kernel_rfl) rfl (by simp [coH, refsInC, refsInL_vals]) rfl (fun σ => rfl) (fun σ => by simp [coH, mapR, renK, renL_vals]) (fun _ _ _ => rfl) (fun _ σ _ => by simp [anCC, mapR, renK, renL_vals, renL]) (fun _ _ => CEnd.of (by simp [coH, anCC, keepS, keep1, allOwn, CK.owned]) rfl (by simp [anCC, refsInC, refsInL_vals, refsInL])) ?_
  unfold coH
  repeat' ((conv => whnf); first | (with_reducible first | refine TR.seq ?_ | refine TR.regionL ?_ | refine TR.drawn (TTok _ _) mixed ?_ | refine TR.block ?_ | refine TR.ret ?_ | refine TR.exit ?_ | refine TR.skip ?_ | refine TR.condB rfl ?_ | refine TRL.nil ?_ | refine Br.cond_t ?_ | refine Br.cond_f ?_ | refine Br.yes (by first | decide | assumption | (apply decide_eq_true; omega)) ?_ | refine Br.non (by first | decide | assumption | (apply decide_eq_false; omega)) ?_ | refine Br.cond_ff ?_ | refine Br.eqT (by omega) ?_ | refine Br.eqF (by omega) ?_ | refine Br.neT (by omega) ?_ | refine Br.neF (by omega) ?_ | refine Ld.mk' _ rfl ?_ | refine Need.mk (by first | decide | omega | kernel_rfl) ?_ | refine Nm.i64 (by omega) ?_ | refine Nm.u64 (by omega) ?_ | refine Nm.u8 (by omega) ?_ | refine Nm.keep ?_ | refine Need.mk (by dsimp only; omega) ?_) | refine TRL.step (TTok _ _) ?_ | (refine x_exq (TTok _ _) ?_; (conv => whnf); fail_if_success (guard_target =ₛ False)))
  all_goals (conv => whnf)
  have hBz : B.size < 1073741824 := by
    rcases bestA_mem n la with h | ⟨a, h1, h2, _⟩
    · rw [← hB, h]; decide
    · rw [← hB, ← h2]; exact hs _ h1
  refine TR.loopH (fun x : Int × Int => [(8, .v (.int .i64 x.1)), (7, .v (.int .i64 x.2))]) (fun x => []) (fun x => 0 ≤ x.1 ∧ x.1 ≤ la.length ∧ PA n (la.take x.1.toNat) x.2) (fun x => (la.length - x.1).toNat) (0, -1) ⟨by simp, by simp, PA_zero n⟩ ?_ ?_
  · repeat' ((conv => whnf); first | exact trivial | exact Fgt.nil | exact Fgt.mk rfl rfl rfl | exact Fgt.mk rfl (by simp only [noRefC, noRefL_cat, noRefL_vals]; rfl) rfl | refine And.intro rfl ?_ | refine And.intro ?_ ?_)
  · rintro ⟨i, b⟩ ⟨i0, i1, hp⟩
    dsimp only at i0 i1 hp
    by_cases hi : i < la.length
    · obtain ⟨u, hu⟩ : ∃ u, la[i.toNat]? = some u := ⟨la[i.toNat], by rw [List.getElem?_eq_getElem]⟩
      have huz := hs u (List.mem_of_getElem? hu)
      have hsub : ∀ o, o = i.toNat * 5 → subL ((ansC la).map .v) o 1 = some [.v (.string u.name)] := by
        rintro _ rfl
        exact an_name la i.toNat u hu
      have hst := bestA_step n la i.toNat u hu
      have hnx : (i + 1).toNat = i.toNat + 1 := by omega
      have hc := fun w => runder n u.name (by omega) (by omega) w
      have hk := PA_keep hp
      have hw := PA_new (n := n) hu
      rw [show ((i.toNat : Nat) : Int) = i by omega] at hw
      rw [← hnx] at hk hw hst
      have hm1 := fun w => rmany u.name (by omega) w
      by_cases h1 : undB n u.name = true
      · rw [h1] at hc
        have hru : mny u.name = rgN u.name := if_pos (und_at.1 h1).2.1
        rcases hp with ⟨rfl, hp2⟩ | ⟨hp1, hp2, a, hp3, hpa, hp4⟩
        · have hq := hw h1 (by rw [hst, hp2]; unfold stepA; rw [if_pos ⟨h1, by show (0 : Nat) < _; exact (undB_size h1).2⟩])
          generalize u.name = un at *
          repeat' ((conv => whnf); first | (with_reducible first | refine TR.seq ?_ | refine TR.regionL ?_ | refine TR.drawn (TTok _ _) mixed ?_ | refine TR.block ?_ | refine TR.ret ?_ | refine TR.exit ?_ | refine TR.skip ?_ | refine TR.condB rfl ?_ | refine TRL.nil ?_ | refine Br.cond_t ?_ | refine Br.cond_f ?_ | refine Br.yes (by first | decide | assumption | (apply decide_eq_true; omega)) ?_ | refine Br.non (by first | decide | assumption | (apply decide_eq_false; omega)) ?_ | refine Br.cond_ff ?_ | refine Br.eqT (by omega) ?_ | refine Br.eqF (by omega) ?_ | refine Br.neT (by omega) ?_ | refine Br.neF (by omega) ?_ | refine Ld.mk' _ (hsub _ (by dsimp only; omega)) ?_ | refine Ld.mk' _ rfl ?_ | refine Need.mk (by first | decide | omega | kernel_rfl) ?_ | refine Nm.i64 (by omega) ?_ | refine Nm.u64 (by omega) ?_ | refine Nm.u8 (by omega) ?_ | refine Nm.keep ?_ | refine Need.mk (by dsimp only; omega) ?_ | refine x_ret (f := 43) rfl rfl (fun w _ => hc w) ?_) | refine Br.non rfl ?_ | refine Br.yes rfl ?_ | refine TRL.step (TTok _ _) ?_ | (refine x_exq (TTok _ _) ?_; (conv => whnf); fail_if_success (guard_target =ₛ False)))
          all_goals (conv => whnf)
          all_goals refine ⟨(i + 1, i), ⟨by dsimp only; omega, by dsimp only; omega, hq⟩, by dsimp only; omega, ?_⟩
          all_goals repeat' ((conv => whnf); first | exact trivial | exact Fgt.nil | exact Fgt.mk rfl rfl rfl | exact Fgt.mk rfl (by simp only [noRefC, noRefL_cat, noRefL_vals]; rfl) rfl | refine And.intro rfl ?_ | refine And.intro ?_ ?_)
          all_goals trace_state
        · have hbl := take_at hp3
          have hbz := hs _ (List.mem_of_getElem? hbl)
          have hsb : ∀ o, o = b.toNat * 5 → subL ((ansC la).map .v) o 1 = some [.v (.string a.name)] := by
            rintro _ rfl
            exact an_name la b.toNat _ hbl
          rw [← hpa] at hp4 hst hk
          have hm2 := fun w => rmany a.name (by omega) w
          have hrb : mny a.name = rgN a.name := if_pos (und_at.1 hp4).2.1
          have hsz := und_sizes hp4 h1
          rw [← hrb, ← hru] at hsz
          have hbL : b.toNat < la.length := (List.getElem?_eq_some_iff.1 hbl).1
          by_cases h2 : a.name.size < u.name.size
          · have hq := hw h1 (by rw [hst]; unfold stepA; rw [if_pos ⟨h1, h2⟩])
            have hgt : mny a.name < mny u.name := hsz.1 h2
            generalize a.name = bn at *
            generalize u.name = un at *
            repeat' ((conv => whnf); first | (with_reducible first | refine TR.seq ?_ | refine TR.regionL ?_ | refine TR.drawn (TTok _ _) mixed ?_ | refine TR.block ?_ | refine TR.ret ?_ | refine TR.exit ?_ | refine TR.skip ?_ | refine TR.condB rfl ?_ | refine TRL.nil ?_ | refine Br.cond_t ?_ | refine Br.cond_f ?_ | refine Br.yes (by first | decide | assumption | (apply decide_eq_true; omega)) ?_ | refine Br.non (by first | decide | assumption | (apply decide_eq_false; omega)) ?_ | refine Br.cond_ff ?_ | refine Br.eqT (by omega) ?_ | refine Br.eqF (by omega) ?_ | refine Br.neT (by omega) ?_ | refine Br.neF (by omega) ?_ | refine Ld.mk' _ (hsub _ (by dsimp only; omega)) ?_ | refine Ld.mk' _ (hsb _ (by dsimp only; omega)) ?_ | refine Ld.mk' _ rfl ?_ | refine Need.mk (by first | decide | omega | kernel_rfl) ?_ | refine Nm.i64 (by omega) ?_ | refine Nm.u64 (by omega) ?_ | refine Nm.u8 (by omega) ?_ | refine Nm.keep ?_ | refine Need.mk (by dsimp only; omega) ?_ | refine x_ret (f := 43) rfl rfl (fun w _ => hc w) ?_ | refine x_ret (f := 44) rfl rfl (fun w _ => hm1 w) ?_ | refine x_ret (f := 44) rfl rfl (fun w _ => hm2 w) ?_) | refine Br.non rfl ?_ | refine Br.yes rfl ?_ | refine TRL.step (TTok _ _) ?_ | (refine x_exq (TTok _ _) ?_; (conv => whnf); fail_if_success (guard_target =ₛ False)))
            all_goals (conv => whnf)
            all_goals refine ⟨(i + 1, i), ⟨by dsimp only; omega, by dsimp only; omega, hq⟩, by dsimp only; omega, ?_⟩
            all_goals repeat' ((conv => whnf); first | exact trivial | exact Fgt.nil | exact Fgt.mk rfl rfl rfl | exact Fgt.mk rfl (by simp only [noRefC, noRefL_cat, noRefL_vals]; rfl) rfl | refine And.intro rfl ?_ | refine And.intro ?_ ?_)
            all_goals trace_state
          · have hq := hk (by rw [hst]; unfold stepA; rw [if_neg (fun h => h2 h.2)])
            have hgt : ¬ mny a.name < mny u.name := fun h => h2 (hsz.2 h)
            generalize a.name = bn at *
            generalize u.name = un at *
            repeat' ((conv => whnf); first | (with_reducible first | refine TR.seq ?_ | refine TR.regionL ?_ | refine TR.drawn (TTok _ _) mixed ?_ | refine TR.block ?_ | refine TR.ret ?_ | refine TR.exit ?_ | refine TR.skip ?_ | refine TR.condB rfl ?_ | refine TRL.nil ?_ | refine Br.cond_t ?_ | refine Br.cond_f ?_ | refine Br.yes (by first | decide | assumption | (apply decide_eq_true; omega)) ?_ | refine Br.non (by first | decide | assumption | (apply decide_eq_false; omega)) ?_ | refine Br.cond_ff ?_ | refine Br.eqT (by omega) ?_ | refine Br.eqF (by omega) ?_ | refine Br.neT (by omega) ?_ | refine Br.neF (by omega) ?_ | refine Ld.mk' _ (hsub _ (by dsimp only; omega)) ?_ | refine Ld.mk' _ (hsb _ (by dsimp only; omega)) ?_ | refine Ld.mk' _ rfl ?_ | refine Need.mk (by first | decide | omega | kernel_rfl) ?_ | refine Nm.i64 (by omega) ?_ | refine Nm.u64 (by omega) ?_ | refine Nm.u8 (by omega) ?_ | refine Nm.keep ?_ | refine Need.mk (by dsimp only; omega) ?_ | refine x_ret (f := 43) rfl rfl (fun w _ => hc w) ?_ | refine x_ret (f := 44) rfl rfl (fun w _ => hm1 w) ?_ | refine x_ret (f := 44) rfl rfl (fun w _ => hm2 w) ?_) | refine Br.non rfl ?_ | refine Br.yes rfl ?_ | refine TRL.step (TTok _ _) ?_ | (refine x_exq (TTok _ _) ?_; (conv => whnf); fail_if_success (guard_target =ₛ False)))
            all_goals (conv => whnf)
            all_goals refine ⟨(i + 1, b), ⟨by dsimp only; omega, by dsimp only; omega, hq⟩, by dsimp only; omega, ?_⟩
            all_goals repeat' ((conv => whnf); first | exact trivial | exact Fgt.nil | exact Fgt.mk rfl rfl rfl | exact Fgt.mk rfl (by simp only [noRefC, noRefL_cat, noRefL_vals]; rfl) rfl | refine And.intro rfl ?_ | refine And.intro ?_ ?_)
            all_goals trace_state
      · have h1' : undB n u.name = false := by
          cases e : undB n u.name with
          | false => rfl
          | true => exact (h1 e).elim
        rw [h1'] at hc
        have hq := hk (by rw [hst]; unfold stepA; rw [if_neg (fun h => h1 h.1)])
        generalize u.name = un at *
        repeat' ((conv => whnf); first | (with_reducible first | refine TR.seq ?_ | refine TR.regionL ?_ | refine TR.drawn (TTok _ _) mixed ?_ | refine TR.block ?_ | refine TR.ret ?_ | refine TR.exit ?_ | refine TR.skip ?_ | refine TR.condB rfl ?_ | refine TRL.nil ?_ | refine Br.cond_t ?_ | refine Br.cond_f ?_ | refine Br.yes (by first | decide | assumption | (apply decide_eq_true; omega)) ?_ | refine Br.non (by first | decide | assumption | (apply decide_eq_false; omega)) ?_ | refine Br.cond_ff ?_ | refine Br.eqT (by omega) ?_ | refine Br.eqF (by omega) ?_ | refine Br.neT (by omega) ?_ | refine Br.neF (by omega) ?_ | refine Ld.mk' _ (hsub _ (by dsimp only; omega)) ?_ | refine Ld.mk' _ rfl ?_ | refine Need.mk (by first | decide | omega | kernel_rfl) ?_ | refine Nm.i64 (by omega) ?_ | refine Nm.u64 (by omega) ?_ | refine Nm.u8 (by omega) ?_ | refine Nm.keep ?_ | refine Need.mk (by dsimp only; omega) ?_ | refine x_ret (f := 43) rfl rfl (fun w _ => hc w) ?_) | refine Br.non rfl ?_ | refine Br.yes rfl ?_ | refine TRL.step (TTok _ _) ?_ | (refine x_exq (TTok _ _) ?_; (conv => whnf); fail_if_success (guard_target =ₛ False)))
        all_goals (conv => whnf)
        all_goals refine ⟨(i + 1, b), ⟨by dsimp only; omega, by dsimp only; omega, hq⟩, by dsimp only; omega, ?_⟩
        all_goals repeat' ((conv => whnf); first | exact trivial | exact Fgt.nil | exact Fgt.mk rfl rfl rfl | exact Fgt.mk rfl (by simp only [noRefC, noRefL_cat, noRefL_vals]; rfl) rfl | refine And.intro rfl ?_ | refine And.intro ?_ ?_)
        all_goals trace_state
    · have hiL : i.toNat = la.length := by omega
      rw [hiL, List.take_length] at hp; unfold PA at hp; rw [hB] at hp
      rcases hp with ⟨rfl, hp2⟩ | ⟨hp1, hp2, a, hp3, hpa, hp4⟩
      · exact (hne hp2).elim
      · have hsb : ∀ o, o = b.toNat * 5 → subL ((ansC la).map .v) o 1 = some [.v (.string B)] := by
          rintro _ rfl
          rw [← hpa]
          exact an_name la b.toNat _ hp3
        dsimp only
        repeat' ((conv => whnf); first | (with_reducible first | refine TR.seq ?_ | refine TR.regionL ?_ | refine TR.drawn (TTok _ _) mixed ?_ | refine TR.block ?_ | refine TR.ret ?_ | refine TR.exit ?_ | refine TR.skip ?_ | refine TR.condB rfl ?_ | refine TRL.nil ?_ | refine Br.cond_t ?_ | refine Br.cond_f ?_ | refine Br.yes (by first | decide | assumption | (apply decide_eq_true; omega)) ?_ | refine Br.non (by first | decide | assumption | (apply decide_eq_false; omega)) ?_ | refine Br.cond_ff ?_ | refine Br.eqT (by omega) ?_ | refine Br.eqF (by omega) ?_ | refine Br.neT (by omega) ?_ | refine Br.neF (by omega) ?_ | refine Ld.mk' _ rfl ?_ | refine Need.mk (by first | decide | omega | kernel_rfl) ?_ | refine Nm.i64 (by omega) ?_ | refine Nm.u64 (by omega) ?_ | refine Nm.u8 (by omega) ?_ | refine Nm.keep ?_ | refine Need.mk (by dsimp only; omega) ?_) | refine Br.non rfl ?_ | refine Br.yes rfl ?_ | refine TRL.step (TTok _ _) ?_ | (refine x_exq (TTok _ _) ?_; (conv => whnf); fail_if_success (guard_target =ₛ False)))
        refine TR.nil_slot 11 11 49 4 rfl rfl ?_
        conv => whnf
        refine TR.loopH (fun j : Int => [(12, .v (.int .i64 j)), (11, .sl 11 (ownA B (la.take j.toNat)).length 0 (ownA B (la.take j.toNat)).length)]) (fun j => [(11, ⟨.row, 49, 4, (ownA B (la.take j.toNat)).length, ((ownA B (la.take j.toNat)).flatMap dsC).map .v⟩)]) (fun j => 0 ≤ j ∧ j ≤ la.length) (fun j => (la.length - j).toNat) 0 ⟨by simp, by simp⟩ ?_ ?_
        · repeat' ((conv => whnf); first | exact trivial | exact Fgt.nil | exact Fgt.mk rfl rfl rfl | exact Fgt.mk rfl (by simp only [noRefC, noRefL_cat, noRefL_vals]; rfl) rfl | refine And.intro rfl ?_ | refine And.intro ?_ ?_)
        · rintro j ⟨j0, j1⟩
          by_cases hj : j < la.length
          · obtain ⟨u, hu⟩ : ∃ u, la[j.toNat]? = some u := ⟨la[j.toNat], by rw [List.getElem?_eq_getElem]⟩
            have huz := hs u (List.mem_of_getElem? hu)
            have hsub : ∀ o, o = j.toNat * 5 → subL ((ansC la).map .v) o 1 = some [.v (.string u.name)] := by
              rintro _ rfl
              exact an_name la j.toNat u hu
            have hsd : ∀ o, o = j.toNat * 5 + 1 → subL ((ansC la).map .v) o 4 = some [.v (.int .i64 u.tag), .v (.int .i64 u.alg), .v (.int .i64 u.kind), .v (.string u.dig)] := by
              rintro _ rfl
              exact subL_off (subL_flat anC 5 (fun _ => rfl) la j.toNat u hu)
            have hst := ownA_step B la j.toNat u hu
            have hnx : (j + 1).toNat = j.toNat + 1 := by omega
            have hc := fun w => requal u.name B (by omega) (by omega) w
            have hfl : (ownA B (la.take j.toNat)).length ≤ j.toNat := by
              have h1 := List.length_filter_le (fun a : An => eqB a.name B) (la.take j.toNat)
              have h2 := List.length_take_le j.toNat la
              unfold ownA
              omega
            obtain ⟨ow, how⟩ : ∃ ow, ownA B (la.take j.toNat) = ow := ⟨_, rfl⟩
            rw [how] at hst hfl
            have hln : (((ow.flatMap dsC).map AV.v)).length = ow.length * 4 := by rw [List.length_map, flatMap_len dsC 4 (fun _ => rfl)]
            by_cases h1 : eqB u.name B = true
            · rw [if_pos h1] at hst
              rw [h1] at hc
              have hcells : ((ownA B (la.take (j + 1).toNat)).flatMap dsC).map AV.v = (ow.flatMap dsC).map .v ++ (dsC u).map .v := by
                rw [hnx, hst, List.flatMap_append, List.map_append]
                simp
              have hlen : (ownA B (la.take (j + 1).toNat)).length = ow.length + 1 := by rw [hnx, hst]; simp
              obtain ⟨un, ut, ua, uk, ud⟩ := u
              dsimp only at huz hsub hc hsd
              rw [how]
              repeat' ((conv => whnf); first | (with_reducible first | refine TR.seq ?_ | refine TR.regionL ?_ | refine TR.drawn (TTok _ _) mixed ?_ | refine TR.block ?_ | refine TR.ret ?_ | refine TR.exit ?_ | refine TR.skip ?_ | refine TR.condB rfl ?_ | refine TRL.nil ?_ | refine Br.cond_t ?_ | refine Br.cond_f ?_ | refine Br.yes (by first | decide | assumption | (apply decide_eq_true; omega)) ?_ | refine Br.non (by first | decide | assumption | (apply decide_eq_false; omega)) ?_ | refine Br.cond_ff ?_ | refine Br.eqT (by omega) ?_ | refine Br.eqF (by omega) ?_ | refine Br.neT (by omega) ?_ | refine Br.neF (by omega) ?_ | refine Ld.mk' _ (hsub _ (by dsimp only; omega)) ?_ | refine Ld.mk' _ (hsb _ (by dsimp only; omega)) ?_ | refine Ld.mk' _ (hsd _ (by dsimp only; omega)) ?_ | refine Ld.mk' _ rfl ?_ | refine Need.mk (by first | decide | omega | kernel_rfl) ?_ | refine Nm.i64 (by omega) ?_ | refine Nm.u64 (by omega) ?_ | refine Nm.u8 (by omega) ?_ | refine Nm.keep ?_ | refine Need.mk (by dsimp only; omega) ?_ | refine x_ret (f := 45) rfl rfl (fun w _ => hc w) ?_) | refine x_app (TTok _ _) (c := 11) 40 rfl rfl rfl rfl rfl rfl rfl rfl rfl rfl (by decide) rfl rfl rfl rfl rfl rfl rfl rfl rfl hln (by unfold maxLen; omega) (by omega) ?_ | refine Br.non rfl ?_ | refine Br.yes rfl ?_ | refine TRL.step (TTok _ _) ?_ | (refine x_exq (TTok _ _) ?_; (conv => whnf); fail_if_success (guard_target =ₛ False)))
              all_goals (conv => whnf)
              all_goals refine ⟨j + 1, ⟨by omega, by omega⟩, by omega, ?_⟩
              all_goals rw [hcells, hlen]
              all_goals repeat' ((conv => whnf); first | exact trivial | exact Fgt.nil | exact Fgt.mk rfl rfl rfl | exact Fgt.mk rfl (by simp only [noRefC, noRefL_cat, noRefL_vals]; rfl) rfl | refine And.intro rfl ?_ | refine And.intro ?_ ?_)
              all_goals trace_state
            · rw [if_neg h1] at hst
              have h1' : eqB u.name B = false := by
                cases e : eqB u.name B with
                | false => rfl
                | true => exact (h1 e).elim
              rw [h1'] at hc
              obtain ⟨un, ut, ua, uk, ud⟩ := u
              dsimp only at huz hsub hc hsd
              rw [how]
              repeat' ((conv => whnf); first | (with_reducible first | refine TR.seq ?_ | refine TR.regionL ?_ | refine TR.drawn (TTok _ _) mixed ?_ | refine TR.block ?_ | refine TR.ret ?_ | refine TR.exit ?_ | refine TR.skip ?_ | refine TR.condB rfl ?_ | refine TRL.nil ?_ | refine Br.cond_t ?_ | refine Br.cond_f ?_ | refine Br.yes (by first | decide | assumption | (apply decide_eq_true; omega)) ?_ | refine Br.non (by first | decide | assumption | (apply decide_eq_false; omega)) ?_ | refine Br.cond_ff ?_ | refine Br.eqT (by omega) ?_ | refine Br.eqF (by omega) ?_ | refine Br.neT (by omega) ?_ | refine Br.neF (by omega) ?_ | refine Ld.mk' _ (hsub _ (by dsimp only; omega)) ?_ | refine Ld.mk' _ (hsb _ (by dsimp only; omega)) ?_ | refine Ld.mk' _ rfl ?_ | refine Need.mk (by first | decide | omega | kernel_rfl) ?_ | refine Nm.i64 (by omega) ?_ | refine Nm.u64 (by omega) ?_ | refine Nm.u8 (by omega) ?_ | refine Nm.keep ?_ | refine Need.mk (by dsimp only; omega) ?_ | refine x_ret (f := 45) rfl rfl (fun w _ => hc w) ?_) | refine Br.non rfl ?_ | refine Br.yes rfl ?_ | refine TRL.step (TTok _ _) ?_ | (refine x_exq (TTok _ _) ?_; (conv => whnf); fail_if_success (guard_target =ₛ False)))
              all_goals (conv => whnf)
              all_goals refine ⟨j + 1, ⟨by omega, by omega⟩, by omega, ?_⟩
              all_goals rw [hnx, hst]
              all_goals repeat' ((conv => whnf); first | exact trivial | exact Fgt.nil | exact Fgt.mk rfl rfl rfl | exact Fgt.mk rfl (by simp only [noRefC, noRefL_cat, noRefL_vals]; rfl) rfl | refine And.intro rfl ?_ | refine And.intro ?_ ?_)
              all_goals trace_state
          · have hjL : j.toNat = la.length := by omega
            rw [hjL, List.take_length]
            repeat' ((conv => whnf); first | (refine TR.drop (c := .ret) 2 rfl (Nat.le_refl 2) (by simp only [unO, noRefC, noRefL_vals]; rfl) ?_) | refine TR.mv (cd := .ret) 11 2 rfl rfl rfl (Nat.le_of_ble_eq_true rfl) (Nat.le_refl 2) ?_ | (with_reducible first | refine TR.seq ?_ | refine TR.regionL ?_ | refine TR.drawn (TTok _ _) mixed ?_ | refine TR.block ?_ | refine TR.ret ?_ | refine TR.exit ?_ | refine TR.skip ?_ | refine TR.condB rfl ?_ | refine TRL.nil ?_ | refine Br.cond_t ?_ | refine Br.cond_f ?_ | refine Br.yes (by first | decide | assumption | (apply decide_eq_true; omega)) ?_ | refine Br.non (by first | decide | assumption | (apply decide_eq_false; omega)) ?_ | refine Br.cond_ff ?_ | refine Br.eqT (by omega) ?_ | refine Br.eqF (by omega) ?_ | refine Br.neT (by omega) ?_ | refine Br.neF (by omega) ?_ | refine Ld.mk' _ (hsb _ (by dsimp only; omega)) ?_ | refine Ld.mk' _ rfl ?_ | refine Need.mk (by first | decide | omega | kernel_rfl) ?_ | refine Nm.i64 (by omega) ?_ | refine Nm.u64 (by omega) ?_ | refine Nm.u8 (by omega) ?_ | refine Nm.keep ?_ | refine Need.mk (by dsimp only; omega) ?_) | refine Br.non rfl ?_ | refine Br.yes rfl ?_ | refine TRL.step (TTok _ _) ?_ | (refine x_exq (TTok _ _) ?_; (conv => whnf); fail_if_success (guard_target =ₛ False)))
            all_goals (conv => whnf)
            all_goals refine ⟨_, trivial, rfl, ?_, ?_, ?_, trivial⟩
            · show some (Chunk.mk .ro 47 3 v (swL 11 2 ((upsC l).map .v))) = _
              rw [swL_vals]
            · show some (Chunk.mk .ro 51 5 v2 (swL 11 2 ((ansC la).map .v))) = _
              rw [swL_vals]
            · show some (Chunk.mk .row 49 4 _ (swL 11 2 (((ownA B la).flatMap dsC).map .v))) = _
              rw [swL_vals]
end Go.Proofs.YtdmgmkifjboojaaGreatDoor
set_option maxRecDepth 100000
set_option linter.unusedVariables false
set_option linter.unusedSimpArgs false
namespace Go.Proofs.YtdmgmkifjboojaaGreatDoor
open Go.SX
structure NearH (I : World → Prop) (n : ByteArray) (l : List Up) (la : List An) (m : Up) (an : An) (f : Up → Nat × List Value) : Prop where
  hI : ∀ w w', I w → Mod w w' (fun _ => False) → I w'
  hn : n.size < 1073741824
  hl : l.length < 1073741823
  hla : la.length < 1073741823
  hs : ∀ u, u ∈ l → u.name.size < 1073741824
  hsa : ∀ u, u ∈ la → u.name.size < 1073741824
  hm : m.name.size < 1073741824
  han : an.name.size < 1073741824
  hf : SvIn I (l ++ [m]) f
theorem SvIn.left {I : World → Prop} {l : List Up} {m : Up} {f : Up → Nat × List Value} (h : SvIn I (l ++ [m]) f) : SvIn I l f := fun u hu => h u (by
  rcases List.mem_cons.1 hu with rfl | hu
  · simp
  · simp [hu])
end Go.Proofs.YtdmgmkifjboojaaGreatDoor
set_option maxRecDepth 100000
set_option linter.unusedVariables false
set_option linter.unusedSimpArgs false
namespace Go.Proofs.YtdmgmkifjboojaaGreatDoor
open Go.SX
def adC (z : Bool × Int × Int) : List Value := [.bool z.1, .int .u64 z.2.1, .int .u64 z.2.2]
def moC (z : Bool × Int × Int) : List Value := [.bool false, .int .u64 (IntKind.u64.wrap (z.2.1 + 1)), .int .u64 99]
def zdC (a : An) : List Value := [.int .i64 0, .int .i64 0, .int .i64 0, .string ⟨#[]⟩]
theorem putL_mid (x y b : List AV) (h : x.length = y.length) : ∀ a : List AV, putL (a ++ (x ++ b)) a.length y = some (a ++ (y ++ b))
  | [] => by
    show putL (x ++ b) 0 y = some (y ++ b)
    induction x generalizing y with
    | nil => cases y with | nil => cases b <;> rfl | cons => simp at h
    | cons c x ih =>
      cases y with
      | nil => simp at h
      | cons d y =>
        have := ih y (by simpa using h)
        simp [putL, this]
  | c :: a => by
    have := putL_mid x y b h a
    cases y with
    | nil => simp only [List.cons_append, List.length_cons, putL, this]
    | cons d y => simp only [List.cons_append, List.length_cons, putL, this]
theorem subL_mid (x b : List AV) : ∀ a : List AV, subL (a ++ (x ++ b)) a.length x.length = some x
  | [] => by
    show subL (x ++ b) 0 x.length = some x
    induction x with
    | nil => cases b <;> rfl
    | cons c x ih => simp only [List.cons_append, List.length_cons, subL, ih]
  | c :: a => by
    have := subL_mid x b a
    simpa only [List.cons_append, List.length_cons, subL] using this
theorem subL_in {l : List AV} {i : Nat} {a b c : AV} (h : subL l i 3 = some [a, b, c]) : subL l (i + 1) 1 = some [b] := by
  induction i generalizing l with
  | zero =>
    match l, h with
    | x :: y :: l, h =>
      simp only [subL] at h ⊢
      cases hr : subL l 0 1 with
      | none => rw [hr] at h; simp at h
      | some q =>
        rw [hr] at h
        simp only [Option.some.injEq, List.cons.injEq] at h
        rw [h.2.1]
    | [x], h => simp [subL] at h
  | succ i ih =>
    match l, h with
    | x :: l, h =>
      simp only [subL] at h ⊢
      exact ih h
def mixC {α : Type} (f g : α → List Value) (l : List α) (j : Nat) : List AV := ((l.take j).flatMap g).map .v ++ ((l.drop j).flatMap f).map .v
theorem mixC_at {α : Type} (f g : α → List Value) (c : Nat) (hf : ∀ a, (f a).length = c) (hg : ∀ a, (g a).length = c) (l : List α) (j : Nat) (z : α) (h : l[j]? = some z) :
    subL (mixC f g l j) (j * c) c = some ((f z).map .v) ∧ putL (mixC f g l j) (j * c) ((g z).map .v) = some (mixC f g l (j + 1)) := by
  obtain ⟨hj, hz⟩ := List.getElem?_eq_some_iff.1 h
  have e1 : (l.drop j).flatMap f = f z ++ (l.drop (j + 1)).flatMap f := by rw [List.drop_eq_getElem_cons hj, hz, List.flatMap_cons]
  have e2 : (l.take (j + 1)).flatMap g = (l.take j).flatMap g ++ g z := by rw [List.take_add_one, h]; simp
  have e3 : (((l.take j).flatMap g).map AV.v).length = j * c := by rw [List.length_map, flatMap_len g c hg, List.length_take, Nat.min_eq_left (by omega)]
  unfold mixC
  rw [e1, e2, List.map_append, List.map_append]
  have h1 := subL_mid ((f z).map .v) (((l.drop (j + 1)).flatMap f).map .v) (((l.take j).flatMap g).map .v)
  have h2 := putL_mid ((f z).map .v) ((g z).map .v) (((l.drop (j + 1)).flatMap f).map .v) (by simp [hf, hg]) (((l.take j).flatMap g).map .v)
  rw [e3] at h1 h2
  rw [List.length_map, hf] at h1
  exact ⟨h1, by rw [h2, List.append_assoc]⟩
theorem mixC_noRef {α : Type} (f g : α → List Value) (l : List α) (j : Nat) (ms : List Nat) : noRefL ms (mixC f g l j) = true := by
  unfold mixC
  rw [noRefL_cat, noRefL_vals, noRefL_vals]
  rfl
structure FindsH (I : World → Prop) (n : ByteArray) (l : List Up) (la : List An) (f : Up → Nat × List Value) (g : Up → List (Bool × Int × Int)) : Prop where
  hI : ∀ w w', I w → Mod w w' (fun _ => False) → I w'
  hn : n.size < 1073741824
  hl : l.length < 1073741823
  hla : la.length < 1073741823
  hs : ∀ u, u ∈ l → u.name.size < 1073741824
  hsa : ∀ u, u ∈ la → u.name.size < 1073741824
  hf : SvIn I l f
  hg : ∀ u, u ∈ l → f u = (u.m, (g u).flatMap adC) ∧ (g u).length = u.m ∧ (u.m ≠ 0 → ∃ b o, u.ad = some ⟨b, o, none⟩ ∧ ∀ w, I w → ∀ i v, ((g u).flatMap adC)[i]? = some v → w.cell? ⟨b, o + i, none⟩ = some v)
end Go.Proofs.YtdmgmkifjboojaaGreatDoor
set_option maxRecDepth 100000
set_option linter.unusedVariables false
namespace Go.Proofs.YtdmgmkifjboojaaGreatDoor
open Go.SX
theorem list_of {α : Type} {P : Nat → α → Prop} : ∀ m, (∀ i, i < m → ∃ x, P i x) → ∃ l : List α, l.length = m ∧ ∀ i x, l[i]? = some x → P i x
  | 0, _ => ⟨[], rfl, fun i x h => by simp at h⟩
  | m + 1, h => by
    obtain ⟨l, h1, h2⟩ := list_of m fun i hi => h i (by omega)
    obtain ⟨x, hx⟩ := h m (by omega)
    refine ⟨l ++ [x], by simp [h1], fun i y hy => ?_⟩
    rcases Nat.lt_or_ge i l.length with h3 | h3
    · rw [List.getElem?_append_left h3] at hy
      exact h2 i y hy
    · rw [List.getElem?_append_right h3] at hy
      cases hd : i - l.length with
      | zero =>
        rw [hd] at hy
        simp at hy
        subst hy
        have : i = m := by omega
        subst this
        exact hx
      | succ k =>
        rw [hd] at hy
        simp at hy
theorem flat_dec {α : Type} (f : α → List Value) (c : Nat) (hc : ∀ x, (f x).length = c) : ∀ (l : List α) (j : Nat) (q : Value), (l.flatMap f)[j]? = some q → ∃ i x k, l[i]? = some x ∧ (f x)[k]? = some q ∧ j = i * c + k
  | [], j, q, h => by simp at h
  | x :: l, j, q, h => by
    rw [List.flatMap_cons] at h
    rcases Nat.lt_or_ge j (f x).length with h1 | h1
    · rw [List.getElem?_append_left h1] at h
      exact ⟨0, x, j, rfl, h, by omega⟩
    · rw [List.getElem?_append_right h1, hc] at h
      obtain ⟨i, y, k, h2, h3, h4⟩ := flat_dec f c hc l _ q h
      rw [hc] at h1
      exact ⟨i + 1, y, k, by simpa using h2, h3, by rw [Nat.succ_mul]; omega⟩
theorem adds (a : Addr) (i j : Nat) : (a.add i).add j = a.add (i + j) := by
  obtain ⟨b, o, s⟩ := a
  unfold Addr.add
  by_cases h1 : i = 0
  · subst h1
    simp
  · by_cases h2 : j = 0
    · subst h2
      simp
    · simp [h1, h2]
      all_goals omega
theorem fit_sl {W : World} {B n e : Nat} {t : TypeId} {y : Ty} {cs : List Value} (hy : getO TT t = some y) (hd : y.d = .sl e) (h : Fit TT W B (n + 1) t cs) : ∃ a m c, cs = [.slice a m c] := by
  unfold Fit at h
  rw [hy] at h
  simp only [hd] at h
  rcases h with rfl | ⟨a, m, c, rfl, _⟩
  · exact ⟨_, _, _, rfl⟩
  · exact ⟨_, _, _, rfl⟩
def SvW (W : World) (sv : Value) (m : Nat) (us : List Value) : Prop :=
  us.length = m * 3 ∧ (∀ q, q ∈ us → q.oneCell' = true) ∧ ((sv = .slice none 0 0 ∧ m = 0) ∨ ∃ ad c, sv = .slice (some ad) m c ∧ ∀ j q, us[j]? = some q → W.cell? (ad.add j) = some q)
theorem fit_an {W : World} {B n : Nat} {xs : List Value} (h : Fit TT W B (n + 4) 51 xs) : ∃ (u : An), xs = anC u ∧ u.name.size ≤ B := by
  obtain ⟨hl, p1, p2, _⟩ := h
  obtain ⟨_, g1, g2, g3, g4, _⟩ := p2
  match xs, hl with
  | [x0, x1, x2, x3, x4], _ =>
    obtain ⟨s, e1, hs⟩ := p1
    obtain ⟨y1, e2, _⟩ := g1
    obtain ⟨y2, e3, _⟩ := g2
    obtain ⟨y3, e4, _⟩ := g3
    obtain ⟨d, e5, _⟩ := g4
    simp at e1 e2 e3 e4 e5
    subst e1 e2 e3 e4 e5
    exact ⟨⟨s, y1, y2, y3, d⟩, rfl, hs⟩
theorem fit_ans {W : World} {B n : Nat} {cs : List Value} (h : Fit TT W B (n + 5) 26 cs) : ∃ (sv : Value) (l : List An), cs = [sv] ∧ l.length ≤ B ∧ FSlE W sv l.length 5 (ansC l) ∧ ∀ u, u ∈ l → u.name.size ≤ B := by
  rcases h with rfl | ⟨a, m, cap, rfl, hmc, hB, ⟨_, hsp⟩, hc⟩
  · exact ⟨_, [], rfl, Nat.zero_le _, ⟨rfl, .inl ⟨rfl, rfl⟩⟩, fun u hu => by simp at hu⟩
  · obtain ⟨l, h1, h2⟩ := list_of (P := fun i (u : An) => (∀ j q, (anC u)[j]? = some q → W.cell? (a.add (i * 5 + j)) = some q) ∧ u.name.size ≤ B) m fun i hi => by
      obtain ⟨xs, g1, g2, g3⟩ := hc i hi
      obtain ⟨u, rfl, h4⟩ := fit_an g3
      refine ⟨u, fun j q hq => ?_, h4⟩
      have hj : j < 5 := by
        rcases Nat.lt_or_ge j 5 with h1 | h1
        · exact h1
        · rw [List.getElem?_eq_none (by simpa [anC] using h1)] at hq; cases hq
      rw [← adds]
      exact (g2 j hj).trans hq
    subst h1
    refine ⟨_, l, rfl, hB, ⟨flatMap_len anC 5 (fun _ => rfl) l, .inr ⟨a, cap, rfl, hmc, fun hcap => hsp _ rfl hcap (by decide), fun j q hq => ?_⟩⟩, fun u hu => ?_⟩
    · obtain ⟨i, r, k, g1, g2, rfl⟩ := flat_dec anC 5 (fun _ => rfl) l j q hq
      exact (h2 i r g1).1 k q g2
    · obtain ⟨i, hi⟩ := List.mem_iff_getElem?.1 hu
      exact (h2 i u hi).2
theorem laid_pos {P : Program} {l : List (String × DataW Unit)} {W : World} (h : laidMet P l W) {name : String} {d : DataW Unit} (hm : (name, d) ∈ l) : 0 < W.heap.size := by
  obtain ⟨ps, hl, _⟩ := h
  obtain ⟨g', t', cs, fuel, p, hg', ht', hvar, hd⟩ := laidVars_mem hl _ _ hm
  unfold World.var? at hvar
  rw [hg'] at hvar
  rcases Nat.eq_zero_or_pos W.heap.size with h0 | h0
  · exfalso
    simp [Array.size_eq_zero_iff.1 h0] at hvar
  · exact h0
end Go.Proofs.YtdmgmkifjboojaaGreatDoor
