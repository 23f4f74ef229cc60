/-
  DataOthers: whatever the type's number and the data, the statement's function hands back true.
-/
import Derived.Test.YtbladfkakmdigaaGreatDoorOthersa
import Derived.Test.YtbladfkakmdigaaGreatDoorRows
import Derived.Test.YtbladfkakmdigaaGreatDoorSxc
set_option linter.unusedVariables false
set_option linter.unusedSimpArgs false
set_option linter.unnecessarySimpa false
set_option maxRecDepth 100000
namespace Go.Proofs.YtbladfkakmdigaaGreatDoor
open Go.SX
/-! ### DataOthers -/
theorem tyT_cases (kind : Int) : (∃ k s, (k, s) ∈ ([(1, ⟨#[65]⟩), (2, ⟨#[78, 83]⟩), (5, ⟨#[67, 78, 65, 77, 69]⟩), (6, ⟨#[83, 79, 65]⟩), (15, ⟨#[77, 88]⟩), (16, ⟨#[84, 88, 84]⟩), (28, ⟨#[65, 65, 65, 65]⟩), (39, ⟨#[68, 78, 65, 77, 69]⟩), (41, ⟨#[79, 80, 84]⟩), (43, ⟨#[68, 83]⟩), (46, ⟨#[82, 82, 83, 73, 71]⟩), (47, ⟨#[78, 83, 69, 67]⟩), (48, ⟨#[68, 78, 83, 75, 69, 89]⟩), (50, ⟨#[78, 83, 69, 67, 51]⟩), (255, ⟨#[65, 78, 89]⟩)] : List (Int × ByteArray)) ∧ kind = k ∧ tyT kind = some s) ∨ (tyT kind = none ∧ kind ≠ 1 ∧ kind ≠ 2 ∧ kind ≠ 5 ∧ kind ≠ 6 ∧ kind ≠ 15 ∧ kind ≠ 16 ∧ kind ≠ 28 ∧ kind ≠ 39 ∧ kind ≠ 41 ∧ kind ≠ 43 ∧ kind ≠ 46 ∧ kind ≠ 47 ∧ kind ≠ 48 ∧ kind ≠ 50 ∧ kind ≠ 255) := by
  by_cases h1 : kind = 1
  · subst h1
    exact .inl ⟨1, ⟨#[65]⟩, by simp, rfl, rfl⟩
  by_cases h2 : kind = 2
  · subst h2
    exact .inl ⟨2, ⟨#[78, 83]⟩, by simp, rfl, rfl⟩
  by_cases h5 : kind = 5
  · subst h5
    exact .inl ⟨5, ⟨#[67, 78, 65, 77, 69]⟩, by simp, rfl, rfl⟩
  by_cases h6 : kind = 6
  · subst h6
    exact .inl ⟨6, ⟨#[83, 79, 65]⟩, by simp, rfl, rfl⟩
  by_cases h15 : kind = 15
  · subst h15
    exact .inl ⟨15, ⟨#[77, 88]⟩, by simp, rfl, rfl⟩
  by_cases h16 : kind = 16
  · subst h16
    exact .inl ⟨16, ⟨#[84, 88, 84]⟩, by simp, rfl, rfl⟩
  by_cases h28 : kind = 28
  · subst h28
    exact .inl ⟨28, ⟨#[65, 65, 65, 65]⟩, by simp, rfl, rfl⟩
  by_cases h39 : kind = 39
  · subst h39
    exact .inl ⟨39, ⟨#[68, 78, 65, 77, 69]⟩, by simp, rfl, rfl⟩
  by_cases h41 : kind = 41
  · subst h41
    exact .inl ⟨41, ⟨#[79, 80, 84]⟩, by simp, rfl, rfl⟩
  by_cases h43 : kind = 43
  · subst h43
    exact .inl ⟨43, ⟨#[68, 83]⟩, by simp, rfl, rfl⟩
  by_cases h46 : kind = 46
  · subst h46
    exact .inl ⟨46, ⟨#[82, 82, 83, 73, 71]⟩, by simp, rfl, rfl⟩
  by_cases h47 : kind = 47
  · subst h47
    exact .inl ⟨47, ⟨#[78, 83, 69, 67]⟩, by simp, rfl, rfl⟩
  by_cases h48 : kind = 48
  · subst h48
    exact .inl ⟨48, ⟨#[68, 78, 83, 75, 69, 89]⟩, by simp, rfl, rfl⟩
  by_cases h50 : kind = 50
  · subst h50
    exact .inl ⟨50, ⟨#[78, 83, 69, 67, 51]⟩, by simp, rfl, rfl⟩
  by_cases h255 : kind = 255
  · subst h255
    exact .inl ⟨255, ⟨#[65, 78, 89]⟩, by simp, rfl, rfl⟩
  refine .inr ⟨?_, h1, h2, h5, h6, h15, h16, h28, h39, h41, h43, h46, h47, h48, h50, h255⟩
  unfold tyT
  rw [if_neg h1, if_neg h2, if_neg h5, if_neg h6, if_neg h15, if_neg h16, if_neg h28, if_neg h39, if_neg h41, if_neg h43, if_neg h46, if_neg h47, if_neg h48, if_neg h50, if_neg h255]
set_option maxHeartbeats 8000000 in
theorem others_ret {u2 v2 u3 v3} (kind : Int) (d : ByteArray) (w : World) (hI : IC u2 v2 u3 v3 w) : Ret Tryz.prog 13 [.int .i64 kind, .string d] w (.bool true) := by
  have h15 := fun w (hw : IC u2 v2 u3 v3 w) => ttext_ret kind w hw
  unfold ttV at h15
  by_cases hk : 0 ≤ kind ∧ kind < 65536
  · rw [if_pos hk] at h15
    rcases tyT_cases kind with ⟨k, s, hm, rfl, hs⟩ | ⟨hs, k1, k2, k5, k6, k15, k16, k28, k39, k41, k43, k46, k47, k48, k50, k255⟩
    · rw [hs] at h15
      simp only at h15
      have hs5 : s.size < 5 ∨ (5 ≤ s.size ∧ ∃ e, s.extract 0 4 = e ∧ e ≠ ⟨#[84, 89, 80, 69]⟩) := by
        clear h15 hs hI hk
        simp only [List.mem_cons, List.not_mem_nil, or_false, Prod.mk.injEq] at hm
        rcases hm with ⟨_, rfl⟩ | ⟨_, rfl⟩ | ⟨_, rfl⟩ | ⟨_, rfl⟩ | ⟨_, rfl⟩ | ⟨_, rfl⟩ | ⟨_, rfl⟩ | ⟨_, rfl⟩ | ⟨_, rfl⟩ | ⟨_, rfl⟩ | ⟨_, rfl⟩ | ⟨_, rfl⟩ | ⟨_, rfl⟩ | ⟨_, rfl⟩ | ⟨_, rfl⟩ <;> first | (left; decide) | (right; exact ⟨by decide, _, rfl, by decide⟩)
      clear hm hs
      rcases hs5 with hz | ⟨hz, e, he, hne⟩
      · refine Ret.tj (I := IC u2 v2 u3 v3) (fun w' hm => hI.mod hm) (TTok 0 _) Tryz.func13 (by kernel_rfl) rfl ?_
        repeat' (
          (conv => whnf)
          first
            | (with_reducible first
                | refine TJ.seq ?_
                | refine TJ.region (TTok _ _) ?_
                | refine TJ.drawn (TTok _ _) mixed ?_
                | refine TJ.cond rfl ?_
                | refine TJ.block ?_
                | refine TJ.loop ?_
                | refine LJ.step ?_
                | refine TJ.ret ?_
                | refine TJ.exit ?_
                | refine TJ.skip ?_
                | refine TJ.scope ?_
                | refine TJ.label ?_
                | refine Br.cond_t ?_
                | refine Br.cond_f ?_
                | refine Br.yes (by first | decide | assumption | (apply decide_eq_true; omega)) ?_
                | refine Br.non (by first | decide | assumption | (apply decide_eq_false; omega)) ?_
                | refine Br.cond_ff ?_
                | refine Br.eqT (by omega) ?_
                | refine Br.eqF (by omega) ?_
                | refine Br.neT (by omega) ?_
                | refine Br.neF (by omega) ?_
                | refine Ld.mk' _ rfl ?_
                | refine Need.mk (by first | decide | omega | kernel_rfl) ?_
                | refine Nm.i64 (by omega) ?_
                | refine Nm.u64 (by omega) ?_
                | refine Nm.u8 (by omega) ?_
                | refine x_ret (f := 14) rfl rfl (fun w hw => examples_ret hw) ?_
                | refine x_ret (f := 15) rfl rfl (fun w hw => h15 w hw) ?_)
            | refine Br.yes rfl ?_
            | refine Br.non rfl ?_
            | (refine x_exq (TTok _ _) ?_; (conv => whnf); fail_if_success (guard_target =ₛ False)))
        all_goals (conv => whnf)
        all_goals rfl
      · refine Ret.tj (I := IC u2 v2 u3 v3) (fun w' hm => hI.mod hm) (TTok 0 _) Tryz.func13 (by kernel_rfl) rfl ?_
        repeat' (
          (conv => whnf)
          first
            | (with_reducible first
                | refine TJ.seq ?_
                | refine TJ.region (TTok _ _) ?_
                | refine TJ.drawn (TTok _ _) mixed ?_
                | refine TJ.cond rfl ?_
                | refine TJ.block ?_
                | refine TJ.loop ?_
                | refine LJ.step ?_
                | refine TJ.ret ?_
                | refine TJ.exit ?_
                | refine TJ.skip ?_
                | refine TJ.scope ?_
                | refine TJ.label ?_
                | refine Br.cond_t ?_
                | refine Br.cond_f ?_
                | refine Br.yes (by first | decide | assumption | (apply decide_eq_true; omega)) ?_
                | refine Br.non (by first | decide | assumption | (apply decide_eq_false; omega)) ?_
                | refine Br.cond_ff ?_
                | refine Br.eqT (by omega) ?_
                | refine Br.eqF (by omega) ?_
                | refine Br.neT (by omega) ?_
                | refine Br.neF (by omega) ?_
                | refine Ld.mk' _ rfl ?_
                | refine Need.mk (by first | decide | omega | kernel_rfl) ?_
                | refine Nm.i64 (by omega) ?_
                | refine Nm.u64 (by omega) ?_
                | refine Nm.u8 (by omega) ?_
                | refine x_ret (f := 14) rfl rfl (fun w hw => examples_ret hw) ?_
                | refine x_ret (f := 15) rfl rfl (fun w hw => h15 w hw) ?_)
            | refine Nm.mk' e he ?_
            | refine Br.yes (by simpa using hne) ?_
            | refine Br.yes rfl ?_
            | refine Br.non rfl ?_
            | (refine x_exq (TTok _ _) ?_; (conv => whnf); fail_if_success (guard_target =ₛ False)))
        all_goals (conv => whnf)
        all_goals rfl
    · rw [hs] at h15
      simp only at h15
      have ho : otherK kind := ⟨k1, k28, k2, k5, k39, k6, k15, k16, k43, k46, k47, k48, k50⟩
      have hz := itS_size kind hk
      have h52 := fun w => names_ret kind hk ho d w
      have h54 := fun w => lower54_ret kind hk ho d w
      have h47 := fun b hb w => right_ret kind hk ho d b hb w
      obtain ⟨S, hS⟩ : ∃ S, (⟨#[84, 89, 80, 69]⟩ : ByteArray) ++ itS kind = S := ⟨_, rfl⟩
      have hSz : 5 ≤ S.size := by
        rw [← hS, ByteArray.size_append]
        have : (⟨#[84, 89, 80, 69]⟩ : ByteArray).size = 4 := rfl
        omega
      have hSe : S.extract 0 4 = ⟨#[84, 89, 80, 69]⟩ := by
        rw [← hS]
        apply ByteArray.ext
        simp [ByteArray.data_extract, ByteArray.data_append]
      rw [hS] at h15
      clear hs
      have hs1 : decide (d = d) = true := by simp
      have hs2 : (!decide ((⟨#[84, 89, 80, 69]⟩ : ByteArray) = ⟨#[84, 89, 80, 69]⟩)) = false := by decide
      by_cases hd : d.size ≤ 2000
      · have h47 := fun w => h47 true (by rw [decide_eq_true hd]) w
        have hb1 : eqR BinOp.eql (true == decide ((d.size : Int) ≤ 2000)) = true := by simp [eqR]; omega
        refine Ret.tj (I := IC u2 v2 u3 v3) (fun w' hm => hI.mod hm) (TTok 0 _) Tryz.func13 (by kernel_rfl) rfl ?_
        repeat' (
          (conv => whnf)
          first
            | (with_reducible first
                | refine TJ.seq ?_
                | refine TJ.region (TTok _ _) ?_
                | refine TJ.drawn (TTok _ _) mixed ?_
                | refine TJ.cond rfl ?_
                | refine TJ.block ?_
                | refine TJ.loop ?_
                | refine LJ.step ?_
                | refine TJ.ret ?_
                | refine TJ.exit ?_
                | refine TJ.skip ?_
                | refine TJ.scope ?_
                | refine TJ.label ?_
                | refine Br.cond_t ?_
                | refine Br.cond_f ?_
                | refine Br.yes (by first | decide | assumption | (apply decide_eq_true; omega)) ?_
                | refine Br.non (by first | decide | assumption | (apply decide_eq_false; omega)) ?_
                | refine Br.cond_ff ?_
                | refine Br.eqT (by omega) ?_
                | refine Br.eqF (by omega) ?_
                | refine Br.neT (by omega) ?_
                | refine Br.neF (by omega) ?_
                | refine Ld.mk' _ rfl ?_
                | refine Need.mk (by first | decide | omega | kernel_rfl) ?_
                | refine Nm.i64 (by omega) ?_
                | refine Nm.u64 (by omega) ?_
                | refine Nm.u8 (by omega) ?_
                | refine x_ret (f := 14) rfl rfl (fun w hw => examples_ret hw) ?_
                | refine x_ret (f := 15) rfl rfl (fun w hw => h15 w hw) ?_
                | refine x_ret (f := 47) rfl rfl (fun w _ => h47 w) ?_
                | refine x_ret (f := 52) rfl rfl (fun w _ => h52 w) ?_
                | refine x_ret (f := 54) rfl rfl (fun w _ => h54 w) ?_)
            | refine Nm.mk' _ hSe ?_
            | refine Br.yes hb1 ?_
            | refine Br.yes rfl ?_
            | refine Br.non rfl ?_
            | refine Br.yes hs1 ?_
            | refine Br.non hs2 ?_
            | (refine x_exq (TTok _ _) ?_; (conv => whnf); fail_if_success (guard_target =ₛ False)))
        all_goals (conv => whnf)
        all_goals first | rfl | simp [val]
      · have h47 := fun w => h47 false (by rw [decide_eq_false hd]) w
        have hb1 : eqR BinOp.eql (false == decide ((d.size : Int) ≤ 2000)) = true := by simp [eqR]; omega
        refine Ret.tj (I := IC u2 v2 u3 v3) (fun w' hm => hI.mod hm) (TTok 0 _) Tryz.func13 (by kernel_rfl) rfl ?_
        repeat' (
          (conv => whnf)
          first
            | (with_reducible first
                | refine TJ.seq ?_
                | refine TJ.region (TTok _ _) ?_
                | refine TJ.drawn (TTok _ _) mixed ?_
                | refine TJ.cond rfl ?_
                | refine TJ.block ?_
                | refine TJ.loop ?_
                | refine LJ.step ?_
                | refine TJ.ret ?_
                | refine TJ.exit ?_
                | refine TJ.skip ?_
                | refine TJ.scope ?_
                | refine TJ.label ?_
                | refine Br.cond_t ?_
                | refine Br.cond_f ?_
                | refine Br.yes (by first | decide | assumption | (apply decide_eq_true; omega)) ?_
                | refine Br.non (by first | decide | assumption | (apply decide_eq_false; omega)) ?_
                | refine Br.cond_ff ?_
                | refine Br.eqT (by omega) ?_
                | refine Br.eqF (by omega) ?_
                | refine Br.neT (by omega) ?_
                | refine Br.neF (by omega) ?_
                | refine Ld.mk' _ rfl ?_
                | refine Need.mk (by first | decide | omega | kernel_rfl) ?_
                | refine Nm.i64 (by omega) ?_
                | refine Nm.u64 (by omega) ?_
                | refine Nm.u8 (by omega) ?_
                | refine x_ret (f := 14) rfl rfl (fun w hw => examples_ret hw) ?_
                | refine x_ret (f := 15) rfl rfl (fun w hw => h15 w hw) ?_
                | refine x_ret (f := 47) rfl rfl (fun w _ => h47 w) ?_
                | refine x_ret (f := 52) rfl rfl (fun w _ => h52 w) ?_
                | refine x_ret (f := 54) rfl rfl (fun w _ => h54 w) ?_)
            | refine Nm.mk' _ hSe ?_
            | refine Br.yes hb1 ?_
            | refine Br.yes rfl ?_
            | refine Br.non rfl ?_
            | refine Br.yes hs1 ?_
            | refine Br.non hs2 ?_
            | (refine x_exq (TTok _ _) ?_; (conv => whnf); fail_if_success (guard_target =ₛ False)))
        all_goals (conv => whnf)
        all_goals first | rfl | simp [val]
  · rw [if_neg hk] at h15
    refine Ret.tj (I := IC u2 v2 u3 v3) (fun w' hm => hI.mod hm) (TTok 0 _) Tryz.func13 (by kernel_rfl) rfl ?_
    repeat' (
      (conv => whnf)
      first
        | (with_reducible first
            | refine TJ.seq ?_
            | refine TJ.region (TTok _ _) ?_
            | refine TJ.drawn (TTok _ _) mixed ?_
            | refine TJ.cond rfl ?_
            | refine TJ.block ?_
            | refine TJ.loop ?_
            | refine LJ.step ?_
            | refine TJ.ret ?_
            | refine TJ.exit ?_
            | refine TJ.skip ?_
            | refine TJ.scope ?_
            | refine TJ.label ?_
            | refine Br.cond_t ?_
            | refine Br.cond_f ?_
            | refine Br.yes (by first | decide | assumption | (apply decide_eq_true; omega)) ?_
            | refine Br.non (by first | decide | assumption | (apply decide_eq_false; omega)) ?_
            | refine Br.cond_ff ?_
            | refine Br.eqT (by omega) ?_
            | refine Br.eqF (by omega) ?_
            | refine Br.neT (by omega) ?_
            | refine Br.neF (by omega) ?_
            | refine Ld.mk' _ rfl ?_
            | refine Need.mk (by first | decide | omega | kernel_rfl) ?_
            | refine Nm.i64 (by omega) ?_
            | refine Nm.u64 (by omega) ?_
            | refine Nm.u8 (by omega) ?_
            | refine x_ret (f := 14) rfl rfl (fun w hw => examples_ret hw) ?_
            | refine x_ret (f := 15) rfl rfl (fun w hw => h15 w hw) ?_)
        | (refine x_exq (TTok _ _) ?_; (conv => whnf); fail_if_success (guard_target =ₛ False)))
    all_goals (conv => whnf)
    all_goals rfl
end Go.Proofs.YtbladfkakmdigaaGreatDoor
set_option maxRecDepth 100000
namespace Go.Proofs.YtbladfkakmdigaaGreatDoor
open Go.SX
def tab0 : List Int := [1, 10, 100, 1000, 10000, 100000, 1000000, 10000000, 100000000, 1000000000, 10000000000, 100000000000, 1000000000000, 10000000000000, 100000000000000, 1000000000000000, 10000000000000000, 100000000000000000, 1000000000000000000, 10000000000000000000]
def tab5 : List Int := [0, 1, 56, 2, 57, 49, 28, 3, 61, 58, 42, 50, 38, 29, 17, 4, 62, 47, 59, 36, 45, 43, 51, 22, 53, 39, 33, 30, 24, 18, 12, 5, 63, 55, 48, 27, 60, 41, 37, 16, 46, 35, 44, 21, 52, 32, 23, 11, 54, 26, 40, 15, 34, 20, 31, 10, 25, 14, 19, 9, 13, 8, 7, 6]
theorem I13_of {l : List (String × DataW Unit)} {W : World} (h : laidMet Tryz.prog l W) (hm : ("internal/strconv.uint64pow10", Lib.tabData .u64 tab0) ∈ l) (hm5 : ("math/bits.deBruijn64tab", Lib.tabData .u8 tab5) ∈ l) : I13 W := by
  intro g cells hg
  unfold GG at hg
  split at hg
  · cases hg
    exact laid_tab h hm (t := 253) (e := 179) (n := 20) (by kernel_rfl) (by kernel_rfl) Tryz.underlying253 Tryz.underlying179 (by kernel_rfl) (by kernel_rfl)
  · cases hg
    exact laid_tab h hm5 (t := 268) (e := 5) (n := 64) (by kernel_rfl) (by kernel_rfl) Tryz.underlying268 Tryz.underlying5 (by kernel_rfl) (by kernel_rfl)
  · cases hg
/-- A listed variable of an interface's type holds a value that is not nil. -/
theorem laid_ifc {P : Program} {l : List (String × DataW Unit)} {W : World} {name n : String} {d : DataW Unit} {g : Nat} {t : TypeId} {ms : Array (String × TypeId)} (h : laidMet P l W) (hm : (name, DataW.iface n d) ∈ l)
    (hg : P.globalNamed name = some g) (hty : (P.globals[g]?).map (·.type) = some t) (ht : P.underlying t = some (.interface ms)) : ∃ u v, W.cell? ⟨g, 0, none⟩ = some (.iface u v) := by
  obtain ⟨ps, hl, _⟩ := h
  obtain ⟨g', t', cs, fuel, p, hg', ht', hvar, hd⟩ := laidVars_mem hl _ _ hm
  obtain rfl := Option.some.inj (hg.symm.trans hg')
  obtain rfl := Option.some.inj (hty.symm.trans ht')
  have hc : ∃ u v, cs.toList = [.iface u v] := by
    cases fuel with
    | zero => simp [DataW.trod] at hd
    | succ m =>
      unfold DataW.trod at hd
      rw [ht] at hd
      split at hd <;> simp_all
  obtain ⟨u, v, hc⟩ := hc
  refine ⟨u, v, ?_⟩
  have := World.var?_cell hg hvar 0
  rw [this]
  have e : cs[0]? = cs.toList[0]? := by simp
  rw [e, hc]
  rfl
/-- A listed table of numbers, whole. -/
theorem laid_tabIs {P : Program} {l : List (String × DataW Unit)} {W : World} {name : String} {k : IntKind} {zs : List Int} {g : Nat} {t e : TypeId} {n : Nat} (h : laidMet P l W) (hm : (name, Lib.tabData k zs) ∈ l)
    (hg : P.globalNamed name = some g) (hty : (P.globals[g]?).map (·.type) = some t) (ht : P.underlying t = some (.array n e)) (he : P.underlying e = some (.int k)) (hce : P.cellsOf e = 1) (hct : P.cellsOf t = n) : Lib.TabIs P W name k zs := by
  obtain ⟨ps, hl, _⟩ := h
  obtain ⟨g', t', cs, fuel, p, hg', ht', hvar, hd⟩ := laidVars_mem hl _ _ hm
  obtain rfl := Option.some.inj (hg.symm.trans hg')
  obtain rfl := Option.some.inj (hty.symm.trans ht')
  have hcs := Lib.cells_of_tab ht he hce hct hd
  unfold Lib.TabIs
  rw [hvar, ← hcs]
theorem tab0_pow : tab0 = Lib.pow10Tab := by decide
theorem ic_of {l : List (String × DataW Unit)} {W : World} (h : laidMet Tryz.prog l W) (hm : ("internal/strconv.uint64pow10", Lib.tabData .u64 tab0) ∈ l) (hm5 : ("math/bits.deBruijn64tab", Lib.tabData .u8 tab5) ∈ l)
    {n2 n3 : String} {d2 d3 : DataW Unit} (h2 : ("strconv.ErrSyntax", DataW.iface n2 d2) ∈ l) (h3 : ("strconv.ErrRange", DataW.iface n3 d3) ∈ l) : ∃ u2 v2 u3 v3, IC u2 v2 u3 v3 W := by
  obtain ⟨u2, v2, q2⟩ := laid_ifc h h2 (by kernel_rfl) (by kernel_rfl) Tryz.underlying105
  obtain ⟨u3, v3, q3⟩ := laid_ifc h h3 (by kernel_rfl) (by kernel_rfl) Tryz.underlying105
  refine ⟨u2, v2, u3, v3, I13_of h hm hm5, ⟨q2, q3⟩, ?_⟩
  rw [← tab0_pow]
  exact laid_tabIs h hm (g := 2) (t := 253) (e := 179) (n := 20) (by kernel_rfl) (by kernel_rfl) Tryz.underlying253 Tryz.underlying179 (by kernel_rfl) (by kernel_rfl)
end Go.Proofs.YtbladfkakmdigaaGreatDoor
set_option maxRecDepth 100000
namespace Go.Proofs.YtbladfkakmdigaaGreatDoor
open Go.SX
namespace dataOthers
def inv (W : World) : Prop := ∃ u2 v2 u3 v3, IC u2 v2 u3 v3 W
theorem inv_of {W : World} (h : laidMet Tryz.prog Rows.dataOthersRow.laid W) (_ : W.ShapedOpen Tryz.prog) : inv W :=
  ic_of h (List.mem_of_getElem? (i := 2) (by kernel_rfl)) (List.mem_of_getElem? (i := 1) (by kernel_rfl)) (List.mem_of_getElem? (i := 5) rfl) (List.mem_of_getElem? (i := 4) rfl)
theorem returns (W : World) (args : Array Value) (hI : inv W) (hF : FitAll TT W maxLen Tryz.f13.params.toList args.toList) : Ret Tryz.prog 13 args.toList W (.bool true) := by
  obtain ⟨u2, v2, u3, v3, hI⟩ := hI
  rw [show Tryz.f13.params.toList = [3, 9] by kernel_rfl] at hF
  generalize args.toList = l at hF
  obtain ⟨a, l, rfl, ha, hF⟩ := fitAll_cons hF
  obtain ⟨t, l, rfl, ht, hF⟩ := fitAll_cons hF
  obtain rfl := fitAll_nil hF
  obtain ⟨n, rfl, _⟩ := fit_int (k := .i64) rfl rfl ha
  obtain ⟨s, rfl, _⟩ := fit_str rfl rfl ht
  exact others_ret n s W hI
end dataOthers
end Go.Proofs.YtbladfkakmdigaaGreatDoor
