/-
  Put together by the program and by the document, SOA, RRSIG, DNSKEY and DS are the same or refused alike, for arguments of at most 1048576 in all.
-/
import Derived.Test.YtbladfkakmdigaaGreatDoorMakesb
import Derived.Test.YtbladfkakmdigaaGreatDoorMakesa
import Derived.Test.YtbladfkakmdigaaGreatDoorRows
import Derived.Test.YtbladfkakmdigaaGreatDoorSxc
set_option linter.unusedVariables false
set_option linter.unusedSimpArgs false
set_option linter.unnecessarySimpa false
set_option maxRecDepth 100000
set_option linter.unusedVariables false
set_option linter.unusedSimpArgs false
namespace Go.Proofs.YtbladfkakmdigaaGreatDoor
open Go.SX
/-! ### DataMakes -/
theorem dnV_pair (l : List Int) (W : Bool) (S : ByteArray) (B : Bool) (h1 : W = !B) (h2 : strOfNums l = S) :
    (∃ x, dnV l W = (x, 0) ∧ shV S B = .tuple #[.string x, .bool true]) ∨ (dnV l W = (⟨#[]⟩, 6) ∧ shV S B = .tuple #[.string ⟨#[]⟩, .bool false]) := by
  have hl : S.size = l.length := by rw [← h2, sz_nums]
  unfold dnV shV
  cases B with
  | false => simp at h1; right; simp [h1]
  | true =>
    simp at h1
    by_cases h3 : l.length ≤ 2000
    · left; refine ⟨S, ?_, ?_⟩
      · rw [if_neg (by rw [h1]; simp; omega), h2]
      · rw [if_pos ⟨rfl, by omega⟩]
    · right; refine ⟨?_, ?_⟩
      · rw [if_pos (.inr (by omega))]
      · rw [if_neg (by rintro ⟨_, h⟩; omega)]
theorem nums_sInts (l : List Int) (s : ByteArray) : strOfNums (l ++ sInts s) = strOfNums l ++ s := by
  rw [← nums_app, strOf_sInts]
theorem nums_nil : strOfNums [] = ⟨#[]⟩ := rfl
theorem ba_nil_app (s : ByteArray) : (⟨#[]⟩ : ByteArray) ++ s = s := by
  apply ba_ext
  simp [ByteArray.data_append]
theorem sg_pair (m1 m2 m3 m4 m5 m6 m7 : Int) (a b : ByteArray) : sgW m1 m2 m3 m4 m5 m6 m7 a b = !rsgB m1 m2 m3 m4 m5 m6 m7 a b ∧ strOfNums (sgL m1 m2 m3 m4 m5 m6 m7 a b) = rsgS m1 m2 m3 m4 m5 m6 m7 a b := by
  constructor
  · unfold sgW rsgB
    have : decide ((b.size : Int) < 1) = !decide (0 < b.size) := by
      by_cases h : 0 < b.size
      · have : ¬ ((b.size : Int) < 1) := by omega
        simp [h, this]
      · have : ((b.size : Int) < 1) := by omega
        simp [h, this]
    rw [this]
    generalize fit m1 65536 = x1
    generalize fit m2 256 = x2
    generalize fit m3 256 = x3
    generalize fit m4 4294967296 = x4
    generalize fit m5 4294967296 = x5
    generalize fit m6 4294967296 = x6
    generalize fit m7 65536 = x7
    generalize rgt a = x8
    generalize decide (0 < b.size) = x9
    cases x1 <;> cases x2 <;> cases x3 <;> cases x4 <;> cases x5 <;> cases x6 <;> cases x7 <;> cases x8 <;> cases x9 <;> rfl
  · unfold sgL rsgS
    rw [nums_sInts, nums_sInts]
    simp only [← nums_app, nums_nil, ba_nil_app]
theorem rgt_size {s : ByteArray} (h : rgt s = true) : 0 < s.size ∧ s.size ≤ 255 := by
  unfold rgt rtB at h
  simp only [decide_eq_true_eq] at h
  exact ⟨h.1, h.2.1⟩
theorem so_pair (a b : ByteArray) (n1 n2 n3 n4 n5 : Int) :
    (∃ x, dnV (soL a b n1 n2 n3 n4 n5) (soW a b n1 n2 n3 n4 n5) = (x, 0) ∧ okV (rsoS a b n1 n2 n3 n4 n5) (rsoB a b n1 n2 n3 n4 n5) = .tuple #[.string x, .bool true]) ∨ (dnV (soL a b n1 n2 n3 n4 n5) (soW a b n1 n2 n3 n4 n5) = (⟨#[]⟩, 6) ∧ okV (rsoS a b n1 n2 n3 n4 n5) (rsoB a b n1 n2 n3 n4 n5) = .tuple #[.string ⟨#[]⟩, .bool false]) := by
  have h1 : soW a b n1 n2 n3 n4 n5 = !rsoB a b n1 n2 n3 n4 n5 := by
    unfold soW rsoB
    generalize fit n1 4294967296 = x1
    generalize fit n2 4294967296 = x2
    generalize fit n3 4294967296 = x3
    generalize fit n4 4294967296 = x4
    generalize fit n5 4294967296 = x5
    generalize rgt a = x6
    generalize rgt b = x7
    cases x1 <;> cases x2 <;> cases x3 <;> cases x4 <;> cases x5 <;> cases x6 <;> cases x7 <;> rfl
  have h2 : strOfNums (soL a b n1 n2 n3 n4 n5) = rsoS a b n1 n2 n3 n4 n5 := by
    unfold soL rsoS
    simp only [← nums_app, strOf_sInts, nums_nil, ba_nil_app]
  unfold dnV okV
  cases hB : rsoB a b n1 n2 n3 n4 n5 with
  | false => rw [hB] at h1; simp at h1; right; simp [h1]
  | true =>
    rw [hB] at h1
    simp at h1
    left
    refine ⟨rsoS a b n1 n2 n3 n4 n5, ?_, by simp⟩
    have hb : rgt a = true ∧ rgt b = true := by
      unfold rsoB at hB
      simp only [Bool.and_eq_true] at hB
      exact ⟨hB.1.1.1.1.1.1, hB.1.1.1.1.1.2⟩
    have q1 := rgt_size hb.1
    have q2 := rgt_size hb.2
    rw [if_neg, h2]
    rw [h1]
    simp [soL, sInts_length, be4]
    omega
theorem ds_pair (s : ByteArray) (ok : Bool) : (∃ x, dsV s ok = .tuple #[.string x, .int .i64 0] ∧ shV s ok = .tuple #[.string x, .bool true]) ∨ (dsV s ok = .tuple #[.string ⟨#[]⟩, .int .i64 6] ∧ shV s ok = .tuple #[.string ⟨#[]⟩, .bool false]) := by
  unfold dsV shV
  by_cases h : ok = true ∧ s.size ≤ 2000
  · left; exact ⟨s, by rw [if_pos h], by rw [if_pos h]⟩
  · right; exact ⟨by rw [if_neg h], by rw [if_neg h]⟩
/-- Two that put together alike. -/
def Alike2 (f g : FuncId) (v : Value) (b : Bool) : Prop := ∃ x, (∀ w, Ret Tryz.prog f [v] w (.tuple #[.string x, .int .i64 (cond b 0 6)])) ∧ (∀ w, Ret Tryz.prog g [v] w (.tuple #[.string x, .bool b]))
theorem soa_alike (a b : ByteArray) (n1 n2 n3 n4 n5 : Int) (ha : a.size < 4294967281) (hb : b.size < 4294967281) : ∃ e, Alike2 34 35 (.agg #[.string a, .string b, .int .i64 n1, .int .i64 n2, .int .i64 n3, .int .i64 n4, .int .i64 n5]) e := by
  have h1 := fun w => (so_con a b n1 n2 n3 n4 n5 ha hb).ret (args := [.agg #[.string a, .string b, .int .i64 n1, .int .i64 n2, .int .i64 n3, .int .i64 n4, .int .i64 n5]]) (v := .tuple #[.string (dnV (soL a b n1 n2 n3 n4 n5) (soW a b n1 n2 n3 n4 n5)).1, .int .i64 (dnV (soL a b n1 n2 n3 n4 n5) (soW a b n1 n2 n3 n4 n5)).2]) (fun _ _ => rfl) (fun _ h => h) (w := w) (fun _ _ => trivial)
  have h2 := fun w => rso_ret a b n1 n2 n3 n4 n5 ha hb w
  rcases so_pair a b n1 n2 n3 n4 n5 with ⟨x, e1, e2⟩ | ⟨e1, e2⟩
  · rw [e1] at h1
    rw [e2] at h2
    exact ⟨true, x, h1, h2⟩
  · rw [e1] at h1
    rw [e2] at h2
    exact ⟨false, _, h1, h2⟩
theorem sig_alike (m1 m2 m3 m4 m5 m6 m7 : Int) (a b : ByteArray) (ha : a.size < 4294967281) (hb : b.size < 4294967281) : ∃ e, Alike2 36 37 (.agg #[.int .i64 m1, .int .i64 m2, .int .i64 m3, .int .i64 m4, .int .i64 m5, .int .i64 m6, .int .i64 m7, .string a, .string b]) e := by
  have h1 := fun w => (sg_con m1 m2 m3 m4 m5 m6 m7 a b ha hb).ret (args := [.agg #[.int .i64 m1, .int .i64 m2, .int .i64 m3, .int .i64 m4, .int .i64 m5, .int .i64 m6, .int .i64 m7, .string a, .string b]]) (v := .tuple #[.string (dnV (sgL m1 m2 m3 m4 m5 m6 m7 a b) (sgW m1 m2 m3 m4 m5 m6 m7 a b)).1, .int .i64 (dnV (sgL m1 m2 m3 m4 m5 m6 m7 a b) (sgW m1 m2 m3 m4 m5 m6 m7 a b)).2]) (fun _ _ => rfl) (fun _ h => h) (w := w) (fun _ _ => trivial)
  have h2 := fun w => rsg_ret m1 m2 m3 m4 m5 m6 m7 a b ha hb w
  obtain ⟨p1, p2⟩ := sg_pair m1 m2 m3 m4 m5 m6 m7 a b
  rcases dnV_pair _ _ _ _ p1 p2 with ⟨x, e1, e2⟩ | ⟨e1, e2⟩
  · rw [e1] at h1
    rw [e2] at h2
    exact ⟨true, x, h1, h2⟩
  · rw [e1] at h1
    rw [e2] at h2
    exact ⟨false, _, h1, h2⟩
theorem key_alike (a b c : Int) (s : ByteArray) (hs : s.size < 4294967281) : ∃ e, Alike2 38 39 (.agg #[.int .i64 a, .int .i64 b, .int .i64 c, .string s]) e := by
  have h1 := fun w => dofkey_ret a b c s hs w
  have h2 := fun w => rofkey_ret a b c s hs w
  rcases ds_pair (kdS a b c s) (kdB a b c s) with ⟨x, e1, e2⟩ | ⟨e1, e2⟩
  · rw [e1] at h1
    rw [e2] at h2
    exact ⟨true, x, h1, h2⟩
  · rw [e1] at h1
    rw [e2] at h2
    exact ⟨false, _, h1, h2⟩
theorem dsd_alike (a b c : Int) (s : ByteArray) (hs : s.size < 4294967281) : ∃ e, Alike2 40 41 (.agg #[.int .i64 a, .int .i64 b, .int .i64 c, .string s]) e := by
  have h1 := fun w => dofds_ret a b c s hs w
  have h2 := fun w => rofds_ret a b c s hs w
  rcases ds_pair (kdS a b c s) (kdB a b c s) with ⟨x, e1, e2⟩ | ⟨e1, e2⟩
  · rw [e1] at h1
    rw [e2] at h2
    exact ⟨true, x, h1, h2⟩
  · rw [e1] at h1
    rw [e2] at h2
    exact ⟨false, _, h1, h2⟩
set_option maxHeartbeats 16000000 in
theorem makes_ret {u2 v2 u3 v3} (a b c d : Value) (h1 : ∃ e, Alike2 34 35 a e) (h2 : ∃ e, Alike2 36 37 b e) (h3 : ∃ e, Alike2 38 39 c e) (h4 : ∃ e, Alike2 40 41 d e) (hk : ∃ a0 a1 a2 a3 a4 a5 a6 b0 b1 b2 b3 b4 b5 b6 b7 b8 c0 c1 c2 c3 d0 d1 d2 d3, a = .agg #[a0, a1, a2, a3, a4, a5, a6] ∧ b = .agg #[b0, b1, b2, b3, b4, b5, b6, b7, b8] ∧ c = .agg #[c0, c1, c2, c3] ∧ d = .agg #[d0, d1, d2, d3]) (w : World) (hI : IC u2 v2 u3 v3 w) : Ret Tryz.prog 6 [a, b, c, d] w (.bool true) := by
  obtain ⟨a0, a1, a2, a3, a4, a5, a6, b0, b1, b2, b3, b4, b5, b6, b7, b8, c0, c1, c2, c3, d0, d1, d2, d3, rfl, rfl, rfl, rfl⟩ := hk
  obtain ⟨e1, x1, p1, q1⟩ := h1
  obtain ⟨e2, x2, p2, q2⟩ := h2
  obtain ⟨e3, x3, p3, q3⟩ := h3
  obtain ⟨e4, x4, p4, q4⟩ := h4
  have hb1 : decide (x1 = x1) = true := by simp
  have hb2 : decide (x2 = x2) = true := by simp
  have hb3 : decide (x3 = x3) = true := by simp
  have hb4 : decide (x4 = x4) = true := by simp
  cases e1 <;> cases e2 <;> cases e3 <;> cases e4
  all_goals simp only [cond] at p1 p2 p3 p4
  all_goals refine Ret.tj (I := IC u2 v2 u3 v3) (fun w' hm => hI.mod hm) (TTok 0 _) Tryz.func6 (by kernel_rfl) rfl ?_
  all_goals repeat' (
    (conv => whnf)
    first
      | (with_reducible first
          | refine TJ.seq ?_
          | refine TJ.region (TTok _ _) ?_
          | refine TJ.drawn (TTok _ _) mixed ?_
          | refine TJ.cond rfl ?_
          | refine TJ.block ?_
          | refine TJ.loop ?_
          | refine LJ.step ?_
          | refine TJ.ret ?_
          | refine TJ.exit ?_
          | refine TJ.skip ?_
          | refine TJ.scope ?_
          | refine TJ.label ?_
          | refine Br.cond_t ?_
          | refine Br.cond_f ?_
          | refine Br.yes (by first | decide | assumption | (apply decide_eq_true; omega)) ?_
          | refine Br.non (by first | decide | assumption | (apply decide_eq_false; omega)) ?_
          | refine Br.cond_ff ?_
          | refine Br.eqT (by omega) ?_
          | refine Br.eqF (by omega) ?_
          | refine Br.neT (by omega) ?_
          | refine Br.neF (by omega) ?_
          | refine Ld.mk' _ rfl ?_
          | refine Need.mk (by first | decide | omega | kernel_rfl) ?_
          | refine Nm.i64 (by omega) ?_
          | refine Nm.u64 (by omega) ?_
          | refine Nm.u8 (by omega) ?_
          | refine x_ret (f := 14) rfl rfl (fun w hw => examples_ret hw) ?_
          | refine x_ret (f := 34) rfl rfl (fun w _ => p1 w) ?_
          | refine x_ret (f := 35) rfl rfl (fun w _ => q1 w) ?_
          | refine x_ret (f := 36) rfl rfl (fun w _ => p2 w) ?_
          | refine x_ret (f := 37) rfl rfl (fun w _ => q2 w) ?_
          | refine x_ret (f := 38) rfl rfl (fun w _ => p3 w) ?_
          | refine x_ret (f := 39) rfl rfl (fun w _ => q3 w) ?_
          | refine x_ret (f := 40) rfl rfl (fun w _ => p4 w) ?_
          | refine x_ret (f := 41) rfl rfl (fun w _ => q4 w) ?_)
      | refine Br.yes hb1 ?_
      | refine Br.yes hb2 ?_
      | refine Br.yes hb3 ?_
      | refine Br.yes hb4 ?_
      | refine Br.yes rfl ?_
      | refine Br.non rfl ?_
      | (refine x_exq (TTok _ _) ?_; (conv => whnf); fail_if_success (guard_target =ₛ False)))
  all_goals (conv => whnf)
  all_goals first | rfl | simp [val]
end Go.Proofs.YtbladfkakmdigaaGreatDoor
set_option maxRecDepth 100000
namespace Go.Proofs.YtbladfkakmdigaaGreatDoor
open Go.SX
def tab0 : List Int := [1, 10, 100, 1000, 10000, 100000, 1000000, 10000000, 100000000, 1000000000, 10000000000, 100000000000, 1000000000000, 10000000000000, 100000000000000, 1000000000000000, 10000000000000000, 100000000000000000, 1000000000000000000, 10000000000000000000]
def tab5 : List Int := [0, 1, 56, 2, 57, 49, 28, 3, 61, 58, 42, 50, 38, 29, 17, 4, 62, 47, 59, 36, 45, 43, 51, 22, 53, 39, 33, 30, 24, 18, 12, 5, 63, 55, 48, 27, 60, 41, 37, 16, 46, 35, 44, 21, 52, 32, 23, 11, 54, 26, 40, 15, 34, 20, 31, 10, 25, 14, 19, 9, 13, 8, 7, 6]
theorem I13_of {l : List (String × DataW Unit)} {W : World} (h : laidMet Tryz.prog l W) (hm : ("internal/strconv.uint64pow10", Lib.tabData .u64 tab0) ∈ l) (hm5 : ("math/bits.deBruijn64tab", Lib.tabData .u8 tab5) ∈ l) : I13 W := by
  intro g cells hg
  unfold GG at hg
  split at hg
  · cases hg
    exact laid_tab h hm (t := 253) (e := 179) (n := 20) (by kernel_rfl) (by kernel_rfl) Tryz.underlying253 Tryz.underlying179 (by kernel_rfl) (by kernel_rfl)
  · cases hg
    exact laid_tab h hm5 (t := 268) (e := 5) (n := 64) (by kernel_rfl) (by kernel_rfl) Tryz.underlying268 Tryz.underlying5 (by kernel_rfl) (by kernel_rfl)
  · cases hg
/-- A listed variable of an interface's type holds a value that is not nil. -/
theorem laid_ifc {P : Program} {l : List (String × DataW Unit)} {W : World} {name n : String} {d : DataW Unit} {g : Nat} {t : TypeId} {ms : Array (String × TypeId)} (h : laidMet P l W) (hm : (name, DataW.iface n d) ∈ l)
    (hg : P.globalNamed name = some g) (hty : (P.globals[g]?).map (·.type) = some t) (ht : P.underlying t = some (.interface ms)) : ∃ u v, W.cell? ⟨g, 0, none⟩ = some (.iface u v) := by
  obtain ⟨ps, hl, _⟩ := h
  obtain ⟨g', t', cs, fuel, p, hg', ht', hvar, hd⟩ := laidVars_mem hl _ _ hm
  obtain rfl := Option.some.inj (hg.symm.trans hg')
  obtain rfl := Option.some.inj (hty.symm.trans ht')
  have hc : ∃ u v, cs.toList = [.iface u v] := by
    cases fuel with
    | zero => simp [DataW.trod] at hd
    | succ m =>
      unfold DataW.trod at hd
      rw [ht] at hd
      split at hd <;> simp_all
  obtain ⟨u, v, hc⟩ := hc
  refine ⟨u, v, ?_⟩
  have := World.var?_cell hg hvar 0
  rw [this]
  have e : cs[0]? = cs.toList[0]? := by simp
  rw [e, hc]
  rfl
/-- A listed table of numbers, whole. -/
theorem laid_tabIs {P : Program} {l : List (String × DataW Unit)} {W : World} {name : String} {k : IntKind} {zs : List Int} {g : Nat} {t e : TypeId} {n : Nat} (h : laidMet P l W) (hm : (name, Lib.tabData k zs) ∈ l)
    (hg : P.globalNamed name = some g) (hty : (P.globals[g]?).map (·.type) = some t) (ht : P.underlying t = some (.array n e)) (he : P.underlying e = some (.int k)) (hce : P.cellsOf e = 1) (hct : P.cellsOf t = n) : Lib.TabIs P W name k zs := by
  obtain ⟨ps, hl, _⟩ := h
  obtain ⟨g', t', cs, fuel, p, hg', ht', hvar, hd⟩ := laidVars_mem hl _ _ hm
  obtain rfl := Option.some.inj (hg.symm.trans hg')
  obtain rfl := Option.some.inj (hty.symm.trans ht')
  have hcs := Lib.cells_of_tab ht he hce hct hd
  unfold Lib.TabIs
  rw [hvar, ← hcs]
theorem tab0_pow : tab0 = Lib.pow10Tab := by decide
theorem ic_of {l : List (String × DataW Unit)} {W : World} (h : laidMet Tryz.prog l W) (hm : ("internal/strconv.uint64pow10", Lib.tabData .u64 tab0) ∈ l) (hm5 : ("math/bits.deBruijn64tab", Lib.tabData .u8 tab5) ∈ l)
    {n2 n3 : String} {d2 d3 : DataW Unit} (h2 : ("strconv.ErrSyntax", DataW.iface n2 d2) ∈ l) (h3 : ("strconv.ErrRange", DataW.iface n3 d3) ∈ l) : ∃ u2 v2 u3 v3, IC u2 v2 u3 v3 W := by
  obtain ⟨u2, v2, q2⟩ := laid_ifc h h2 (by kernel_rfl) (by kernel_rfl) Tryz.underlying105
  obtain ⟨u3, v3, q3⟩ := laid_ifc h h3 (by kernel_rfl) (by kernel_rfl) Tryz.underlying105
  refine ⟨u2, v2, u3, v3, I13_of h hm hm5, ⟨q2, q3⟩, ?_⟩
  rw [← tab0_pow]
  exact laid_tabIs h hm (g := 2) (t := 253) (e := 179) (n := 20) (by kernel_rfl) (by kernel_rfl) Tryz.underlying253 Tryz.underlying179 (by kernel_rfl) (by kernel_rfl)
end Go.Proofs.YtbladfkakmdigaaGreatDoor
set_option maxRecDepth 100000
set_option linter.unusedVariables false
namespace Go.Proofs.YtbladfkakmdigaaGreatDoor
open Go.SX
theorem fit_soa {W : World} {B : Nat} {v : Value} (h : FitV TT W B 37 v) : ∃ (a b : ByteArray) (n1 n2 n3 n4 n5 : Int), v = .agg #[.string a, .string b, .int .i64 n1, .int .i64 n2, .int .i64 n3, .int .i64 n4, .int .i64 n5] ∧ a.size ≤ B ∧ b.size ≤ B := by
  obtain ⟨cs, hf, rfl⟩ := h
  obtain ⟨hl, h1, h2, h3, h4, h5, h6, h7, _⟩ := hf
  match cs, hl with
  | [c0, c1, c2, c3, c4, c5, c6], _ =>
    obtain ⟨a, e1, r1⟩ := h1
    obtain ⟨b, e2, r2⟩ := h2
    obtain ⟨n1, e3, _⟩ := h3
    obtain ⟨n2, e4, _⟩ := h4
    obtain ⟨n3, e5, _⟩ := h5
    obtain ⟨n4, e6, _⟩ := h6
    obtain ⟨n5, e7, _⟩ := h7
    simp at e1 e2 e3 e4 e5 e6 e7
    subst e1 e2 e3 e4 e5 e6 e7
    exact ⟨a, b, n1, n2, n3, n4, n5, rfl, r1, r2⟩
theorem fit_sig {W : World} {B : Nat} {v : Value} (h : FitV TT W B 43 v) : ∃ (n1 n2 n3 n4 n5 n6 n7 : Int) (a b : ByteArray), v = .agg #[.int .i64 n1, .int .i64 n2, .int .i64 n3, .int .i64 n4, .int .i64 n5, .int .i64 n6, .int .i64 n7, .string a, .string b] ∧ a.size ≤ B ∧ b.size ≤ B := by
  obtain ⟨cs, hf, rfl⟩ := h
  obtain ⟨hl, h3, h4, h5, h6, h7, h8, h9, h1, h2, _⟩ := hf
  match cs, hl with
  | [c0, c1, c2, c3, c4, c5, c6, c7, c8], _ =>
    obtain ⟨a, e1, r1⟩ := h1
    obtain ⟨b, e2, r2⟩ := h2
    obtain ⟨n1, e3, _⟩ := h3
    obtain ⟨n2, e4, _⟩ := h4
    obtain ⟨n3, e5, _⟩ := h5
    obtain ⟨n4, e6, _⟩ := h6
    obtain ⟨n5, e7, _⟩ := h7
    obtain ⟨n6, e8, _⟩ := h8
    obtain ⟨n7, e9, _⟩ := h9
    simp at e1 e2 e3 e4 e5 e6 e7 e8 e9
    subst e1 e2 e3 e4 e5 e6 e7 e8 e9
    exact ⟨n1, n2, n3, n4, n5, n6, n7, a, b, rfl, r1, r2⟩
theorem fit_key {W : World} {B : Nat} {v : Value} (h : FitV TT W B 49 v) : ∃ (n1 n2 n3 : Int) (a : ByteArray), v = .agg #[.int .i64 n1, .int .i64 n2, .int .i64 n3, .string a] ∧ a.size ≤ B := by
  obtain ⟨cs, hf, rfl⟩ := h
  obtain ⟨hl, h3, h4, h5, h1, _⟩ := hf
  match cs, hl with
  | [c0, c1, c2, c3], _ =>
    obtain ⟨a, e1, r1⟩ := h1
    obtain ⟨n1, e3, _⟩ := h3
    obtain ⟨n2, e4, _⟩ := h4
    obtain ⟨n3, e5, _⟩ := h5
    simp at e1 e3 e4 e5
    subst e1 e3 e4 e5
    exact ⟨n1, n2, n3, a, rfl, r1⟩
theorem fit_ds {W : World} {B : Nat} {v : Value} (h : FitV TT W B 55 v) : ∃ (n1 n2 n3 : Int) (a : ByteArray), v = .agg #[.int .i64 n1, .int .i64 n2, .int .i64 n3, .string a] ∧ a.size ≤ B := by
  obtain ⟨cs, hf, rfl⟩ := h
  obtain ⟨hl, h3, h4, h5, h1, _⟩ := hf
  match cs, hl with
  | [c0, c1, c2, c3], _ =>
    obtain ⟨a, e1, r1⟩ := h1
    obtain ⟨n1, e3, _⟩ := h3
    obtain ⟨n2, e4, _⟩ := h4
    obtain ⟨n3, e5, _⟩ := h5
    simp at e1 e3 e4 e5
    subst e1 e3 e4 e5
    exact ⟨n1, n2, n3, a, rfl, r1⟩
namespace dataMakes
def inv (W : World) : Prop := ∃ u2 v2 u3 v3, IC u2 v2 u3 v3 W
theorem inv_of {W : World} (h : laidMet Tryz.prog Rows.dataMakesUptoRow.laid W) (_ : W.ShapedOpen Tryz.prog) : inv W :=
  ic_of h (List.mem_of_getElem? (i := 2) (by kernel_rfl)) (List.mem_of_getElem? (i := 1) (by kernel_rfl)) (List.mem_of_getElem? (i := 5) rfl) (List.mem_of_getElem? (i := 4) rfl)
theorem returns (W : World) (args : Array Value) (hI : inv W) (hF : FitAll TT W 1048576 Tryz.f6.params.toList args.toList) : Ret Tryz.prog 6 args.toList W (.bool true) := by
  obtain ⟨u2, v2, u3, v3, hI⟩ := hI
  rw [show Tryz.f6.params.toList = [37, 43, 49, 55] by kernel_rfl] at hF
  generalize args.toList = l at hF
  obtain ⟨a, l, rfl, ha, hF⟩ := fitAll_cons hF
  obtain ⟨b, l, rfl, hb, hF⟩ := fitAll_cons hF
  obtain ⟨c, l, rfl, hc, hF⟩ := fitAll_cons hF
  obtain ⟨d, l, rfl, hd, hF⟩ := fitAll_cons hF
  obtain rfl := fitAll_nil hF
  obtain ⟨a1, a2, x1, x2, x3, x4, x5, rfl, ra, rb⟩ := fit_soa ha
  obtain ⟨y1, y2, y3, y4, y5, y6, y7, b1, b2, rfl, rc, rd⟩ := fit_sig hb
  obtain ⟨z1, z2, z3, c1, rfl, re⟩ := fit_key hc
  obtain ⟨t1, t2, t3, d1, rfl, rf⟩ := fit_ds hd
  exact makes_ret _ _ _ _ (soa_alike _ _ _ _ _ _ _ (by omega) (by omega)) (sig_alike _ _ _ _ _ _ _ _ _ (by omega) (by omega)) (key_alike _ _ _ _ (by omega)) (dsd_alike _ _ _ _ (by omega)) ⟨_, _, _, _, _, _, _, _, _, _, _, _, _, _, _, _, _, _, _, _, _, _, _, _, rfl, rfl, rfl, rfl⟩ W hI
end dataMakes
end Go.Proofs.YtbladfkakmdigaaGreatDoor
