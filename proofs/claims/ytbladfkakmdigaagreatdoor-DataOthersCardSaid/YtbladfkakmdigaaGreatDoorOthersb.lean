/-
  DataOthers: whatever the type's number and the data, the statement's function hands back true.
-/
import Derived.Test.YtbladfkakmdigaaGreatDoorRows
import Derived.Test.YtbladfkakmdigaaGreatDoorOthersa
import Derived.Test.YtbladfkakmdigaaGreatDoorSxc
set_option linter.unusedVariables false
set_option linter.unusedSimpArgs false
set_option linter.unnecessarySimpa false
set_option maxRecDepth 100000
namespace Go.Proofs.YtbladfkakmdigaaGreatDoor
open Go.SX
def tab0 : List Int := [1, 10, 100, 1000, 10000, 100000, 1000000, 10000000, 100000000, 1000000000, 10000000000, 100000000000, 1000000000000, 10000000000000, 100000000000000, 1000000000000000, 10000000000000000, 100000000000000000, 1000000000000000000, 10000000000000000000]
def tab5 : List Int := [0, 1, 56, 2, 57, 49, 28, 3, 61, 58, 42, 50, 38, 29, 17, 4, 62, 47, 59, 36, 45, 43, 51, 22, 53, 39, 33, 30, 24, 18, 12, 5, 63, 55, 48, 27, 60, 41, 37, 16, 46, 35, 44, 21, 52, 32, 23, 11, 54, 26, 40, 15, 34, 20, 31, 10, 25, 14, 19, 9, 13, 8, 7, 6]
theorem I13_of {l : List (String × DataW Unit)} {W : World} (h : laidMet Tryz.prog l W) (hm : ("internal/strconv.uint64pow10", Lib.tabData .u64 tab0) ∈ l) (hm5 : ("math/bits.deBruijn64tab", Lib.tabData .u8 tab5) ∈ l) : I13 W := by
  intro g cells hg
  unfold GG at hg
  split at hg
  · cases hg
    exact laid_tab h hm (t := 253) (e := 179) (n := 20) (by kernel_rfl) (by kernel_rfl) Tryz.underlying253 Tryz.underlying179 (by kernel_rfl) (by kernel_rfl)
  · cases hg
    exact laid_tab h hm5 (t := 268) (e := 5) (n := 64) (by kernel_rfl) (by kernel_rfl) Tryz.underlying268 Tryz.underlying5 (by kernel_rfl) (by kernel_rfl)
  · cases hg
/-- A listed variable of an interface's type holds a value that is not nil. -/
theorem laid_ifc {P : Program} {l : List (String × DataW Unit)} {W : World} {name n : String} {d : DataW Unit} {g : Nat} {t : TypeId} {ms : Array (String × TypeId)} (h : laidMet P l W) (hm : (name, DataW.iface n d) ∈ l)
    (hg : P.globalNamed name = some g) (hty : (P.globals[g]?).map (·.type) = some t) (ht : P.underlying t = some (.interface ms)) : ∃ u v, W.cell? ⟨g, 0, none⟩ = some (.iface u v) := by
  obtain ⟨ps, hl, _⟩ := h
  obtain ⟨g', t', cs, fuel, p, hg', ht', hvar, hd⟩ := laidVars_mem hl _ _ hm
  obtain rfl := Option.some.inj (hg.symm.trans hg')
  obtain rfl := Option.some.inj (hty.symm.trans ht')
  have hc : ∃ u v, cs.toList = [.iface u v] := by
    cases fuel with
    | zero => simp [DataW.trod] at hd
    | succ m =>
      unfold DataW.trod at hd
      rw [ht] at hd
      split at hd <;> simp_all
  obtain ⟨u, v, hc⟩ := hc
  refine ⟨u, v, ?_⟩
  have := World.var?_cell hg hvar 0
  rw [this]
  have e : cs[0]? = cs.toList[0]? := by simp
  rw [e, hc]
  rfl
/-- A listed table of numbers, whole. -/
theorem laid_tabIs {P : Program} {l : List (String × DataW Unit)} {W : World} {name : String} {k : IntKind} {zs : List Int} {g : Nat} {t e : TypeId} {n : Nat} (h : laidMet P l W) (hm : (name, Lib.tabData k zs) ∈ l)
    (hg : P.globalNamed name = some g) (hty : (P.globals[g]?).map (·.type) = some t) (ht : P.underlying t = some (.array n e)) (he : P.underlying e = some (.int k)) (hce : P.cellsOf e = 1) (hct : P.cellsOf t = n) : Lib.TabIs P W name k zs := by
  obtain ⟨ps, hl, _⟩ := h
  obtain ⟨g', t', cs, fuel, p, hg', ht', hvar, hd⟩ := laidVars_mem hl _ _ hm
  obtain rfl := Option.some.inj (hg.symm.trans hg')
  obtain rfl := Option.some.inj (hty.symm.trans ht')
  have hcs := Lib.cells_of_tab ht he hce hct hd
  unfold Lib.TabIs
  rw [hvar, ← hcs]
theorem tab0_pow : tab0 = Lib.pow10Tab := by decide
theorem ic_of {l : List (String × DataW Unit)} {W : World} (h : laidMet Tryz.prog l W) (hm : ("internal/strconv.uint64pow10", Lib.tabData .u64 tab0) ∈ l) (hm5 : ("math/bits.deBruijn64tab", Lib.tabData .u8 tab5) ∈ l)
    {n2 n3 : String} {d2 d3 : DataW Unit} (h2 : ("strconv.ErrSyntax", DataW.iface n2 d2) ∈ l) (h3 : ("strconv.ErrRange", DataW.iface n3 d3) ∈ l) : ∃ u2 v2 u3 v3, IC u2 v2 u3 v3 W := by
  obtain ⟨u2, v2, q2⟩ := laid_ifc h h2 (by kernel_rfl) (by kernel_rfl) Tryz.underlying105
  obtain ⟨u3, v3, q3⟩ := laid_ifc h h3 (by kernel_rfl) (by kernel_rfl) Tryz.underlying105
  refine ⟨u2, v2, u3, v3, I13_of h hm hm5, ⟨q2, q3⟩, ?_⟩
  rw [← tab0_pow]
  exact laid_tabIs h hm (g := 2) (t := 253) (e := 179) (n := 20) (by kernel_rfl) (by kernel_rfl) Tryz.underlying253 Tryz.underlying179 (by kernel_rfl) (by kernel_rfl)
end Go.Proofs.YtbladfkakmdigaaGreatDoor
set_option maxRecDepth 100000
namespace Go.Proofs.YtbladfkakmdigaaGreatDoor
open Go.SX
namespace dataOthers
def inv (W : World) : Prop := ∃ u2 v2 u3 v3, IC u2 v2 u3 v3 W
theorem inv_of {W : World} (h : laidMet Tryz.prog Rows.dataOthersRow.laid W) (_ : W.ShapedOpen Tryz.prog) : inv W :=
  ic_of h (List.mem_of_getElem? (i := 2) (by kernel_rfl)) (List.mem_of_getElem? (i := 1) (by kernel_rfl)) (List.mem_of_getElem? (i := 5) rfl) (List.mem_of_getElem? (i := 4) rfl)
theorem returns (W : World) (args : Array Value) (hI : inv W) (hF : FitAll TT W maxLen Tryz.f13.params.toList args.toList) : Ret Tryz.prog 13 args.toList W (.bool true) := by
  obtain ⟨u2, v2, u3, v3, hI⟩ := hI
  rw [show Tryz.f13.params.toList = [3, 9] by kernel_rfl] at hF
  generalize args.toList = l at hF
  obtain ⟨a, l, rfl, ha, hF⟩ := fitAll_cons hF
  obtain ⟨t, l, rfl, ht, hF⟩ := fitAll_cons hF
  obtain rfl := fitAll_nil hF
  obtain ⟨n, rfl, _⟩ := fit_int (k := .i64) rfl rfl ha
  obtain ⟨s, rfl, _⟩ := fit_str rfl rfl ht
  exact others_ret n s W hI
end dataOthers
end Go.Proofs.YtbladfkakmdigaaGreatDoor
