/-
  What the laws of these data stand on: contracts of functions, and plain laws.
-/
import Derived.Test.YtbladfkakmdigaaGreatDoorQXa
import Derived.Test.YtbladfkakmdigaaGreatDoorQXb
import Derived.Test.YtbladfkakmdigaaGreatDoorQXc
import Derived.Test.YtbladfkakmdigaaGreatDoorQXd
import Derived.Test.YtbladfkakmdigaaGreatDoorQBa
import Derived.Test.YtbladfkakmdigaaGreatDoorQFa
import Derived.Test.YtbladfkakmdigaaGreatDoorQHa
import Derived.Test.YtbladfkakmdigaaGreatDoorQIa
import Derived.Test.YtbladfkakmdigaaGreatDoorQJa
import Derived.Test.YtbladfkakmdigaaGreatDoorQLa
set_option linter.unusedVariables false
set_option linter.unusedSimpArgs false
set_option linter.unnecessarySimpa false
set_option maxRecDepth 100000
set_option linter.unusedVariables false
set_option linter.unusedSimpArgs false
namespace Go.Proofs.YtbladfkakmdigaaGreatDoor
open Go.SX
theorem again_ret {u2 v2 u3 v3} (d : ByteArray) (hs : d.size < 4294967281) (w : World) (hI : IC u2 v2 u3 v3 w) : Ret Tryz.prog 9 [.string d] w (.bool true) := by
  cases h5 : nsW d with
  | none =>
    cases h6 : n3W d with
    | none => exact again_00 d hs h5 h6 w hI
    | some q =>
      obtain ⟨a, b, c, x, y, l⟩ := q
      exact again_01 d hs h5 a b c x y l h6 w hI
  | some p =>
    obtain ⟨x, l⟩ := p
    cases h6 : n3W d with
    | none => exact again_10 d hs x l h5 h6 w hI
    | some q =>
      obtain ⟨a, b, c, y, z, m⟩ := q
      exact again_11 d hs x l h5 a b c y z m h6 w hI
end Go.Proofs.YtbladfkakmdigaaGreatDoor
set_option maxRecDepth 100000
set_option linter.unusedVariables false
namespace Go.Proofs.YtbladfkakmdigaaGreatDoor
open Go.SX
namespace dataAgain
def inv (W : World) : Prop := ∃ u2 v2 u3 v3, IC u2 v2 u3 v3 W
theorem inv_of {W : World} (h : laidMet Tryz.prog Rows.dataAgainUptoRow.laid W) (_ : W.ShapedOpen Tryz.prog) : inv W :=
  ic_of h (List.mem_of_getElem? (i := 2) (by kernel_rfl)) (List.mem_of_getElem? (i := 1) (by kernel_rfl)) (List.mem_of_getElem? (i := 5) rfl) (List.mem_of_getElem? (i := 4) rfl)
theorem returns (W : World) (args : Array Value) (hI : inv W) (hF : FitAll TT W 1048576 Tryz.f9.params.toList args.toList) : Ret Tryz.prog 9 args.toList W (.bool true) := by
  obtain ⟨u2, v2, u3, v3, hI⟩ := hI
  rw [show Tryz.f9.params.toList = [9] by kernel_rfl] at hF
  generalize args.toList = l at hF
  obtain ⟨a, l, rfl, ha, hF⟩ := fitAll_cons hF
  obtain rfl := fitAll_nil hF
  obtain ⟨s, rfl, hs⟩ := fit_str rfl rfl ha
  exact again_ret s (by omega) W hI
end dataAgain
end Go.Proofs.YtbladfkakmdigaaGreatDoor
