/-
  Types that rise are put down, and read, as they are, in NSEC and NSEC3, and turned round they are refused.
-/
import Derived.Test.YtbladfkakmdigaaGreatDoorCards
import Derived.Test.YtbladfkakmdigaaGreatDoorTie
import Derived.Test.YtbladfkakmdigaaGreatDoorRXa
import Derived.Test.YtbladfkakmdigaaGreatDoorRXb
import Derived.Test.YtbladfkakmdigaaGreatDoorRXc
import Derived.Test.YtbladfkakmdigaaGreatDoorRXd
import Derived.Test.YtbladfkakmdigaaGreatDoorRBa
import Derived.Test.YtbladfkakmdigaaGreatDoorRFa
import Derived.Test.YtbladfkakmdigaaGreatDoorRTa
set_option linter.unusedVariables false
set_option linter.unusedSimpArgs false
set_option linter.unnecessarySimpa false
set_option maxRecDepth 100000
set_option linter.unusedVariables false
namespace Go.Proofs.YtbladfkakmdigaaGreatDoor.dataRises
open Go.SX Go.ChangeShapes Go.WideShapes Go.ChangeAt Go.RowKit
theorem own : ownKnob Tryz.prog.godebug = none := by kernel_rfl
theorem laidOut : laidOutB Tryz.prog = true := by kernel_rfl
theorem rows : rowsB Tryz.prog Tryz.f10.params.toList = true := by kernel_rfl
theorem typed : (Tryz.f10.params.toList.all fun t => (getO TT t).isSome) = true := by kernel_rfl
theorem spec : LawSpec Rows.dataRisesSpec Tryz.f10.params.toList.length := by
  rw [show Tryz.f10.params.toList.length = 1 by kernel_rfl]
  refine ⟨rfl, fun H ds h => ?_⟩
  match ds, h with
  | [d0], _ => rfl
theorem noHandles : (Rows.dataRisesRow.laid.filter fun x => x.2.handleName?.isSome) = [] := by kernel_rfl
noncomputable def low : Nat := (World.holding Tryz.prog default ⟨#[], #[], []⟩).heap.size
def Sm {H : Type} (_ : DataW H) : Prop := True
theorem small {H : Type} : Small (H := H) maxLen Sm := Small.all
def putC (cs : List Value) : Obj → Obj
  | .cells _ t fr => .cells cs.toArray t fr
  | o => o
noncomputable def laidWorld (os : Os) : World :=
  let w0 := World.holding Tryz.prog os ⟨#[.cells #[.string ⟨#[118, 97, 108, 117, 101, 32, 111, 117, 116, 32, 111, 102, 32, 114, 97, 110, 103, 101]⟩] 259, .cells #[.string ⟨#[105, 110, 118, 97, 108, 105, 100, 32, 115, 121, 110, 116, 97, 120]⟩] 259], #[], []⟩
  { w0 with heap := w0.heap |>.modify 6 (putC [.int .u8 0, .int .u8 1, .int .u8 28, .int .u8 2, .int .u8 29, .int .u8 14, .int .u8 24, .int .u8 3, .int .u8 30, .int .u8 22, .int .u8 20, .int .u8 15, .int .u8 25, .int .u8 17, .int .u8 4, .int .u8 8, .int .u8 31, .int .u8 27, .int .u8 13, .int .u8 23, .int .u8 21, .int .u8 19, .int .u8 16, .int .u8 7, .int .u8 26, .int .u8 12, .int .u8 18, .int .u8 6, .int .u8 11, .int .u8 5, .int .u8 10, .int .u8 9]) |>.modify 7 (putC [.int .u8 0, .int .u8 1, .int .u8 56, .int .u8 2, .int .u8 57, .int .u8 49, .int .u8 28, .int .u8 3, .int .u8 61, .int .u8 58, .int .u8 42, .int .u8 50, .int .u8 38, .int .u8 29, .int .u8 17, .int .u8 4, .int .u8 62, .int .u8 47, .int .u8 59, .int .u8 36, .int .u8 45, .int .u8 43, .int .u8 51, .int .u8 22, .int .u8 53, .int .u8 39, .int .u8 33, .int .u8 30, .int .u8 24, .int .u8 18, .int .u8 12, .int .u8 5, .int .u8 63, .int .u8 55, .int .u8 48, .int .u8 27, .int .u8 60, .int .u8 41, .int .u8 37, .int .u8 16, .int .u8 46, .int .u8 35, .int .u8 44, .int .u8 21, .int .u8 52, .int .u8 32, .int .u8 23, .int .u8 11, .int .u8 54, .int .u8 26, .int .u8 40, .int .u8 15, .int .u8 34, .int .u8 20, .int .u8 31, .int .u8 10, .int .u8 25, .int .u8 14, .int .u8 19, .int .u8 9, .int .u8 13, .int .u8 8, .int .u8 7, .int .u8 6]) |>.modify 2 (putC [.int .u64 1, .int .u64 10, .int .u64 100, .int .u64 1000, .int .u64 10000, .int .u64 100000, .int .u64 1000000, .int .u64 10000000, .int .u64 100000000, .int .u64 1000000000, .int .u64 10000000000, .int .u64 100000000000, .int .u64 1000000000000, .int .u64 10000000000000, .int .u64 100000000000000, .int .u64 1000000000000000, .int .u64 10000000000000000, .int .u64 100000000000000000, .int .u64 1000000000000000000, .int .u64 10000000000000000000]) |>.modify 5 (putC [.int .u8 128, .int .u8 191, .int .u8 160, .int .u8 191, .int .u8 128, .int .u8 159, .int .u8 144, .int .u8 191, .int .u8 128, .int .u8 143, .int .u8 0, .int .u8 0, .int .u8 0, .int .u8 0, .int .u8 0, .int .u8 0, .int .u8 0, .int .u8 0, .int .u8 0, .int .u8 0, .int .u8 0, .int .u8 0, .int .u8 0, .int .u8 0, .int .u8 0, .int .u8 0, .int .u8 0, .int .u8 0, .int .u8 0, .int .u8 0, .int .u8 0, .int .u8 0]) |>.modify 1 (putC [.iface 257 (.pointer (some ⟨low + 0, 0, none⟩))]) |>.modify 0 (putC [.iface 257 (.pointer (some ⟨low + 1, 0, none⟩))]) |>.modify 4 (putC [.int .u8 240, .int .u8 240, .int .u8 240, .int .u8 240, .int .u8 240, .int .u8 240, .int .u8 240, .int .u8 240, .int .u8 240, .int .u8 240, .int .u8 240, .int .u8 240, .int .u8 240, .int .u8 240, .int .u8 240, .int .u8 240, .int .u8 240, .int .u8 240, .int .u8 240, .int .u8 240, .int .u8 240, .int .u8 240, .int .u8 240, .int .u8 240, .int .u8 240, .int .u8 240, .int .u8 240, .int .u8 240, .int .u8 240, .int .u8 240, .int .u8 240, .int .u8 240, .int .u8 240, .int .u8 240, .int .u8 240, .int .u8 240, .int .u8 240, .int .u8 240, .int .u8 240, .int .u8 240, .int .u8 240, .int .u8 240, .int .u8 240, .int .u8 240, .int .u8 240, .int .u8 240, .int .u8 240, .int .u8 240, .int .u8 240, .int .u8 240, .int .u8 240, .int .u8 240, .int .u8 240, .int .u8 240, .int .u8 240, .int .u8 240, .int .u8 240, .int .u8 240, .int .u8 240, .int .u8 240, .int .u8 240, .int .u8 240, .int .u8 240, .int .u8 240, .int .u8 240, .int .u8 240, .int .u8 240, .int .u8 240, .int .u8 240, .int .u8 240, .int .u8 240, .int .u8 240, .int .u8 240, .int .u8 240, .int .u8 240, .int .u8 240, .int .u8 240, .int .u8 240, .int .u8 240, .int .u8 240, .int .u8 240, .int .u8 240, .int .u8 240, .int .u8 240, .int .u8 240, .int .u8 240, .int .u8 240, .int .u8 240, .int .u8 240, .int .u8 240, .int .u8 240, .int .u8 240, .int .u8 240, .int .u8 240, .int .u8 240, .int .u8 240, .int .u8 240, .int .u8 240, .int .u8 240, .int .u8 240, .int .u8 240, .int .u8 240, .int .u8 240, .int .u8 240, .int .u8 240, .int .u8 240, .int .u8 240, .int .u8 240, .int .u8 240, .int .u8 240, .int .u8 240, .int .u8 240, .int .u8 240, .int .u8 240, .int .u8 240, .int .u8 240, .int .u8 240, .int .u8 240, .int .u8 240, .int .u8 240, .int .u8 240, .int .u8 240, .int .u8 240, .int .u8 240, .int .u8 240, .int .u8 240, .int .u8 240, .int .u8 240, .int .u8 241, .int .u8 241, .int .u8 241, .int .u8 241, .int .u8 241, .int .u8 241, .int .u8 241, .int .u8 241, .int .u8 241, .int .u8 241, .int .u8 241, .int .u8 241, .int .u8 241, .int .u8 241, .int .u8 241, .int .u8 241, .int .u8 241, .int .u8 241, .int .u8 241, .int .u8 241, .int .u8 241, .int .u8 241, .int .u8 241, .int .u8 241, .int .u8 241, .int .u8 241, .int .u8 241, .int .u8 241, .int .u8 241, .int .u8 241, .int .u8 241, .int .u8 241, .int .u8 241, .int .u8 241, .int .u8 241, .int .u8 241, .int .u8 241, .int .u8 241, .int .u8 241, .int .u8 241, .int .u8 241, .int .u8 241, .int .u8 241, .int .u8 241, .int .u8 241, .int .u8 241, .int .u8 241, .int .u8 241, .int .u8 241, .int .u8 241, .int .u8 241, .int .u8 241, .int .u8 241, .int .u8 241, .int .u8 241, .int .u8 241, .int .u8 241, .int .u8 241, .int .u8 241, .int .u8 241, .int .u8 241, .int .u8 241, .int .u8 241, .int .u8 241, .int .u8 241, .int .u8 241, .int .u8 2, .int .u8 2, .int .u8 2, .int .u8 2, .int .u8 2, .int .u8 2, .int .u8 2, .int .u8 2, .int .u8 2, .int .u8 2, .int .u8 2, .int .u8 2, .int .u8 2, .int .u8 2, .int .u8 2, .int .u8 2, .int .u8 2, .int .u8 2, .int .u8 2, .int .u8 2, .int .u8 2, .int .u8 2, .int .u8 2, .int .u8 2, .int .u8 2, .int .u8 2, .int .u8 2, .int .u8 2, .int .u8 2, .int .u8 2, .int .u8 19, .int .u8 3, .int .u8 3, .int .u8 3, .int .u8 3, .int .u8 3, .int .u8 3, .int .u8 3, .int .u8 3, .int .u8 3, .int .u8 3, .int .u8 3, .int .u8 3, .int .u8 35, .int .u8 3, .int .u8 3, .int .u8 52, .int .u8 4, .int .u8 4, .int .u8 4, .int .u8 68, .int .u8 241, .int .u8 241, .int .u8 241, .int .u8 241, .int .u8 241, .int .u8 241, .int .u8 241, .int .u8 241, .int .u8 241, .int .u8 241, .int .u8 241]) }
def wit : Array Value := #[.slice none 0 0]
theorem laid_met (os : Os) : laidMet Tryz.prog Rows.dataRisesRow.laid ((laidWorld os).forCall (fun _ _ => 0) ⟨#[], wit, []⟩).memory :=
  laidMet_of_run' 12 (by kernel_rfl) (by kernel_rfl)
theorem reads (os : Os) {H : Type} (enc : TypeId × Value → H) : ∃ ds places, DataW.whole enc Tryz.prog ((laidWorld os).forCall (fun _ _ => 0) ⟨#[], wit, []⟩).memory Tryz.f10.params.toList Rows.dataRisesSpec.vars false wit.toList 12 = some (ds, [], places) :=
  ⟨[.nil], [], by kernel_rfl⟩
theorem contract (H : Type) (enc : TypeId × Value → H) (W : World) (base : Nat) (args : Array Value) (ds gs : List (DataW H)) (before : List MemPlace)
    (hval : ∀ (j : Nat) t v, Tryz.f10.params[j]? = some t → args[j]? = some v → Value.okWide Tryz.prog W .any base t v)
    (hW : DataW.Whole enc Tryz.prog Tryz.f10.params.toList Rows.dataRisesSpec.vars false W args.toList ds gs before) (hsm : ∀ d, d ∈ ds → Sm d) (hsh : W.ShapedOpen Tryz.prog) (hL : laidMetH Tryz.prog Rows.dataRisesRow.laid W) :
    Calls Tryz.prog 10 args W fun e W' => ∃ v, e = .returned v ∧ Rows.dataRisesSpec.post enc Tryz.prog Tryz.f10 false true false false W args v W' := by
  have hW' := hW
  obtain ⟨p, q, hA, hV, _, _, _⟩ := hW'
  have hI : inv W := inv_of (laidMet_of_H hL noHandles) hsh
  have hF := fitAll_of (P := Tryz.prog) (T := TT) (TTok 0 fun _ => True) small Tryz.f10.params.toList args.toList ds p (fun t ht => Option.isSome_iff_exists.1 (List.all_eq_true.1 typed t ht)) hsm (fun j t v h1 h2 => hval j t v (by simpa using h1) (by simpa using h2)) hA
  have hR := (returns W args hI hF).run
  rw [Array.toArray_toList] at hR
  refine hR.mono fun e W' h => ?_
  obtain ⟨rfl, hm⟩ := h
  exact ⟨_, rfl, law_post (tb := 4) laidOut rows spec rfl Tryz.underlying4 hW hm⟩
theorem lifted (os : Os) (started : os.Started) (H : Type) (enc : TypeId × Value → H) (F : Stop.Interp) :
    ReturnsInHanded {} Tryz.checked os 10 .any ((OpenSpec.ofChange Rows.dataRisesSpec).preRow enc Tryz.prog Tryz.f10 Rows.dataRisesRow.domain false Rows.dataRisesRow.laid) (((OpenSpec.ofChange Rows.dataRisesSpec).at F).post enc Tryz.prog Tryz.f10 false true false false) := by
  obtain ⟨ds, places, hx⟩ := reads os enc
  refine returnsInHanded_of_row (C := Tryz.checked) (s := OpenSpec.ofChange Rows.dataRisesSpec) own started (by kernel_rfl) Tryz.func10
    (witness_row_at (enc := enc) (C := Tryz.checked) false (laidWorld os) wit rfl (by kernel_rfl) (by kernel_rfl) (by kernel_rfl)
      (OpenSpec.preRow_of_cond 12 hx (by kernel_rfl) (fun k hk => by cases hk) (by kernel_rfl) (laid_met os))) ?_
  intro W base args ds gs before hval hW _ hcond _ hL hsh _
  exact contract H enc W base args ds gs before hval hW (fun _ _ => trivial) hsh hL
theorem named_inPlace : (Rows.dataRisesRow.inPlace == Tryz.pinned.checked.prog.inPlace 10) = true := by kernel_rfl
theorem named_unfollowed : (Rows.dataRisesRow.unfollowed == Tryz.pinned.checked.prog.unfollowed 10) = true := by kernel_rfl
theorem named_recurses : (Rows.dataRisesRow.recurses == Tryz.pinned.checked.prog.recurses 10) = true := by kernel_rfl
theorem named_named : (Rows.dataRisesRow.named == Tryz.pinned.checked.prog.varsNamed 10) = true := by kernel_rfl
theorem fact_a1 : Rows.dataRisesRow.wf (OpenSpec.ofChange ((OpenSpec.ofChange Rows.dataRisesSpec).bare)) = true := by kernel_rfl
theorem fact_a2 : laidOutB Tryz.pinned.checked.prog = true := by kernel_rfl
theorem fact_a3 : mapsRowed Tryz.pinned.checked.prog = true := by kernel_rfl
theorem fact_a4 : Tryz.f10.params.all (Tryz.pinned.checked.prog.readableRec ·) = true := by kernel_rfl
theorem fact_a5 : namedTie Tryz.pinned.checked.prog Rows.dataRisesRow.named ((OpenSpec.ofChange Rows.dataRisesSpec).bare).vars = true := by kernel_rfl
theorem fact_a6 : ((Rows.dataRisesRow.stops == []) && (Tryz.pinned.checked.prog.stops == []) && (Rows.dataRisesRow.knobs == []) && (Tryz.pinned.checked.prog.stopKnobs == [])) = true := by kernel_rfl
theorem fact_b1 : (Rows.dataRisesRow.maps == (Tryz.f10.params.toList ++ ((OpenSpec.ofChange Rows.dataRisesSpec).bare).plain.varTypes Tryz.pinned.checked.prog).any (Tryz.pinned.checked.prog.mapsRec ·)) = true := by kernel_rfl
theorem fact_b2 : (Rows.dataRisesRow.ifaces == (Tryz.f10.params.toList ++ ((OpenSpec.ofChange Rows.dataRisesSpec).bare).plain.varTypes Tryz.pinned.checked.prog).any (Tryz.pinned.checked.prog.ifacesRec ·)) = true := by kernel_rfl
theorem fact_b3 : (Rows.dataRisesRow.mapsOut == Tryz.pinned.checked.prog.mapsAmong Tryz.f10.resultTypes.toList) = true := by kernel_rfl
theorem fact_b4 : (Rows.dataRisesRow.loops == (Tryz.f10.params.toList ++ ((OpenSpec.ofChange Rows.dataRisesSpec).bare).plain.varTypes Tryz.pinned.checked.prog).any (Tryz.pinned.checked.prog.loopsFrom ·)) = true := by kernel_rfl
theorem fact_b5 : (Rows.dataRisesRow.wideKeys == (Tryz.f10.params.toList ++ ((OpenSpec.ofChange Rows.dataRisesSpec).bare).plain.varTypes Tryz.pinned.checked.prog ++ Tryz.f10.resultTypes.toList).any (Tryz.pinned.checked.prog.wideKeysFrom ·)) = true := by kernel_rfl
theorem fact_b6 : ((OpenSpec.ofChange Rows.dataRisesSpec).bare).vars.all (Tryz.pinned.checked.prog.varReadable ·) = true := by kernel_rfl
theorem fact_b7 : Tryz.f10.resultTypes.all (fun t => Tryz.pinned.checked.prog.readableRec t && decide (t < Tryz.pinned.checked.prog.types.size)) = true := by kernel_rfl
theorem fact_b8 : (Rows.dataRisesRow.ifacesOut == Tryz.f10.resultTypes.toList.any (Tryz.pinned.checked.prog.ifacesRec ·)) = true := by kernel_rfl
theorem fact_b9 : (Rows.dataRisesRow.loopsOut == Tryz.f10.resultTypes.toList.any (Tryz.pinned.checked.prog.loopsFrom ·)) = true := by kernel_rfl
theorem fact_b10 : (Rows.dataRisesRow.plainKeys == Tryz.pinned.checked.prog.plainKeys) = true := by kernel_rfl
theorem fact_b11 : Rows.dataRisesRow.shortTexts.isNone = true := by kernel_rfl
theorem fact_d1 : Tryz.pinned.checked.prog.stopsHeard = true := by kernel_rfl
theorem fact_d2 : Tryz.pinned.checked.prog.mayEnter = true := by kernel_rfl
theorem fact_d3 : (Rows.dataRisesRow.lifted == Tryz.pinned.checked.prog.liftsFinal) = true := by kernel_rfl
theorem fact_d4 : (Tryz.pinned.checked.prog.make == some Rows.dataRisesRow.make) = true := by kernel_rfl
theorem fact_d5 : (Rows.dataRisesRow.kinds == (if Rows.dataRisesRow.domain.isEmpty then [] else Tryz.f10.params.toList.map fun t => match Tryz.pinned.checked.prog.underlying t with | some (.int k) => some k | _ => none)) = true := by kernel_rfl
theorem fact_d6 : (Rows.dataRisesRow.pinned == Rows.dataRisesRow.pinnedBy) = true := by kernel_rfl
theorem fact_d7 : (Rows.dataRisesRow.veiled == (Tryz.f10.params.toList ++ ((OpenSpec.ofChange Rows.dataRisesSpec).bare).plain.varTypes Tryz.pinned.checked.prog ++ Tryz.f10.resultTypes.toList).any (Tryz.pinned.checked.prog.veiledRec ·)) = true := by kernel_rfl
theorem fact_d8 : Rows.dataRisesRow.veiledFits Tryz.pinned.checked.prog Tryz.f10.params.toList (Tryz.f10.params.toList ++ ((OpenSpec.ofChange Rows.dataRisesSpec).bare).plain.varTypes Tryz.pinned.checked.prog ++ Tryz.f10.resultTypes.toList) = true := by kernel_rfl
theorem closed : joinedFacts Tryz.pinned.checked.prog 10 Tryz.f10 (OpenSpec.ofChange Rows.dataRisesSpec).bare Rows.dataRisesRow = true :=
  joined_of1 fact_a1 fact_a2 fact_a3 fact_a4 fact_a5 fact_a6 named_inPlace named_unfollowed named_recurses named_named fact_b1 fact_b2 fact_b3 fact_b4 fact_b5 fact_b6 fact_b7 fact_b8 fact_b9 fact_b10 fact_b11 fact_d1 fact_d2 fact_d3 fact_d4 fact_d5 fact_d6 fact_d7 fact_d8
theorem said : Rows.DataRisesSaid :=
  OpenClaim.holds_of_cond 10 Tryz.f10 rfl rfl rfl rfl rfl rfl rfl ⟨rfl, rfl, rfl, rfl, rfl⟩ rfl rfl rfl rfl rfl (by kernel_rfl) Tryz.func10 closed
    (of_decide_eq_true (by kernel_rfl)) (by unfold Func.isWrapper; first | (rw [if_pos (by decide +kernel)]; kernel_rfl) | (rw [if_neg (by decide +kernel)]; exact ⟨rfl, rfl⟩))
    (fun os started H enc _ F => by rw [OpenClaim.pre_eq_preRow]; exact lifted os started H enc F)
theorem plain (f : FuncId) (fn : Func) (hf : Tryz.pinned.checked.prog.funcNamed Rows.dataRisesRow.func = some f) (hfn : Tryz.pinned.checked.prog.funcs[f]? = some fn) :
    true = Tryz.pinned.checked.prog.looks [] ∧ ∀ (j : Nat) t, fn.params[j]? = some t → Tryz.pinned.checked.prog.wantsStandIn t = false := by
  obtain rfl : f = 10 := Option.some.inj ((show Tryz.prog.funcNamed Rows.dataRisesRow.func = some 10 by kernel_rfl).symm.trans hf) |>.symm
  obtain rfl : fn = Tryz.f10 := (Option.some.inj (Tryz.func10.symm.trans hfn)).symm
  refine ⟨by kernel_rfl, fun j t ht => ?_⟩
  have hm := Array.mem_of_getElem? ht
  have : (Tryz.f10.params.toList.all fun t => !(Tryz.prog.wantsStandIn t)) = true := by kernel_rfl
  have := List.all_eq_true.1 this t (by simpa using hm)
  have h2 : Tryz.prog.wantsStandIn t = false := by simpa using this
  exact h2
theorem card_w : Rows.dataRisesRow.wfByText (OpenSpec.ofChange Rows.dataRisesSpec) = true := by kernel_rfl
theorem card_m : Tryz.pinned.checked.prog.mainIs = some (Rows.dataRisesCard.stood.harness.1, Rows.dataRisesCard.stood.harness.2.toList) := by kernel_rfl
theorem card_g : false = Rows.dataRisesRow.goesBy Tryz.pinned.checked.prog := by kernel_rfl
theorem card : Rows.DataRisesCardSaid :=
  Claim7.holds_tied_plain_at .later [] _ _ _ _ said (fun _ h => by cases h) card_w (fun _ h => by cases h) dataRises_row_tie rfl ⟨rfl, rfl⟩ card_m rfl plain card_g
end Go.Proofs.YtbladfkakmdigaaGreatDoor.dataRises
