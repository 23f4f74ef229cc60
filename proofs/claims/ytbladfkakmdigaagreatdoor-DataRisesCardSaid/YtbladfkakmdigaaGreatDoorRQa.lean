/-
  What the laws of these data stand on: contracts of functions, and plain laws.
-/
import Derived.Test.YtbladfkakmdigaaGreatDoorRXa
import Derived.Test.YtbladfkakmdigaaGreatDoorRXb
import Derived.Test.YtbladfkakmdigaaGreatDoorRXc
import Derived.Test.YtbladfkakmdigaaGreatDoorRXd
import Derived.Test.YtbladfkakmdigaaGreatDoorRBa
import Derived.Test.YtbladfkakmdigaaGreatDoorRPa
set_option linter.unusedVariables false
set_option linter.unusedSimpArgs false
set_option linter.unnecessarySimpa false
set_option maxRecDepth 100000
set_option linter.unusedVariables false
set_option linter.unusedSimpArgs false
namespace Go.Proofs.YtbladfkakmdigaaGreatDoor
open Go.SX
noncomputable def soL (a b : ByteArray) (n1 n2 n3 n4 n5 : Int) : List Int := (((((((([] : List Int) ++ sInts a) ++ sInts b) ++ be4 n1) ++ be4 n2) ++ be4 n3) ++ be4 n4) ++ be4 n5)
noncomputable def soW (a b : ByteArray) (n1 n2 n3 n4 n5 : Int) : Bool := (((((((false || !rgt a) || !rgt b) || !fit n1 4294967296) || !fit n2 4294967296) || !fit n3 4294967296) || !fit n4 4294967296) || !fit n5 4294967296)
noncomputable def sgL (m1 m2 m3 m4 m5 m6 m7 : Int) (a b : ByteArray) : List Int := (((((((((([] : List Int) ++ be2 m1) ++ be1 m2) ++ be1 m3) ++ be4 m4) ++ be4 m5) ++ be4 m6) ++ be2 m7) ++ sInts a) ++ sInts b)
noncomputable def sgW (m1 m2 m3 m4 m5 m6 m7 : Int) (a b : ByteArray) : Bool := (((((((((false || !fit m1 65536) || !fit m2 256) || !fit m3 256) || !fit m4 4294967296) || !fit m5 4294967296) || !fit m6 4294967296) || !fit m7 65536) || !rgt a) || decide ((b.size : Int) < 1))
end Go.Proofs.YtbladfkakmdigaaGreatDoor
set_option maxRecDepth 100000
set_option linter.unusedVariables false
set_option linter.unusedSimpArgs false
namespace Go.Proofs.YtbladfkakmdigaaGreatDoor
open Go.SX
def okV (s : ByteArray) (ok : Bool) : Value := if ok = true then .tuple #[.string s, .bool true] else .tuple #[.string ⟨#[]⟩, .bool false]
noncomputable def rsoS (a b : ByteArray) (n1 n2 n3 n4 n5 : Int) : ByteArray := a ++ b ++ strOfNums (be4 n1) ++ strOfNums (be4 n2) ++ strOfNums (be4 n3) ++ strOfNums (be4 n4) ++ strOfNums (be4 n5)
noncomputable def rsoB (a b : ByteArray) (n1 n2 n3 n4 n5 : Int) : Bool := rgt a && rgt b && fit n1 4294967296 && fit n2 4294967296 && fit n3 4294967296 && fit n4 4294967296 && fit n5 4294967296
noncomputable def rsgS (m1 m2 m3 m4 m5 m6 m7 : Int) (a b : ByteArray) : ByteArray := strOfNums (be2 m1) ++ strOfNums (be1 m2) ++ strOfNums (be1 m3) ++ strOfNums (be4 m4) ++ strOfNums (be4 m5) ++ strOfNums (be4 m6) ++ strOfNums (be2 m7) ++ a ++ b
noncomputable def rsgB (m1 m2 m3 m4 m5 m6 m7 : Int) (a b : ByteArray) : Bool := rgt a && fit m1 65536 && fit m2 256 && fit m3 256 && fit m4 4294967296 && fit m5 4294967296 && fit m6 4294967296 && fit m7 65536 && decide (0 < b.size)
end Go.Proofs.YtbladfkakmdigaaGreatDoor
set_option maxRecDepth 100000
set_option linter.unusedVariables false
set_option linter.unusedSimpArgs false
namespace Go.Proofs.YtbladfkakmdigaaGreatDoor
open Go.SX
def Alike2 (f g : FuncId) (v : Value) (b : Bool) : Prop := ∃ x, (∀ w, Ret Tryz.prog f [v] w (.tuple #[.string x, .int .i64 (cond b 0 6)])) ∧ (∀ w, Ret Tryz.prog g [v] w (.tuple #[.string x, .bool b]))
end Go.Proofs.YtbladfkakmdigaaGreatDoor
set_option maxRecDepth 100000
set_option linter.unusedVariables false
set_option linter.unusedSimpArgs false
namespace Go.Proofs.YtbladfkakmdigaaGreatDoor
open Go.SX
theorem dnV_again {l : List Int} {wr : Bool} {d : ByteArray} (h : l = sInts d) (hw : wr = false) (hd : d.size ≤ 2000) : dnV l wr = (d, 0) := by
  unfold dnV
  rw [if_neg, h, strOf_sInts]
  rw [hw, h, sInts_length]
  simp
  omega
def tyV (o : List Int) (wr : Bool) (l : List Int) : ByteArray × Int := dnV (if tbD l wr l.length = true then o else wins o l 256) (tbD l wr l.length)
theorem tyV_again {o l : List Int} {wr : Bool} {d : ByteArray} (h : wins o l 256 = sInts d) (hw : wr = false) (hi : Inc l) (hr : ∀ z, z ∈ l → 0 ≤ z ∧ z < 65536) (hd : d.size ≤ 2000) : tyV o wr l = (d, 0) := by
  subst hw
  unfold tyV
  have := tbD_false hi hr l.length (Nat.le_refl _)
  rw [this, if_neg (by simp)]
  exact dnV_again h rfl hd
end Go.Proofs.YtbladfkakmdigaaGreatDoor
set_option maxRecDepth 100000
set_option linter.unusedVariables false
set_option linter.unusedSimpArgs false
namespace Go.Proofs.YtbladfkakmdigaaGreatDoor
open Go.SX
def rwH (l : List Int) (vl : Nat) (s : Nat → Nat) : List (Option Chunk) := [some ⟨.row, 3, 1, vl, its l⟩]
theorem rwH_cl (l : List Int) (vl : Nat) : refsInC (rwH l vl id) (rwH l vl id) = true := by simp [rwH, refsInC, refsInL_its]
theorem rwH_nat (l : List Int) (vl : Nat) (σ : List Nat) : mapR σ (rwH l vl id) = rwH l vl (getN σ) := by simp [rwH, mapR, renK, renL_its]
theorem styO_len (o : List Int) (wr : Bool) (l : List Int) : (styO o wr l).length ≤ o.length + 8704 := by
  unfold styO
  split
  · omega
  · have := wins_len o l 256; omega
set_option maxHeartbeats 16000000 in
theorem ofns_con (x : ByteArray) (l : List Int) (vl : Nat) (hx : x.size < 4294967281) (hl : l.length < 1099511627776) : Con Tryz.prog (fun _ => True) 42 (fun s => [.agg [.v (.string x), .sl (s 0) vl 0 l.length]]) (rwH l vl) (fun _ : Unit => True) (fun _ _ => .tup [.v (.string (tyV (([] : List Int) ++ sInts x) (false || !rgt x) l).1), .v (.int .i64 (tyV (([] : List Int) ++ sInts x) (false || !rgt x) l).2)]) (fun _ => rwH l vl) (fun _ => False) := by
  refine Con.of (TTok _ _) Tryz.func42 (by kernel_rfl) rfl (rwH_cl _ _) rfl (fun σ => rfl) (rwH_nat _ _) (fun _ _ _ => rfl) (fun _ σ _ => rwH_nat _ _ σ) (fun _ _ => CEnd.of rfl rfl (rwH_cl _ _)) ?_
  have c0 := name_con ([] : List Int) false 0 x (by simp [sInts_length, be4, be2, be1] <;> omega) (by omega)
  obtain ⟨O, hO⟩ : ∃ O, O = (([] : List Int) ++ sInts x) := ⟨_, rfl⟩
  obtain ⟨B, hB⟩ : ∃ B, B = ((false || !rgt x)) := ⟨_, rfl⟩
  have hOl : O.length < 4398046500000 := by rw [hO]; simp [sInts_length, be4, be2, be1] <;> omega
  have ct := stypes_con O B (0 + 1) l vl (by rw [hO]; simp [sInts_length, be4, be2, be1] <;> omega) hl
  have hsl := styO_len O B l
  have cd := fun v' : Nat => done_con (styO O B l) (tbD l B (l).length) v' (by omega)
  have hV : tyV (([] : List Int) ++ sInts x) (false || !rgt x) l = dnV (styO O B l) (tbD l B (l).length) := by rw [hO, hB]; rfl
  rw [hV]
  generalize hX : dnV (styO O B l) (tbD l B (l).length) = X at cd ⊢
  clear hX hV
  rw [hO, hB] at ct
  subst hO hB
  unfold rwH
  repeat' ((conv => whnf); first | refine TR.nil_cell 6 0 31 5 1 rfl rfl rfl ?_ | (with_reducible first | refine TR.seq ?_ | refine TR.regionL ?_ | refine TR.drawn (TTok _ _) mixed ?_ | refine TR.block ?_ | refine TR.ret ?_ | refine TR.exit ?_ | refine TR.skip ?_ | refine TR.condB rfl ?_ | refine TRL.nil ?_ | refine Br.cond_t ?_ | refine Br.cond_f ?_ | refine Br.yes (by first | decide | assumption | (apply decide_eq_true; omega)) ?_ | refine Br.non (by first | decide | assumption | (apply decide_eq_false; omega)) ?_ | refine Br.cond_ff ?_ | refine Br.eqT (by omega) ?_ | refine Br.eqF (by omega) ?_ | refine Br.neT (by omega) ?_ | refine Br.neF (by omega) ?_ | refine Ld.mk' _ rfl ?_ | refine Need.mk (by first | decide | omega | kernel_rfl) ?_ | refine Nm.i64 (by omega) ?_ | refine Nm.u64 (by omega) ?_ | refine Nm.u8 (by omega) ?_) | refine TRL.con [6, 31] [6, 31] c0 rfl rfl rfl rfl ⟨rfl, rfl, trivial⟩ rfl rfl (fun _ _ => ⟨trivial, ?_⟩) (fun _ h => h.elim) | (refine TRL.con [6, 31, 0] [6, 31, 0] ct rfl rfl rfl rfl ⟨rfl, rfl, rfl, trivial⟩ rfl rfl (fun v' _ => ⟨trivial, ?_⟩) (fun _ h => h.elim)) | (refine TRL.con [6, 31] [6, 31] (cd _) rfl rfl rfl rfl ⟨rfl, rfl, trivial⟩ rfl rfl (fun _ _ => ⟨trivial, ?_⟩) (fun _ h => h.elim)) | refine TRL.step (TTok _ _) ?_ | (refine x_exq (TTok _ _) ?_; (conv => whnf); fail_if_success (guard_target =ₛ False)))
  all_goals (conv => whnf)
  all_goals first | exact ⟨(), trivial, rfl, rfl, trivial⟩ | trace_state
set_option maxHeartbeats 16000000 in
theorem ofn3_con (x0 x1 x2 : Int) (x3 x4 : ByteArray) (l : List Int) (vl : Nat) (h3 : x3.size < 4294967281) (h4 : x4.size < 4294967281) (hl : l.length < 1099511627776) : Con Tryz.prog (fun _ => True) 44 (fun s => [.agg [.v (.int .i64 x0), .v (.int .i64 x1), .v (.int .i64 x2), .v (.string x3), .v (.string x4), .sl (s 0) vl 0 l.length]]) (rwH l vl) (fun _ : Unit => True) (fun _ _ => .tup [.v (.string (tyV (((((([] : List Int) ++ be1 x0) ++ be1 x1) ++ be2 x2) ++ be1 x3.size ++ sInts x3) ++ be1 x4.size ++ sInts x4) (((((((false || !fit x0 256) || !fit x1 256) || !fit x2 65536) || !fit x3.size 256) || decide ((x3.size : Int) < 0)) || !fit x4.size 256) || decide ((x4.size : Int) < 1)) l).1), .v (.int .i64 (tyV (((((([] : List Int) ++ be1 x0) ++ be1 x1) ++ be2 x2) ++ be1 x3.size ++ sInts x3) ++ be1 x4.size ++ sInts x4) (((((((false || !fit x0 256) || !fit x1 256) || !fit x2 65536) || !fit x3.size 256) || decide ((x3.size : Int) < 0)) || !fit x4.size 256) || decide ((x4.size : Int) < 1)) l).2)]) (fun _ => rwH l vl) (fun _ => False) := by
  refine Con.of (TTok _ _) Tryz.func44 (by kernel_rfl) rfl (rwH_cl _ _) rfl (fun σ => rfl) (rwH_nat _ _) (fun _ _ _ => rfl) (fun _ σ _ => rwH_nat _ _ σ) (fun _ _ => CEnd.of rfl rfl (rwH_cl _ _)) ?_
  have c0 := number1_con ([] : List Int) false 0 x0 (by simp [sInts_length, be4, be2, be1] <;> omega)
  have c1 := number1_con (([] : List Int) ++ be1 x0) (false || !fit x0 256) (0 + 1) x1 (by simp [sInts_length, be4, be2, be1] <;> omega)
  have c2 := number2_con ((([] : List Int) ++ be1 x0) ++ be1 x1) ((false || !fit x0 256) || !fit x1 256) ((0 + 1) + 1) x2 (by simp [sInts_length, be4, be2, be1] <;> omega)
  have c3 := short_con (((([] : List Int) ++ be1 x0) ++ be1 x1) ++ be2 x2) (((false || !fit x0 256) || !fit x1 256) || !fit x2 65536) (((0 + 1) + 1) + 2) x3 0 (by simp [sInts_length, be4, be2, be1] <;> omega) (by omega)
  have c4 := short_con ((((([] : List Int) ++ be1 x0) ++ be1 x1) ++ be2 x2) ++ be1 x3.size ++ sInts x3) (((((false || !fit x0 256) || !fit x1 256) || !fit x2 65536) || !fit x3.size 256) || decide ((x3.size : Int) < 0)) ((((0 + 1) + 1) + 2) + 1 + 1) x4 1 (by simp [sInts_length, be4, be2, be1] <;> omega) (by omega)
  obtain ⟨O, hO⟩ : ∃ O, O = (((((([] : List Int) ++ be1 x0) ++ be1 x1) ++ be2 x2) ++ be1 x3.size ++ sInts x3) ++ be1 x4.size ++ sInts x4) := ⟨_, rfl⟩
  obtain ⟨B, hB⟩ : ∃ B, B = ((((((((false || !fit x0 256) || !fit x1 256) || !fit x2 65536) || !fit x3.size 256) || decide ((x3.size : Int) < 0)) || !fit x4.size 256) || decide ((x4.size : Int) < 1))) := ⟨_, rfl⟩
  have hOl : O.length < 4398046500000 := by rw [hO]; simp [sInts_length, be4, be2, be1] <;> omega
  have ct := stypes_con O B (((((0 + 1) + 1) + 2) + 1 + 1) + 1 + 1) l vl (by rw [hO]; simp [sInts_length, be4, be2, be1] <;> omega) hl
  have hsl := styO_len O B l
  have cd := fun v' : Nat => done_con (styO O B l) (tbD l B (l).length) v' (by omega)
  have hV : tyV (((((([] : List Int) ++ be1 x0) ++ be1 x1) ++ be2 x2) ++ be1 x3.size ++ sInts x3) ++ be1 x4.size ++ sInts x4) (((((((false || !fit x0 256) || !fit x1 256) || !fit x2 65536) || !fit x3.size 256) || decide ((x3.size : Int) < 0)) || !fit x4.size 256) || decide ((x4.size : Int) < 1)) l = dnV (styO O B l) (tbD l B (l).length) := by rw [hO, hB]; rfl
  rw [hV]
  generalize hX : dnV (styO O B l) (tbD l B (l).length) = X at cd ⊢
  clear hX hV
  rw [hO, hB] at ct
  subst hO hB
  unfold rwH
  repeat' ((conv => whnf); first | refine TR.nil_cell 6 0 51 5 1 rfl rfl rfl ?_ | (with_reducible first | refine TR.seq ?_ | refine TR.regionL ?_ | refine TR.drawn (TTok _ _) mixed ?_ | refine TR.block ?_ | refine TR.ret ?_ | refine TR.exit ?_ | refine TR.skip ?_ | refine TR.condB rfl ?_ | refine TRL.nil ?_ | refine Br.cond_t ?_ | refine Br.cond_f ?_ | refine Br.yes (by first | decide | assumption | (apply decide_eq_true; omega)) ?_ | refine Br.non (by first | decide | assumption | (apply decide_eq_false; omega)) ?_ | refine Br.cond_ff ?_ | refine Br.eqT (by omega) ?_ | refine Br.eqF (by omega) ?_ | refine Br.neT (by omega) ?_ | refine Br.neF (by omega) ?_ | refine Ld.mk' _ rfl ?_ | refine Need.mk (by first | decide | omega | kernel_rfl) ?_ | refine Nm.i64 (by omega) ?_ | refine Nm.u64 (by omega) ?_ | refine Nm.u8 (by omega) ?_) | refine TRL.con [6, 51] [6, 51] c0 rfl rfl rfl rfl ⟨rfl, rfl, trivial⟩ rfl rfl (fun _ _ => ⟨trivial, ?_⟩) (fun _ h => h.elim) | refine TRL.con [6, 51] [6, 51] c1 rfl rfl rfl rfl ⟨rfl, rfl, trivial⟩ rfl rfl (fun _ _ => ⟨trivial, ?_⟩) (fun _ h => h.elim) | refine TRL.con [6, 51] [6, 51] c2 rfl rfl rfl rfl ⟨rfl, rfl, trivial⟩ rfl rfl (fun _ _ => ⟨trivial, ?_⟩) (fun _ h => h.elim) | refine TRL.con [6, 51] [6, 51] c3 rfl rfl rfl rfl ⟨rfl, rfl, trivial⟩ rfl rfl (fun _ _ => ⟨trivial, ?_⟩) (fun _ h => h.elim) | refine TRL.con [6, 51] [6, 51] c4 rfl rfl rfl rfl ⟨rfl, rfl, trivial⟩ rfl rfl (fun _ _ => ⟨trivial, ?_⟩) (fun _ h => h.elim) | (refine TRL.con [6, 51, 0] [6, 51, 0] ct rfl rfl rfl rfl ⟨rfl, rfl, rfl, trivial⟩ rfl rfl (fun v' _ => ⟨trivial, ?_⟩) (fun _ h => h.elim)) | (refine TRL.con [6, 51] [6, 51] (cd _) rfl rfl rfl rfl ⟨rfl, rfl, trivial⟩ rfl rfl (fun _ _ => ⟨trivial, ?_⟩) (fun _ h => h.elim)) | refine TRL.step (TTok _ _) ?_ | (refine x_exq (TTok _ _) ?_; (conv => whnf); fail_if_success (guard_target =ₛ False)))
  all_goals (conv => whnf)
  all_goals first | exact ⟨(), trivial, rfl, rfl, trivial⟩ | trace_state
end Go.Proofs.YtbladfkakmdigaaGreatDoor
