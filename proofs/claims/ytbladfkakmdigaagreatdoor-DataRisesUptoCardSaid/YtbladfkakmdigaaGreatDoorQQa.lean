/-
  What the laws of these data stand on: contracts of functions, and plain laws.
-/
import Derived.Test.YtbladfkakmdigaaGreatDoorQXa
import Derived.Test.YtbladfkakmdigaaGreatDoorQXb
import Derived.Test.YtbladfkakmdigaaGreatDoorQXc
import Derived.Test.YtbladfkakmdigaaGreatDoorQXd
import Derived.Test.YtbladfkakmdigaaGreatDoorQBa
import Derived.Test.YtbladfkakmdigaaGreatDoorQFa
import Derived.Test.YtbladfkakmdigaaGreatDoorQCa
import Derived.Test.YtbladfkakmdigaaGreatDoorQPa
set_option linter.unusedVariables false
set_option linter.unusedSimpArgs false
set_option linter.unnecessarySimpa false
set_option maxRecDepth 100000
set_option linter.unusedVariables false
set_option linter.unusedSimpArgs false
namespace Go.Proofs.YtbladfkakmdigaaGreatDoor
open Go.SX
noncomputable def soL (a b : ByteArray) (n1 n2 n3 n4 n5 : Int) : List Int := (((((((([] : List Int) ++ sInts a) ++ sInts b) ++ be4 n1) ++ be4 n2) ++ be4 n3) ++ be4 n4) ++ be4 n5)
noncomputable def soW (a b : ByteArray) (n1 n2 n3 n4 n5 : Int) : Bool := (((((((false || !rgt a) || !rgt b) || !fit n1 4294967296) || !fit n2 4294967296) || !fit n3 4294967296) || !fit n4 4294967296) || !fit n5 4294967296)
set_option maxHeartbeats 16000000 in
theorem so_con (a b : ByteArray) (n1 n2 n3 n4 n5 : Int) (ha : a.size < 4294967281) (hb : b.size < 4294967281) : Con Tryz.prog (fun _ => True) 34 (fun _ => [.v (.agg #[.string a, .string b, .int .i64 n1, .int .i64 n2, .int .i64 n3, .int .i64 n4, .int .i64 n5])]) (fun _ => []) (fun _ : Unit => True) (fun _ _ => .tup [.v (.string (dnV (soL a b n1 n2 n3 n4 n5) (soW a b n1 n2 n3 n4 n5)).1), .v (.int .i64 (dnV (soL a b n1 n2 n3 n4 n5) (soW a b n1 n2 n3 n4 n5)).2)]) (fun _ _ => []) (fun _ => False) := by
  refine Con.of (TTok _ _) Tryz.func34 (by kernel_rfl) rfl rfl rfl (fun σ => rfl) (fun σ => rfl) (fun _ _ _ => rfl) (fun _ σ _ => rfl) (fun _ _ => CEnd.of rfl rfl rfl) ?_
  have c0 := name_con ([] : List Int) false 0 a (by simp [sInts_length, be4, be2, be1] <;> omega) (by omega)
  have c1 := name_con (([] : List Int) ++ sInts a) (false || !rgt a) (0 + 1) b (by simp [sInts_length, be4, be2, be1] <;> omega) (by omega)
  have c2 := number4_con ((([] : List Int) ++ sInts a) ++ sInts b) ((false || !rgt a) || !rgt b) ((0 + 1) + 1) n1 (by simp [sInts_length, be4, be2, be1] <;> omega)
  have c3 := number4_con (((([] : List Int) ++ sInts a) ++ sInts b) ++ be4 n1) (((false || !rgt a) || !rgt b) || !fit n1 4294967296) (((0 + 1) + 1) + 4) n2 (by simp [sInts_length, be4, be2, be1] <;> omega)
  have c4 := number4_con ((((([] : List Int) ++ sInts a) ++ sInts b) ++ be4 n1) ++ be4 n2) ((((false || !rgt a) || !rgt b) || !fit n1 4294967296) || !fit n2 4294967296) ((((0 + 1) + 1) + 4) + 4) n3 (by simp [sInts_length, be4, be2, be1] <;> omega)
  have c5 := number4_con (((((([] : List Int) ++ sInts a) ++ sInts b) ++ be4 n1) ++ be4 n2) ++ be4 n3) (((((false || !rgt a) || !rgt b) || !fit n1 4294967296) || !fit n2 4294967296) || !fit n3 4294967296) (((((0 + 1) + 1) + 4) + 4) + 4) n4 (by simp [sInts_length, be4, be2, be1] <;> omega)
  have c6 := number4_con ((((((([] : List Int) ++ sInts a) ++ sInts b) ++ be4 n1) ++ be4 n2) ++ be4 n3) ++ be4 n4) ((((((false || !rgt a) || !rgt b) || !fit n1 4294967296) || !fit n2 4294967296) || !fit n3 4294967296) || !fit n4 4294967296) ((((((0 + 1) + 1) + 4) + 4) + 4) + 4) n5 (by simp [sInts_length, be4, be2, be1] <;> omega)
  have c7 := done_con (soL a b n1 n2 n3 n4 n5) (soW a b n1 n2 n3 n4 n5) (((((((0 + 1) + 1) + 4) + 4) + 4) + 4) + 4) (by simp [soL, sInts_length, be4, be2, be1] <;> omega)
  have e1 : soL a b n1 n2 n3 n4 n5 = (((((((([] : List Int) ++ sInts a) ++ sInts b) ++ be4 n1) ++ be4 n2) ++ be4 n3) ++ be4 n4) ++ be4 n5) := rfl
  have e2 : soW a b n1 n2 n3 n4 n5 = (((((((false || !rgt a) || !rgt b) || !fit n1 4294967296) || !fit n2 4294967296) || !fit n3 4294967296) || !fit n4 4294967296) || !fit n5 4294967296) := rfl
  rw [e1, e2] at c7 ⊢
  generalize hV : dnV (((((((([] : List Int) ++ sInts a) ++ sInts b) ++ be4 n1) ++ be4 n2) ++ be4 n3) ++ be4 n4) ++ be4 n5) (((((((false || !rgt a) || !rgt b) || !fit n1 4294967296) || !fit n2 4294967296) || !fit n3 4294967296) || !fit n4 4294967296) || !fit n5 4294967296) = V at c7 ⊢
  clear hV e1 e2
  repeat' ((conv => whnf); first | refine TR.nil_cell 8 0 41 5 1 rfl rfl rfl ?_ | (with_reducible first | refine TR.seq ?_ | refine TR.regionL ?_ | refine TR.drawn (TTok _ _) mixed ?_ | refine TR.block ?_ | refine TR.ret ?_ | refine TR.exit ?_ | refine TR.skip ?_ | refine TR.condB rfl ?_ | refine TRL.nil ?_ | refine Br.cond_t ?_ | refine Br.cond_f ?_ | refine Br.yes (by first | decide | assumption | (apply decide_eq_true; omega)) ?_ | refine Br.non (by first | decide | assumption | (apply decide_eq_false; omega)) ?_ | refine Br.cond_ff ?_ | refine Br.eqT (by omega) ?_ | refine Br.eqF (by omega) ?_ | refine Br.neT (by omega) ?_ | refine Br.neF (by omega) ?_ | refine Ld.mk' _ rfl ?_ | refine Need.mk (by first | decide | omega | kernel_rfl) ?_ | refine Nm.i64 (by omega) ?_ | refine Nm.u64 (by omega) ?_ | refine Nm.u8 (by omega) ?_) | refine TRL.con [8, 41] [8, 41] c0 rfl rfl rfl rfl ⟨rfl, rfl, trivial⟩ rfl rfl (fun _ _ => ⟨trivial, ?_⟩) (fun _ h => h.elim) | refine TRL.con [8, 41] [8, 41] c1 rfl rfl rfl rfl ⟨rfl, rfl, trivial⟩ rfl rfl (fun _ _ => ⟨trivial, ?_⟩) (fun _ h => h.elim) | refine TRL.con [8, 41] [8, 41] c2 rfl rfl rfl rfl ⟨rfl, rfl, trivial⟩ rfl rfl (fun _ _ => ⟨trivial, ?_⟩) (fun _ h => h.elim) | refine TRL.con [8, 41] [8, 41] c3 rfl rfl rfl rfl ⟨rfl, rfl, trivial⟩ rfl rfl (fun _ _ => ⟨trivial, ?_⟩) (fun _ h => h.elim) | refine TRL.con [8, 41] [8, 41] c4 rfl rfl rfl rfl ⟨rfl, rfl, trivial⟩ rfl rfl (fun _ _ => ⟨trivial, ?_⟩) (fun _ h => h.elim) | refine TRL.con [8, 41] [8, 41] c5 rfl rfl rfl rfl ⟨rfl, rfl, trivial⟩ rfl rfl (fun _ _ => ⟨trivial, ?_⟩) (fun _ h => h.elim) | refine TRL.con [8, 41] [8, 41] c6 rfl rfl rfl rfl ⟨rfl, rfl, trivial⟩ rfl rfl (fun _ _ => ⟨trivial, ?_⟩) (fun _ h => h.elim) | refine TRL.con [8, 41] [8, 41] c7 rfl rfl rfl rfl ⟨rfl, rfl, trivial⟩ rfl rfl (fun _ _ => ⟨trivial, ?_⟩) (fun _ h => h.elim) | refine TRn.drop 6 rfl (Nat.zero_le _) (by simp [noRefC, unO, nr_byt', noRefL, noRef, getN] <;> rfl) ?_ | refine TRn.step ?_ | refine TR.loopN 9 ?_ | refine TRL.step (TTok _ _) ?_ | (refine x_exq (TTok _ _) ?_; (conv => whnf); fail_if_success (guard_target =ₛ False)))
  all_goals (conv => whnf)
  all_goals exact ⟨(), trivial, rfl, trivial⟩
noncomputable def sgL (m1 m2 m3 m4 m5 m6 m7 : Int) (a b : ByteArray) : List Int := (((((((((([] : List Int) ++ be2 m1) ++ be1 m2) ++ be1 m3) ++ be4 m4) ++ be4 m5) ++ be4 m6) ++ be2 m7) ++ sInts a) ++ sInts b)
noncomputable def sgW (m1 m2 m3 m4 m5 m6 m7 : Int) (a b : ByteArray) : Bool := (((((((((false || !fit m1 65536) || !fit m2 256) || !fit m3 256) || !fit m4 4294967296) || !fit m5 4294967296) || !fit m6 4294967296) || !fit m7 65536) || !rgt a) || decide ((b.size : Int) < 1))
set_option maxHeartbeats 16000000 in
theorem sg_con (m1 m2 m3 m4 m5 m6 m7 : Int) (a b : ByteArray) (ha : a.size < 4294967281) (hb : b.size < 4294967281) : Con Tryz.prog (fun _ => True) 36 (fun _ => [.v (.agg #[.int .i64 m1, .int .i64 m2, .int .i64 m3, .int .i64 m4, .int .i64 m5, .int .i64 m6, .int .i64 m7, .string a, .string b])]) (fun _ => []) (fun _ : Unit => True) (fun _ _ => .tup [.v (.string (dnV (sgL m1 m2 m3 m4 m5 m6 m7 a b) (sgW m1 m2 m3 m4 m5 m6 m7 a b)).1), .v (.int .i64 (dnV (sgL m1 m2 m3 m4 m5 m6 m7 a b) (sgW m1 m2 m3 m4 m5 m6 m7 a b)).2)]) (fun _ _ => []) (fun _ => False) := by
  refine Con.of (TTok _ _) Tryz.func36 (by kernel_rfl) rfl rfl rfl (fun σ => rfl) (fun σ => rfl) (fun _ _ _ => rfl) (fun _ σ _ => rfl) (fun _ _ => CEnd.of rfl rfl rfl) ?_
  have c0 := number2_con ([] : List Int) false 0 m1 (by simp [sInts_length, be4, be2, be1] <;> omega)
  have c1 := number1_con (([] : List Int) ++ be2 m1) (false || !fit m1 65536) (0 + 2) m2 (by simp [sInts_length, be4, be2, be1] <;> omega)
  have c2 := number1_con ((([] : List Int) ++ be2 m1) ++ be1 m2) ((false || !fit m1 65536) || !fit m2 256) ((0 + 2) + 1) m3 (by simp [sInts_length, be4, be2, be1] <;> omega)
  have c3 := number4_con (((([] : List Int) ++ be2 m1) ++ be1 m2) ++ be1 m3) (((false || !fit m1 65536) || !fit m2 256) || !fit m3 256) (((0 + 2) + 1) + 1) m4 (by simp [sInts_length, be4, be2, be1] <;> omega)
  have c4 := number4_con ((((([] : List Int) ++ be2 m1) ++ be1 m2) ++ be1 m3) ++ be4 m4) ((((false || !fit m1 65536) || !fit m2 256) || !fit m3 256) || !fit m4 4294967296) ((((0 + 2) + 1) + 1) + 4) m5 (by simp [sInts_length, be4, be2, be1] <;> omega)
  have c5 := number4_con (((((([] : List Int) ++ be2 m1) ++ be1 m2) ++ be1 m3) ++ be4 m4) ++ be4 m5) (((((false || !fit m1 65536) || !fit m2 256) || !fit m3 256) || !fit m4 4294967296) || !fit m5 4294967296) (((((0 + 2) + 1) + 1) + 4) + 4) m6 (by simp [sInts_length, be4, be2, be1] <;> omega)
  have c6 := number2_con ((((((([] : List Int) ++ be2 m1) ++ be1 m2) ++ be1 m3) ++ be4 m4) ++ be4 m5) ++ be4 m6) ((((((false || !fit m1 65536) || !fit m2 256) || !fit m3 256) || !fit m4 4294967296) || !fit m5 4294967296) || !fit m6 4294967296) ((((((0 + 2) + 1) + 1) + 4) + 4) + 4) m7 (by simp [sInts_length, be4, be2, be1] <;> omega)
  have c7 := name_con (((((((([] : List Int) ++ be2 m1) ++ be1 m2) ++ be1 m3) ++ be4 m4) ++ be4 m5) ++ be4 m6) ++ be2 m7) (((((((false || !fit m1 65536) || !fit m2 256) || !fit m3 256) || !fit m4 4294967296) || !fit m5 4294967296) || !fit m6 4294967296) || !fit m7 65536) (((((((0 + 2) + 1) + 1) + 4) + 4) + 4) + 2) a (by simp [sInts_length, be4, be2, be1] <;> omega) (by omega)
  have c8 := bytes_con ((((((((([] : List Int) ++ be2 m1) ++ be1 m2) ++ be1 m3) ++ be4 m4) ++ be4 m5) ++ be4 m6) ++ be2 m7) ++ sInts a) ((((((((false || !fit m1 65536) || !fit m2 256) || !fit m3 256) || !fit m4 4294967296) || !fit m5 4294967296) || !fit m6 4294967296) || !fit m7 65536) || !rgt a) ((((((((0 + 2) + 1) + 1) + 4) + 4) + 4) + 2) + 1) b 1 (by simp [sInts_length, be4, be2, be1] <;> omega) (by omega)
  have c9 := done_con (sgL m1 m2 m3 m4 m5 m6 m7 a b) (sgW m1 m2 m3 m4 m5 m6 m7 a b) (((((((((0 + 2) + 1) + 1) + 4) + 4) + 4) + 2) + 1) + 1) (by simp [sgL, sInts_length, be4, be2, be1] <;> omega)
  have e1 : sgL m1 m2 m3 m4 m5 m6 m7 a b = (((((((((([] : List Int) ++ be2 m1) ++ be1 m2) ++ be1 m3) ++ be4 m4) ++ be4 m5) ++ be4 m6) ++ be2 m7) ++ sInts a) ++ sInts b) := rfl
  have e2 : sgW m1 m2 m3 m4 m5 m6 m7 a b = (((((((((false || !fit m1 65536) || !fit m2 256) || !fit m3 256) || !fit m4 4294967296) || !fit m5 4294967296) || !fit m6 4294967296) || !fit m7 65536) || !rgt a) || decide ((b.size : Int) < 1)) := rfl
  rw [e1, e2] at c9 ⊢
  generalize hV : dnV (((((((((([] : List Int) ++ be2 m1) ++ be1 m2) ++ be1 m3) ++ be4 m4) ++ be4 m5) ++ be4 m6) ++ be2 m7) ++ sInts a) ++ sInts b) (((((((((false || !fit m1 65536) || !fit m2 256) || !fit m3 256) || !fit m4 4294967296) || !fit m5 4294967296) || !fit m6 4294967296) || !fit m7 65536) || !rgt a) || decide ((b.size : Int) < 1)) = V at c9 ⊢
  clear hV e1 e2
  repeat' ((conv => whnf); first | refine TR.nil_cell 8 0 55 5 1 rfl rfl rfl ?_ | (with_reducible first | refine TR.seq ?_ | refine TR.regionL ?_ | refine TR.drawn (TTok _ _) mixed ?_ | refine TR.block ?_ | refine TR.ret ?_ | refine TR.exit ?_ | refine TR.skip ?_ | refine TR.condB rfl ?_ | refine TRL.nil ?_ | refine Br.cond_t ?_ | refine Br.cond_f ?_ | refine Br.yes (by first | decide | assumption | (apply decide_eq_true; omega)) ?_ | refine Br.non (by first | decide | assumption | (apply decide_eq_false; omega)) ?_ | refine Br.cond_ff ?_ | refine Br.eqT (by omega) ?_ | refine Br.eqF (by omega) ?_ | refine Br.neT (by omega) ?_ | refine Br.neF (by omega) ?_ | refine Ld.mk' _ rfl ?_ | refine Need.mk (by first | decide | omega | kernel_rfl) ?_ | refine Nm.i64 (by omega) ?_ | refine Nm.u64 (by omega) ?_ | refine Nm.u8 (by omega) ?_) | refine TRL.con [8, 55] [8, 55] c0 rfl rfl rfl rfl ⟨rfl, rfl, trivial⟩ rfl rfl (fun _ _ => ⟨trivial, ?_⟩) (fun _ h => h.elim) | refine TRL.con [8, 55] [8, 55] c1 rfl rfl rfl rfl ⟨rfl, rfl, trivial⟩ rfl rfl (fun _ _ => ⟨trivial, ?_⟩) (fun _ h => h.elim) | refine TRL.con [8, 55] [8, 55] c2 rfl rfl rfl rfl ⟨rfl, rfl, trivial⟩ rfl rfl (fun _ _ => ⟨trivial, ?_⟩) (fun _ h => h.elim) | refine TRL.con [8, 55] [8, 55] c3 rfl rfl rfl rfl ⟨rfl, rfl, trivial⟩ rfl rfl (fun _ _ => ⟨trivial, ?_⟩) (fun _ h => h.elim) | refine TRL.con [8, 55] [8, 55] c4 rfl rfl rfl rfl ⟨rfl, rfl, trivial⟩ rfl rfl (fun _ _ => ⟨trivial, ?_⟩) (fun _ h => h.elim) | refine TRL.con [8, 55] [8, 55] c5 rfl rfl rfl rfl ⟨rfl, rfl, trivial⟩ rfl rfl (fun _ _ => ⟨trivial, ?_⟩) (fun _ h => h.elim) | refine TRL.con [8, 55] [8, 55] c6 rfl rfl rfl rfl ⟨rfl, rfl, trivial⟩ rfl rfl (fun _ _ => ⟨trivial, ?_⟩) (fun _ h => h.elim) | refine TRL.con [8, 55] [8, 55] c7 rfl rfl rfl rfl ⟨rfl, rfl, trivial⟩ rfl rfl (fun _ _ => ⟨trivial, ?_⟩) (fun _ h => h.elim) | refine TRL.con [8, 55] [8, 55] c8 rfl rfl rfl rfl ⟨rfl, rfl, trivial⟩ rfl rfl (fun _ _ => ⟨trivial, ?_⟩) (fun _ h => h.elim) | refine TRL.con [8, 55] [8, 55] c9 rfl rfl rfl rfl ⟨rfl, rfl, trivial⟩ rfl rfl (fun _ _ => ⟨trivial, ?_⟩) (fun _ h => h.elim) | refine TRn.drop 6 rfl (Nat.zero_le _) (by simp [noRefC, unO, nr_byt', noRefL, noRef, getN] <;> rfl) ?_ | refine TRn.step ?_ | refine TR.loopN 9 ?_ | refine TRL.step (TTok _ _) ?_ | (refine x_exq (TTok _ _) ?_; (conv => whnf); fail_if_success (guard_target =ₛ False)))
  all_goals (conv => whnf)
  all_goals exact ⟨(), trivial, rfl, trivial⟩
end Go.Proofs.YtbladfkakmdigaaGreatDoor
set_option maxRecDepth 100000
set_option linter.unusedVariables false
set_option linter.unusedSimpArgs false
namespace Go.Proofs.YtbladfkakmdigaaGreatDoor
open Go.SX
def okV (s : ByteArray) (ok : Bool) : Value := if ok = true then .tuple #[.string s, .bool true] else .tuple #[.string ⟨#[]⟩, .bool false]
noncomputable def rsoS (a b : ByteArray) (n1 n2 n3 n4 n5 : Int) : ByteArray := a ++ b ++ strOfNums (be4 n1) ++ strOfNums (be4 n2) ++ strOfNums (be4 n3) ++ strOfNums (be4 n4) ++ strOfNums (be4 n5)
noncomputable def rsoB (a b : ByteArray) (n1 n2 n3 n4 n5 : Int) : Bool := rgt a && rgt b && fit n1 4294967296 && fit n2 4294967296 && fit n3 4294967296 && fit n4 4294967296 && fit n5 4294967296
noncomputable def rsgS (m1 m2 m3 m4 m5 m6 m7 : Int) (a b : ByteArray) : ByteArray := strOfNums (be2 m1) ++ strOfNums (be1 m2) ++ strOfNums (be1 m3) ++ strOfNums (be4 m4) ++ strOfNums (be4 m5) ++ strOfNums (be4 m6) ++ strOfNums (be2 m7) ++ a ++ b
noncomputable def rsgB (m1 m2 m3 m4 m5 m6 m7 : Int) (a b : ByteArray) : Bool := rgt a && fit m1 65536 && fit m2 256 && fit m3 256 && fit m4 4294967296 && fit m5 4294967296 && fit m6 4294967296 && fit m7 65536 && decide (0 < b.size)
end Go.Proofs.YtbladfkakmdigaaGreatDoor
set_option maxRecDepth 100000
set_option linter.unusedVariables false
set_option linter.unusedSimpArgs false
namespace Go.Proofs.YtbladfkakmdigaaGreatDoor
open Go.SX
theorem rgt_size {s : ByteArray} (h : rgt s = true) : 0 < s.size ∧ s.size ≤ 255 := by
  unfold rgt rtB at h
  simp only [decide_eq_true_eq] at h
  exact ⟨h.1, h.2.1⟩
def Alike2 (f g : FuncId) (v : Value) (b : Bool) : Prop := ∃ x, (∀ w, Ret Tryz.prog f [v] w (.tuple #[.string x, .int .i64 (cond b 0 6)])) ∧ (∀ w, Ret Tryz.prog g [v] w (.tuple #[.string x, .bool b]))
end Go.Proofs.YtbladfkakmdigaaGreatDoor
set_option maxRecDepth 100000
set_option linter.unusedVariables false
set_option linter.unusedSimpArgs false
namespace Go.Proofs.YtbladfkakmdigaaGreatDoor
open Go.SX
theorem num_split {n : Nat} {s r : ByteArray} {v : Int} (h : numO n s = some (v, r)) : ∃ p : List Int, p.length = n ∧ sInts s = p ++ sInts r ∧ v = numL p ∧ ∀ x, x ∈ p → 0 ≤ x ∧ x ≤ 255 := by
  unfold numO at h
  cases ht : tkO n s with
  | none => rw [ht] at h; cases h
  | some q =>
    obtain ⟨b, r'⟩ := q
    rw [ht] at h
    simp only [Option.map_some, Option.some.injEq, Prod.mk.injEq] at h
    obtain ⟨h1, h2⟩ := tk_split ht
    exact ⟨sInts b, by rw [sInts_length, h2], by rw [h1, h.2], h.1.symm, sInts_range b⟩
theorem by8_eq (v d : Int) : by8 v d = v / d % 256 := by unfold by8; rw [IntKind.wrap_u8]
theorem num1_be {s r : ByteArray} {v : Int} (h : numO 1 s = some (v, r)) : sInts s = be1 v ++ sInts r ∧ fit v 256 = true := by
  obtain ⟨p, h1, h2, h3, h4⟩ := num_split h
  obtain ⟨a, rfl⟩ := List.length_eq_one_iff.1 h1
  have ha := h4 a (by simp)
  have e : v = a := by rw [h3]; simp [numL]
  subst e
  refine ⟨?_, decide_eq_true ⟨by omega, by omega⟩⟩
  rw [h2]
  have : by8 v 1 = v := by rw [by8_eq]; omega
  simp only [be1, this]
theorem num2_be {s r : ByteArray} {v : Int} (h : numO 2 s = some (v, r)) : sInts s = be2 v ++ sInts r ∧ fit v 65536 = true := by
  obtain ⟨p, h1, h2, h3, h4⟩ := num_split h
  match p, h1, h2, h3, h4 with
  | [a, b], _, h2, h3, h4 =>
    have ha := h4 a (by simp)
    have hb := h4 b (by simp)
    have e : v = a * 256 + b := by rw [h3]; simp [numL]
    refine ⟨?_, decide_eq_true ⟨by omega, by omega⟩⟩
    rw [h2]
    have e1 : by8 v 256 = a := by rw [by8_eq]; omega
    have e2 : by8 v 1 = b := by rw [by8_eq]; omega
    simp only [be2, e1, e2]
theorem num4_be {s r : ByteArray} {v : Int} (h : numO 4 s = some (v, r)) : sInts s = be4 v ++ sInts r ∧ fit v 4294967296 = true := by
  obtain ⟨p, h1, h2, h3, h4⟩ := num_split h
  match p, h1, h2, h3, h4 with
  | [a, b, c, d], _, h2, h3, h4 =>
    have ha := h4 a (by simp)
    have hb := h4 b (by simp)
    have hc := h4 c (by simp)
    have hd := h4 d (by simp)
    have e : v = ((a * 256 + b) * 256 + c) * 256 + d := by rw [h3]; simp [numL]
    refine ⟨?_, decide_eq_true ⟨by omega, by omega⟩⟩
    rw [h2]
    have e1 : by8 v 16777216 = a := by rw [by8_eq]; omega
    have e2 : by8 v 65536 = b := by rw [by8_eq]; omega
    have e3 : by8 v 256 = c := by rw [by8_eq]; omega
    have e4 : by8 v 1 = d := by rw [by8_eq]; omega
    simp only [be4, e1, e2, e3, e4]
theorem name_be {s b r : ByteArray} (h : nameO s = some (b, r)) : sInts s = sInts b ++ sInts r ∧ rgt b = true := by
  obtain ⟨h1, h2, h3, h4, h5⟩ := nameO_some h
  have h0 := nmP_nn s
  constructor
  · have ht : tkO (nmP s + 1).toNat s = some (b, r) := by
      unfold tkO
      rw [if_pos (by omega), h4, h5]
    exact (tk_split ht).1
  · rw [h4, rgt_ext (by omega) (by omega)]
    exact decide_eq_true ⟨by omega, by omega, h2⟩
theorem rest_be {s b r : ByteArray} (h : restO s = some (b, r)) : b = s ∧ r.size = 0 ∧ 0 < s.size := by
  unfold restO at h
  split at h
  · cases h
  · simp only [Option.some.injEq, Prod.mk.injEq] at h
    exact ⟨h.1.symm, by rw [← h.2]; rfl, by omega⟩
theorem dnV_again {l : List Int} {wr : Bool} {d : ByteArray} (h : l = sInts d) (hw : wr = false) (hd : d.size ≤ 2000) : dnV l wr = (d, 0) := by
  unfold dnV
  rw [if_neg, h, strOf_sInts]
  rw [hw, h, sInts_length]
  simp
  omega
theorem soa_again {d : ByteArray} {x0 x1 : ByteArray} {x2 x3 x4 x5 x6 : Int} (h : soaW d = some (x0, x1, x2, x3, x4, x5, x6)) : dnV (soL x0 x1 x2 x3 x4 x5 x6) (soW x0 x1 x2 x3 x4 x5 x6) = (d, 0) ∧ x0.size ≤ 255 ∧ x1.size ≤ 255 := by
  unfold soaW at h
  split at h
  · rename_i hd
    simp only [soaO, Option.bind_eq_some_iff, Prod.exists] at h
    obtain ⟨w0, w1, w2, w3, w4, w5, w6, r, ⟨a0, s1, h0, a1, s2, h1, a2, s3, h2, a3, s4, h3, a4, s5, h4, a5, s6, h5, a6, s7, h6, e⟩, g⟩ := h
    split at g
    · rename_i hr
      simp only [Option.some.injEq, Prod.mk.injEq] at e g
      obtain ⟨rfl, rfl, rfl, rfl, rfl, rfl, rfl⟩ := g
      obtain ⟨⟨rfl, rfl, rfl, rfl, rfl, rfl, rfl⟩, rfl⟩ := e
      obtain ⟨e0, f0⟩ := name_be h0
      obtain ⟨e1, f1⟩ := name_be h1
      obtain ⟨e2, f2⟩ := num4_be h2
      obtain ⟨e3, f3⟩ := num4_be h3
      obtain ⟨e4, f4⟩ := num4_be h4
      obtain ⟨e5, f5⟩ := num4_be h5
      obtain ⟨e6, f6⟩ := num4_be h6
      refine ⟨dnV_again ?_ ?_ hd, (rgt_size f0).2, (rgt_size f1).2⟩
      · rw [e0, e1, e2, e3, e4, e5, e6, sInts_nil hr]
        simp [soL]
      · simp [soW, f0, f1, f2, f3, f4, f5, f6]
    · cases g
  · cases h
theorem sig_again {d : ByteArray} {x7 x8 : ByteArray} {x0 x1 x2 x3 x4 x5 x6 : Int} (h : sigW d = some (x0, x1, x2, x3, x4, x5, x6, x7, x8)) : dnV (sgL x0 x1 x2 x3 x4 x5 x6 x7 x8) (sgW x0 x1 x2 x3 x4 x5 x6 x7 x8) = (d, 0) ∧ x7.size ≤ 255 ∧ x8.size ≤ 2000 := by
  unfold sigW at h
  split at h
  · rename_i hd
    simp only [sigO, Option.bind_eq_some_iff, Prod.exists] at h
    obtain ⟨w0, w1, w2, w3, w4, w5, w6, w7, w8, r, ⟨a0, s1, h0, a1, s2, h1, a2, s3, h2, a3, s4, h3, a4, s5, h4, a5, s6, h5, a6, s7, h6, a7, s8, h7, a8, s9, h8, e⟩, g⟩ := h
    split at g
    · rename_i hr
      simp only [Option.some.injEq, Prod.mk.injEq] at e g
      obtain ⟨rfl, rfl, rfl, rfl, rfl, rfl, rfl, rfl, rfl⟩ := g
      obtain ⟨⟨rfl, rfl, rfl, rfl, rfl, rfl, rfl, rfl, rfl⟩, rfl⟩ := e
      obtain ⟨e0, f0⟩ := num2_be h0
      obtain ⟨e1, f1⟩ := num1_be h1
      obtain ⟨e2, f2⟩ := num1_be h2
      obtain ⟨e3, f3⟩ := num4_be h3
      obtain ⟨e4, f4⟩ := num4_be h4
      obtain ⟨e5, f5⟩ := num4_be h5
      obtain ⟨e6, f6⟩ := num2_be h6
      obtain ⟨e7, f7⟩ := name_be h7
      obtain ⟨e8, _, f8⟩ := rest_be h8
      subst e8
      have z0 := numO_size h0
      have z1 := numO_size h1
      have z2 := numO_size h2
      have z3 := numO_size h3
      have z4 := numO_size h4
      have z5 := numO_size h5
      have z6 := numO_size h6
      have z7 := (nameO_size h7).2
      refine ⟨dnV_again ?_ ?_ hd, (rgt_size f7).2, by omega⟩
      · rw [e0, e1, e2, e3, e4, e5, e6, e7]
        simp [sgL]
      · have : ¬ ((a8.size : Int) < 1) := by omega
        simp [sgW, f0, f1, f2, f3, f4, f5, f6, f7, this]
    · cases g
  · cases h
theorem kd_again {d s1 s2 s3 x3 r : ByteArray} {x0 x1 x2 : Int} (hd : d.size ≤ 2000) (h0 : numO 2 d = some (x0, s1)) (h1 : numO 1 s1 = some (x1, s2)) (h2 : numO 1 s2 = some (x2, s3)) (h3 : restO s3 = some (x3, r)) : dsV (kdS x0 x1 x2 x3) (kdB x0 x1 x2 x3) = .tuple #[.string d, .int .i64 0] ∧ x3.size ≤ 2000 := by
  obtain ⟨e0, f0⟩ := num2_be h0
  obtain ⟨e1, f1⟩ := num1_be h1
  obtain ⟨e2, f2⟩ := num1_be h2
  obtain ⟨e3, _, f3⟩ := rest_be h3
  subst e3
  have hS : kdS x0 x1 x2 x3 = d := by
    rw [kdS_eq, ← strOf_sInts d, e0, e1, e2]
    rfl
  have hB : kdB x0 x1 x2 x3 = true := by simp [kdB, f0, f1, f2, f3]
  have z0 := numO_size h0
  have z1 := numO_size h1
  have z2 := numO_size h2
  refine ⟨?_, by omega⟩
  unfold dsV
  rw [hS, hB, if_pos ⟨rfl, hd⟩]
theorem key_again {d x3 : ByteArray} {x0 x1 x2 : Int} (h : keyW d = some (x0, x1, x2, x3)) : dsV (kdS x0 x1 x2 x3) (kdB x0 x1 x2 x3) = .tuple #[.string d, .int .i64 0] ∧ x3.size ≤ 2000 := by
  unfold keyW at h
  split at h
  · rename_i hd
    simp only [keyO, Option.bind_eq_some_iff, Prod.exists] at h
    obtain ⟨w0, w1, w2, w3, r, ⟨a0, s1, h0, a1, s2, h1, a2, s3, h2, a3, s4, h3, e⟩, g⟩ := h
    split at g
    · simp only [Option.some.injEq, Prod.mk.injEq] at e g
      obtain ⟨rfl, rfl, rfl, rfl⟩ := g
      obtain ⟨⟨rfl, rfl, rfl, rfl⟩, rfl⟩ := e
      exact kd_again hd h0 h1 h2 h3
    · cases g
  · cases h
theorem dsr_again {d x3 : ByteArray} {x0 x1 x2 : Int} (h : dsrW d = some (x0, x1, x2, x3)) : dsV (kdS x0 x1 x2 x3) (kdB x0 x1 x2 x3) = .tuple #[.string d, .int .i64 0] ∧ x3.size ≤ 2000 := by
  unfold dsrW at h
  split at h
  · rename_i hd
    simp only [dsrO, Option.bind_eq_some_iff, Prod.exists] at h
    obtain ⟨w0, w1, w2, w3, r, ⟨a0, s1, h0, a1, s2, h1, a2, s3, h2, a3, s4, h3, e⟩, g⟩ := h
    split at g
    · simp only [Option.some.injEq, Prod.mk.injEq] at e g
      obtain ⟨rfl, rfl, rfl, rfl⟩ := g
      obtain ⟨⟨rfl, rfl, rfl, rfl⟩, rfl⟩ := e
      exact kd_again hd h0 h1 h2 h3
    · cases g
  · cases h
def tyV (o : List Int) (wr : Bool) (l : List Int) : ByteArray × Int := dnV (if tbD l wr l.length = true then o else wins o l 256) (tbD l wr l.length)
theorem tyV_again {o l : List Int} {wr : Bool} {d : ByteArray} (h : wins o l 256 = sInts d) (hw : wr = false) (hi : Inc l) (hr : ∀ z, z ∈ l → 0 ≤ z ∧ z < 65536) (hd : d.size ≤ 2000) : tyV o wr l = (d, 0) := by
  subst hw
  unfold tyV
  have := tbD_false hi hr l.length (Nat.le_refl _)
  rw [this, if_neg (by simp)]
  exact dnV_again h rfl hd
theorem ns_again {d x : ByteArray} {l : List Int} (h : nsW d = some (x, l)) : tyV ([] ++ sInts x) (false || !rgt x) l = (d, 0) ∧ x.size ≤ 255 := by
  unfold nsW at h
  split at h
  · rename_i hd
    simp only [nsO, Option.bind_eq_some_iff, Prod.exists] at h
    obtain ⟨a0, s1, h0, l', h1, e⟩ := h
    simp only [Option.some.injEq, Prod.mk.injEq] at e
    obtain ⟨rfl, rfl⟩ := e
    obtain ⟨e0, f0⟩ := name_be h0
    obtain ⟨g1, g2, g3⟩ := wins_typesO (o := [] ++ sInts a0) h1
    refine ⟨tyV_again ?_ (by simp [f0]) g2 g3 hd, (rgt_size f0).2⟩
    rw [g1, e0, List.nil_append]
  · cases h
theorem n3_again {d x3 x4 : ByteArray} {x0 x1 x2 : Int} {l : List Int} (h : n3W d = some (x0, x1, x2, x3, x4, l)) : tyV ((((([] ++ be1 x0) ++ be1 x1) ++ be2 x2) ++ be1 x3.size ++ sInts x3) ++ be1 x4.size ++ sInts x4) ((((((((false || !fit x0 256) || !fit x1 256) || !fit x2 65536) || !fit x3.size 256) || decide ((x3.size : Int) < 0)) || !fit x4.size 256)) || decide ((x4.size : Int) < 1)) l = (d, 0) ∧ x3.size ≤ 255 ∧ x4.size ≤ 255 := by
  unfold n3W at h
  split at h
  · rename_i hd
    simp only [n3O, Option.bind_eq_some_iff, Prod.exists] at h
    obtain ⟨a0, s1, h0, a1, s2, h1, a2, s3, h2, n3, s4, h3, a3, s5, h4, n4, s6, h5, a4, s7, h6, _, hne, l', h7, e⟩ := h
    simp only [Option.some.injEq, Prod.mk.injEq] at e
    obtain ⟨rfl, rfl, rfl, rfl, rfl, rfl⟩ := e
    obtain ⟨e0, f0⟩ := num1_be h0
    obtain ⟨e1, f1⟩ := num1_be h1
    obtain ⟨e2, f2⟩ := num2_be h2
    obtain ⟨e3, f3⟩ := num1_be h3
    obtain ⟨e4, z4⟩ := tk_split h4
    obtain ⟨e5, f5⟩ := num1_be h5
    obtain ⟨e6, z6⟩ := tk_split h6
    have r3 := num1_range h3
    have r5 := num1_range h5
    have q3 : n3 = (a3.size : Int) := by omega
    have q5 : n4 = (a4.size : Int) := by omega
    rw [q3] at e3 f3
    rw [q5] at e5 f5
    obtain ⟨g1, g2, g3⟩ := wins_typesO (o := (((([] ++ be1 a0) ++ be1 a1) ++ be2 a2) ++ be1 a3.size ++ sInts a3) ++ be1 a4.size ++ sInts a4) h7
    have hz : a4.size ≠ 0 := by
      intro hz
      have : a4 = ⟨#[]⟩ := sInts_inj (by rw [sInts_nil hz]; rfl)
      rw [this] at hne
      simp at hne
    refine ⟨tyV_again ?_ ?_ g2 g3 hd, by omega, by omega⟩
    · rw [g1, e0, e1, e2, e3, e4, e5, e6]
      simp
    · have h8 : ¬ ((a3.size : Int) < 0) := by omega
      have h9 : ¬ ((a4.size : Int) < 1) := by omega
      simp [f0, f1, f2, f3, f5, h8, h9]
  · cases h
end Go.Proofs.YtbladfkakmdigaaGreatDoor
set_option maxRecDepth 100000
set_option linter.unusedVariables false
set_option linter.unusedSimpArgs false
namespace Go.Proofs.YtbladfkakmdigaaGreatDoor
open Go.SX
def rwH (l : List Int) (vl : Nat) (s : Nat → Nat) : List (Option Chunk) := [some ⟨.row, 3, 1, vl, its l⟩]
theorem rwH_cl (l : List Int) (vl : Nat) : refsInC (rwH l vl id) (rwH l vl id) = true := by simp [rwH, refsInC, refsInL_its]
theorem rwH_nat (l : List Int) (vl : Nat) (σ : List Nat) : mapR σ (rwH l vl id) = rwH l vl (getN σ) := by simp [rwH, mapR, renK, renL_its]
theorem styO_len (o : List Int) (wr : Bool) (l : List Int) : (styO o wr l).length ≤ o.length + 8704 := by
  unfold styO
  split
  · omega
  · have := wins_len o l 256; omega
set_option maxHeartbeats 16000000 in
theorem ofns_con (x : ByteArray) (l : List Int) (vl : Nat) (hx : x.size < 4294967281) (hl : l.length < 1099511627776) : Con Tryz.prog (fun _ => True) 42 (fun s => [.agg [.v (.string x), .sl (s 0) vl 0 l.length]]) (rwH l vl) (fun _ : Unit => True) (fun _ _ => .tup [.v (.string (tyV (([] : List Int) ++ sInts x) (false || !rgt x) l).1), .v (.int .i64 (tyV (([] : List Int) ++ sInts x) (false || !rgt x) l).2)]) (fun _ => rwH l vl) (fun _ => False) := by
  refine Con.of (TTok _ _) Tryz.func42 (by kernel_rfl) rfl (rwH_cl _ _) rfl (fun σ => rfl) (rwH_nat _ _) (fun _ _ _ => rfl) (fun _ σ _ => rwH_nat _ _ σ) (fun _ _ => CEnd.of rfl rfl (rwH_cl _ _)) ?_
  have c0 := name_con ([] : List Int) false 0 x (by simp [sInts_length, be4, be2, be1] <;> omega) (by omega)
  obtain ⟨O, hO⟩ : ∃ O, O = (([] : List Int) ++ sInts x) := ⟨_, rfl⟩
  obtain ⟨B, hB⟩ : ∃ B, B = ((false || !rgt x)) := ⟨_, rfl⟩
  have hOl : O.length < 4398046500000 := by rw [hO]; simp [sInts_length, be4, be2, be1] <;> omega
  have ct := stypes_con O B (0 + 1) l vl (by rw [hO]; simp [sInts_length, be4, be2, be1] <;> omega) hl
  have hsl := styO_len O B l
  have cd := fun v' : Nat => done_con (styO O B l) (tbD l B (l).length) v' (by omega)
  have hV : tyV (([] : List Int) ++ sInts x) (false || !rgt x) l = dnV (styO O B l) (tbD l B (l).length) := by rw [hO, hB]; rfl
  rw [hV]
  generalize hX : dnV (styO O B l) (tbD l B (l).length) = X at cd ⊢
  clear hX hV
  rw [hO, hB] at ct
  subst hO hB
  unfold rwH
  repeat' ((conv => whnf); first | refine TR.nil_cell 6 0 31 5 1 rfl rfl rfl ?_ | (with_reducible first | refine TR.seq ?_ | refine TR.regionL ?_ | refine TR.drawn (TTok _ _) mixed ?_ | refine TR.block ?_ | refine TR.ret ?_ | refine TR.exit ?_ | refine TR.skip ?_ | refine TR.condB rfl ?_ | refine TRL.nil ?_ | refine Br.cond_t ?_ | refine Br.cond_f ?_ | refine Br.yes (by first | decide | assumption | (apply decide_eq_true; omega)) ?_ | refine Br.non (by first | decide | assumption | (apply decide_eq_false; omega)) ?_ | refine Br.cond_ff ?_ | refine Br.eqT (by omega) ?_ | refine Br.eqF (by omega) ?_ | refine Br.neT (by omega) ?_ | refine Br.neF (by omega) ?_ | refine Ld.mk' _ rfl ?_ | refine Need.mk (by first | decide | omega | kernel_rfl) ?_ | refine Nm.i64 (by omega) ?_ | refine Nm.u64 (by omega) ?_ | refine Nm.u8 (by omega) ?_) | refine TRL.con [6, 31] [6, 31] c0 rfl rfl rfl rfl ⟨rfl, rfl, trivial⟩ rfl rfl (fun _ _ => ⟨trivial, ?_⟩) (fun _ h => h.elim) | (refine TRL.con [6, 31, 0] [6, 31, 0] ct rfl rfl rfl rfl ⟨rfl, rfl, rfl, trivial⟩ rfl rfl (fun v' _ => ⟨trivial, ?_⟩) (fun _ h => h.elim)) | (refine TRL.con [6, 31] [6, 31] (cd _) rfl rfl rfl rfl ⟨rfl, rfl, trivial⟩ rfl rfl (fun _ _ => ⟨trivial, ?_⟩) (fun _ h => h.elim)) | refine TRL.step (TTok _ _) ?_ | (refine x_exq (TTok _ _) ?_; (conv => whnf); fail_if_success (guard_target =ₛ False)))
  all_goals (conv => whnf)
  all_goals first | exact ⟨(), trivial, rfl, rfl, trivial⟩ | trace_state
set_option maxHeartbeats 16000000 in
theorem ofns_nil : Con Tryz.prog (fun _ => True) 42 (fun _ => [.v (.agg #[.string ⟨#[]⟩, .slice none 0 0])]) (fun _ => []) (fun _ : Unit => True) (fun _ _ => .tup [.v (.string (tyV (([] : List Int) ++ sInts ⟨#[]⟩) (false || !rgt ⟨#[]⟩) ([] : List Int)).1), .v (.int .i64 (tyV (([] : List Int) ++ sInts ⟨#[]⟩) (false || !rgt ⟨#[]⟩) ([] : List Int)).2)]) (fun _ _ => []) (fun _ => False) := by
  refine Con.of (TTok _ _) Tryz.func42 (by kernel_rfl) rfl rfl rfl (fun σ => rfl) (fun σ => rfl) (fun _ _ _ => rfl) (fun _ σ _ => rfl) (fun _ _ => CEnd.of rfl rfl rfl) ?_
  have hE : (⟨#[]⟩ : ByteArray).size = 0 := rfl
  have c0 := name_con ([] : List Int) false 0 ⟨#[]⟩ (by simp [sInts_length, be4, be2, be1] <;> omega) (by omega)
  obtain ⟨O, hO⟩ : ∃ O, O = (([] : List Int) ++ sInts ⟨#[]⟩) := ⟨_, rfl⟩
  obtain ⟨B, hB⟩ : ∃ B, B = ((false || !rgt ⟨#[]⟩)) := ⟨_, rfl⟩
  have hOl : O.length < 4398046500000 := by rw [hO]; simp [sInts_length, be4, be2, be1] <;> omega
  have ct := stypes_con O B (0 + 1) ([] : List Int) 0 (by rw [hO]; simp [sInts_length, be4, be2, be1] <;> omega) (by simp)
  have hsl := styO_len O B ([] : List Int)
  have cd := fun v' : Nat => done_con (styO O B ([] : List Int)) (tbD ([] : List Int) B (([] : List Int)).length) v' (by omega)
  have hV : tyV (([] : List Int) ++ sInts ⟨#[]⟩) (false || !rgt ⟨#[]⟩) ([] : List Int) = dnV (styO O B ([] : List Int)) (tbD ([] : List Int) B (([] : List Int)).length) := by rw [hO, hB]; rfl
  rw [hV]
  generalize hX : dnV (styO O B ([] : List Int)) (tbD ([] : List Int) B (([] : List Int)).length) = X at cd ⊢
  clear hX hV
  rw [hO, hB] at ct
  subst hO hB
  repeat' ((conv => whnf); first | refine TR.nil_cell 6 0 31 5 1 rfl rfl rfl ?_ | refine TR.nil_cell 1 1 32 3 1 rfl rfl rfl ?_ | (with_reducible first | refine TR.seq ?_ | refine TR.regionL ?_ | refine TR.drawn (TTok _ _) mixed ?_ | refine TR.block ?_ | refine TR.ret ?_ | refine TR.exit ?_ | refine TR.skip ?_ | refine TR.condB rfl ?_ | refine TRL.nil ?_ | refine Br.cond_t ?_ | refine Br.cond_f ?_ | refine Br.yes (by first | decide | assumption | (apply decide_eq_true; omega)) ?_ | refine Br.non (by first | decide | assumption | (apply decide_eq_false; omega)) ?_ | refine Br.cond_ff ?_ | refine Br.eqT (by omega) ?_ | refine Br.eqF (by omega) ?_ | refine Br.neT (by omega) ?_ | refine Br.neF (by omega) ?_ | refine Ld.mk' _ rfl ?_ | refine Need.mk (by first | decide | omega | kernel_rfl) ?_ | refine Nm.i64 (by omega) ?_ | refine Nm.u64 (by omega) ?_ | refine Nm.u8 (by omega) ?_) | refine TRL.con [6, 31] [6, 31] c0 rfl rfl rfl rfl ⟨rfl, rfl, trivial⟩ rfl rfl (fun _ _ => ⟨trivial, ?_⟩) (fun _ h => h.elim) | (refine TRL.con [6, 31, 32] [6, 31, 32] ct rfl rfl rfl rfl ⟨rfl, rfl, rfl, trivial⟩ rfl rfl (fun v' _ => ⟨trivial, ?_⟩) (fun _ h => h.elim)) | (refine TRL.con [6, 31] [6, 31] (cd _) rfl rfl rfl rfl ⟨rfl, rfl, trivial⟩ rfl rfl (fun _ _ => ⟨trivial, ?_⟩) (fun _ h => h.elim)) | refine TRL.step (TTok _ _) ?_ | (refine x_exq (TTok _ _) ?_; (conv => whnf); fail_if_success (guard_target =ₛ False)))
  all_goals (conv => whnf)
  all_goals first | exact ⟨(), trivial, rfl, trivial⟩ | trace_state
set_option maxHeartbeats 16000000 in
theorem ofn3_con (x0 x1 x2 : Int) (x3 x4 : ByteArray) (l : List Int) (vl : Nat) (h3 : x3.size < 4294967281) (h4 : x4.size < 4294967281) (hl : l.length < 1099511627776) : Con Tryz.prog (fun _ => True) 44 (fun s => [.agg [.v (.int .i64 x0), .v (.int .i64 x1), .v (.int .i64 x2), .v (.string x3), .v (.string x4), .sl (s 0) vl 0 l.length]]) (rwH l vl) (fun _ : Unit => True) (fun _ _ => .tup [.v (.string (tyV (((((([] : List Int) ++ be1 x0) ++ be1 x1) ++ be2 x2) ++ be1 x3.size ++ sInts x3) ++ be1 x4.size ++ sInts x4) (((((((false || !fit x0 256) || !fit x1 256) || !fit x2 65536) || !fit x3.size 256) || decide ((x3.size : Int) < 0)) || !fit x4.size 256) || decide ((x4.size : Int) < 1)) l).1), .v (.int .i64 (tyV (((((([] : List Int) ++ be1 x0) ++ be1 x1) ++ be2 x2) ++ be1 x3.size ++ sInts x3) ++ be1 x4.size ++ sInts x4) (((((((false || !fit x0 256) || !fit x1 256) || !fit x2 65536) || !fit x3.size 256) || decide ((x3.size : Int) < 0)) || !fit x4.size 256) || decide ((x4.size : Int) < 1)) l).2)]) (fun _ => rwH l vl) (fun _ => False) := by
  refine Con.of (TTok _ _) Tryz.func44 (by kernel_rfl) rfl (rwH_cl _ _) rfl (fun σ => rfl) (rwH_nat _ _) (fun _ _ _ => rfl) (fun _ σ _ => rwH_nat _ _ σ) (fun _ _ => CEnd.of rfl rfl (rwH_cl _ _)) ?_
  have c0 := number1_con ([] : List Int) false 0 x0 (by simp [sInts_length, be4, be2, be1] <;> omega)
  have c1 := number1_con (([] : List Int) ++ be1 x0) (false || !fit x0 256) (0 + 1) x1 (by simp [sInts_length, be4, be2, be1] <;> omega)
  have c2 := number2_con ((([] : List Int) ++ be1 x0) ++ be1 x1) ((false || !fit x0 256) || !fit x1 256) ((0 + 1) + 1) x2 (by simp [sInts_length, be4, be2, be1] <;> omega)
  have c3 := short_con (((([] : List Int) ++ be1 x0) ++ be1 x1) ++ be2 x2) (((false || !fit x0 256) || !fit x1 256) || !fit x2 65536) (((0 + 1) + 1) + 2) x3 0 (by simp [sInts_length, be4, be2, be1] <;> omega) (by omega)
  have c4 := short_con ((((([] : List Int) ++ be1 x0) ++ be1 x1) ++ be2 x2) ++ be1 x3.size ++ sInts x3) (((((false || !fit x0 256) || !fit x1 256) || !fit x2 65536) || !fit x3.size 256) || decide ((x3.size : Int) < 0)) ((((0 + 1) + 1) + 2) + 1 + 1) x4 1 (by simp [sInts_length, be4, be2, be1] <;> omega) (by omega)
  obtain ⟨O, hO⟩ : ∃ O, O = (((((([] : List Int) ++ be1 x0) ++ be1 x1) ++ be2 x2) ++ be1 x3.size ++ sInts x3) ++ be1 x4.size ++ sInts x4) := ⟨_, rfl⟩
  obtain ⟨B, hB⟩ : ∃ B, B = ((((((((false || !fit x0 256) || !fit x1 256) || !fit x2 65536) || !fit x3.size 256) || decide ((x3.size : Int) < 0)) || !fit x4.size 256) || decide ((x4.size : Int) < 1))) := ⟨_, rfl⟩
  have hOl : O.length < 4398046500000 := by rw [hO]; simp [sInts_length, be4, be2, be1] <;> omega
  have ct := stypes_con O B (((((0 + 1) + 1) + 2) + 1 + 1) + 1 + 1) l vl (by rw [hO]; simp [sInts_length, be4, be2, be1] <;> omega) hl
  have hsl := styO_len O B l
  have cd := fun v' : Nat => done_con (styO O B l) (tbD l B (l).length) v' (by omega)
  have hV : tyV (((((([] : List Int) ++ be1 x0) ++ be1 x1) ++ be2 x2) ++ be1 x3.size ++ sInts x3) ++ be1 x4.size ++ sInts x4) (((((((false || !fit x0 256) || !fit x1 256) || !fit x2 65536) || !fit x3.size 256) || decide ((x3.size : Int) < 0)) || !fit x4.size 256) || decide ((x4.size : Int) < 1)) l = dnV (styO O B l) (tbD l B (l).length) := by rw [hO, hB]; rfl
  rw [hV]
  generalize hX : dnV (styO O B l) (tbD l B (l).length) = X at cd ⊢
  clear hX hV
  rw [hO, hB] at ct
  subst hO hB
  unfold rwH
  repeat' ((conv => whnf); first | refine TR.nil_cell 6 0 51 5 1 rfl rfl rfl ?_ | (with_reducible first | refine TR.seq ?_ | refine TR.regionL ?_ | refine TR.drawn (TTok _ _) mixed ?_ | refine TR.block ?_ | refine TR.ret ?_ | refine TR.exit ?_ | refine TR.skip ?_ | refine TR.condB rfl ?_ | refine TRL.nil ?_ | refine Br.cond_t ?_ | refine Br.cond_f ?_ | refine Br.yes (by first | decide | assumption | (apply decide_eq_true; omega)) ?_ | refine Br.non (by first | decide | assumption | (apply decide_eq_false; omega)) ?_ | refine Br.cond_ff ?_ | refine Br.eqT (by omega) ?_ | refine Br.eqF (by omega) ?_ | refine Br.neT (by omega) ?_ | refine Br.neF (by omega) ?_ | refine Ld.mk' _ rfl ?_ | refine Need.mk (by first | decide | omega | kernel_rfl) ?_ | refine Nm.i64 (by omega) ?_ | refine Nm.u64 (by omega) ?_ | refine Nm.u8 (by omega) ?_) | refine TRL.con [6, 51] [6, 51] c0 rfl rfl rfl rfl ⟨rfl, rfl, trivial⟩ rfl rfl (fun _ _ => ⟨trivial, ?_⟩) (fun _ h => h.elim) | refine TRL.con [6, 51] [6, 51] c1 rfl rfl rfl rfl ⟨rfl, rfl, trivial⟩ rfl rfl (fun _ _ => ⟨trivial, ?_⟩) (fun _ h => h.elim) | refine TRL.con [6, 51] [6, 51] c2 rfl rfl rfl rfl ⟨rfl, rfl, trivial⟩ rfl rfl (fun _ _ => ⟨trivial, ?_⟩) (fun _ h => h.elim) | refine TRL.con [6, 51] [6, 51] c3 rfl rfl rfl rfl ⟨rfl, rfl, trivial⟩ rfl rfl (fun _ _ => ⟨trivial, ?_⟩) (fun _ h => h.elim) | refine TRL.con [6, 51] [6, 51] c4 rfl rfl rfl rfl ⟨rfl, rfl, trivial⟩ rfl rfl (fun _ _ => ⟨trivial, ?_⟩) (fun _ h => h.elim) | (refine TRL.con [6, 51, 0] [6, 51, 0] ct rfl rfl rfl rfl ⟨rfl, rfl, rfl, trivial⟩ rfl rfl (fun v' _ => ⟨trivial, ?_⟩) (fun _ h => h.elim)) | (refine TRL.con [6, 51] [6, 51] (cd _) rfl rfl rfl rfl ⟨rfl, rfl, trivial⟩ rfl rfl (fun _ _ => ⟨trivial, ?_⟩) (fun _ h => h.elim)) | refine TRL.step (TTok _ _) ?_ | (refine x_exq (TTok _ _) ?_; (conv => whnf); fail_if_success (guard_target =ₛ False)))
  all_goals (conv => whnf)
  all_goals first | exact ⟨(), trivial, rfl, rfl, trivial⟩ | trace_state
set_option maxHeartbeats 16000000 in
theorem ofn3_nil : Con Tryz.prog (fun _ => True) 44 (fun _ => [.v (.agg #[.int .i64 0, .int .i64 0, .int .i64 0, .string ⟨#[]⟩, .string ⟨#[]⟩, .slice none 0 0])]) (fun _ => []) (fun _ : Unit => True) (fun _ _ => .tup [.v (.string (tyV (((((([] : List Int) ++ be1 0) ++ be1 0) ++ be2 0) ++ be1 (⟨#[]⟩ : ByteArray).size ++ sInts ⟨#[]⟩) ++ be1 (⟨#[]⟩ : ByteArray).size ++ sInts ⟨#[]⟩) (((((((false || !fit 0 256) || !fit 0 256) || !fit 0 65536) || !fit (⟨#[]⟩ : ByteArray).size 256) || decide (((⟨#[]⟩ : ByteArray).size : Int) < 0)) || !fit (⟨#[]⟩ : ByteArray).size 256) || decide (((⟨#[]⟩ : ByteArray).size : Int) < 1)) ([] : List Int)).1), .v (.int .i64 (tyV (((((([] : List Int) ++ be1 0) ++ be1 0) ++ be2 0) ++ be1 (⟨#[]⟩ : ByteArray).size ++ sInts ⟨#[]⟩) ++ be1 (⟨#[]⟩ : ByteArray).size ++ sInts ⟨#[]⟩) (((((((false || !fit 0 256) || !fit 0 256) || !fit 0 65536) || !fit (⟨#[]⟩ : ByteArray).size 256) || decide (((⟨#[]⟩ : ByteArray).size : Int) < 0)) || !fit (⟨#[]⟩ : ByteArray).size 256) || decide (((⟨#[]⟩ : ByteArray).size : Int) < 1)) ([] : List Int)).2)]) (fun _ _ => []) (fun _ => False) := by
  refine Con.of (TTok _ _) Tryz.func44 (by kernel_rfl) rfl rfl rfl (fun σ => rfl) (fun σ => rfl) (fun _ _ _ => rfl) (fun _ σ _ => rfl) (fun _ _ => CEnd.of rfl rfl rfl) ?_
  have hE : (⟨#[]⟩ : ByteArray).size = 0 := rfl
  have c0 := number1_con ([] : List Int) false 0 0 (by simp [sInts_length, be4, be2, be1] <;> omega)
  have c1 := number1_con (([] : List Int) ++ be1 0) (false || !fit 0 256) (0 + 1) 0 (by simp [sInts_length, be4, be2, be1] <;> omega)
  have c2 := number2_con ((([] : List Int) ++ be1 0) ++ be1 0) ((false || !fit 0 256) || !fit 0 256) ((0 + 1) + 1) 0 (by simp [sInts_length, be4, be2, be1] <;> omega)
  have c3 := short_con (((([] : List Int) ++ be1 0) ++ be1 0) ++ be2 0) (((false || !fit 0 256) || !fit 0 256) || !fit 0 65536) (((0 + 1) + 1) + 2) ⟨#[]⟩ 0 (by simp [sInts_length, be4, be2, be1] <;> omega) (by omega)
  have c4 := short_con ((((([] : List Int) ++ be1 0) ++ be1 0) ++ be2 0) ++ be1 (⟨#[]⟩ : ByteArray).size ++ sInts ⟨#[]⟩) (((((false || !fit 0 256) || !fit 0 256) || !fit 0 65536) || !fit (⟨#[]⟩ : ByteArray).size 256) || decide (((⟨#[]⟩ : ByteArray).size : Int) < 0)) ((((0 + 1) + 1) + 2) + 1 + 1) ⟨#[]⟩ 1 (by simp [sInts_length, be4, be2, be1] <;> omega) (by omega)
  obtain ⟨O, hO⟩ : ∃ O, O = (((((([] : List Int) ++ be1 0) ++ be1 0) ++ be2 0) ++ be1 (⟨#[]⟩ : ByteArray).size ++ sInts ⟨#[]⟩) ++ be1 (⟨#[]⟩ : ByteArray).size ++ sInts ⟨#[]⟩) := ⟨_, rfl⟩
  obtain ⟨B, hB⟩ : ∃ B, B = ((((((((false || !fit 0 256) || !fit 0 256) || !fit 0 65536) || !fit (⟨#[]⟩ : ByteArray).size 256) || decide (((⟨#[]⟩ : ByteArray).size : Int) < 0)) || !fit (⟨#[]⟩ : ByteArray).size 256) || decide (((⟨#[]⟩ : ByteArray).size : Int) < 1))) := ⟨_, rfl⟩
  have hOl : O.length < 4398046500000 := by rw [hO]; simp [sInts_length, be4, be2, be1] <;> omega
  have ct := stypes_con O B (((((0 + 1) + 1) + 2) + 1 + 1) + 1 + 1) ([] : List Int) 0 (by rw [hO]; simp [sInts_length, be4, be2, be1] <;> omega) (by simp)
  have hsl := styO_len O B ([] : List Int)
  have cd := fun v' : Nat => done_con (styO O B ([] : List Int)) (tbD ([] : List Int) B (([] : List Int)).length) v' (by omega)
  have hV : tyV (((((([] : List Int) ++ be1 0) ++ be1 0) ++ be2 0) ++ be1 (⟨#[]⟩ : ByteArray).size ++ sInts ⟨#[]⟩) ++ be1 (⟨#[]⟩ : ByteArray).size ++ sInts ⟨#[]⟩) (((((((false || !fit 0 256) || !fit 0 256) || !fit 0 65536) || !fit (⟨#[]⟩ : ByteArray).size 256) || decide (((⟨#[]⟩ : ByteArray).size : Int) < 0)) || !fit (⟨#[]⟩ : ByteArray).size 256) || decide (((⟨#[]⟩ : ByteArray).size : Int) < 1)) ([] : List Int) = dnV (styO O B ([] : List Int)) (tbD ([] : List Int) B (([] : List Int)).length) := by rw [hO, hB]; rfl
  rw [hV]
  generalize hX : dnV (styO O B ([] : List Int)) (tbD ([] : List Int) B (([] : List Int)).length) = X at cd ⊢
  clear hX hV
  rw [hO, hB] at ct
  subst hO hB
  repeat' ((conv => whnf); first | refine TR.nil_cell 6 0 51 5 1 rfl rfl rfl ?_ | refine TR.nil_cell 1 5 52 3 1 rfl rfl rfl ?_ | (with_reducible first | refine TR.seq ?_ | refine TR.regionL ?_ | refine TR.drawn (TTok _ _) mixed ?_ | refine TR.block ?_ | refine TR.ret ?_ | refine TR.exit ?_ | refine TR.skip ?_ | refine TR.condB rfl ?_ | refine TRL.nil ?_ | refine Br.cond_t ?_ | refine Br.cond_f ?_ | refine Br.yes (by first | decide | assumption | (apply decide_eq_true; omega)) ?_ | refine Br.non (by first | decide | assumption | (apply decide_eq_false; omega)) ?_ | refine Br.cond_ff ?_ | refine Br.eqT (by omega) ?_ | refine Br.eqF (by omega) ?_ | refine Br.neT (by omega) ?_ | refine Br.neF (by omega) ?_ | refine Ld.mk' _ rfl ?_ | refine Need.mk (by first | decide | omega | kernel_rfl) ?_ | refine Nm.i64 (by omega) ?_ | refine Nm.u64 (by omega) ?_ | refine Nm.u8 (by omega) ?_) | refine TRL.con [6, 51] [6, 51] c0 rfl rfl rfl rfl ⟨rfl, rfl, trivial⟩ rfl rfl (fun _ _ => ⟨trivial, ?_⟩) (fun _ h => h.elim) | refine TRL.con [6, 51] [6, 51] c1 rfl rfl rfl rfl ⟨rfl, rfl, trivial⟩ rfl rfl (fun _ _ => ⟨trivial, ?_⟩) (fun _ h => h.elim) | refine TRL.con [6, 51] [6, 51] c2 rfl rfl rfl rfl ⟨rfl, rfl, trivial⟩ rfl rfl (fun _ _ => ⟨trivial, ?_⟩) (fun _ h => h.elim) | refine TRL.con [6, 51] [6, 51] c3 rfl rfl rfl rfl ⟨rfl, rfl, trivial⟩ rfl rfl (fun _ _ => ⟨trivial, ?_⟩) (fun _ h => h.elim) | refine TRL.con [6, 51] [6, 51] c4 rfl rfl rfl rfl ⟨rfl, rfl, trivial⟩ rfl rfl (fun _ _ => ⟨trivial, ?_⟩) (fun _ h => h.elim) | (refine TRL.con [6, 51, 52] [6, 51, 52] ct rfl rfl rfl rfl ⟨rfl, rfl, rfl, trivial⟩ rfl rfl (fun v' _ => ⟨trivial, ?_⟩) (fun _ h => h.elim)) | (refine TRL.con [6, 51] [6, 51] (cd _) rfl rfl rfl rfl ⟨rfl, rfl, trivial⟩ rfl rfl (fun _ _ => ⟨trivial, ?_⟩) (fun _ h => h.elim)) | refine TRL.step (TTok _ _) ?_ | (refine x_exq (TTok _ _) ?_; (conv => whnf); fail_if_success (guard_target =ₛ False)))
  all_goals (conv => whnf)
  all_goals first | exact ⟨(), trivial, rfl, trivial⟩ | trace_state
end Go.Proofs.YtbladfkakmdigaaGreatDoor
