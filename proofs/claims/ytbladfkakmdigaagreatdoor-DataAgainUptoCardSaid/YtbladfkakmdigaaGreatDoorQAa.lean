/-
  What the laws of these data stand on: contracts of functions, and plain laws.
-/
import Derived.Test.YtbladfkakmdigaaGreatDoorQXa
import Derived.Test.YtbladfkakmdigaaGreatDoorQXb
import Derived.Test.YtbladfkakmdigaaGreatDoorQXc
import Derived.Test.YtbladfkakmdigaaGreatDoorQXd
import Derived.Test.YtbladfkakmdigaaGreatDoorQBa
import Derived.Test.YtbladfkakmdigaaGreatDoorQCa
import Derived.Test.YtbladfkakmdigaaGreatDoorQQa
set_option linter.unusedVariables false
set_option linter.unusedSimpArgs false
set_option linter.unnecessarySimpa false
set_option maxRecDepth 100000
set_option linter.unusedVariables false
set_option linter.unusedSimpArgs false
namespace Go.Proofs.YtbladfkakmdigaaGreatDoor
open Go.SX
def Agn (e : Int) (s d : ByteArray) : Prop := e = 6 ∨ (e = 0 ∧ s = d)
theorem Br.agn {e : Int} {s d : ByteArray} {f : Bool → Prop} (h : Agn e s d) (h1 : e = 6 → f true) (h2 : e = 0 → s = d → f false) : Br (e != 0) f := by
  rcases h with rfl | ⟨rfl, rfl⟩
  · exact Br.tt (h1 rfl)
  · exact Br.ff (h2 rfl rfl)
theorem con_tup {f : FuncId} {v : Value} {s : ByteArray} {e : Int} {C : Unit → (Nat → Nat) → List (Option Chunk)} (h : Con Tryz.prog (fun _ => True) f (fun _ => [.v v]) (fun _ => []) (fun _ : Unit => True) (fun _ _ => .tup [.v (.string s), .v (.int .i64 e)]) C (fun _ => False)) (w : World) : Ret Tryz.prog f [v] w (.tuple #[.string s, .int .i64 e]) :=
  Con.ret (args := [v]) h (fun _ _ => rfl) (fun _ h => h) fun _ _ => trivial
theorem dsV_ex (s : ByteArray) (ok : Bool) : ∃ x e, dsV s ok = .tuple #[.string x, .int .i64 e] := by
  unfold dsV
  split
  · exact ⟨_, _, rfl⟩
  · exact ⟨_, _, rfl⟩
theorem soa_ag (d : ByteArray) (hs : d.size < 4294967281) : ∃ (x0 : ByteArray) (x1 : ByteArray) (x2 : Int) (x3 : Int) (x4 : Int) (x5 : Int) (x6 : Int) (e : Int) (s : ByteArray) (k : Int), (∀ w, Ret Tryz.prog 21 [.string d] w (.tuple #[.agg #[.string x0, .string x1, .int .i64 x2, .int .i64 x3, .int .i64 x4, .int .i64 x5, .int .i64 x6], .int .i64 e])) ∧ (∀ w, Ret Tryz.prog 34 [.agg #[.string x0, .string x1, .int .i64 x2, .int .i64 x3, .int .i64 x4, .int .i64 x5, .int .i64 x6]] w (.tuple #[.string s, .int .i64 k])) ∧ Agn e s d := by
  have h1 := fun w => soa_top d hs w
  cases h : soaW d with
  | none =>
    rw [h] at h1
    exact ⟨⟨#[]⟩, ⟨#[]⟩, 0, 0, 0, 0, 0, 6, _, _, h1, fun w => con_tup (so_con ⟨#[]⟩ ⟨#[]⟩ 0 0 0 0 0 (by decide) (by decide)) w, .inl rfl⟩
  | some q =>
    rw [h] at h1
    obtain ⟨x0, x1, x2, x3, x4, x5, x6⟩ := q
    obtain ⟨g, z0, z1⟩ := soa_again h
    have h2 := fun w => con_tup (so_con x0 x1 x2 x3 x4 x5 x6 (by omega) (by omega)) w
    rw [g] at h2
    exact ⟨x0, x1, x2, x3, x4, x5, x6, 0, d, 0, h1, h2, .inr ⟨rfl, rfl⟩⟩
theorem sig_ag (d : ByteArray) (hs : d.size < 4294967281) : ∃ (x0 : Int) (x1 : Int) (x2 : Int) (x3 : Int) (x4 : Int) (x5 : Int) (x6 : Int) (x7 : ByteArray) (x8 : ByteArray) (e : Int) (s : ByteArray) (k : Int), (∀ w, Ret Tryz.prog 23 [.string d] w (.tuple #[.agg #[.int .i64 x0, .int .i64 x1, .int .i64 x2, .int .i64 x3, .int .i64 x4, .int .i64 x5, .int .i64 x6, .string x7, .string x8], .int .i64 e])) ∧ (∀ w, Ret Tryz.prog 36 [.agg #[.int .i64 x0, .int .i64 x1, .int .i64 x2, .int .i64 x3, .int .i64 x4, .int .i64 x5, .int .i64 x6, .string x7, .string x8]] w (.tuple #[.string s, .int .i64 k])) ∧ Agn e s d := by
  have h1 := fun w => sig_top d hs w
  cases h : sigW d with
  | none =>
    rw [h] at h1
    exact ⟨0, 0, 0, 0, 0, 0, 0, ⟨#[]⟩, ⟨#[]⟩, 6, _, _, h1, fun w => con_tup (sg_con 0 0 0 0 0 0 0 ⟨#[]⟩ ⟨#[]⟩ (by decide) (by decide)) w, .inl rfl⟩
  | some q =>
    rw [h] at h1
    obtain ⟨x0, x1, x2, x3, x4, x5, x6, x7, x8⟩ := q
    obtain ⟨g, z0, z1⟩ := sig_again h
    have h2 := fun w => con_tup (sg_con x0 x1 x2 x3 x4 x5 x6 x7 x8 (by omega) (by omega)) w
    rw [g] at h2
    exact ⟨x0, x1, x2, x3, x4, x5, x6, x7, x8, 0, d, 0, h1, h2, .inr ⟨rfl, rfl⟩⟩
theorem key_ag (d : ByteArray) (hs : d.size < 4294967281) : ∃ (x0 : Int) (x1 : Int) (x2 : Int) (x3 : ByteArray) (e : Int) (s : ByteArray) (k : Int), (∀ w, Ret Tryz.prog 25 [.string d] w (.tuple #[.agg #[.int .i64 x0, .int .i64 x1, .int .i64 x2, .string x3], .int .i64 e])) ∧ (∀ w, Ret Tryz.prog 38 [.agg #[.int .i64 x0, .int .i64 x1, .int .i64 x2, .string x3]] w (.tuple #[.string s, .int .i64 k])) ∧ Agn e s d := by
  have h1 := fun w => key_top d hs w
  cases h : keyW d with
  | none =>
    rw [h] at h1
    obtain ⟨x, e, hx⟩ := dsV_ex (kdS 0 0 0 ⟨#[]⟩) (kdB 0 0 0 ⟨#[]⟩)
    have h2 := fun w => dofkey_ret 0 0 0 ⟨#[]⟩ (by decide) w
    rw [hx] at h2
    exact ⟨0, 0, 0, ⟨#[]⟩, 6, x, e, h1, h2, .inl rfl⟩
  | some q =>
    rw [h] at h1
    obtain ⟨x0, x1, x2, x3⟩ := q
    obtain ⟨g, z0⟩ := key_again h
    have h2 := fun w => dofkey_ret x0 x1 x2 x3 (by omega) w
    rw [g] at h2
    exact ⟨x0, x1, x2, x3, 0, d, 0, h1, h2, .inr ⟨rfl, rfl⟩⟩
theorem dsr_ag (d : ByteArray) (hs : d.size < 4294967281) : ∃ (x0 : Int) (x1 : Int) (x2 : Int) (x3 : ByteArray) (e : Int) (s : ByteArray) (k : Int), (∀ w, Ret Tryz.prog 27 [.string d] w (.tuple #[.agg #[.int .i64 x0, .int .i64 x1, .int .i64 x2, .string x3], .int .i64 e])) ∧ (∀ w, Ret Tryz.prog 40 [.agg #[.int .i64 x0, .int .i64 x1, .int .i64 x2, .string x3]] w (.tuple #[.string s, .int .i64 k])) ∧ Agn e s d := by
  have h1 := fun w => dsr_top d hs w
  cases h : dsrW d with
  | none =>
    rw [h] at h1
    obtain ⟨x, e, hx⟩ := dsV_ex (kdS 0 0 0 ⟨#[]⟩) (kdB 0 0 0 ⟨#[]⟩)
    have h2 := fun w => dofds_ret 0 0 0 ⟨#[]⟩ (by decide) w
    rw [hx] at h2
    exact ⟨0, 0, 0, ⟨#[]⟩, 6, x, e, h1, h2, .inl rfl⟩
  | some q =>
    rw [h] at h1
    obtain ⟨x0, x1, x2, x3⟩ := q
    obtain ⟨g, z0⟩ := dsr_again h
    have h2 := fun w => dofds_ret x0 x1 x2 x3 (by omega) w
    rw [g] at h2
    exact ⟨x0, x1, x2, x3, 0, d, 0, h1, h2, .inr ⟨rfl, rfl⟩⟩
end Go.Proofs.YtbladfkakmdigaaGreatDoor
