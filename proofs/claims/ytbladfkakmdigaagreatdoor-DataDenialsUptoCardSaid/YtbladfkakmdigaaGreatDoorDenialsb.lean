/-
  Any names, hashes and lists of types are put together by the program and by the document as NSEC and NSEC3 alike, or refused alike, and what is handed in stays, for arguments of at most 1048576 in all.
-/
import Derived.Test.YtbladfkakmdigaaGreatDoorDenialsa
import Derived.Test.YtbladfkakmdigaaGreatDoorRows
import Derived.Test.YtbladfkakmdigaaGreatDoorDenialsXc
set_option linter.unusedVariables false
set_option linter.unusedSimpArgs false
set_option linter.unnecessarySimpa false
set_option maxRecDepth 100000
set_option linter.unusedVariables false
set_option linter.unusedSimpArgs false
namespace Go.Proofs.YtbladfkakmdigaaGreatDoor
open Go.SX
/-! ### OfNsec, OfNsec3 of the document -/
def shP (s : ByteArray) (ok : Bool) : ByteArray × Bool := if ok = true ∧ s.size ≤ 2000 then (s, true) else (⟨#[]⟩, false)
theorem shV_shP (s : ByteArray) (ok : Bool) : shV s ok = .tuple #[.string (shP s ok).1, .bool (shP s ok).2] := by
  unfold shV shP
  split <;> rfl
theorem rtyS_size (l : List Int) : (rtyS l).size ≤ 8704 := by
  unfold rtyS
  split
  · exact Nat.zero_le _
  · have := wins_len [] l 256
    rw [sz_nums]
    simpa using this
set_option maxHeartbeats 16000000 in
theorem rofns_con (x : ByteArray) (l : List Int) (hx : x.size < 4294967281) (hl : l.length < 1099511627776) : Con Tryz.prog (fun _ => True) 43 (fun s => [.agg [.v (.string x), .sl (s 0) 0 0 l.length]]) (roH l) (fun _ : Unit => True) (fun _ _ => .tup [.v (.string (shP (x ++ rtyS l) (rgt x && !tbD l false l.length)).1), .v (.bool (shP (x ++ rtyS l) (rgt x && !tbD l false l.length)).2)]) (fun _ => roH l) (fun _ => False) := by
  refine Con.of (TTok _ _) Tryz.func43 (by kernel_rfl) rfl (roH_cl _) rfl (fun σ => rfl) (roH_nat _) (fun _ _ _ => rfl) (fun _ σ _ => roH_nat _ σ) (fun _ _ => CEnd.of rfl rfl (roH_cl _)) ?_
  have hty := rty_con l hl
  have hz := rtyS_size l
  have hsh : ∀ ok, ok = (rgt x && !tbD l false l.length) → ∀ w, Ret Tryz.prog 98 [.string (x ++ rtyS l), .bool ok] w (.tuple #[.string (shP (x ++ rtyS l) (rgt x && !tbD l false l.length)).1, .bool (shP (x ++ rtyS l) (rgt x && !tbD l false l.length)).2]) := fun ok e w => by rw [e, ← shV_shP]; exact short_ret _ _ w
  generalize hP : shP (x ++ rtyS l) (rgt x && !tbD l false l.length) = P at hsh ⊢
  clear hP
  generalize rtyS l = T at hty hz hsh
  generalize tbD l false l.length = D at hty hsh
  have r0 := fun w => rright x hx w
  generalize rgt x = R at r0 hsh
  obtain ⟨S1, hS1⟩ : ∃ y, x ++ T = y := ⟨_, rfl⟩
  have zs1 : S1.size = x.size + T.size := by rw [← hS1, ByteArray.size_append]
  rw [hS1] at hsh
  unfold roH at hty ⊢
  repeat' ((conv => whnf); first | (with_reducible first | refine TR.seq ?_ | refine TR.regionL ?_ | refine TR.drawn (TTok _ _) mixed ?_ | refine TR.block ?_ | refine TR.ret ?_ | refine TR.exit ?_ | refine TR.skip ?_ | refine TR.condB rfl ?_ | refine TRL.nil ?_ | refine Br.cond_t ?_ | refine Br.cond_f ?_ | refine Br.yes (by first | decide | assumption | (apply decide_eq_true; omega)) ?_ | refine Br.non (by first | decide | assumption | (apply decide_eq_false; omega)) ?_ | refine Br.cond_ff ?_ | refine Br.eqT (by omega) ?_ | refine Br.eqF (by omega) ?_ | refine Br.neT (by omega) ?_ | refine Br.neF (by omega) ?_ | refine Br.mk2 (fun hc => ?_) (fun hc => ?_) | refine Ld.mk' _ rfl ?_ | refine Need.mk (by first | decide | omega | kernel_rfl) ?_ | refine Nm.i64 (by omega) ?_ | refine Nm.u64 (by omega) ?_ | refine Nm.u8 (by omega) ?_ | refine Need.mk (by dsimp only; omega) ?_ | refine x_ret (f := 94) rfl rfl (fun w _ => r0 w) ?_ | refine x_ret (f := 98) rfl rfl (fun w _ => hsh _ (by simp_all) w) ?_) | (refine TRL.con [0] [0] hty rfl rfl rfl rfl ⟨rfl, trivial⟩ rfl rfl (fun _ _ => ⟨trivial, ?_⟩) (fun _ h => h.elim)) | refine Nm.mk' _ hS1 ?_ | refine Nm.keep ?_ | refine TRL.step (TTok _ _) ?_ | (refine x_exq (TTok _ _) ?_; (conv => whnf); fail_if_success (guard_target =ₛ False)))
  all_goals (conv => whnf)
  all_goals trace_state
  all_goals exact ⟨(), trivial, rfl, rfl, trivial⟩
set_option maxHeartbeats 16000000 in
theorem rofn3_con (x0 x1 x2 : Int) (x3 x4 : ByteArray) (l : List Int) (h3 : x3.size < 4294967281) (h4 : x4.size < 4294967281) (hl : l.length < 1099511627776) : Con Tryz.prog (fun _ => True) 45 (fun s => [.agg [.v (.int .i64 x0), .v (.int .i64 x1), .v (.int .i64 x2), .v (.string x3), .v (.string x4), .sl (s 0) 0 0 l.length]]) (roH l) (fun _ : Unit => True) (fun _ _ => .tup [.v (.string (shP (strOfNums (be1 x0) ++ strOfNums (be1 x1) ++ strOfNums (be2 x2) ++ strOfNums (be1 (x3.size : Int)) ++ x3 ++ strOfNums (be1 (x4.size : Int)) ++ x4 ++ rtyS l) (!tbD l false l.length && fit x0 256 && fit x1 256 && fit x2 65536 && decide ((x3.size : Int) < 256) && decide (0 < (x4.size : Int)) && decide ((x4.size : Int) < 256))).1), .v (.bool (shP (strOfNums (be1 x0) ++ strOfNums (be1 x1) ++ strOfNums (be2 x2) ++ strOfNums (be1 (x3.size : Int)) ++ x3 ++ strOfNums (be1 (x4.size : Int)) ++ x4 ++ rtyS l) (!tbD l false l.length && fit x0 256 && fit x1 256 && fit x2 65536 && decide ((x3.size : Int) < 256) && decide (0 < (x4.size : Int)) && decide ((x4.size : Int) < 256))).2)]) (fun _ => roH l) (fun _ => False) := by
  refine Con.of (TTok _ _) Tryz.func45 (by kernel_rfl) rfl (roH_cl _) rfl (fun σ => rfl) (roH_nat _) (fun _ _ _ => rfl) (fun _ σ _ => roH_nat _ σ) (fun _ _ => CEnd.of rfl rfl (roH_cl _)) ?_
  have hty := rty_con l hl
  have hz := rtyS_size l
  have hsh : ∀ ok, ok = (!tbD l false l.length && fit x0 256 && fit x1 256 && fit x2 65536 && decide ((x3.size : Int) < 256) && decide (0 < (x4.size : Int)) && decide ((x4.size : Int) < 256)) → ∀ w, Ret Tryz.prog 98 [.string (strOfNums (be1 x0) ++ strOfNums (be1 x1) ++ strOfNums (be2 x2) ++ strOfNums (be1 (x3.size : Int)) ++ x3 ++ strOfNums (be1 (x4.size : Int)) ++ x4 ++ rtyS l), .bool ok] w (.tuple #[.string (shP (strOfNums (be1 x0) ++ strOfNums (be1 x1) ++ strOfNums (be2 x2) ++ strOfNums (be1 (x3.size : Int)) ++ x3 ++ strOfNums (be1 (x4.size : Int)) ++ x4 ++ rtyS l) (!tbD l false l.length && fit x0 256 && fit x1 256 && fit x2 65536 && decide ((x3.size : Int) < 256) && decide (0 < (x4.size : Int)) && decide ((x4.size : Int) < 256))).1, .bool (shP (strOfNums (be1 x0) ++ strOfNums (be1 x1) ++ strOfNums (be2 x2) ++ strOfNums (be1 (x3.size : Int)) ++ x3 ++ strOfNums (be1 (x4.size : Int)) ++ x4 ++ rtyS l) (!tbD l false l.length && fit x0 256 && fit x1 256 && fit x2 65536 && decide ((x3.size : Int) < 256) && decide (0 < (x4.size : Int)) && decide ((x4.size : Int) < 256))).2]) := fun ok e w => by rw [e, ← shV_shP]; exact short_ret _ _ w
  generalize hP : shP (strOfNums (be1 x0) ++ strOfNums (be1 x1) ++ strOfNums (be2 x2) ++ strOfNums (be1 (x3.size : Int)) ++ x3 ++ strOfNums (be1 (x4.size : Int)) ++ x4 ++ rtyS l) (!tbD l false l.length && fit x0 256 && fit x1 256 && fit x2 65536 && decide ((x3.size : Int) < 256) && decide (0 < (x4.size : Int)) && decide ((x4.size : Int) < 256)) = P at hsh ⊢
  clear hP
  generalize rtyS l = T at hty hz hsh
  generalize tbD l false l.length = D at hty hsh
  have fi0 := fun w => fits_ret x0 256 1 (by simp) w
  have nu0 := fun w => num1_ret x0 w
  have fi1 := fun w => fits_ret x1 256 1 (by simp) w
  have nu1 := fun w => num1_ret x1 w
  have fi2 := fun w => fits_ret x2 65536 2 (by simp) w
  have nu2 := fun w => num2_ret x2 w
  have nu3 := fun w => num1_ret (x3.size : Int) w
  have nu4 := fun w => num1_ret (x4.size : Int) w
  have z0 : (strOfNums (be1 x0)).size = 1 := sz_nums _
  generalize strOfNums (be1 x0) = A0 at nu0 z0 hsh
  have z1 : (strOfNums (be1 x1)).size = 1 := sz_nums _
  generalize strOfNums (be1 x1) = A1 at nu1 z1 hsh
  have z2 : (strOfNums (be2 x2)).size = 2 := sz_nums _
  generalize strOfNums (be2 x2) = A2 at nu2 z2 hsh
  have z3 : (strOfNums (be1 (x3.size : Int))).size = 1 := sz_nums _
  generalize strOfNums (be1 (x3.size : Int)) = A3 at nu3 z3 hsh
  have z4 : (strOfNums (be1 (x4.size : Int))).size = 1 := sz_nums _
  generalize strOfNums (be1 (x4.size : Int)) = A4 at nu4 z4 hsh
  obtain ⟨S0, hS0⟩ : ∃ y, A0 ++ A1 = y := ⟨_, rfl⟩
  have zs0 : S0.size = A0.size + A1.size := by rw [← hS0, ByteArray.size_append]
  rw [hS0] at hsh
  obtain ⟨S1, hS1⟩ : ∃ y, S0 ++ A2 = y := ⟨_, rfl⟩
  have zs1 : S1.size = S0.size + A2.size := by rw [← hS1, ByteArray.size_append]
  rw [hS1] at hsh
  obtain ⟨S2, hS2⟩ : ∃ y, S1 ++ A3 = y := ⟨_, rfl⟩
  have zs2 : S2.size = S1.size + A3.size := by rw [← hS2, ByteArray.size_append]
  rw [hS2] at hsh
  obtain ⟨S3, hS3⟩ : ∃ y, S2 ++ x3 = y := ⟨_, rfl⟩
  have zs3 : S3.size = S2.size + x3.size := by rw [← hS3, ByteArray.size_append]
  rw [hS3] at hsh
  obtain ⟨S4, hS4⟩ : ∃ y, S3 ++ A4 = y := ⟨_, rfl⟩
  have zs4 : S4.size = S3.size + A4.size := by rw [← hS4, ByteArray.size_append]
  rw [hS4] at hsh
  obtain ⟨S5, hS5⟩ : ∃ y, S4 ++ x4 = y := ⟨_, rfl⟩
  have zs5 : S5.size = S4.size + x4.size := by rw [← hS5, ByteArray.size_append]
  rw [hS5] at hsh
  obtain ⟨S6, hS6⟩ : ∃ y, S5 ++ T = y := ⟨_, rfl⟩
  have zs6 : S6.size = S5.size + T.size := by rw [← hS6, ByteArray.size_append]
  rw [hS6] at hsh
  generalize fit x0 256 = b0 at fi0 hsh
  generalize fit x1 256 = b1 at fi1 hsh
  generalize fit x2 65536 = b2 at fi2 hsh
  obtain ⟨d3, hd3⟩ : ∃ b, decide ((x3.size : Int) < 256) = b := ⟨_, rfl⟩
  obtain ⟨d4, hd4⟩ : ∃ b, decide (0 < (x4.size : Int)) = b := ⟨_, rfl⟩
  obtain ⟨d5, hd5⟩ : ∃ b, decide ((x4.size : Int) < 256) = b := ⟨_, rfl⟩
  rw [hd3, hd4, hd5] at hsh
  unfold roH at hty ⊢
  repeat' ((conv => whnf); first | (with_reducible first | refine TR.seq ?_ | refine TR.regionL ?_ | refine TR.drawn (TTok _ _) mixed ?_ | refine TR.block ?_ | refine TR.ret ?_ | refine TR.exit ?_ | refine TR.skip ?_ | refine TR.condB rfl ?_ | refine TRL.nil ?_ | refine Br.cond_t ?_ | refine Br.cond_f ?_ | refine Br.yes (by first | decide | assumption | (apply decide_eq_true; omega)) ?_ | refine Br.non (by first | decide | assumption | (apply decide_eq_false; omega)) ?_ | refine Br.cond_ff ?_ | refine Br.eqT (by omega) ?_ | refine Br.eqF (by omega) ?_ | refine Br.neT (by omega) ?_ | refine Br.neF (by omega) ?_ | refine Br.mk2 (fun hc => ?_) (fun hc => ?_) | refine Ld.mk' _ rfl ?_ | refine Need.mk (by first | decide | omega | kernel_rfl) ?_ | refine Nm.i64 (by omega) ?_ | refine Nm.u64 (by omega) ?_ | refine Nm.u8 (by omega) ?_ | refine Need.mk (by dsimp only; omega) ?_ | refine x_ret (f := 95) rfl rfl (fun w _ => fi0 w) ?_ | refine x_ret (f := 95) rfl rfl (fun w _ => fi1 w) ?_ | refine x_ret (f := 95) rfl rfl (fun w _ => fi2 w) ?_ | refine x_ret (f := 96) rfl rfl (fun w _ => nu0 w) ?_ | refine x_ret (f := 96) rfl rfl (fun w _ => nu1 w) ?_ | refine x_ret (f := 96) rfl rfl (fun w _ => nu2 w) ?_ | refine x_ret (f := 96) rfl rfl (fun w _ => nu3 w) ?_ | refine x_ret (f := 96) rfl rfl (fun w _ => nu4 w) ?_ | refine x_ret (f := 98) rfl rfl (fun w _ => hsh _ (by simp_all) w) ?_) | (refine TRL.con [0] [0] hty rfl rfl rfl rfl ⟨rfl, trivial⟩ rfl rfl (fun _ _ => ⟨trivial, ?_⟩) (fun _ h => h.elim)) | refine Nm.mk' _ hS0 ?_ | refine Nm.mk' _ hS1 ?_ | refine Nm.mk' _ hS2 ?_ | refine Nm.mk' _ hS3 ?_ | refine Nm.mk' _ hS4 ?_ | refine Nm.mk' _ hS5 ?_ | refine Nm.mk' _ hS6 ?_ | refine Nm.keep ?_ | refine TRL.step (TTok _ _) ?_ | (refine x_exq (TTok _ _) ?_; (conv => whnf); fail_if_success (guard_target =ₛ False)))
  all_goals (conv => whnf)
  all_goals trace_state
  all_goals exact ⟨(), trivial, rfl, rfl, trivial⟩
theorem numbers_ro (l : List Int) (v1 : Nat) (hl : l.length < 4398046511104) : Con Tryz.prog (fun _ => True) 33 (fun n => [.sl (n 0) v1 0 l.length, .sl (n 1) 0 0 l.length]) (fun _ => [some ⟨.row, 3, 1, v1, its l⟩, some ⟨.ro, 3, 1, 0, its l⟩]) (fun _ : Unit => True) (fun _ _ => .v (.bool true)) (fun _ _ => [some ⟨.row, 3, 1, v1, its l⟩, some ⟨.ro, 3, 1, 0, its l⟩]) (fun _ => False) := by
  refine Con.of (TTok _ _) Tryz.func33 (by kernel_rfl) rfl (by simp [refsInC, refsInL_its]) rfl (fun σ => rfl) (fun σ => by simp [mapR, renK, renL_its]) (fun _ _ _ => rfl) (fun p σ _ => by simp [mapR, renK, renL_its]) (fun p _ => CEnd.of rfl rfl (by simp [refsInC, refsInL_its])) ?_
  repeat' ((conv => whnf); first | (with_reducible first | refine TR.seq ?_ | refine TR.regionL ?_ | refine TR.drawn (TTok _ _) mixed ?_ | refine TR.block ?_ | refine TR.ret ?_ | refine TR.exit ?_ | refine TR.skip ?_ | refine TR.condB rfl ?_ | refine TRL.nil ?_ | refine Br.cond_t ?_ | refine Br.cond_f ?_ | refine Br.yes (by first | decide | assumption | (apply decide_eq_true; omega)) ?_ | refine Br.non (by first | decide | assumption | (apply decide_eq_false; omega)) ?_ | refine Br.cond_ff ?_ | refine Br.eqT (by omega) ?_ | refine Br.eqF (by omega) ?_ | refine Br.neT (by omega) ?_ | refine Br.neF (by omega) ?_ | refine Ld.mk' _ rfl ?_ | refine Need.mk (by first | decide | omega | kernel_rfl) ?_ | refine Nm.i64 (by omega) ?_ | refine Nm.u64 (by omega) ?_ | refine Nm.u8 (by omega) ?_ | refine Nm.keep ?_ | refine Need.mk (by dsimp only; omega) ?_) | refine Br.neF rfl ?_ | refine TRL.step (TTok _ _) ?_ | (refine x_exq (TTok _ _) ?_; (conv => whnf); fail_if_success (guard_target =ₛ False)))
  refine TR.loopH (fun k : Nat => [(5, .v (.int .i64 k))]) (fun _ => []) (fun k => k ≤ l.length) (fun k => l.length - k) 0 (Nat.zero_le _) ?_ ?_
  · repeat' ((conv => whnf); first | exact trivial | exact Fgt.nil | exact Fgt.mk rfl rfl rfl | refine And.intro rfl ?_ | refine And.intro ?_ ?_)
  · intro k hk
    by_cases hkn : k < l.length
    · obtain ⟨z, hz⟩ : ∃ z, l[k]? = some z := ⟨l[k], List.getElem?_eq_getElem hkn⟩
      have hld := subL_its l k z hz
      have hld2 : subL (its l) (0 * 1 + ((k : Int)).toNat * 1) 1 = some [AV.v (Value.int IntKind.i64 z)] := by simpa using hld
      repeat' ((conv => whnf); first | (with_reducible first | refine TR.seq ?_ | refine TR.regionL ?_ | refine TR.drawn (TTok _ _) mixed ?_ | refine TR.block ?_ | refine TR.ret ?_ | refine TR.exit ?_ | refine TR.skip ?_ | refine TR.condB rfl ?_ | refine TRL.nil ?_ | refine Br.cond_t ?_ | refine Br.cond_f ?_ | refine Br.yes (by first | decide | assumption | (apply decide_eq_true; omega)) ?_ | refine Br.non (by first | decide | assumption | (apply decide_eq_false; omega)) ?_ | refine Br.cond_ff ?_ | refine Br.eqT (by omega) ?_ | refine Br.eqF (by omega) ?_ | refine Br.neT (by omega) ?_ | refine Br.neF (by omega) ?_ | refine Ld.mk' _ rfl ?_ | refine Need.mk (by first | decide | omega | kernel_rfl) ?_ | refine Nm.i64 (by omega) ?_ | refine Nm.u64 (by omega) ?_ | refine Nm.u8 (by omega) ?_ | refine Nm.keep ?_ | refine Need.mk (by dsimp only; omega) ?_) | refine Ld.mk' _ hld2 ?_ | refine Br.neF rfl ?_ | refine TRL.step (TTok _ _) ?_ | (refine x_exq (TTok _ _) ?_; (conv => whnf); fail_if_success (guard_target =ₛ False)))
      all_goals (conv => whnf)
      refine ⟨k + 1, by omega, by omega, ?_⟩
      repeat' ((conv => whnf); first | exact trivial | exact Fgt.nil | exact Fgt.mk rfl rfl rfl | refine And.intro rfl ?_ | refine And.intro ?_ ?_)
    · obtain rfl : k = l.length := by omega
      repeat' ((conv => whnf); first | (with_reducible first | refine TR.seq ?_ | refine TR.regionL ?_ | refine TR.drawn (TTok _ _) mixed ?_ | refine TR.block ?_ | refine TR.ret ?_ | refine TR.exit ?_ | refine TR.skip ?_ | refine TR.condB rfl ?_ | refine TRL.nil ?_ | refine Br.cond_t ?_ | refine Br.cond_f ?_ | refine Br.yes (by first | decide | assumption | (apply decide_eq_true; omega)) ?_ | refine Br.non (by first | decide | assumption | (apply decide_eq_false; omega)) ?_ | refine Br.cond_ff ?_ | refine Br.eqT (by omega) ?_ | refine Br.eqF (by omega) ?_ | refine Br.neT (by omega) ?_ | refine Br.neF (by omega) ?_ | refine Ld.mk' _ rfl ?_ | refine Need.mk (by first | decide | omega | kernel_rfl) ?_ | refine Nm.i64 (by omega) ?_ | refine Nm.u64 (by omega) ?_ | refine Nm.u8 (by omega) ?_ | refine Nm.keep ?_ | refine Need.mk (by dsimp only; omega) ?_) | refine TRL.step (TTok _ _) ?_ | (refine x_exq (TTok _ _) ?_; (conv => whnf); fail_if_success (guard_target =ₛ False)))
      all_goals (conv => whnf)
      all_goals exact ⟨(), trivial, rfl, rfl, rfl, trivial⟩
end Go.Proofs.YtbladfkakmdigaaGreatDoor
set_option maxRecDepth 100000
set_option linter.unusedVariables false
set_option linter.unusedSimpArgs false
namespace Go.Proofs.YtbladfkakmdigaaGreatDoor
open Go.SX
/-! ### DataDenials -/
theorem tbD_or (l : List Int) (wr : Bool) : ∀ n, tbD l wr n = (wr || tbD l false n)
  | 0 => by simp [tbD]
  | n + 1 => by simp only [tbD, tbD_or l wr n, Bool.or_assoc]
theorem wins_app (o l : List Int) : ∀ k, wins o l k = o ++ wins [] l k
  | 0 => by simp [wins]
  | k + 1 => by simp only [wins, wins_app o l k, List.append_assoc]
/-- Alike: an error's number and a Bool. -/
def Alk (e : Int) (k : Bool) : Prop := (e = 0 ∧ k = true) ∨ (e = 6 ∧ k = false)
theorem tyV_pair (o : List Int) (wr : Bool) (l : List Int) (S : ByteArray) (hS : strOfNums o = S) (B : Bool) (hB : B = (!wr && !tbD l false l.length)) :
    ∃ y e k, tyV o wr l = (y, e) ∧ shP (S ++ rtyS l) B = (y, k) ∧ Alk e k := by
  subst hB
  unfold tyV
  rw [tbD_or l wr]
  cases wr with
  | true => exact ⟨⟨#[]⟩, 6, false, by simp [dnV], by simp [shP], .inr ⟨rfl, rfl⟩⟩
  | false =>
    cases hT : tbD l false l.length with
    | true => exact ⟨⟨#[]⟩, 6, false, by simp [dnV], by simp [shP], .inr ⟨rfl, rfl⟩⟩
    | false =>
      have hr : rtyS l = strOfNums (wins [] l 256) := by unfold rtyS; rw [hT, if_neg (by simp)]
      have hs : strOfNums (wins o l 256) = S ++ rtyS l := by rw [wins_app, hr, ← hS, nums_app]
      have hz : (S ++ rtyS l).size = (wins o l 256).length := by rw [← hs, sz_nums]
      by_cases hd : (wins o l 256).length ≤ 2000
      · refine ⟨S ++ rtyS l, 0, true, ?_, ?_, .inl ⟨rfl, rfl⟩⟩
        · simp only [Bool.or_self, Bool.false_eq_true, if_false]
          unfold dnV
          rw [if_neg (by simp; omega), hs]
        · unfold shP
          rw [if_pos ⟨rfl, by omega⟩]
      · refine ⟨⟨#[]⟩, 6, false, ?_, ?_, .inr ⟨rfl, rfl⟩⟩
        · simp only [Bool.or_self, Bool.false_eq_true, if_false]
          unfold dnV
          rw [if_pos (.inr (by omega))]
        · unfold shP
          rw [if_neg (fun h => hd (by have := h.2; omega))]
theorem ns_pair (x : ByteArray) (l : List Int) : ∃ y e k, tyV (([] : List Int) ++ sInts x) (false || !rgt x) l = (y, e) ∧ shP (x ++ rtyS l) (rgt x && !tbD l false l.length) = (y, k) ∧ Alk e k := by
  refine tyV_pair _ _ l x (by rw [List.nil_append, strOf_sInts]) _ ?_
  cases rgt x <;> rfl
theorem n3_pair (x0 x1 x2 : Int) (x3 x4 : ByteArray) (l : List Int) : ∃ y e k, tyV (((((([] : List Int) ++ be1 x0) ++ be1 x1) ++ be2 x2) ++ be1 x3.size ++ sInts x3) ++ be1 x4.size ++ sInts x4) (((((((false || !fit x0 256) || !fit x1 256) || !fit x2 65536) || !fit x3.size 256) || decide ((x3.size : Int) < 0)) || !fit x4.size 256) || decide ((x4.size : Int) < 1)) l = (y, e) ∧ shP (strOfNums (be1 x0) ++ strOfNums (be1 x1) ++ strOfNums (be2 x2) ++ strOfNums (be1 (x3.size : Int)) ++ x3 ++ strOfNums (be1 (x4.size : Int)) ++ x4 ++ rtyS l) (!tbD l false l.length && fit x0 256 && fit x1 256 && fit x2 65536 && decide ((x3.size : Int) < 256) && decide (0 < (x4.size : Int)) && decide ((x4.size : Int) < 256)) = (y, k) ∧ Alk e k := by
  refine tyV_pair _ _ l (strOfNums (be1 x0) ++ strOfNums (be1 x1) ++ strOfNums (be2 x2) ++ strOfNums (be1 (x3.size : Int)) ++ x3 ++ strOfNums (be1 (x4.size : Int)) ++ x4) ?_ _ ?_
  · rw [nums_sInts, ← nums_app, nums_sInts]
    simp only [← nums_app, nums_nil, ba_nil_app]
  · have e1 : fit x3.size 256 = decide ((x3.size : Int) < 256) := by unfold fit; congr 1; exact propext ⟨fun h => h.2, fun h => ⟨by omega, h⟩⟩
    have e2 : fit x4.size 256 = decide ((x4.size : Int) < 256) := by unfold fit; congr 1; exact propext ⟨fun h => h.2, fun h => ⟨by omega, h⟩⟩
    have e3 : decide ((x3.size : Int) < 0) = false := decide_eq_false (by omega)
    have e4 : decide ((x4.size : Int) < 1) = !decide (0 < (x4.size : Int)) := by
      by_cases h : 0 < (x4.size : Int)
      · have : ¬ ((x4.size : Int) < 1) := by omega
        rw [decide_eq_true h, decide_eq_false this]; rfl
      · have : ((x4.size : Int) < 1) := by omega
        rw [decide_eq_false h, decide_eq_true this]; rfl
    rw [e1, e2, e3, e4]
    generalize fit x0 256 = b0
    generalize fit x1 256 = b1
    generalize fit x2 65536 = b2
    generalize decide ((x3.size : Int) < 256) = b3
    generalize decide ((x4.size : Int) < 256) = b4
    generalize decide (0 < (x4.size : Int)) = b5
    generalize tbD l false l.length = b6
    cases b0 <;> cases b1 <;> cases b2 <;> cases b3 <;> cases b4 <;> cases b5 <;> cases b6 <;> rfl
theorem subL_its_all : ∀ l : List Int, subL (its l) 0 l.length = some (its l)
  | [] => rfl
  | x :: l => by
    have := subL_its_all l
    simp only [its] at this
    simp [its, subL, this]
theorem allOne_its : ∀ l : List Int, allOne (its l) = true
  | [] => rfl
  | x :: l => by
    have := allOne_its l
    simp only [its] at this
    simp [its, allOne, this, one, Value.oneCell']
def dnH (l m : List Int) (s : Nat → Nat) : List (Option Chunk) := [some ⟨.ro, 3, 1, 0, its l⟩, some ⟨.ro, 3, 1, 0, its m⟩]
theorem dnH_cl (l m : List Int) : refsInC (dnH l m id) (dnH l m id) = true := by simp [dnH, refsInC, refsInL_its]
theorem dnH_nat (l m : List Int) (σ : List Nat) : mapR σ (dnH l m id) = dnH l m (getN σ) := by simp [dnH, mapR, renK, renL_its]
set_option maxHeartbeats 32000000 in
theorem den_con {u2 v2 u3 v3} (x : ByteArray) (l : List Int) (x0 x1 x2 : Int) (x3 x4 : ByteArray) (m : List Int) (hx : x.size < 4294967281) (hl : l.length < 1099511627776) (h3 : x3.size < 4294967281) (h4 : x4.size < 4294967281) (hm : m.length < 1099511627776) :
    Con Tryz.prog (IC u2 v2 u3 v3) 7 (fun s => [.agg [.v (.string x), .sl (s 0) 0 0 l.length], .agg [.v (.int .i64 x0), .v (.int .i64 x1), .v (.int .i64 x2), .v (.string x3), .v (.string x4), .sl (s 1) 0 0 m.length]]) (dnH l m) (fun _ : Unit => True) (fun _ _ => .v (.bool true)) (fun _ => dnH l m) (fun _ => False) := by
  refine Con.of (TTok _ _) Tryz.func7 (by kernel_rfl) rfl (dnH_cl _ _) rfl (fun σ => rfl) (dnH_nat _ _) (fun _ _ _ => rfl) (fun _ σ _ => dnH_nat _ _ σ) (fun _ _ => CEnd.of rfl rfl (dnH_cl _ _)) ?_
  obtain ⟨y1, e1, k1, p1, q1, r1⟩ := ns_pair x l
  obtain ⟨y2, e2, k2, p2, q2, r2⟩ := n3_pair x0 x1 x2 x3 x4 m
  have c1 := fun v => Con.inI (I := IC u2 v2 u3 v3) (ofns_con x l v hx hl)
  have c2 := Con.inI (I := IC u2 v2 u3 v3) (rofns_con x l hx hl)
  have c3 := fun v => Con.inI (I := IC u2 v2 u3 v3) (ofn3_con x0 x1 x2 x3 x4 m v h3 h4 hm)
  have c4 := Con.inI (I := IC u2 v2 u3 v3) (rofn3_con x0 x1 x2 x3 x4 m h3 h4 hm)
  have c5 := fun v => Con.inI (I := IC u2 v2 u3 v3) (numbers_ro l v (by omega))
  have c6 := fun v => Con.inI (I := IC u2 v2 u3 v3) (numbers_ro m v (by omega))
  rw [p1] at c1
  rw [q1] at c2
  rw [p2] at c3
  rw [q2] at c4
  unfold rwH at c1 c3
  unfold roH at c2 c4
  unfold dnH
  have hsl : subL (its l) 0 (l.length * 1) = some (its l) := by rw [Nat.mul_one]; exact subL_its_all l
  have hsm : subL (its m) 0 (m.length * 1) = some (its m) := by rw [Nat.mul_one]; exact subL_its_all m
  rcases r1 with ⟨rfl, rfl⟩ | ⟨rfl, rfl⟩ <;> rcases r2 with ⟨rfl, rfl⟩ | ⟨rfl, rfl⟩
  all_goals skip
  all_goals repeat' ((conv => whnf); first | (with_reducible first | refine TR.seq ?_ | refine TR.regionL ?_ | refine TR.drawn (TTok _ _) mixed ?_ | refine TR.block ?_ | refine TR.ret ?_ | refine TR.exit ?_ | refine TR.skip ?_ | refine TR.condB rfl ?_ | refine TRL.nil ?_ | refine Br.cond_t ?_ | refine Br.cond_f ?_ | refine Br.yes (by first | decide | assumption | (apply decide_eq_true; omega)) ?_ | refine Br.non (by first | decide | assumption | (apply decide_eq_false; omega)) ?_ | refine Br.cond_ff ?_ | refine Br.eqT (by omega) ?_ | refine Br.eqF (by omega) ?_ | refine Br.neT (by omega) ?_ | refine Br.neF (by omega) ?_ | refine Ld.mk' _ rfl ?_ | refine Need.mk (by first | decide | omega | kernel_rfl) ?_ | refine Nm.i64 (by omega) ?_ | refine Nm.u64 (by omega) ?_ | refine Nm.u8 (by omega) ?_ | refine Nm.keep ?_ | refine Need.mk (by dsimp only; omega) ?_ | refine x_ret (f := 14) rfl rfl (fun w hw => examples_ret hw) ?_) | refine Ld.mk' _ hsl ?_ | refine Ld.mk' _ hsm ?_ | (rw [allOne_its]; conv => whnf) | refine Need.mk ⟨by unfold maxLen; omega, by dsimp only; omega⟩ ?_ | (refine TRL.con [4] [4] (c1 _) rfl rfl rfl rfl ⟨rfl, trivial⟩ rfl rfl (fun _ _ => ⟨trivial, ?_⟩) (fun _ h => h.elim)) | (refine TRL.con [0] [0] c2 rfl rfl rfl rfl ⟨rfl, trivial⟩ rfl rfl (fun _ _ => ⟨trivial, ?_⟩) (fun _ h => h.elim)) | (refine TRL.con [5] [5] (c3 _) rfl rfl rfl rfl ⟨rfl, trivial⟩ rfl rfl (fun _ _ => ⟨trivial, ?_⟩) (fun _ h => h.elim)) | (refine TRL.con [1] [1] c4 rfl rfl rfl rfl ⟨rfl, trivial⟩ rfl rfl (fun _ _ => ⟨trivial, ?_⟩) (fun _ h => h.elim)) | (refine TRL.con [4, 0] [4, 0] (c5 _) rfl rfl rfl rfl ⟨rfl, rfl, trivial⟩ rfl rfl (fun _ _ => ⟨trivial, ?_⟩) (fun _ h => h.elim)) | (refine TRL.con [5, 1] [5, 1] (c6 _) rfl rfl rfl rfl ⟨rfl, rfl, trivial⟩ rfl rfl (fun _ _ => ⟨trivial, ?_⟩) (fun _ h => h.elim)) | refine Br.yes rfl ?_ | refine Br.non rfl ?_ | refine Br.yes (by simp [eqR]) ?_ | refine TRL.step (TTok _ _) ?_ | (refine x_exq (TTok _ _) ?_; (conv => whnf); fail_if_success (guard_target =ₛ False)))
  all_goals (conv => whnf)
  all_goals first | exact ⟨(), trivial, rfl, rfl, rfl, trivial⟩ | trace_state
end Go.Proofs.YtbladfkakmdigaaGreatDoor
set_option maxRecDepth 100000
namespace Go.Proofs.YtbladfkakmdigaaGreatDoor
open Go.SX
def tab0 : List Int := [1, 10, 100, 1000, 10000, 100000, 1000000, 10000000, 100000000, 1000000000, 10000000000, 100000000000, 1000000000000, 10000000000000, 100000000000000, 1000000000000000, 10000000000000000, 100000000000000000, 1000000000000000000, 10000000000000000000]
def tab5 : List Int := [0, 1, 56, 2, 57, 49, 28, 3, 61, 58, 42, 50, 38, 29, 17, 4, 62, 47, 59, 36, 45, 43, 51, 22, 53, 39, 33, 30, 24, 18, 12, 5, 63, 55, 48, 27, 60, 41, 37, 16, 46, 35, 44, 21, 52, 32, 23, 11, 54, 26, 40, 15, 34, 20, 31, 10, 25, 14, 19, 9, 13, 8, 7, 6]
theorem I13_of {l : List (String × DataW Unit)} {W : World} (h : laidMet Tryz.prog l W) (hm : ("internal/strconv.uint64pow10", Lib.tabData .u64 tab0) ∈ l) (hm5 : ("math/bits.deBruijn64tab", Lib.tabData .u8 tab5) ∈ l) : I13 W := by
  intro g cells hg
  unfold GG at hg
  split at hg
  · cases hg
    exact laid_tab h hm (t := 253) (e := 179) (n := 20) (by kernel_rfl) (by kernel_rfl) Tryz.underlying253 Tryz.underlying179 (by kernel_rfl) (by kernel_rfl)
  · cases hg
    exact laid_tab h hm5 (t := 268) (e := 5) (n := 64) (by kernel_rfl) (by kernel_rfl) Tryz.underlying268 Tryz.underlying5 (by kernel_rfl) (by kernel_rfl)
  · cases hg
/-- A listed variable of an interface's type holds a value that is not nil. -/
theorem laid_ifc {P : Program} {l : List (String × DataW Unit)} {W : World} {name n : String} {d : DataW Unit} {g : Nat} {t : TypeId} {ms : Array (String × TypeId)} (h : laidMet P l W) (hm : (name, DataW.iface n d) ∈ l)
    (hg : P.globalNamed name = some g) (hty : (P.globals[g]?).map (·.type) = some t) (ht : P.underlying t = some (.interface ms)) : ∃ u v, W.cell? ⟨g, 0, none⟩ = some (.iface u v) := by
  obtain ⟨ps, hl, _⟩ := h
  obtain ⟨g', t', cs, fuel, p, hg', ht', hvar, hd⟩ := laidVars_mem hl _ _ hm
  obtain rfl := Option.some.inj (hg.symm.trans hg')
  obtain rfl := Option.some.inj (hty.symm.trans ht')
  have hc : ∃ u v, cs.toList = [.iface u v] := by
    cases fuel with
    | zero => simp [DataW.trod] at hd
    | succ m =>
      unfold DataW.trod at hd
      rw [ht] at hd
      split at hd <;> simp_all
  obtain ⟨u, v, hc⟩ := hc
  refine ⟨u, v, ?_⟩
  have := World.var?_cell hg hvar 0
  rw [this]
  have e : cs[0]? = cs.toList[0]? := by simp
  rw [e, hc]
  rfl
/-- A listed table of numbers, whole. -/
theorem laid_tabIs {P : Program} {l : List (String × DataW Unit)} {W : World} {name : String} {k : IntKind} {zs : List Int} {g : Nat} {t e : TypeId} {n : Nat} (h : laidMet P l W) (hm : (name, Lib.tabData k zs) ∈ l)
    (hg : P.globalNamed name = some g) (hty : (P.globals[g]?).map (·.type) = some t) (ht : P.underlying t = some (.array n e)) (he : P.underlying e = some (.int k)) (hce : P.cellsOf e = 1) (hct : P.cellsOf t = n) : Lib.TabIs P W name k zs := by
  obtain ⟨ps, hl, _⟩ := h
  obtain ⟨g', t', cs, fuel, p, hg', ht', hvar, hd⟩ := laidVars_mem hl _ _ hm
  obtain rfl := Option.some.inj (hg.symm.trans hg')
  obtain rfl := Option.some.inj (hty.symm.trans ht')
  have hcs := Lib.cells_of_tab ht he hce hct hd
  unfold Lib.TabIs
  rw [hvar, ← hcs]
theorem tab0_pow : tab0 = Lib.pow10Tab := by decide
theorem ic_of {l : List (String × DataW Unit)} {W : World} (h : laidMet Tryz.prog l W) (hm : ("internal/strconv.uint64pow10", Lib.tabData .u64 tab0) ∈ l) (hm5 : ("math/bits.deBruijn64tab", Lib.tabData .u8 tab5) ∈ l)
    {n2 n3 : String} {d2 d3 : DataW Unit} (h2 : ("strconv.ErrSyntax", DataW.iface n2 d2) ∈ l) (h3 : ("strconv.ErrRange", DataW.iface n3 d3) ∈ l) : ∃ u2 v2 u3 v3, IC u2 v2 u3 v3 W := by
  obtain ⟨u2, v2, q2⟩ := laid_ifc h h2 (by kernel_rfl) (by kernel_rfl) Tryz.underlying105
  obtain ⟨u3, v3, q3⟩ := laid_ifc h h3 (by kernel_rfl) (by kernel_rfl) Tryz.underlying105
  refine ⟨u2, v2, u3, v3, I13_of h hm hm5, ⟨q2, q3⟩, ?_⟩
  rw [← tab0_pow]
  exact laid_tabIs h hm (g := 2) (t := 253) (e := 179) (n := 20) (by kernel_rfl) (by kernel_rfl) Tryz.underlying253 Tryz.underlying179 (by kernel_rfl) (by kernel_rfl)
end Go.Proofs.YtbladfkakmdigaaGreatDoor
set_option maxRecDepth 100000
set_option linter.unusedVariables false
namespace Go.Proofs.YtbladfkakmdigaaGreatDoor
open Go.SX
/-! ### Lists of numbers that came in -/
theorem list_of {α : Type} {P : Nat → α → Prop} : ∀ m, (∀ i, i < m → ∃ x, P i x) → ∃ l : List α, l.length = m ∧ ∀ i x, l[i]? = some x → P i x
  | 0, _ => ⟨[], rfl, fun i x h => by simp at h⟩
  | m + 1, h => by
    obtain ⟨l, h1, h2⟩ := list_of m fun i hi => h i (by omega)
    obtain ⟨x, hx⟩ := h m (by omega)
    refine ⟨l ++ [x], by simp [h1], fun i y hy => ?_⟩
    rcases Nat.lt_or_ge i l.length with h3 | h3
    · rw [List.getElem?_append_left h3] at hy
      exact h2 i y hy
    · rw [List.getElem?_append_right h3] at hy
      cases hd : i - l.length with
      | zero =>
        rw [hd] at hy
        simp at hy
        subst hy
        have : i = m := by omega
        subst this
        exact hx
      | succ k =>
        rw [hd] at hy
        simp at hy
theorem fit_ints {W : World} {B n : Nat} {cs : List Value} (h : Fit TT W B (n + 2) 60 cs) : ∃ (sv : Value) (l : List Int), cs = [sv] ∧ l.length ≤ B ∧ FSl W sv (l.map (Value.int .i64)) := by
  rcases h with rfl | ⟨a, m, cap, rfl, hmc, hB, ⟨_, hsp⟩, hc⟩
  · exact ⟨_, [], rfl, Nat.zero_le _, .inl ⟨rfl, rfl⟩⟩
  · obtain ⟨l, h1, h2⟩ := list_of (P := fun i (z : Int) => W.cell? (a.add i) = some (.int .i64 z)) m fun i hi => by
      obtain ⟨xs, g1, g2, g3⟩ := hc i hi
      obtain ⟨z, rfl, _⟩ := g3
      have := g2 0 (by decide)
      refine ⟨z, ?_⟩
      rw [show ((a.add (i * 1)).add 0) = a.add i by rw [Nat.mul_one]; rfl] at this
      simpa using this
    subst h1
    refine ⟨_, l, rfl, hB, .inr ⟨a, cap, by simp, by simpa using hmc, fun hcap => hsp _ rfl hcap (by decide), fun j q hq => ?_⟩⟩
    rw [List.getElem?_map] at hq
    cases hz : l[j]? with
    | none => rw [hz] at hq; cases hq
    | some z =>
      rw [hz] at hq
      cases hq
      exact h2 j z hz
theorem ro_ints {W : World} {v : Value} {l : List Int} (h : FSl W v (l.map (Value.int .i64))) (h0 : 0 < W.heap.size) :
    ∃ L : SX.Loc, (∀ b, L.dom b ↔ b = L.blk) ∧ L.blk < W.heap.size ∧ slOk L 1 0 l.length v ∧ (∃ a m d, v = .slice a m d) ∧ (⟨.ro, 3, 1, 0, its l⟩ : Chunk).mem W L (l.map (Value.int .i64)) := by
  have := ro_loc h h0 3 (its l)
  simpa using this
theorem fit_nsec {W : World} {B : Nat} {v : Value} (h : FitV TT W B 62 v) : ∃ (s : ByteArray) (sv : Value) (l : List Int), v = .agg #[.string s, sv] ∧ s.size ≤ B ∧ l.length ≤ B ∧ FSl W sv (l.map (Value.int .i64)) := by
  obtain ⟨cs, hf, rfl⟩ := h
  obtain ⟨hl, h1, h2, _⟩ := hf
  match cs, hl with
  | [x0, x1], _ =>
    obtain ⟨s, e1, hs⟩ := h1
    obtain ⟨sv, l, e2, h3, h4⟩ := fit_ints h2
    simp at e1 e2
    subst e1 e2
    exact ⟨s, _, l, rfl, hs, h3, h4⟩
theorem fit_nsec3 {W : World} {B : Nat} {v : Value} (h : FitV TT W B 68 v) : ∃ (x0 x1 x2 : Int) (s t : ByteArray) (sv : Value) (l : List Int), v = .agg #[.int .i64 x0, .int .i64 x1, .int .i64 x2, .string s, .string t, sv] ∧ s.size ≤ B ∧ t.size ≤ B ∧ l.length ≤ B ∧ FSl W sv (l.map (Value.int .i64)) := by
  obtain ⟨cs, hf, rfl⟩ := h
  obtain ⟨hl, h1, h2, h3, h4, h5, h6, _⟩ := hf
  match cs, hl with
  | [y0, y1, y2, y3, y4, y5], _ =>
    obtain ⟨x0, e1, _⟩ := h1
    obtain ⟨x1, e2, _⟩ := h2
    obtain ⟨x2, e3, _⟩ := h3
    obtain ⟨s, e4, hs⟩ := h4
    obtain ⟨t, e5, ht⟩ := h5
    obtain ⟨sv, l, e6, h7, h8⟩ := fit_ints h6
    simp at e1 e2 e3 e4 e5 e6
    subst e1 e2 e3 e4 e5 e6
    exact ⟨x0, x1, x2, s, t, _, l, rfl, hs, ht, h7, h8⟩
theorem heap_pos {u2 v2 u3 v3} {W : World} (h : IC u2 v2 u3 v3 W) : 0 < W.heap.size := by
  have h1 := h.b
  unfold Lib.TabIs World.var? at h1
  rcases Nat.eq_zero_or_pos W.heap.size with h0 | h0
  · exfalso
    have hg : Tryz.prog.globalNamed "internal/strconv.uint64pow10" = some 2 := by kernel_rfl
    rw [hg] at h1
    simp [Array.size_eq_zero_iff.1 h0] at h1
  · exact h0
end Go.Proofs.YtbladfkakmdigaaGreatDoor
set_option maxRecDepth 100000
set_option linter.unusedVariables false
namespace Go.Proofs.YtbladfkakmdigaaGreatDoor
open Go.SX
namespace dataDenials
def inv (W : World) : Prop := ∃ u2 v2 u3 v3, IC u2 v2 u3 v3 W
theorem inv_of {W : World} (h : laidMet Tryz.prog Rows.dataDenialsUptoRow.laid W) (_ : W.ShapedOpen Tryz.prog) : inv W :=
  ic_of h (List.mem_of_getElem? (i := 2) (by kernel_rfl)) (List.mem_of_getElem? (i := 1) (by kernel_rfl)) (List.mem_of_getElem? (i := 5) rfl) (List.mem_of_getElem? (i := 4) rfl)
theorem returns (W : World) (args : Array Value) (hI : inv W) (hF : FitAll TT W 1048576 Tryz.f7.params.toList args.toList) : Ret Tryz.prog 7 args.toList W (.bool true) := by
  obtain ⟨u2, v2, u3, v3, hI⟩ := hI
  rw [show Tryz.f7.params.toList = [62, 68] by kernel_rfl] at hF
  generalize args.toList = l at hF
  obtain ⟨a, l, rfl, ha, hF⟩ := fitAll_cons hF
  obtain ⟨b, l, rfl, hb, hF⟩ := fitAll_cons hF
  obtain rfl := fitAll_nil hF
  obtain ⟨x, sa, la, rfl, hx, hla, hfa⟩ := fit_nsec ha
  obtain ⟨x0, x1, x2, x3, x4, sb, lb, rfl, h3, h4, hlb, hfb⟩ := fit_nsec3 hb
  obtain ⟨L1, p1, p2, p3, p4, p5⟩ := ro_ints hfa (heap_pos hI)
  obtain ⟨L2, q1, q2, q3, q4, q5⟩ := ro_ints hfb (heap_pos hI)
  refine Con.retF (den_con x la x0 x1 x2 x3 x4 lb (by omega) (by omega) (by omega) (by omega) (by omega)) (fun _ _ => rfl) (fun _ h => h) (fun w' hm => hI.mod hm) (fun c => match c with | 0 => L1 | _ => L2) ?_ ?_
  · intro c k hk
    match c with
    | 0 =>
      obtain rfl := Option.some.inj hk.symm
      exact ⟨rfl, ⟨_, by rw [its_vals]; exact relL_vals _, p5⟩, p1, p2⟩
    | 1 =>
      obtain rfl := Option.some.inj hk.symm
      exact ⟨rfl, ⟨_, by rw [its_vals]; exact relL_vals _, q5⟩, q1, q2⟩
    | c + 2 => simp [dnH, getO, getO_nil] at hk
  · refine ⟨⟨_, rfl, rfl, ⟨0, rfl, Nat.le_refl _, fun _ => p3, p4⟩, trivial⟩, ⟨_, rfl, rfl, rfl, rfl, rfl, rfl, ⟨0, rfl, Nat.le_refl _, fun _ => q3, q4⟩, trivial⟩, trivial⟩
end dataDenials
end Go.Proofs.YtbladfkakmdigaaGreatDoor
