/-
  AclTexts: whatever the address and the text (of at most 1048576 bytes), the statement's function hands back true.
-/
import Derived.Test.YtopadpgpmkkpgaaGreatDoorTextsa
import Derived.Test.YtopadpgpmkkpgaaGreatDoorSxb
set_option linter.unusedVariables false
set_option linter.unusedSimpArgs false
set_option linter.unnecessarySimpa false
set_option maxRecDepth 100000
namespace Go.Proofs.YtopadpgpmkkpgaaGreatDoor
open Go.SX
def stepU (v6 : Bool) (a : Int × Int) (k : Int) : Int × Int := if v6 then (orU (shlU 65536 a.1) (a.2 / 281474976710656), orU (shlU 65536 a.2) k) else (orU (shlU 256 a.1) (a.2 / 72057594037927936), orU (shlU 256 a.2) k)
def candU (v6 : Bool) (ks : List Int) : Int × Int := ks.foldl (stepU v6) (0, 0)
def noV : Value := .tuple #[.agg #[.bool false, .int .u64 0, .int .u64 0], .int .i64 7]
def addrV (v6 : Bool) (hi lo : Int) : Value := .tuple #[.agg #[.bool v6, .int .u64 hi, .int .u64 lo], .int .i64 0]
/-- What is known of the world where a text is read. -/
structure IP (u2 : TypeId) (v2 : Value) (u3 : TypeId) (v3 : Value) (w : World) : Prop where
  t : I13 w
  e : IE u2 v2 u3 v3 w
  m : IM w
theorem IP.mod {u2 v2 u3 v3} {w w' : World} (h : IP u2 v2 u3 v3 w) (hm : Mod w w' fun _ => False) : IP u2 v2 u3 v3 w' := ⟨h.t.mod hm, h.e.mod hm, h.m.mod hm⟩
theorem orU_range (a b : Int) : 0 ≤ orU a b ∧ orU a b ≤ 18446744073709551615 := wrapu _
theorem gr6 (w : World) : Ret Tryz.prog 14 [.bool true] w (.tuple #[.int .i64 8, .int .i64 16, .int .i64 16, .string ⟨#[58]⟩]) := groups_ret true w
theorem gr4 (w : World) : Ret Tryz.prog 14 [.bool false] w (.tuple #[.int .i64 4, .int .i64 8, .int .i64 10, .string ⟨#[46]⟩]) := groups_ret false w
/-- Another number of parts. -/
theorem parse_many (s : ByteArray) (hs : s.size < 4294967281) {u2 v2 u3 v3} (w : World) (hI : IP u2 v2 u3 v3 w) (v6 : Bool) (hv : has58 s = v6) (hn : (parts v6 s).length ≠ many v6) : Ret Tryz.prog 7 [.string s] w noV := by
  have h27 : ∀ w, Ret Tryz.prog 19 [.string s, .string ⟨#[58]⟩] w (.bool v6) := fun w => hv ▸ has_ret s w
  obtain ⟨ps, hps⟩ : ∃ ps, parts v6 s = ps := ⟨_, rfl⟩
  rw [hps] at hn
  have h28 := fun w hw => split_row v6 s hs ps hps w hw
  generalize hl : ps.length = n at hn h28
  clear hv
  have hc : v6 = true ∨ v6 = false := by cases v6 <;> simp
  rcases hc with rfl | rfl
  all_goals simp only [many, if_true, Bool.false_eq_true, if_false] at hn
  all_goals refine Ret.tj (I := IP u2 v2 u3 v3) (fun w' hm => hI.mod hm) (TTok 0 _) Tryz.func7 (by kernel_rfl) rfl ?_
  all_goals repeat' (
    (conv => whnf)
    first
      | (with_reducible first
          | refine TJ.seq ?_
          | refine TJ.region (TTok _ _) ?_
          | refine TJ.drawn (TTok _ _) mixed ?_
          | refine TJ.cond rfl ?_
          | refine TJ.block ?_
          | refine TJ.loop ?_
          | refine LJ.step ?_
          | refine TJ.ret ?_
          | refine TJ.exit ?_
          | refine TJ.skip ?_
          | refine TJ.scope ?_
          | refine TJ.label ?_
          | refine Br.cond_t ?_
          | refine Br.cond_f ?_
          | refine Br.yes (by first | decide | assumption | (apply decide_eq_true; omega)) ?_
          | refine Br.non (by first | decide | assumption | (apply decide_eq_false; omega)) ?_
          | refine Br.cond_ff ?_
          | refine Br.eqT (by omega) ?_
          | refine Br.eqF (by omega) ?_
          | refine Br.neT (by omega) ?_
          | refine Br.neF (by omega) ?_
          | refine Ld.mk' _ rfl ?_
          | refine Need.mk (by first | decide | omega | kernel_rfl) ?_
          | refine Nm.i64 (by omega) ?_
          | refine Nm.u64 (by omega) ?_
          | refine Nm.u8 (by omega) ?_
          | refine x_ret (f := 19) rfl rfl (fun w _ => h27 w) ?_
          | refine x_ret (f := 14) rfl rfl (fun w _ => gr6 w) ?_
          | refine x_ret (f := 14) rfl rfl (fun w _ => gr4 w) ?_
          | refine x_row (f := 20) (d := 2) rfl rfl (fun w hw => h28 w hw.m) rfl ?_))
  all_goals (conv => whnf)
  all_goals rfl
set_option maxHeartbeats 8000000 in
theorem parse6_0 (s : ByteArray) {u2 v2 u3 v3} (w : World) (hI : IP u2 v2 u3 v3 w) (p0 p1 p2 p3 p4 p5 p6 p7 : ByteArray) (h27 : ∀ w, Ret Tryz.prog 19 [.string s, .string ⟨#[58]⟩] w (.bool true))
    (h28 : ∀ w, IM w → RetRow Tryz.prog 20 [.string s, .string (sepS true)] w 9 1 8 ([p0, p1, p2, p3, p4, p5, p6, p7].map Value.string))   (x : Int) (g0 : ∀ w, IE u2 v2 u3 v3 w → RetA Tryz.prog 21 [.string p0, .int .i64 16, .int .i64 16] w (.tup [.v (.int .u64 x), .ifc 138 .dead])) : Ret Tryz.prog 7 [.string s] w noV := by
  refine Ret.tj (I := IP u2 v2 u3 v3) (fun w' hm => hI.mod hm) (TTok 0 _) Tryz.func7 (by kernel_rfl) rfl ?_
  repeat' (
    (conv => whnf)
    first
      | (with_reducible first
          | refine TJ.seq ?_
          | refine TJ.region (TTok _ _) ?_
          | refine TJ.drawn (TTok _ _) mixed ?_
          | refine TJ.cond rfl ?_
          | refine TJ.block ?_
          | refine TJ.loop ?_
          | refine LJ.step ?_
          | refine TJ.ret ?_
          | refine TJ.exit ?_
          | refine TJ.skip ?_
          | refine TJ.scope ?_
          | refine TJ.label ?_
          | refine Br.cond_t ?_
          | refine Br.cond_f ?_
          | refine Br.yes (by first | decide | assumption | (apply decide_eq_true; omega)) ?_
          | refine Br.non (by first | decide | assumption | (apply decide_eq_false; omega)) ?_
          | refine Br.cond_ff ?_
          | refine Br.eqT (by omega) ?_
          | refine Br.eqF (by omega) ?_
          | refine Br.neT (by omega) ?_
          | refine Br.neF (by omega) ?_
          | refine Br.ndec (fun hc => ?_) (fun hc => ?_)
          | refine Nm.shlU ?_
          | refine Nm.orU ?_
          | refine Ld.mk' _ rfl ?_
          | refine Need.mk (by first | decide | omega | kernel_rfl) ?_
          | refine Nm.i64 (by omega) ?_
          | refine Nm.u64 (by omega) ?_
          | refine Nm.u8 (by omega) ?_
          | refine Sh.shrL ?_
          | refine Sh.shlL ?_
          | refine Nm.fd (by decide) ?_
          | refine x_ret (f := 19) rfl rfl (fun w _ => h27 w) ?_
          | refine x_ret (f := 14) rfl rfl (fun w _ => gr6 w) ?_
          | refine x_row (f := 20) (d := 2) rfl rfl (fun w hw => h28 w hw.m) rfl ?_
          | refine x_retA (f := 21) rfl rfl (fun w hw => g0 w hw.e) ?_
          | refine x_ne_ifc (TTok _ _) .neq (.inr rfl) rfl rfl rfl rfl ?_)
      | refine x_exq (TTok _ _) ?_)
  all_goals (conv => whnf)
  all_goals rfl
set_option maxHeartbeats 8000000 in
theorem parse6_1 (s : ByteArray) {u2 v2 u3 v3} (w : World) (hI : IP u2 v2 u3 v3 w) (p0 p1 p2 p3 p4 p5 p6 p7 : ByteArray) (h27 : ∀ w, Ret Tryz.prog 19 [.string s, .string ⟨#[58]⟩] w (.bool true))
    (h28 : ∀ w, IM w → RetRow Tryz.prog 20 [.string s, .string (sepS true)] w 9 1 8 ([p0, p1, p2, p3, p4, p5, p6, p7].map Value.string)) (k0 : Int) (g0 : ∀ w, Ret Tryz.prog 21 [.string p0, .int .i64 16, .int .i64 16] w (goodV k0)) (x : Int) (g1 : ∀ w, IE u2 v2 u3 v3 w → RetA Tryz.prog 21 [.string p1, .int .i64 16, .int .i64 16] w (.tup [.v (.int .u64 x), .ifc 138 .dead])) : Ret Tryz.prog 7 [.string s] w noV := by
  refine Ret.tj (I := IP u2 v2 u3 v3) (fun w' hm => hI.mod hm) (TTok 0 _) Tryz.func7 (by kernel_rfl) rfl ?_
  repeat' (
    (conv => whnf)
    first
      | (with_reducible first
          | refine TJ.seq ?_
          | refine TJ.region (TTok _ _) ?_
          | refine TJ.drawn (TTok _ _) mixed ?_
          | refine TJ.cond rfl ?_
          | refine TJ.block ?_
          | refine TJ.loop ?_
          | refine LJ.step ?_
          | refine TJ.ret ?_
          | refine TJ.exit ?_
          | refine TJ.skip ?_
          | refine TJ.scope ?_
          | refine TJ.label ?_
          | refine Br.cond_t ?_
          | refine Br.cond_f ?_
          | refine Br.yes (by first | decide | assumption | (apply decide_eq_true; omega)) ?_
          | refine Br.non (by first | decide | assumption | (apply decide_eq_false; omega)) ?_
          | refine Br.cond_ff ?_
          | refine Br.eqT (by omega) ?_
          | refine Br.eqF (by omega) ?_
          | refine Br.neT (by omega) ?_
          | refine Br.neF (by omega) ?_
          | refine Br.ndec (fun hc => ?_) (fun hc => ?_)
          | refine Nm.shlU ?_
          | refine Nm.orU ?_
          | refine Ld.mk' _ rfl ?_
          | refine Need.mk (by first | decide | omega | kernel_rfl) ?_
          | refine Nm.i64 (by omega) ?_
          | refine Nm.u64 (by omega) ?_
          | refine Nm.u8 (by omega) ?_
          | refine Sh.shrL ?_
          | refine Sh.shlL ?_
          | refine Nm.fd (by decide) ?_
          | refine x_ret (f := 19) rfl rfl (fun w _ => h27 w) ?_
          | refine x_ret (f := 14) rfl rfl (fun w _ => gr6 w) ?_
          | refine x_row (f := 20) (d := 2) rfl rfl (fun w hw => h28 w hw.m) rfl ?_
          | refine x_ret (f := 21) rfl rfl (fun w _ => g0 w) ?_
          | refine x_retA (f := 21) rfl rfl (fun w hw => g1 w hw.e) ?_
          | refine x_ne_ifc (TTok _ _) .neq (.inr rfl) rfl rfl rfl rfl ?_)
      | refine x_exq (TTok _ _) ?_)
  all_goals (conv => whnf)
  all_goals rfl
set_option maxHeartbeats 8000000 in
theorem parse6_2 (s : ByteArray) {u2 v2 u3 v3} (w : World) (hI : IP u2 v2 u3 v3 w) (p0 p1 p2 p3 p4 p5 p6 p7 : ByteArray) (h27 : ∀ w, Ret Tryz.prog 19 [.string s, .string ⟨#[58]⟩] w (.bool true))
    (h28 : ∀ w, IM w → RetRow Tryz.prog 20 [.string s, .string (sepS true)] w 9 1 8 ([p0, p1, p2, p3, p4, p5, p6, p7].map Value.string)) (k0 k1 : Int) (g0 : ∀ w, Ret Tryz.prog 21 [.string p0, .int .i64 16, .int .i64 16] w (goodV k0)) (g1 : ∀ w, Ret Tryz.prog 21 [.string p1, .int .i64 16, .int .i64 16] w (goodV k1)) (x : Int) (g2 : ∀ w, IE u2 v2 u3 v3 w → RetA Tryz.prog 21 [.string p2, .int .i64 16, .int .i64 16] w (.tup [.v (.int .u64 x), .ifc 138 .dead])) : Ret Tryz.prog 7 [.string s] w noV := by
  refine Ret.tj (I := IP u2 v2 u3 v3) (fun w' hm => hI.mod hm) (TTok 0 _) Tryz.func7 (by kernel_rfl) rfl ?_
  repeat' (
    (conv => whnf)
    first
      | (with_reducible first
          | refine TJ.seq ?_
          | refine TJ.region (TTok _ _) ?_
          | refine TJ.drawn (TTok _ _) mixed ?_
          | refine TJ.cond rfl ?_
          | refine TJ.block ?_
          | refine TJ.loop ?_
          | refine LJ.step ?_
          | refine TJ.ret ?_
          | refine TJ.exit ?_
          | refine TJ.skip ?_
          | refine TJ.scope ?_
          | refine TJ.label ?_
          | refine Br.cond_t ?_
          | refine Br.cond_f ?_
          | refine Br.yes (by first | decide | assumption | (apply decide_eq_true; omega)) ?_
          | refine Br.non (by first | decide | assumption | (apply decide_eq_false; omega)) ?_
          | refine Br.cond_ff ?_
          | refine Br.eqT (by omega) ?_
          | refine Br.eqF (by omega) ?_
          | refine Br.neT (by omega) ?_
          | refine Br.neF (by omega) ?_
          | refine Br.ndec (fun hc => ?_) (fun hc => ?_)
          | refine Nm.shlU ?_
          | refine Nm.orU ?_
          | refine Ld.mk' _ rfl ?_
          | refine Need.mk (by first | decide | omega | kernel_rfl) ?_
          | refine Nm.i64 (by omega) ?_
          | refine Nm.u64 (by omega) ?_
          | refine Nm.u8 (by omega) ?_
          | refine Sh.shrL ?_
          | refine Sh.shlL ?_
          | refine Nm.fd (by decide) ?_
          | refine x_ret (f := 19) rfl rfl (fun w _ => h27 w) ?_
          | refine x_ret (f := 14) rfl rfl (fun w _ => gr6 w) ?_
          | refine x_row (f := 20) (d := 2) rfl rfl (fun w hw => h28 w hw.m) rfl ?_
          | refine x_ret (f := 21) rfl rfl (fun w _ => g0 w) ?_
          | refine x_ret (f := 21) rfl rfl (fun w _ => g1 w) ?_
          | refine x_retA (f := 21) rfl rfl (fun w hw => g2 w hw.e) ?_
          | refine x_ne_ifc (TTok _ _) .neq (.inr rfl) rfl rfl rfl rfl ?_)
      | refine x_exq (TTok _ _) ?_)
  all_goals (conv => whnf)
  all_goals rfl
set_option maxHeartbeats 8000000 in
theorem parse6_3 (s : ByteArray) {u2 v2 u3 v3} (w : World) (hI : IP u2 v2 u3 v3 w) (p0 p1 p2 p3 p4 p5 p6 p7 : ByteArray) (h27 : ∀ w, Ret Tryz.prog 19 [.string s, .string ⟨#[58]⟩] w (.bool true))
    (h28 : ∀ w, IM w → RetRow Tryz.prog 20 [.string s, .string (sepS true)] w 9 1 8 ([p0, p1, p2, p3, p4, p5, p6, p7].map Value.string)) (k0 k1 k2 : Int) (g0 : ∀ w, Ret Tryz.prog 21 [.string p0, .int .i64 16, .int .i64 16] w (goodV k0)) (g1 : ∀ w, Ret Tryz.prog 21 [.string p1, .int .i64 16, .int .i64 16] w (goodV k1)) (g2 : ∀ w, Ret Tryz.prog 21 [.string p2, .int .i64 16, .int .i64 16] w (goodV k2)) (x : Int) (g3 : ∀ w, IE u2 v2 u3 v3 w → RetA Tryz.prog 21 [.string p3, .int .i64 16, .int .i64 16] w (.tup [.v (.int .u64 x), .ifc 138 .dead])) : Ret Tryz.prog 7 [.string s] w noV := by
  refine Ret.tj (I := IP u2 v2 u3 v3) (fun w' hm => hI.mod hm) (TTok 0 _) Tryz.func7 (by kernel_rfl) rfl ?_
  repeat' (
    (conv => whnf)
    first
      | (with_reducible first
          | refine TJ.seq ?_
          | refine TJ.region (TTok _ _) ?_
          | refine TJ.drawn (TTok _ _) mixed ?_
          | refine TJ.cond rfl ?_
          | refine TJ.block ?_
          | refine TJ.loop ?_
          | refine LJ.step ?_
          | refine TJ.ret ?_
          | refine TJ.exit ?_
          | refine TJ.skip ?_
          | refine TJ.scope ?_
          | refine TJ.label ?_
          | refine Br.cond_t ?_
          | refine Br.cond_f ?_
          | refine Br.yes (by first | decide | assumption | (apply decide_eq_true; omega)) ?_
          | refine Br.non (by first | decide | assumption | (apply decide_eq_false; omega)) ?_
          | refine Br.cond_ff ?_
          | refine Br.eqT (by omega) ?_
          | refine Br.eqF (by omega) ?_
          | refine Br.neT (by omega) ?_
          | refine Br.neF (by omega) ?_
          | refine Br.ndec (fun hc => ?_) (fun hc => ?_)
          | refine Nm.shlU ?_
          | refine Nm.orU ?_
          | refine Ld.mk' _ rfl ?_
          | refine Need.mk (by first | decide | omega | kernel_rfl) ?_
          | refine Nm.i64 (by omega) ?_
          | refine Nm.u64 (by omega) ?_
          | refine Nm.u8 (by omega) ?_
          | refine Sh.shrL ?_
          | refine Sh.shlL ?_
          | refine Nm.fd (by decide) ?_
          | refine x_ret (f := 19) rfl rfl (fun w _ => h27 w) ?_
          | refine x_ret (f := 14) rfl rfl (fun w _ => gr6 w) ?_
          | refine x_row (f := 20) (d := 2) rfl rfl (fun w hw => h28 w hw.m) rfl ?_
          | refine x_ret (f := 21) rfl rfl (fun w _ => g0 w) ?_
          | refine x_ret (f := 21) rfl rfl (fun w _ => g1 w) ?_
          | refine x_ret (f := 21) rfl rfl (fun w _ => g2 w) ?_
          | refine x_retA (f := 21) rfl rfl (fun w hw => g3 w hw.e) ?_
          | refine x_ne_ifc (TTok _ _) .neq (.inr rfl) rfl rfl rfl rfl ?_)
      | refine x_exq (TTok _ _) ?_)
  all_goals (conv => whnf)
  all_goals rfl
set_option maxHeartbeats 8000000 in
theorem parse6_4 (s : ByteArray) {u2 v2 u3 v3} (w : World) (hI : IP u2 v2 u3 v3 w) (p0 p1 p2 p3 p4 p5 p6 p7 : ByteArray) (h27 : ∀ w, Ret Tryz.prog 19 [.string s, .string ⟨#[58]⟩] w (.bool true))
    (h28 : ∀ w, IM w → RetRow Tryz.prog 20 [.string s, .string (sepS true)] w 9 1 8 ([p0, p1, p2, p3, p4, p5, p6, p7].map Value.string)) (k0 k1 k2 k3 : Int) (g0 : ∀ w, Ret Tryz.prog 21 [.string p0, .int .i64 16, .int .i64 16] w (goodV k0)) (g1 : ∀ w, Ret Tryz.prog 21 [.string p1, .int .i64 16, .int .i64 16] w (goodV k1)) (g2 : ∀ w, Ret Tryz.prog 21 [.string p2, .int .i64 16, .int .i64 16] w (goodV k2)) (g3 : ∀ w, Ret Tryz.prog 21 [.string p3, .int .i64 16, .int .i64 16] w (goodV k3)) (x : Int) (g4 : ∀ w, IE u2 v2 u3 v3 w → RetA Tryz.prog 21 [.string p4, .int .i64 16, .int .i64 16] w (.tup [.v (.int .u64 x), .ifc 138 .dead])) : Ret Tryz.prog 7 [.string s] w noV := by
  refine Ret.tj (I := IP u2 v2 u3 v3) (fun w' hm => hI.mod hm) (TTok 0 _) Tryz.func7 (by kernel_rfl) rfl ?_
  repeat' (
    (conv => whnf)
    first
      | (with_reducible first
          | refine TJ.seq ?_
          | refine TJ.region (TTok _ _) ?_
          | refine TJ.drawn (TTok _ _) mixed ?_
          | refine TJ.cond rfl ?_
          | refine TJ.block ?_
          | refine TJ.loop ?_
          | refine LJ.step ?_
          | refine TJ.ret ?_
          | refine TJ.exit ?_
          | refine TJ.skip ?_
          | refine TJ.scope ?_
          | refine TJ.label ?_
          | refine Br.cond_t ?_
          | refine Br.cond_f ?_
          | refine Br.yes (by first | decide | assumption | (apply decide_eq_true; omega)) ?_
          | refine Br.non (by first | decide | assumption | (apply decide_eq_false; omega)) ?_
          | refine Br.cond_ff ?_
          | refine Br.eqT (by omega) ?_
          | refine Br.eqF (by omega) ?_
          | refine Br.neT (by omega) ?_
          | refine Br.neF (by omega) ?_
          | refine Br.ndec (fun hc => ?_) (fun hc => ?_)
          | refine Nm.shlU ?_
          | refine Nm.orU ?_
          | refine Ld.mk' _ rfl ?_
          | refine Need.mk (by first | decide | omega | kernel_rfl) ?_
          | refine Nm.i64 (by omega) ?_
          | refine Nm.u64 (by omega) ?_
          | refine Nm.u8 (by omega) ?_
          | refine Sh.shrL ?_
          | refine Sh.shlL ?_
          | refine Nm.fd (by decide) ?_
          | refine x_ret (f := 19) rfl rfl (fun w _ => h27 w) ?_
          | refine x_ret (f := 14) rfl rfl (fun w _ => gr6 w) ?_
          | refine x_row (f := 20) (d := 2) rfl rfl (fun w hw => h28 w hw.m) rfl ?_
          | refine x_ret (f := 21) rfl rfl (fun w _ => g0 w) ?_
          | refine x_ret (f := 21) rfl rfl (fun w _ => g1 w) ?_
          | refine x_ret (f := 21) rfl rfl (fun w _ => g2 w) ?_
          | refine x_ret (f := 21) rfl rfl (fun w _ => g3 w) ?_
          | refine x_retA (f := 21) rfl rfl (fun w hw => g4 w hw.e) ?_
          | refine x_ne_ifc (TTok _ _) .neq (.inr rfl) rfl rfl rfl rfl ?_)
      | refine x_exq (TTok _ _) ?_)
  all_goals (conv => whnf)
  all_goals rfl
set_option maxHeartbeats 8000000 in
theorem parse6_5 (s : ByteArray) {u2 v2 u3 v3} (w : World) (hI : IP u2 v2 u3 v3 w) (p0 p1 p2 p3 p4 p5 p6 p7 : ByteArray) (h27 : ∀ w, Ret Tryz.prog 19 [.string s, .string ⟨#[58]⟩] w (.bool true))
    (h28 : ∀ w, IM w → RetRow Tryz.prog 20 [.string s, .string (sepS true)] w 9 1 8 ([p0, p1, p2, p3, p4, p5, p6, p7].map Value.string)) (k0 k1 k2 k3 k4 : Int) (g0 : ∀ w, Ret Tryz.prog 21 [.string p0, .int .i64 16, .int .i64 16] w (goodV k0)) (g1 : ∀ w, Ret Tryz.prog 21 [.string p1, .int .i64 16, .int .i64 16] w (goodV k1)) (g2 : ∀ w, Ret Tryz.prog 21 [.string p2, .int .i64 16, .int .i64 16] w (goodV k2)) (g3 : ∀ w, Ret Tryz.prog 21 [.string p3, .int .i64 16, .int .i64 16] w (goodV k3)) (g4 : ∀ w, Ret Tryz.prog 21 [.string p4, .int .i64 16, .int .i64 16] w (goodV k4)) (x : Int) (g5 : ∀ w, IE u2 v2 u3 v3 w → RetA Tryz.prog 21 [.string p5, .int .i64 16, .int .i64 16] w (.tup [.v (.int .u64 x), .ifc 138 .dead])) : Ret Tryz.prog 7 [.string s] w noV := by
  refine Ret.tj (I := IP u2 v2 u3 v3) (fun w' hm => hI.mod hm) (TTok 0 _) Tryz.func7 (by kernel_rfl) rfl ?_
  repeat' (
    (conv => whnf)
    first
      | (with_reducible first
          | refine TJ.seq ?_
          | refine TJ.region (TTok _ _) ?_
          | refine TJ.drawn (TTok _ _) mixed ?_
          | refine TJ.cond rfl ?_
          | refine TJ.block ?_
          | refine TJ.loop ?_
          | refine LJ.step ?_
          | refine TJ.ret ?_
          | refine TJ.exit ?_
          | refine TJ.skip ?_
          | refine TJ.scope ?_
          | refine TJ.label ?_
          | refine Br.cond_t ?_
          | refine Br.cond_f ?_
          | refine Br.yes (by first | decide | assumption | (apply decide_eq_true; omega)) ?_
          | refine Br.non (by first | decide | assumption | (apply decide_eq_false; omega)) ?_
          | refine Br.cond_ff ?_
          | refine Br.eqT (by omega) ?_
          | refine Br.eqF (by omega) ?_
          | refine Br.neT (by omega) ?_
          | refine Br.neF (by omega) ?_
          | refine Br.ndec (fun hc => ?_) (fun hc => ?_)
          | refine Nm.shlU ?_
          | refine Nm.orU ?_
          | refine Ld.mk' _ rfl ?_
          | refine Need.mk (by first | decide | omega | kernel_rfl) ?_
          | refine Nm.i64 (by omega) ?_
          | refine Nm.u64 (by omega) ?_
          | refine Nm.u8 (by omega) ?_
          | refine Sh.shrL ?_
          | refine Sh.shlL ?_
          | refine Nm.fd (by decide) ?_
          | refine x_ret (f := 19) rfl rfl (fun w _ => h27 w) ?_
          | refine x_ret (f := 14) rfl rfl (fun w _ => gr6 w) ?_
          | refine x_row (f := 20) (d := 2) rfl rfl (fun w hw => h28 w hw.m) rfl ?_
          | refine x_ret (f := 21) rfl rfl (fun w _ => g0 w) ?_
          | refine x_ret (f := 21) rfl rfl (fun w _ => g1 w) ?_
          | refine x_ret (f := 21) rfl rfl (fun w _ => g2 w) ?_
          | refine x_ret (f := 21) rfl rfl (fun w _ => g3 w) ?_
          | refine x_ret (f := 21) rfl rfl (fun w _ => g4 w) ?_
          | refine x_retA (f := 21) rfl rfl (fun w hw => g5 w hw.e) ?_
          | refine x_ne_ifc (TTok _ _) .neq (.inr rfl) rfl rfl rfl rfl ?_)
      | refine x_exq (TTok _ _) ?_)
  all_goals (conv => whnf)
  all_goals rfl
set_option maxHeartbeats 8000000 in
theorem parse6_6 (s : ByteArray) {u2 v2 u3 v3} (w : World) (hI : IP u2 v2 u3 v3 w) (p0 p1 p2 p3 p4 p5 p6 p7 : ByteArray) (h27 : ∀ w, Ret Tryz.prog 19 [.string s, .string ⟨#[58]⟩] w (.bool true))
    (h28 : ∀ w, IM w → RetRow Tryz.prog 20 [.string s, .string (sepS true)] w 9 1 8 ([p0, p1, p2, p3, p4, p5, p6, p7].map Value.string)) (k0 k1 k2 k3 k4 k5 : Int) (g0 : ∀ w, Ret Tryz.prog 21 [.string p0, .int .i64 16, .int .i64 16] w (goodV k0)) (g1 : ∀ w, Ret Tryz.prog 21 [.string p1, .int .i64 16, .int .i64 16] w (goodV k1)) (g2 : ∀ w, Ret Tryz.prog 21 [.string p2, .int .i64 16, .int .i64 16] w (goodV k2)) (g3 : ∀ w, Ret Tryz.prog 21 [.string p3, .int .i64 16, .int .i64 16] w (goodV k3)) (g4 : ∀ w, Ret Tryz.prog 21 [.string p4, .int .i64 16, .int .i64 16] w (goodV k4)) (g5 : ∀ w, Ret Tryz.prog 21 [.string p5, .int .i64 16, .int .i64 16] w (goodV k5)) (x : Int) (g6 : ∀ w, IE u2 v2 u3 v3 w → RetA Tryz.prog 21 [.string p6, .int .i64 16, .int .i64 16] w (.tup [.v (.int .u64 x), .ifc 138 .dead])) : Ret Tryz.prog 7 [.string s] w noV := by
  refine Ret.tj (I := IP u2 v2 u3 v3) (fun w' hm => hI.mod hm) (TTok 0 _) Tryz.func7 (by kernel_rfl) rfl ?_
  repeat' (
    (conv => whnf)
    first
      | (with_reducible first
          | refine TJ.seq ?_
          | refine TJ.region (TTok _ _) ?_
          | refine TJ.drawn (TTok _ _) mixed ?_
          | refine TJ.cond rfl ?_
          | refine TJ.block ?_
          | refine TJ.loop ?_
          | refine LJ.step ?_
          | refine TJ.ret ?_
          | refine TJ.exit ?_
          | refine TJ.skip ?_
          | refine TJ.scope ?_
          | refine TJ.label ?_
          | refine Br.cond_t ?_
          | refine Br.cond_f ?_
          | refine Br.yes (by first | decide | assumption | (apply decide_eq_true; omega)) ?_
          | refine Br.non (by first | decide | assumption | (apply decide_eq_false; omega)) ?_
          | refine Br.cond_ff ?_
          | refine Br.eqT (by omega) ?_
          | refine Br.eqF (by omega) ?_
          | refine Br.neT (by omega) ?_
          | refine Br.neF (by omega) ?_
          | refine Br.ndec (fun hc => ?_) (fun hc => ?_)
          | refine Nm.shlU ?_
          | refine Nm.orU ?_
          | refine Ld.mk' _ rfl ?_
          | refine Need.mk (by first | decide | omega | kernel_rfl) ?_
          | refine Nm.i64 (by omega) ?_
          | refine Nm.u64 (by omega) ?_
          | refine Nm.u8 (by omega) ?_
          | refine Sh.shrL ?_
          | refine Sh.shlL ?_
          | refine Nm.fd (by decide) ?_
          | refine x_ret (f := 19) rfl rfl (fun w _ => h27 w) ?_
          | refine x_ret (f := 14) rfl rfl (fun w _ => gr6 w) ?_
          | refine x_row (f := 20) (d := 2) rfl rfl (fun w hw => h28 w hw.m) rfl ?_
          | refine x_ret (f := 21) rfl rfl (fun w _ => g0 w) ?_
          | refine x_ret (f := 21) rfl rfl (fun w _ => g1 w) ?_
          | refine x_ret (f := 21) rfl rfl (fun w _ => g2 w) ?_
          | refine x_ret (f := 21) rfl rfl (fun w _ => g3 w) ?_
          | refine x_ret (f := 21) rfl rfl (fun w _ => g4 w) ?_
          | refine x_ret (f := 21) rfl rfl (fun w _ => g5 w) ?_
          | refine x_retA (f := 21) rfl rfl (fun w hw => g6 w hw.e) ?_
          | refine x_ne_ifc (TTok _ _) .neq (.inr rfl) rfl rfl rfl rfl ?_)
      | refine x_exq (TTok _ _) ?_)
  all_goals (conv => whnf)
  all_goals rfl
set_option maxHeartbeats 8000000 in
theorem parse6_7 (s : ByteArray) {u2 v2 u3 v3} (w : World) (hI : IP u2 v2 u3 v3 w) (p0 p1 p2 p3 p4 p5 p6 p7 : ByteArray) (h27 : ∀ w, Ret Tryz.prog 19 [.string s, .string ⟨#[58]⟩] w (.bool true))
    (h28 : ∀ w, IM w → RetRow Tryz.prog 20 [.string s, .string (sepS true)] w 9 1 8 ([p0, p1, p2, p3, p4, p5, p6, p7].map Value.string)) (k0 k1 k2 k3 k4 k5 k6 : Int) (g0 : ∀ w, Ret Tryz.prog 21 [.string p0, .int .i64 16, .int .i64 16] w (goodV k0)) (g1 : ∀ w, Ret Tryz.prog 21 [.string p1, .int .i64 16, .int .i64 16] w (goodV k1)) (g2 : ∀ w, Ret Tryz.prog 21 [.string p2, .int .i64 16, .int .i64 16] w (goodV k2)) (g3 : ∀ w, Ret Tryz.prog 21 [.string p3, .int .i64 16, .int .i64 16] w (goodV k3)) (g4 : ∀ w, Ret Tryz.prog 21 [.string p4, .int .i64 16, .int .i64 16] w (goodV k4)) (g5 : ∀ w, Ret Tryz.prog 21 [.string p5, .int .i64 16, .int .i64 16] w (goodV k5)) (g6 : ∀ w, Ret Tryz.prog 21 [.string p6, .int .i64 16, .int .i64 16] w (goodV k6)) (x : Int) (g7 : ∀ w, IE u2 v2 u3 v3 w → RetA Tryz.prog 21 [.string p7, .int .i64 16, .int .i64 16] w (.tup [.v (.int .u64 x), .ifc 138 .dead])) : Ret Tryz.prog 7 [.string s] w noV := by
  refine Ret.tj (I := IP u2 v2 u3 v3) (fun w' hm => hI.mod hm) (TTok 0 _) Tryz.func7 (by kernel_rfl) rfl ?_
  repeat' (
    (conv => whnf)
    first
      | (with_reducible first
          | refine TJ.seq ?_
          | refine TJ.region (TTok _ _) ?_
          | refine TJ.drawn (TTok _ _) mixed ?_
          | refine TJ.cond rfl ?_
          | refine TJ.block ?_
          | refine TJ.loop ?_
          | refine LJ.step ?_
          | refine TJ.ret ?_
          | refine TJ.exit ?_
          | refine TJ.skip ?_
          | refine TJ.scope ?_
          | refine TJ.label ?_
          | refine Br.cond_t ?_
          | refine Br.cond_f ?_
          | refine Br.yes (by first | decide | assumption | (apply decide_eq_true; omega)) ?_
          | refine Br.non (by first | decide | assumption | (apply decide_eq_false; omega)) ?_
          | refine Br.cond_ff ?_
          | refine Br.eqT (by omega) ?_
          | refine Br.eqF (by omega) ?_
          | refine Br.neT (by omega) ?_
          | refine Br.neF (by omega) ?_
          | refine Br.ndec (fun hc => ?_) (fun hc => ?_)
          | refine Nm.shlU ?_
          | refine Nm.orU ?_
          | refine Ld.mk' _ rfl ?_
          | refine Need.mk (by first | decide | omega | kernel_rfl) ?_
          | refine Nm.i64 (by omega) ?_
          | refine Nm.u64 (by omega) ?_
          | refine Nm.u8 (by omega) ?_
          | refine Sh.shrL ?_
          | refine Sh.shlL ?_
          | refine Nm.fd (by decide) ?_
          | refine x_ret (f := 19) rfl rfl (fun w _ => h27 w) ?_
          | refine x_ret (f := 14) rfl rfl (fun w _ => gr6 w) ?_
          | refine x_row (f := 20) (d := 2) rfl rfl (fun w hw => h28 w hw.m) rfl ?_
          | refine x_ret (f := 21) rfl rfl (fun w _ => g0 w) ?_
          | refine x_ret (f := 21) rfl rfl (fun w _ => g1 w) ?_
          | refine x_ret (f := 21) rfl rfl (fun w _ => g2 w) ?_
          | refine x_ret (f := 21) rfl rfl (fun w _ => g3 w) ?_
          | refine x_ret (f := 21) rfl rfl (fun w _ => g4 w) ?_
          | refine x_ret (f := 21) rfl rfl (fun w _ => g5 w) ?_
          | refine x_ret (f := 21) rfl rfl (fun w _ => g6 w) ?_
          | refine x_retA (f := 21) rfl rfl (fun w hw => g7 w hw.e) ?_
          | refine x_ne_ifc (TTok _ _) .neq (.inr rfl) rfl rfl rfl rfl ?_)
      | refine x_exq (TTok _ _) ?_)
  all_goals (conv => whnf)
  all_goals rfl
set_option maxHeartbeats 8000000 in
theorem parse6_8 (s : ByteArray) {u2 v2 u3 v3} (w : World) (hI : IP u2 v2 u3 v3 w) (p0 p1 p2 p3 p4 p5 p6 p7 : ByteArray) (h27 : ∀ w, Ret Tryz.prog 19 [.string s, .string ⟨#[58]⟩] w (.bool true))
    (h28 : ∀ w, IM w → RetRow Tryz.prog 20 [.string s, .string (sepS true)] w 9 1 8 ([p0, p1, p2, p3, p4, p5, p6, p7].map Value.string)) (k0 k1 k2 k3 k4 k5 k6 k7 : Int) (g0 : ∀ w, Ret Tryz.prog 21 [.string p0, .int .i64 16, .int .i64 16] w (goodV k0)) (g1 : ∀ w, Ret Tryz.prog 21 [.string p1, .int .i64 16, .int .i64 16] w (goodV k1)) (g2 : ∀ w, Ret Tryz.prog 21 [.string p2, .int .i64 16, .int .i64 16] w (goodV k2)) (g3 : ∀ w, Ret Tryz.prog 21 [.string p3, .int .i64 16, .int .i64 16] w (goodV k3)) (g4 : ∀ w, Ret Tryz.prog 21 [.string p4, .int .i64 16, .int .i64 16] w (goodV k4)) (g5 : ∀ w, Ret Tryz.prog 21 [.string p5, .int .i64 16, .int .i64 16] w (goodV k5)) (g6 : ∀ w, Ret Tryz.prog 21 [.string p6, .int .i64 16, .int .i64 16] w (goodV k6)) (g7 : ∀ w, Ret Tryz.prog 21 [.string p7, .int .i64 16, .int .i64 16] w (goodV k7)) (htx : ∀ w, I13 w → Ret Tryz.prog 5 [.agg #[.bool true, .int .u64 (candU true [k0, k1, k2, k3, k4, k5, k6, k7]).1, .int .u64 (candU true [k0, k1, k2, k3, k4, k5, k6, k7]).2]] w (.tuple #[.string (addrText true (candU true [k0, k1, k2, k3, k4, k5, k6, k7]).1 (candU true [k0, k1, k2, k3, k4, k5, k6, k7]).2), .int .i64 0])) : Ret Tryz.prog 7 [.string s] w (if addrText true (candU true [k0, k1, k2, k3, k4, k5, k6, k7]).1 (candU true [k0, k1, k2, k3, k4, k5, k6, k7]).2 = s then addrV true (candU true [k0, k1, k2, k3, k4, k5, k6, k7]).1 (candU true [k0, k1, k2, k3, k4, k5, k6, k7]).2 else noV) := by
  refine Ret.tj (I := IP u2 v2 u3 v3) (fun w' hm => hI.mod hm) (TTok 0 _) Tryz.func7 (by kernel_rfl) rfl ?_
  repeat' (
    (conv => whnf)
    first
      | (with_reducible first
          | refine TJ.seq ?_
          | refine TJ.region (TTok _ _) ?_
          | refine TJ.drawn (TTok _ _) mixed ?_
          | refine TJ.cond rfl ?_
          | refine TJ.block ?_
          | refine TJ.loop ?_
          | refine LJ.step ?_
          | refine TJ.ret ?_
          | refine TJ.exit ?_
          | refine TJ.skip ?_
          | refine TJ.scope ?_
          | refine TJ.label ?_
          | refine Br.cond_t ?_
          | refine Br.cond_f ?_
          | refine Br.yes (by first | decide | assumption | (apply decide_eq_true; omega)) ?_
          | refine Br.non (by first | decide | assumption | (apply decide_eq_false; omega)) ?_
          | refine Br.cond_ff ?_
          | refine Br.eqT (by omega) ?_
          | refine Br.eqF (by omega) ?_
          | refine Br.neT (by omega) ?_
          | refine Br.neF (by omega) ?_
          | refine Br.ndec (fun hc => ?_) (fun hc => ?_)
          | refine Nm.shlU ?_
          | refine Nm.orU ?_
          | refine Ld.mk' _ rfl ?_
          | refine Need.mk (by first | decide | omega | kernel_rfl) ?_
          | refine Nm.i64 (by omega) ?_
          | refine Nm.u64 (by omega) ?_
          | refine Nm.u8 (by omega) ?_
          | refine Sh.shrL ?_
          | refine Sh.shlL ?_
          | refine Nm.fd (by decide) ?_
          | refine x_ret (f := 19) rfl rfl (fun w _ => h27 w) ?_
          | refine x_ret (f := 14) rfl rfl (fun w _ => gr6 w) ?_
          | refine x_row (f := 20) (d := 2) rfl rfl (fun w hw => h28 w hw.m) rfl ?_
          | refine x_ret (f := 21) rfl rfl (fun w _ => g0 w) ?_
          | refine x_ret (f := 21) rfl rfl (fun w _ => g1 w) ?_
          | refine x_ret (f := 21) rfl rfl (fun w _ => g2 w) ?_
          | refine x_ret (f := 21) rfl rfl (fun w _ => g3 w) ?_
          | refine x_ret (f := 21) rfl rfl (fun w _ => g4 w) ?_
          | refine x_ret (f := 21) rfl rfl (fun w _ => g5 w) ?_
          | refine x_ret (f := 21) rfl rfl (fun w _ => g6 w) ?_
          | refine x_ret (f := 21) rfl rfl (fun w _ => g7 w) ?_
          | refine x_ret (f := 5) rfl rfl (fun w hw => htx w hw.t) ?_)
      | refine x_exq (TTok _ _) ?_)
  · (conv => whnf)
    rw [if_neg hc]
    rfl
  · (conv => whnf)
    rw [if_pos hc]
    rfl
set_option maxHeartbeats 8000000 in
theorem parse4_0 (s : ByteArray) {u2 v2 u3 v3} (w : World) (hI : IP u2 v2 u3 v3 w) (p0 p1 p2 p3 : ByteArray) (h27 : ∀ w, Ret Tryz.prog 19 [.string s, .string ⟨#[58]⟩] w (.bool false))
    (h28 : ∀ w, IM w → RetRow Tryz.prog 20 [.string s, .string (sepS false)] w 9 1 4 ([p0, p1, p2, p3].map Value.string))   (x : Int) (g0 : ∀ w, IE u2 v2 u3 v3 w → RetA Tryz.prog 21 [.string p0, .int .i64 10, .int .i64 8] w (.tup [.v (.int .u64 x), .ifc 138 .dead])) : Ret Tryz.prog 7 [.string s] w noV := by
  refine Ret.tj (I := IP u2 v2 u3 v3) (fun w' hm => hI.mod hm) (TTok 0 _) Tryz.func7 (by kernel_rfl) rfl ?_
  repeat' (
    (conv => whnf)
    first
      | (with_reducible first
          | refine TJ.seq ?_
          | refine TJ.region (TTok _ _) ?_
          | refine TJ.drawn (TTok _ _) mixed ?_
          | refine TJ.cond rfl ?_
          | refine TJ.block ?_
          | refine TJ.loop ?_
          | refine LJ.step ?_
          | refine TJ.ret ?_
          | refine TJ.exit ?_
          | refine TJ.skip ?_
          | refine TJ.scope ?_
          | refine TJ.label ?_
          | refine Br.cond_t ?_
          | refine Br.cond_f ?_
          | refine Br.yes (by first | decide | assumption | (apply decide_eq_true; omega)) ?_
          | refine Br.non (by first | decide | assumption | (apply decide_eq_false; omega)) ?_
          | refine Br.cond_ff ?_
          | refine Br.eqT (by omega) ?_
          | refine Br.eqF (by omega) ?_
          | refine Br.neT (by omega) ?_
          | refine Br.neF (by omega) ?_
          | refine Br.ndec (fun hc => ?_) (fun hc => ?_)
          | refine Nm.shlU ?_
          | refine Nm.orU ?_
          | refine Ld.mk' _ rfl ?_
          | refine Need.mk (by first | decide | omega | kernel_rfl) ?_
          | refine Nm.i64 (by omega) ?_
          | refine Nm.u64 (by omega) ?_
          | refine Nm.u8 (by omega) ?_
          | refine Sh.shrL ?_
          | refine Sh.shlL ?_
          | refine Nm.fd (by decide) ?_
          | refine x_ret (f := 19) rfl rfl (fun w _ => h27 w) ?_
          | refine x_ret (f := 14) rfl rfl (fun w _ => gr4 w) ?_
          | refine x_row (f := 20) (d := 2) rfl rfl (fun w hw => h28 w hw.m) rfl ?_
          | refine x_retA (f := 21) rfl rfl (fun w hw => g0 w hw.e) ?_
          | refine x_ne_ifc (TTok _ _) .neq (.inr rfl) rfl rfl rfl rfl ?_)
      | refine x_exq (TTok _ _) ?_)
  all_goals (conv => whnf)
  all_goals rfl
set_option maxHeartbeats 8000000 in
theorem parse4_1 (s : ByteArray) {u2 v2 u3 v3} (w : World) (hI : IP u2 v2 u3 v3 w) (p0 p1 p2 p3 : ByteArray) (h27 : ∀ w, Ret Tryz.prog 19 [.string s, .string ⟨#[58]⟩] w (.bool false))
    (h28 : ∀ w, IM w → RetRow Tryz.prog 20 [.string s, .string (sepS false)] w 9 1 4 ([p0, p1, p2, p3].map Value.string)) (k0 : Int) (g0 : ∀ w, Ret Tryz.prog 21 [.string p0, .int .i64 10, .int .i64 8] w (goodV k0)) (x : Int) (g1 : ∀ w, IE u2 v2 u3 v3 w → RetA Tryz.prog 21 [.string p1, .int .i64 10, .int .i64 8] w (.tup [.v (.int .u64 x), .ifc 138 .dead])) : Ret Tryz.prog 7 [.string s] w noV := by
  refine Ret.tj (I := IP u2 v2 u3 v3) (fun w' hm => hI.mod hm) (TTok 0 _) Tryz.func7 (by kernel_rfl) rfl ?_
  repeat' (
    (conv => whnf)
    first
      | (with_reducible first
          | refine TJ.seq ?_
          | refine TJ.region (TTok _ _) ?_
          | refine TJ.drawn (TTok _ _) mixed ?_
          | refine TJ.cond rfl ?_
          | refine TJ.block ?_
          | refine TJ.loop ?_
          | refine LJ.step ?_
          | refine TJ.ret ?_
          | refine TJ.exit ?_
          | refine TJ.skip ?_
          | refine TJ.scope ?_
          | refine TJ.label ?_
          | refine Br.cond_t ?_
          | refine Br.cond_f ?_
          | refine Br.yes (by first | decide | assumption | (apply decide_eq_true; omega)) ?_
          | refine Br.non (by first | decide | assumption | (apply decide_eq_false; omega)) ?_
          | refine Br.cond_ff ?_
          | refine Br.eqT (by omega) ?_
          | refine Br.eqF (by omega) ?_
          | refine Br.neT (by omega) ?_
          | refine Br.neF (by omega) ?_
          | refine Br.ndec (fun hc => ?_) (fun hc => ?_)
          | refine Nm.shlU ?_
          | refine Nm.orU ?_
          | refine Ld.mk' _ rfl ?_
          | refine Need.mk (by first | decide | omega | kernel_rfl) ?_
          | refine Nm.i64 (by omega) ?_
          | refine Nm.u64 (by omega) ?_
          | refine Nm.u8 (by omega) ?_
          | refine Sh.shrL ?_
          | refine Sh.shlL ?_
          | refine Nm.fd (by decide) ?_
          | refine x_ret (f := 19) rfl rfl (fun w _ => h27 w) ?_
          | refine x_ret (f := 14) rfl rfl (fun w _ => gr4 w) ?_
          | refine x_row (f := 20) (d := 2) rfl rfl (fun w hw => h28 w hw.m) rfl ?_
          | refine x_ret (f := 21) rfl rfl (fun w _ => g0 w) ?_
          | refine x_retA (f := 21) rfl rfl (fun w hw => g1 w hw.e) ?_
          | refine x_ne_ifc (TTok _ _) .neq (.inr rfl) rfl rfl rfl rfl ?_)
      | refine x_exq (TTok _ _) ?_)
  all_goals (conv => whnf)
  all_goals rfl
set_option maxHeartbeats 8000000 in
theorem parse4_2 (s : ByteArray) {u2 v2 u3 v3} (w : World) (hI : IP u2 v2 u3 v3 w) (p0 p1 p2 p3 : ByteArray) (h27 : ∀ w, Ret Tryz.prog 19 [.string s, .string ⟨#[58]⟩] w (.bool false))
    (h28 : ∀ w, IM w → RetRow Tryz.prog 20 [.string s, .string (sepS false)] w 9 1 4 ([p0, p1, p2, p3].map Value.string)) (k0 k1 : Int) (g0 : ∀ w, Ret Tryz.prog 21 [.string p0, .int .i64 10, .int .i64 8] w (goodV k0)) (g1 : ∀ w, Ret Tryz.prog 21 [.string p1, .int .i64 10, .int .i64 8] w (goodV k1)) (x : Int) (g2 : ∀ w, IE u2 v2 u3 v3 w → RetA Tryz.prog 21 [.string p2, .int .i64 10, .int .i64 8] w (.tup [.v (.int .u64 x), .ifc 138 .dead])) : Ret Tryz.prog 7 [.string s] w noV := by
  refine Ret.tj (I := IP u2 v2 u3 v3) (fun w' hm => hI.mod hm) (TTok 0 _) Tryz.func7 (by kernel_rfl) rfl ?_
  repeat' (
    (conv => whnf)
    first
      | (with_reducible first
          | refine TJ.seq ?_
          | refine TJ.region (TTok _ _) ?_
          | refine TJ.drawn (TTok _ _) mixed ?_
          | refine TJ.cond rfl ?_
          | refine TJ.block ?_
          | refine TJ.loop ?_
          | refine LJ.step ?_
          | refine TJ.ret ?_
          | refine TJ.exit ?_
          | refine TJ.skip ?_
          | refine TJ.scope ?_
          | refine TJ.label ?_
          | refine Br.cond_t ?_
          | refine Br.cond_f ?_
          | refine Br.yes (by first | decide | assumption | (apply decide_eq_true; omega)) ?_
          | refine Br.non (by first | decide | assumption | (apply decide_eq_false; omega)) ?_
          | refine Br.cond_ff ?_
          | refine Br.eqT (by omega) ?_
          | refine Br.eqF (by omega) ?_
          | refine Br.neT (by omega) ?_
          | refine Br.neF (by omega) ?_
          | refine Br.ndec (fun hc => ?_) (fun hc => ?_)
          | refine Nm.shlU ?_
          | refine Nm.orU ?_
          | refine Ld.mk' _ rfl ?_
          | refine Need.mk (by first | decide | omega | kernel_rfl) ?_
          | refine Nm.i64 (by omega) ?_
          | refine Nm.u64 (by omega) ?_
          | refine Nm.u8 (by omega) ?_
          | refine Sh.shrL ?_
          | refine Sh.shlL ?_
          | refine Nm.fd (by decide) ?_
          | refine x_ret (f := 19) rfl rfl (fun w _ => h27 w) ?_
          | refine x_ret (f := 14) rfl rfl (fun w _ => gr4 w) ?_
          | refine x_row (f := 20) (d := 2) rfl rfl (fun w hw => h28 w hw.m) rfl ?_
          | refine x_ret (f := 21) rfl rfl (fun w _ => g0 w) ?_
          | refine x_ret (f := 21) rfl rfl (fun w _ => g1 w) ?_
          | refine x_retA (f := 21) rfl rfl (fun w hw => g2 w hw.e) ?_
          | refine x_ne_ifc (TTok _ _) .neq (.inr rfl) rfl rfl rfl rfl ?_)
      | refine x_exq (TTok _ _) ?_)
  all_goals (conv => whnf)
  all_goals rfl
set_option maxHeartbeats 8000000 in
theorem parse4_3 (s : ByteArray) {u2 v2 u3 v3} (w : World) (hI : IP u2 v2 u3 v3 w) (p0 p1 p2 p3 : ByteArray) (h27 : ∀ w, Ret Tryz.prog 19 [.string s, .string ⟨#[58]⟩] w (.bool false))
    (h28 : ∀ w, IM w → RetRow Tryz.prog 20 [.string s, .string (sepS false)] w 9 1 4 ([p0, p1, p2, p3].map Value.string)) (k0 k1 k2 : Int) (g0 : ∀ w, Ret Tryz.prog 21 [.string p0, .int .i64 10, .int .i64 8] w (goodV k0)) (g1 : ∀ w, Ret Tryz.prog 21 [.string p1, .int .i64 10, .int .i64 8] w (goodV k1)) (g2 : ∀ w, Ret Tryz.prog 21 [.string p2, .int .i64 10, .int .i64 8] w (goodV k2)) (x : Int) (g3 : ∀ w, IE u2 v2 u3 v3 w → RetA Tryz.prog 21 [.string p3, .int .i64 10, .int .i64 8] w (.tup [.v (.int .u64 x), .ifc 138 .dead])) : Ret Tryz.prog 7 [.string s] w noV := by
  refine Ret.tj (I := IP u2 v2 u3 v3) (fun w' hm => hI.mod hm) (TTok 0 _) Tryz.func7 (by kernel_rfl) rfl ?_
  repeat' (
    (conv => whnf)
    first
      | (with_reducible first
          | refine TJ.seq ?_
          | refine TJ.region (TTok _ _) ?_
          | refine TJ.drawn (TTok _ _) mixed ?_
          | refine TJ.cond rfl ?_
          | refine TJ.block ?_
          | refine TJ.loop ?_
          | refine LJ.step ?_
          | refine TJ.ret ?_
          | refine TJ.exit ?_
          | refine TJ.skip ?_
          | refine TJ.scope ?_
          | refine TJ.label ?_
          | refine Br.cond_t ?_
          | refine Br.cond_f ?_
          | refine Br.yes (by first | decide | assumption | (apply decide_eq_true; omega)) ?_
          | refine Br.non (by first | decide | assumption | (apply decide_eq_false; omega)) ?_
          | refine Br.cond_ff ?_
          | refine Br.eqT (by omega) ?_
          | refine Br.eqF (by omega) ?_
          | refine Br.neT (by omega) ?_
          | refine Br.neF (by omega) ?_
          | refine Br.ndec (fun hc => ?_) (fun hc => ?_)
          | refine Nm.shlU ?_
          | refine Nm.orU ?_
          | refine Ld.mk' _ rfl ?_
          | refine Need.mk (by first | decide | omega | kernel_rfl) ?_
          | refine Nm.i64 (by omega) ?_
          | refine Nm.u64 (by omega) ?_
          | refine Nm.u8 (by omega) ?_
          | refine Sh.shrL ?_
          | refine Sh.shlL ?_
          | refine Nm.fd (by decide) ?_
          | refine x_ret (f := 19) rfl rfl (fun w _ => h27 w) ?_
          | refine x_ret (f := 14) rfl rfl (fun w _ => gr4 w) ?_
          | refine x_row (f := 20) (d := 2) rfl rfl (fun w hw => h28 w hw.m) rfl ?_
          | refine x_ret (f := 21) rfl rfl (fun w _ => g0 w) ?_
          | refine x_ret (f := 21) rfl rfl (fun w _ => g1 w) ?_
          | refine x_ret (f := 21) rfl rfl (fun w _ => g2 w) ?_
          | refine x_retA (f := 21) rfl rfl (fun w hw => g3 w hw.e) ?_
          | refine x_ne_ifc (TTok _ _) .neq (.inr rfl) rfl rfl rfl rfl ?_)
      | refine x_exq (TTok _ _) ?_)
  all_goals (conv => whnf)
  all_goals rfl
set_option maxHeartbeats 8000000 in
theorem parse4_4 (s : ByteArray) {u2 v2 u3 v3} (w : World) (hI : IP u2 v2 u3 v3 w) (p0 p1 p2 p3 : ByteArray) (h27 : ∀ w, Ret Tryz.prog 19 [.string s, .string ⟨#[58]⟩] w (.bool false))
    (h28 : ∀ w, IM w → RetRow Tryz.prog 20 [.string s, .string (sepS false)] w 9 1 4 ([p0, p1, p2, p3].map Value.string)) (k0 k1 k2 k3 : Int) (g0 : ∀ w, Ret Tryz.prog 21 [.string p0, .int .i64 10, .int .i64 8] w (goodV k0)) (g1 : ∀ w, Ret Tryz.prog 21 [.string p1, .int .i64 10, .int .i64 8] w (goodV k1)) (g2 : ∀ w, Ret Tryz.prog 21 [.string p2, .int .i64 10, .int .i64 8] w (goodV k2)) (g3 : ∀ w, Ret Tryz.prog 21 [.string p3, .int .i64 10, .int .i64 8] w (goodV k3)) (htx : ∀ w, I13 w → Ret Tryz.prog 5 [.agg #[.bool false, .int .u64 0, .int .u64 (candU false [k0, k1, k2, k3]).2]] w (.tuple #[.string (addrText false 0 (candU false [k0, k1, k2, k3]).2), .int .i64 0])) : Ret Tryz.prog 7 [.string s] w (if addrText false 0 (candU false [k0, k1, k2, k3]).2 = s then addrV false 0 (candU false [k0, k1, k2, k3]).2 else noV) := by
  refine Ret.tj (I := IP u2 v2 u3 v3) (fun w' hm => hI.mod hm) (TTok 0 _) Tryz.func7 (by kernel_rfl) rfl ?_
  repeat' (
    (conv => whnf)
    first
      | (with_reducible first
          | refine TJ.seq ?_
          | refine TJ.region (TTok _ _) ?_
          | refine TJ.drawn (TTok _ _) mixed ?_
          | refine TJ.cond rfl ?_
          | refine TJ.block ?_
          | refine TJ.loop ?_
          | refine LJ.step ?_
          | refine TJ.ret ?_
          | refine TJ.exit ?_
          | refine TJ.skip ?_
          | refine TJ.scope ?_
          | refine TJ.label ?_
          | refine Br.cond_t ?_
          | refine Br.cond_f ?_
          | refine Br.yes (by first | decide | assumption | (apply decide_eq_true; omega)) ?_
          | refine Br.non (by first | decide | assumption | (apply decide_eq_false; omega)) ?_
          | refine Br.cond_ff ?_
          | refine Br.eqT (by omega) ?_
          | refine Br.eqF (by omega) ?_
          | refine Br.neT (by omega) ?_
          | refine Br.neF (by omega) ?_
          | refine Br.ndec (fun hc => ?_) (fun hc => ?_)
          | refine Nm.shlU ?_
          | refine Nm.orU ?_
          | refine Ld.mk' _ rfl ?_
          | refine Need.mk (by first | decide | omega | kernel_rfl) ?_
          | refine Nm.i64 (by omega) ?_
          | refine Nm.u64 (by omega) ?_
          | refine Nm.u8 (by omega) ?_
          | refine Sh.shrL ?_
          | refine Sh.shlL ?_
          | refine Nm.fd (by decide) ?_
          | refine x_ret (f := 19) rfl rfl (fun w _ => h27 w) ?_
          | refine x_ret (f := 14) rfl rfl (fun w _ => gr4 w) ?_
          | refine x_row (f := 20) (d := 2) rfl rfl (fun w hw => h28 w hw.m) rfl ?_
          | refine x_ret (f := 21) rfl rfl (fun w _ => g0 w) ?_
          | refine x_ret (f := 21) rfl rfl (fun w _ => g1 w) ?_
          | refine x_ret (f := 21) rfl rfl (fun w _ => g2 w) ?_
          | refine x_ret (f := 21) rfl rfl (fun w _ => g3 w) ?_
          | refine x_ret (f := 5) rfl rfl (fun w hw => htx w hw.t) ?_)
      | refine x_exq (TTok _ _) ?_)
  · (conv => whnf)
    rw [if_neg hc]
    rfl
  · (conv => whnf)
    rw [if_pos hc]
    rfl
end Go.Proofs.YtopadpgpmkkpgaaGreatDoor
set_option maxRecDepth 100000
namespace Go.Proofs.YtopadpgpmkkpgaaGreatDoor
open Go.SX
/-! ### Texts taken apart -/
def splitC (c : UInt8) : List UInt8 → List (List UInt8)
  | [] => [[]]
  | b :: l => if b = c then [] :: splitC c l else match splitC c l with
    | [] => [[b]]
    | x :: r => (b :: x) :: r
theorem ix_cases (c : UInt8) : ∀ l : List UInt8, (Lib.indexByte l c = -1 ∧ splitC c l = [l] ∧ l.count c = 0) ∨ (∃ i : Nat, Lib.indexByte l c = i ∧ splitC c l = l.take i :: splitC c (l.drop (i + 1)) ∧ (l.drop (i + 1)).count c + 1 = l.count c)
  | [] => .inl ⟨rfl, rfl, rfl⟩
  | b :: l => by
    by_cases hb : b = c
    · subst hb
      exact .inr ⟨0, by simp [Lib.indexByte], by simp [splitC], by simp⟩
    · rcases ix_cases c l with ⟨h1, h2, h3⟩ | ⟨i, h1, h2, h3⟩
      · refine .inl ⟨by simp [Lib.indexByte, hb, h1], by simp [splitC, hb, h2], by simp [List.count_cons, hb, h3]⟩
      · refine .inr ⟨i + 1, ?_, ?_, ?_⟩
        · have : ¬ ((i : Int) = -1) := by omega
          simp [Lib.indexByte, hb, h1, this]
        · simp [splitC, hb, h2]
        · simp [List.count_cons, hb, h3]
theorem splitK_C (c : UInt8) : ∀ (k : Nat) (l : List UInt8), l.count c ≤ k → Lib.splitK [c] 0 k l = splitC c l
  | 0, l, h => by
    rcases ix_cases c l with ⟨_, h2, _⟩ | ⟨i, _, _, h3⟩
    · rw [h2]
      rfl
    · omega
  | k + 1, l, h => by
    unfold Lib.splitK
    rw [Lib.index_one]
    rcases ix_cases c l with ⟨h1, h2, _⟩ | ⟨i, h1, h2, h3⟩
    · simp [h1, h2]
    · have hi : ¬ ((i : Int) == -1) = true := by simp
      rw [h1, h2, if_neg hi]
      have e := splitK_C c k (l.drop (i + 1)) (by omega)
      simpa using e
theorem split_one (c : UInt8) (x : List UInt8) (h : c ∉ x) : splitC c x = [x] := by
  rcases ix_cases c x with ⟨_, h2, _⟩ | ⟨i, _, _, h3⟩
  · exact h2
  · have := List.count_eq_zero.2 h
    omega
theorem split_app (c : UInt8) (x r : List UInt8) (h : c ∉ x) : splitC c (x ++ c :: r) = x :: splitC c r := by
  induction x with
  | nil => simp [splitC]
  | cons b x ih =>
    simp only [List.mem_cons, not_or] at h
    have hb : ¬ b = c := fun e => h.1 e.symm
    simp [splitC, hb, ih h.2]
theorem split_tail (c : UInt8) : ∀ (r : List (List UInt8)) (x : List UInt8), c ∉ x → (∀ y, y ∈ r → c ∉ y) → splitC c (x ++ Lib.joinTail [c] r) = x :: r
  | [], x, hx, _ => by simpa [Lib.joinTail] using split_one c x hx
  | y :: r, x, hx, hr => by
    have e : x ++ Lib.joinTail [c] (y :: r) = x ++ c :: (y ++ Lib.joinTail [c] r) := by simp [Lib.joinTail]
    rw [e, split_app c x _ hx, split_tail c r y (hr y (List.mem_cons_self ..)) fun z hz => hr z (List.mem_cons_of_mem _ hz)]
theorem split_join (c : UInt8) (xs : List (List UInt8)) (h0 : xs ≠ []) (h : ∀ x, x ∈ xs → c ∉ x) : splitC c (Lib.join xs [c]) = xs := by
  cases xs with
  | nil => exact (h0 rfl).elim
  | cons x r =>
    rw [Lib.join_cons]
    exact split_tail c r x (h x (List.mem_cons_self ..)) fun y hy => h y (List.mem_cons_of_mem _ hy)
theorem index_iff (c : UInt8) (l : List UInt8) : 0 ≤ Lib.indexByte l c ↔ c ∈ l := by
  rcases ix_cases c l with ⟨h1, _, h3⟩ | ⟨i, h1, _, h3⟩
  · rw [h1]
    have := List.count_eq_zero.1 h3
    simp [this]
  · rw [h1]
    have : 0 < l.count c := by omega
    simp [List.count_pos_iff.1 this]
def sepC (v6 : Bool) : UInt8 := if v6 then 58 else 46
theorem count_size (v6 : Bool) (s : ByteArray) : s.data.toList.count (sepC v6) ≤ Lib.countB s (sepS v6) := by
  have e : (sepS v6).data.toList = [sepC v6] := by cases v6 <;> rfl
  unfold Lib.countB
  rw [e, Lib.count_one]
  exact Nat.le_refl _
theorem parts_data (v6 : Bool) (s : ByteArray) : (parts v6 s).map (·.data.toList) = splitC (sepC v6) s.data.toList := by
  unfold parts
  rw [Lib.splitB_data]
  have e : (sepS v6).data.toList = [sepC v6] := by cases v6 <;> rfl
  rw [e]
  exact splitK_C _ _ _ (count_size v6 s)
end Go.Proofs.YtopadpgpmkkpgaaGreatDoor
set_option maxRecDepth 100000
namespace Go.Proofs.YtopadpgpmkkpgaaGreatDoor
open Go.SX
/-! ### Digits -/
theorem hd_cases (d : Int) (h : 0 ≤ d ∧ d < 16) : d = 0 ∨ d = 1 ∨ d = 2 ∨ d = 3 ∨ d = 4 ∨ d = 5 ∨ d = 6 ∨ d = 7 ∨ d = 8 ∨ d = 9 ∨ d = 10 ∨ d = 11 ∨ d = 12 ∨ d = 13 ∨ d = 14 ∨ d = 15 := by omega
theorem hd_dig (d : Int) (h : 0 ≤ d ∧ d < 16) : dig (bAt D36 d) = some d := by
  rcases hd_cases d h with rfl | rfl | rfl | rfl | rfl | rfl | rfl | rfl | rfl | rfl | rfl | rfl | rfl | rfl | rfl | rfl <;> decide
theorem hd_range (d : Int) (h : 0 ≤ d ∧ d < 16) : (48 ≤ bAt D36 d ∧ bAt D36 d ≤ 57) ∨ (97 ≤ bAt D36 d ∧ bAt D36 d ≤ 102) := by
  rcases hd_cases d h with rfl | rfl | rfl | rfl | rfl | rfl | rfl | rfl | rfl | rfl | rfl | rfl | rfl | rfl | rfl | rfl <;> decide
theorem hexL_mem (v : Int) (hv : 0 ≤ v ∧ v < 65536) (n : Int) (h : n ∈ hexL v) : (48 ≤ n ∧ n ≤ 57) ∨ (97 ≤ n ∧ n ≤ 102) := by
  unfold hexL at h
  split at h
  · simp at h; subst h; exact hd_range _ (by omega)
  split at h
  · simp at h; rcases h with rfl | rfl <;> exact hd_range _ (by omega)
  split at h
  · simp at h; rcases h with rfl | rfl | rfl <;> exact hd_range _ (by omega)
  · simp at h; rcases h with rfl | rfl | rfl | rfl <;> exact hd_range _ (by omega)
theorem sInts_str (l : List Int) (h : ∀ n, n ∈ l → 0 ≤ n ∧ n ≤ 255) : sInts (strOfNums l) = l := by
  unfold sInts
  rw [strOfNums_data, List.map_map]
  induction l with
  | nil => rfl
  | cons n l ih =>
    have h1 := h n (List.mem_cons_self ..)
    rw [List.map_cons, ih fun m hm => h m (List.mem_cons_of_mem _ hm)]
    congr 1
    simp
    omega
theorem puO_go {b m n c d : Int} {r : List Int} (h : dig c = some d) (hb : d < b) (hm : n * b + d ≤ m) : puO b m n (c :: r) = puO b m (n * b + d) r := by
  simp only [puO, h]
  rw [if_neg (by omega), if_neg (by omega)]
theorem puN_hex (v : Int) (hv : 0 ≤ v ∧ v < 65536) : puN true (hexS v) = some v := by
  have hm := hexL_mem v hv
  have hs : sInts (hexS v) = hexL v := sInts_str _ fun n hn => by have := hm n hn; omega
  have he : ¬ hexS v = ⟨#[]⟩ := by
    intro e
    have : (hexS v).size = 0 := by rw [e]; rfl
    rw [hexS, strOfNums_size] at this
    unfold hexL at this
    split at this
    · simp at this
    split at this
    · simp at this
    split at this <;> simp at this
  unfold puN
  rw [if_neg he, hs]
  simp only [pbase, pmax, if_true]
  unfold hexL
  split
  · rw [puO_go (hd_dig _ (by omega)) (by omega) (by omega)]
    simp [puO]
  split
  · rw [puO_go (hd_dig _ (by omega)) (by omega) (by omega), puO_go (hd_dig _ (by omega)) (by omega) (by omega)]
    simp only [puO, Option.some.injEq]
    omega
  split
  · rw [puO_go (hd_dig _ (by omega)) (by omega) (by omega), puO_go (hd_dig _ (by omega)) (by omega) (by omega), puO_go (hd_dig _ (by omega)) (by omega) (by omega)]
    simp only [puO, Option.some.injEq]
    omega
  · rw [puO_go (hd_dig _ (by omega)) (by omega) (by omega), puO_go (hd_dig _ (by omega)) (by omega) (by omega), puO_go (hd_dig _ (by omega)) (by omega) (by omega), puO_go (hd_dig _ (by omega)) (by omega) (by omega)]
    simp only [puO, Option.some.injEq]
    omega
def oI : Option Int → Nat → Bool
  | some v, n => decide (v = n)
  | none, _ => false
theorem oI_eq {o : Option Int} {n : Nat} (h : oI o n = true) : o = some (n : Int) := by
  cases o with
  | none => cases h
  | some v => simp only [oI, decide_eq_true_eq] at h; rw [h]
def digsB : List UInt8 → Bool
  | [] => true
  | b :: l => Nat.ble 48 b.toNat && Nat.ble b.toNat 57 && digsB l
theorem digsB_mem : ∀ {l : List UInt8}, digsB l = true → ∀ b, b ∈ l → 48 ≤ b.toNat ∧ b.toNat ≤ 57
  | [], _, b, h => by simp at h
  | a :: l, hd, b, h => by
    simp only [digsB, Bool.and_eq_true] at hd
    rcases List.mem_cons.1 h with rfl | h
    · exact ⟨Nat.le_of_ble_eq_true hd.1.1, Nat.le_of_ble_eq_true hd.1.2⟩
    · exact digsB_mem hd.2 b h
theorem dec_all : allBelow 256 (fun n => oI (puN false ⟨⟨dec3 n⟩⟩) n && digsB (dec3 n)) = true := by kernel_rfl
theorem puN_dec (v : Int) (hv : 0 ≤ v ∧ v < 256) : puN false (decS v) = some v := by
  have := allBelow_eq dec_all v.toNat (by omega)
  simp only [Bool.and_eq_true] at this
  have := oI_eq this.1
  rw [decS, this]
  congr 1
  omega
theorem dec_mem (v : Int) (hv : 0 ≤ v ∧ v < 256) (b : UInt8) (h : b ∈ (decS v).data.toList) : 48 ≤ b.toNat ∧ b.toNat ≤ 57 := by
  have := allBelow_eq dec_all v.toNat (by omega)
  simp only [Bool.and_eq_true] at this
  exact digsB_mem this.2 b h
theorem hex_mem (v : Int) (hv : 0 ≤ v ∧ v < 65536) (b : UInt8) (h : b ∈ (hexS v).data.toList) : (48 ≤ b.toNat ∧ b.toNat ≤ 57) ∨ (97 ≤ b.toNat ∧ b.toNat ≤ 102) := by
  rw [hexS, strOfNums_data] at h
  obtain ⟨n, hn, rfl⟩ := List.mem_map.1 h
  have := hexL_mem v hv n hn
  simp
  omega
end Go.Proofs.YtopadpgpmkkpgaaGreatDoor
set_option maxRecDepth 100000
namespace Go.Proofs.YtopadpgpmkkpgaaGreatDoor
open Go.SX
/-! ### Numbers put together -/
theorem wrap_mod (x : Int) : IntKind.u64.wrap x = x % 18446744073709551616 := by simp [IntKind.wrap, IntKind.signed, IntKind.bits]
theorem ofInt_toNat (x : Int) (h : 0 ≤ x ∧ x ≤ 18446744073709551615) : (BitVec.ofInt 64 x).toNat = x.toNat := by
  simp only [BitVec.toNat_ofInt]
  omega
theorem orU_add (a b : Int) (j : Nat) (ha : 0 ≤ a ∧ a ≤ 18446744073709551615) (hd : a % 2 ^ j = 0) (hb : 0 ≤ b ∧ b < 2 ^ j) (hab : a + b ≤ 18446744073709551615) : orU a b = a + b := by
  have hb2 : b ≤ 18446744073709551615 := by omega
  unfold orU
  rw [wrap_mod]
  have e : (BitVec.ofInt IntKind.u64.bits a ||| BitVec.ofInt IntKind.u64.bits b).toNat = a.toNat ||| b.toNat := by
    rw [BitVec.toNat_or]
    show (BitVec.ofInt 64 a).toNat ||| (BitVec.ofInt 64 b).toNat = _
    rw [ofInt_toNat a ha, ofInt_toNat b ⟨hb.1, hb2⟩]
  rw [e]
  obtain ⟨q, hq⟩ : ∃ q : Nat, a = q * 2 ^ j := by
    refine ⟨(a / 2 ^ j).toNat, ?_⟩
    have h1 := Int.mul_ediv_add_emod a (2 ^ j)
    have h2 : 0 ≤ a / 2 ^ j := Int.ediv_nonneg ha.1 (Int.le_of_lt (pow_pos' j))
    rw [Int.toNat_of_nonneg h2]
    rw [hd, Int.mul_comm] at h1
    omega
  have hbj : b.toNat < 2 ^ j := by
    have : ((2 ^ j : Nat) : Int) = (2 : Int) ^ j := by simp
    omega
  have ea : a.toNat = q <<< j := by
    rw [hq, Nat.shiftLeft_eq]
    have : ((q * 2 ^ j : Nat) : Int) = (q : Int) * 2 ^ j := by simp
    omega
  rw [ea, ← Nat.shiftLeft_add_eq_or_of_lt hbj, ← ea]
  omega
theorem shlU6 (a : Int) : shlU 65536 a = a * 65536 % 18446744073709551616 := wrap_mod _
theorem shlU4 (a : Int) : shlU 256 a = a * 256 % 18446744073709551616 := wrap_mod _
theorem step6 (a l k : Int) (hl : 0 ≤ l ∧ l ≤ 18446744073709551615) (hk : 0 ≤ k ∧ k < 65536) : stepU true (a, l) k = (a * 65536 % 18446744073709551616 + l / 281474976710656, l * 65536 % 18446744073709551616 + k) := by
  simp only [stepU, if_true, shlU6]
  rw [orU_add _ _ 16 (by omega) (by first | (simp; done) | (simp; omega)) (by first | (simp; done) | (simp; omega)) (by omega), orU_add _ _ 16 (by omega) (by first | (simp; done) | (simp; omega)) (by first | (simp; done) | (simp; omega)) (by omega)]
theorem step4 (a l k : Int) (hl : 0 ≤ l ∧ l ≤ 18446744073709551615) (hk : 0 ≤ k ∧ k < 256) : stepU false (a, l) k = (a * 256 % 18446744073709551616 + l / 72057594037927936, l * 256 % 18446744073709551616 + k) := by
  simp only [stepU, Bool.false_eq_true, if_false, shlU4]
  rw [orU_add _ _ 8 (by omega) (by first | (simp; done) | (simp; omega)) (by first | (simp; done) | (simp; omega)) (by omega), orU_add _ _ 8 (by omega) (by first | (simp; done) | (simp; omega)) (by first | (simp; done) | (simp; omega)) (by omega)]
theorem cand4 (k0 k1 k2 k3 : Int) (h0 : 0 ≤ k0 ∧ k0 < 256) (h1 : 0 ≤ k1 ∧ k1 < 256) (h2 : 0 ≤ k2 ∧ k2 < 256) (h3 : 0 ≤ k3 ∧ k3 < 256) : (candU false [k0, k1, k2, k3]).2 = k0 * 16777216 + k1 * 65536 + k2 * 256 + k3 := by
  simp only [candU, List.foldl_cons, List.foldl_nil]
  rw [step4 _ _ _ (by omega) h0, step4 _ _ _ (by omega) h1, step4 _ _ _ (by omega) h2, step4 _ _ _ (by omega) h3]
  simp only
  omega
theorem cand6 (k0 k1 k2 k3 k4 k5 k6 k7 : Int) (h0 : 0 ≤ k0 ∧ k0 < 65536) (h1 : 0 ≤ k1 ∧ k1 < 65536) (h2 : 0 ≤ k2 ∧ k2 < 65536) (h3 : 0 ≤ k3 ∧ k3 < 65536) (h4 : 0 ≤ k4 ∧ k4 < 65536) (h5 : 0 ≤ k5 ∧ k5 < 65536) (h6 : 0 ≤ k6 ∧ k6 < 65536) (h7 : 0 ≤ k7 ∧ k7 < 65536) :
    candU true [k0, k1, k2, k3, k4, k5, k6, k7] = (k0 * 281474976710656 + k1 * 4294967296 + k2 * 65536 + k3, k4 * 281474976710656 + k5 * 4294967296 + k6 * 65536 + k7) := by
  have s1 : stepU true (0, 0) k0 = (0, k0) := by rw [step6 _ _ _ (by omega) h0]; simp
  have s2 : stepU true (0, k0) k1 = (0, k0 * 65536 + k1) := by
    rw [step6 _ _ _ (by omega) h1, Prod.mk.injEq]; omega
  have s3 : stepU true (0, k0 * 65536 + k1) k2 = (0, k0 * 4294967296 + k1 * 65536 + k2) := by
    rw [step6 _ _ _ (by omega) h2, Prod.mk.injEq]; omega
  have s4 : stepU true (0, k0 * 4294967296 + k1 * 65536 + k2) k3 = (0, k0 * 281474976710656 + k1 * 4294967296 + k2 * 65536 + k3) := by
    rw [step6 _ _ _ (by omega) h3, Prod.mk.injEq]; omega
  have s5 : stepU true (0, k0 * 281474976710656 + k1 * 4294967296 + k2 * 65536 + k3) k4 = (k0, k1 * 281474976710656 + k2 * 4294967296 + k3 * 65536 + k4) := by
    rw [step6 _ _ _ (by omega) h4, Prod.mk.injEq]; omega
  have s6 : stepU true (k0, k1 * 281474976710656 + k2 * 4294967296 + k3 * 65536 + k4) k5 = (k0 * 65536 + k1, k2 * 281474976710656 + k3 * 4294967296 + k4 * 65536 + k5) := by
    rw [step6 _ _ _ (by omega) h5, Prod.mk.injEq]; omega
  have s7 : stepU true (k0 * 65536 + k1, k2 * 281474976710656 + k3 * 4294967296 + k4 * 65536 + k5) k6 = (k0 * 4294967296 + k1 * 65536 + k2, k3 * 281474976710656 + k4 * 4294967296 + k5 * 65536 + k6) := by
    rw [step6 _ _ _ (by omega) h6, Prod.mk.injEq]; omega
  have s8 : stepU true (k0 * 4294967296 + k1 * 65536 + k2, k3 * 281474976710656 + k4 * 4294967296 + k5 * 65536 + k6) k7 = (k0 * 281474976710656 + k1 * 4294967296 + k2 * 65536 + k3, k4 * 281474976710656 + k5 * 4294967296 + k6 * 65536 + k7) := by
    rw [step6 _ _ _ (by omega) h7, Prod.mk.injEq]; omega
  simp only [candU, List.foldl_cons, List.foldl_nil]
  rw [s1, s2, s3, s4, s5, s6, s7, s8]

/-! ### What acl.Parse answers -/
def optL : List (Option Int) → Option (List Int)
  | [] => some []
  | o :: r => match o, optL r with
    | some k, some l => some (k :: l)
    | _, _ => none
def hiU (v6 : Bool) (ks : List Int) : Int := if v6 then (candU true ks).1 else 0
def parseV (s : ByteArray) : Value :=
  if (parts (has58 s) s).length = many (has58 s) then match optL ((parts (has58 s) s).map (puN (has58 s))) with
    | some ks => if addrText (has58 s) (hiU (has58 s) ks) (candU (has58 s) ks).2 = s then addrV (has58 s) (hiU (has58 s) ks) (candU (has58 s) ks).2 else noV
    | none => noV
  else noV
theorem list8 {α : Type} {l : List α} (h : l.length = 8) : ∃ a0 a1 a2 a3 a4 a5 a6 a7, l = [a0, a1, a2, a3, a4, a5, a6, a7] := by
  match l, h with
  | [a0, a1, a2, a3, a4, a5, a6, a7], _ => exact ⟨_, _, _, _, _, _, _, _, rfl⟩
theorem list4 {α : Type} {l : List α} (h : l.length = 4) : ∃ a0 a1 a2 a3, l = [a0, a1, a2, a3] := by
  match l, h with
  | [a0, a1, a2, a3], _ => exact ⟨_, _, _, _, rfl⟩
theorem splitC_size (c : UInt8) : ∀ (l x : List UInt8), x ∈ splitC c l → x.length ≤ l.length
  | [], x, h => by simp [splitC] at h; subst h; simp
  | b :: l, x, h => by
    simp only [splitC] at h
    split at h
    · rcases List.mem_cons.1 h with rfl | h
      · simp
      · have := splitC_size c l x h
        simp; omega
    · split at h
      · rename_i e
        rcases List.mem_cons.1 h with rfl | h
        · simp
        · simp at h
      · rename_i y r e
        rcases List.mem_cons.1 h with rfl | h
        · have := splitC_size c l y (by rw [e]; simp)
          simp; omega
        · have := splitC_size c l x (by rw [e]; exact List.mem_cons_of_mem _ h)
          simp; omega
theorem part_size (v6 : Bool) (s p : ByteArray) (h : p ∈ parts v6 s) : p.size ≤ s.size := by
  have h1 : p.data.toList ∈ (parts v6 s).map (·.data.toList) := List.mem_map_of_mem h
  rw [parts_data] at h1
  have := splitC_size _ _ _ h1
  rw [Lib.size_eq, Lib.size_eq]
  exact this
end Go.Proofs.YtopadpgpmkkpgaaGreatDoor
set_option maxRecDepth 100000
namespace Go.Proofs.YtopadpgpmkkpgaaGreatDoor
open Go.SX
theorem right4 (ks : Int) (h : 0 ≤ ks ∧ ks < 4294967296) : rightM false 0 ks = true := by
  simp [rightM]
  omega
theorem parse_ret (s : ByteArray) (hs : s.size < 4294967281) {u2 v2 u3 v3} (w : World) (hI : IP u2 v2 u3 v3 w) : Ret Tryz.prog 7 [.string s] w (parseV s) := by
  unfold parseV
  obtain ⟨v6, hv⟩ : ∃ v6, has58 s = v6 := ⟨_, rfl⟩
  rw [hv]
  by_cases hn : (parts v6 s).length = many v6
  case neg =>
    rw [if_neg hn]
    exact parse_many s hs w hI v6 hv hn
  rw [if_pos hn]
  have h27 : ∀ w, Ret Tryz.prog 19 [.string s, .string ⟨#[58]⟩] w (.bool v6) := fun w => hv ▸ has_ret s w
  have hsz : ∀ p, p ∈ parts v6 s → p.size < 4294967281 := fun p hp => by
    have := part_size v6 s p hp
    omega
  have hc : v6 = true ∨ v6 = false := by cases v6 <;> simp
  rcases hc with rfl | rfl
  · obtain ⟨p0, p1, p2, p3, p4, p5, p6, p7, hps⟩ := list8 hn
    have h28 := fun w hw => split_row true s hs _ hps w hw
    rw [hps] at hsz ⊢
    clear hn hps
    simp only [List.map_cons, List.map_nil]
    rcases part_cases true p0 (hsz p0 (by simp)) with ⟨k0, e0, a0, b0, g0⟩ | ⟨e0, x, g0⟩
    rotate_left
    · simp only [e0, optL]
      exact parse6_0 s w hI p0 p1 p2 p3 p4 p5 p6 p7 h27 h28 x (fun w hw => g0 _ _ _ _ w hw)
    rcases part_cases true p1 (hsz p1 (by simp)) with ⟨k1, e1, a1, b1, g1⟩ | ⟨e1, x, g1⟩
    rotate_left
    · simp only [e0, e1, optL]
      exact parse6_1 s w hI p0 p1 p2 p3 p4 p5 p6 p7 h27 h28 k0 g0 x (fun w hw => g1 _ _ _ _ w hw)
    rcases part_cases true p2 (hsz p2 (by simp)) with ⟨k2, e2, a2, b2, g2⟩ | ⟨e2, x, g2⟩
    rotate_left
    · simp only [e0, e1, e2, optL]
      exact parse6_2 s w hI p0 p1 p2 p3 p4 p5 p6 p7 h27 h28 k0 k1 g0 g1 x (fun w hw => g2 _ _ _ _ w hw)
    rcases part_cases true p3 (hsz p3 (by simp)) with ⟨k3, e3, a3, b3, g3⟩ | ⟨e3, x, g3⟩
    rotate_left
    · simp only [e0, e1, e2, e3, optL]
      exact parse6_3 s w hI p0 p1 p2 p3 p4 p5 p6 p7 h27 h28 k0 k1 k2 g0 g1 g2 x (fun w hw => g3 _ _ _ _ w hw)
    rcases part_cases true p4 (hsz p4 (by simp)) with ⟨k4, e4, a4, b4, g4⟩ | ⟨e4, x, g4⟩
    rotate_left
    · simp only [e0, e1, e2, e3, e4, optL]
      exact parse6_4 s w hI p0 p1 p2 p3 p4 p5 p6 p7 h27 h28 k0 k1 k2 k3 g0 g1 g2 g3 x (fun w hw => g4 _ _ _ _ w hw)
    rcases part_cases true p5 (hsz p5 (by simp)) with ⟨k5, e5, a5, b5, g5⟩ | ⟨e5, x, g5⟩
    rotate_left
    · simp only [e0, e1, e2, e3, e4, e5, optL]
      exact parse6_5 s w hI p0 p1 p2 p3 p4 p5 p6 p7 h27 h28 k0 k1 k2 k3 k4 g0 g1 g2 g3 g4 x (fun w hw => g5 _ _ _ _ w hw)
    rcases part_cases true p6 (hsz p6 (by simp)) with ⟨k6, e6, a6, b6, g6⟩ | ⟨e6, x, g6⟩
    rotate_left
    · simp only [e0, e1, e2, e3, e4, e5, e6, optL]
      exact parse6_6 s w hI p0 p1 p2 p3 p4 p5 p6 p7 h27 h28 k0 k1 k2 k3 k4 k5 g0 g1 g2 g3 g4 g5 x (fun w hw => g6 _ _ _ _ w hw)
    rcases part_cases true p7 (hsz p7 (by simp)) with ⟨k7, e7, a7, b7, g7⟩ | ⟨e7, x, g7⟩
    rotate_left
    · simp only [e0, e1, e2, e3, e4, e5, e6, e7, optL]
      exact parse6_7 s w hI p0 p1 p2 p3 p4 p5 p6 p7 h27 h28 k0 k1 k2 k3 k4 k5 k6 g0 g1 g2 g3 g4 g5 g6 x (fun w hw => g7 _ _ _ _ w hw)
    simp only [e0, e1, e2, e3, e4, e5, e6, e7, optL]
    refine parse6_8 s w hI p0 p1 p2 p3 p4 p5 p6 p7 h27 h28 k0 k1 k2 k3 k4 k5 k6 k7 g0 g1 g2 g3 g4 g5 g6 g7 fun w hw => ?_
    have := text_ret true (candU true [k0, k1, k2, k3, k4, k5, k6, k7]).1 (candU true [k0, k1, k2, k3, k4, k5, k6, k7]).2 w hw (orU_range _ _) (orU_range _ _)
    simpa [textV, rightM] using this
  · obtain ⟨p0, p1, p2, p3, hps⟩ := list4 hn
    have h28 := fun w hw => split_row false s hs _ hps w hw
    rw [hps] at hsz ⊢
    clear hn hps
    simp only [List.map_cons, List.map_nil]
    rcases part_cases false p0 (hsz p0 (by simp)) with ⟨k0, e0, a0, b0, g0⟩ | ⟨e0, x, g0⟩
    rotate_left
    · simp only [e0, optL]
      exact parse4_0 s w hI p0 p1 p2 p3 h27 h28 x (fun w hw => g0 _ _ _ _ w hw)
    rcases part_cases false p1 (hsz p1 (by simp)) with ⟨k1, e1, a1, b1, g1⟩ | ⟨e1, x, g1⟩
    rotate_left
    · simp only [e0, e1, optL]
      exact parse4_1 s w hI p0 p1 p2 p3 h27 h28 k0 g0 x (fun w hw => g1 _ _ _ _ w hw)
    rcases part_cases false p2 (hsz p2 (by simp)) with ⟨k2, e2, a2, b2, g2⟩ | ⟨e2, x, g2⟩
    rotate_left
    · simp only [e0, e1, e2, optL]
      exact parse4_2 s w hI p0 p1 p2 p3 h27 h28 k0 k1 g0 g1 x (fun w hw => g2 _ _ _ _ w hw)
    rcases part_cases false p3 (hsz p3 (by simp)) with ⟨k3, e3, a3, b3, g3⟩ | ⟨e3, x, g3⟩
    rotate_left
    · simp only [e0, e1, e2, e3, optL]
      exact parse4_3 s w hI p0 p1 p2 p3 h27 h28 k0 k1 k2 g0 g1 g2 x (fun w hw => g3 _ _ _ _ w hw)
    simp only [e0, e1, e2, e3, optL]
    refine parse4_4 s w hI p0 p1 p2 p3 h27 h28 k0 k1 k2 k3 g0 g1 g2 g3 fun w hw => ?_
    simp only [pmax, Bool.false_eq_true, if_false] at b0 b1 b2 b3
    have hlo := cand4 k0 k1 k2 k3 (by omega) (by omega) (by omega) (by omega)
    have := text_ret false 0 (candU false [k0, k1, k2, k3]).2 w hw (by omega) (orU_range _ _)
    unfold textV at this
    rwa [right4 _ (by rw [hlo]; omega), if_pos rfl] at this
/-! ### Text and back -/
theorem optL_some : ∀ (l : List Int), optL (l.map some) = some l
  | [] => rfl
  | k :: l => by simp [optL, optL_some l]
theorem addr_data (v6 : Bool) (hi lo : Int) : (addrText v6 hi lo).data.toList = Lib.join ((partsS v6 hi lo).map (·.data.toList)) [sepC v6] := by
  have e : (sepS v6).data.toList = [sepC v6] := by cases v6 <;> rfl
  unfold addrText
  rw [e]
theorem parts_mem (v6 : Bool) (hi lo : Int) (x : List UInt8) (h : x ∈ (partsS v6 hi lo).map (·.data.toList)) (b : UInt8) (hb : b ∈ x) : (48 ≤ b.toNat ∧ b.toNat ≤ 57) ∨ (v6 = true ∧ 97 ≤ b.toNat ∧ b.toNat ≤ 102) := by
  obtain ⟨y, hy, rfl⟩ := List.mem_map.1 h
  unfold partsS at hy
  cases v6
  · obtain ⟨z, hz, rfl⟩ := List.mem_map.1 hy
    refine .inl (dec_mem z ?_ b hb)
    simp [grp4] at hz
    omega
  · obtain ⟨z, hz, rfl⟩ := List.mem_map.1 hy
    have := hex_mem z (by simp [grp6] at hz; omega) b hb
    rcases this with h | h
    · exact .inl h
    · exact .inr ⟨rfl, h⟩
theorem sep_not (v6 w6 : Bool) (hi lo : Int) (x : List UInt8) (h : x ∈ (partsS v6 hi lo).map (·.data.toList)) : sepC w6 ∉ x := by
  intro hb
  have := parts_mem v6 hi lo x h _ hb
  cases w6 <;> simp [sepC] at this
theorem parts_ne (v6 : Bool) (hi lo : Int) : (partsS v6 hi lo).map (·.data.toList) ≠ [] := by cases v6 <;> simp [partsS, grp4, grp6]
theorem map_data_inj : ∀ {l r : List ByteArray}, l.map (·.data.toList) = r.map (·.data.toList) → l = r
  | [], [], _ => rfl
  | [], _ :: _, h => by simp at h
  | _ :: _, [], h => by simp at h
  | a :: l, b :: r, h => by
    simp only [List.map_cons, List.cons.injEq] at h
    obtain ⟨h1, h2⟩ := h
    have : a = b := by
      obtain ⟨⟨x⟩⟩ := a
      obtain ⟨⟨y⟩⟩ := b
      simpa using h1
    rw [this, map_data_inj h2]
theorem parts_text (v6 : Bool) (hi lo : Int) : parts v6 (addrText v6 hi lo) = partsS v6 hi lo := by
  apply map_data_inj
  rw [parts_data, addr_data]
  exact split_join _ _ (parts_ne v6 hi lo) fun x hx => sep_not v6 v6 hi lo x hx
theorem join_mem (c b : UInt8) : ∀ (xs : List (List UInt8)), b ∈ Lib.join xs [c] → b = c ∨ ∃ x, x ∈ xs ∧ b ∈ x := by
  have tail : ∀ r : List (List UInt8), b ∈ Lib.joinTail [c] r → b = c ∨ ∃ x, x ∈ r ∧ b ∈ x := by
    intro r
    induction r with
    | nil => intro h; simp [Lib.joinTail] at h
    | cons x r ih =>
      intro h
      have e : Lib.joinTail [c] (x :: r) = c :: (x ++ Lib.joinTail [c] r) := by simp [Lib.joinTail]
      rw [e] at h
      rcases List.mem_cons.1 h with h | h
      · exact .inl h
      · rcases List.mem_append.1 h with h | h
        · exact .inr ⟨x, by simp, h⟩
        · rcases ih h with h | ⟨y, h1, h2⟩
          · exact .inl h
          · exact .inr ⟨y, List.mem_cons_of_mem _ h1, h2⟩
  intro xs h
  cases xs with
  | nil => simp [Lib.join_nil] at h
  | cons x r =>
    rw [Lib.join_cons] at h
    rcases List.mem_append.1 h with h | h
    · exact .inr ⟨x, by simp, h⟩
    · rcases tail r h with h | ⟨y, h1, h2⟩
      · exact .inl h
      · exact .inr ⟨y, List.mem_cons_of_mem _ h1, h2⟩
theorem has_text (v6 : Bool) (hi lo : Int) : has58 (addrText v6 hi lo) = v6 := by
  unfold has58
  have e : decide (0 ≤ Lib.indexByte (addrText v6 hi lo).data.toList 58) = decide ((58 : UInt8) ∈ (addrText v6 hi lo).data.toList) := by
    rw [Bool.eq_iff_iff]
    simp only [decide_eq_true_eq]
    exact index_iff _ _
  rw [e, addr_data]
  cases v6
  · rw [decide_eq_false]
    intro h
    rcases join_mem _ _ _ h with h | ⟨x, h1, h2⟩
    · exact absurd h (by decide)
    · exact sep_not false true hi lo x h1 h2
  · rw [decide_eq_true]
    have : (partsS true hi lo).map (·.data.toList) = (hexS (hi / 281474976710656 % 65536)).data.toList :: (hexS (hi / 4294967296 % 65536)).data.toList :: ((partsS true hi lo).map (·.data.toList)).drop 2 := by simp [partsS, grp6]
    rw [this, Lib.join_cons]
    refine List.mem_append_right _ ?_
    simp [Lib.joinTail, sepC]
/-- What is told is read back. -/
theorem parse_text (v6 : Bool) (hi lo : Int) (hh : 0 ≤ hi ∧ hi ≤ 18446744073709551615) (hl : 0 ≤ lo ∧ lo ≤ 18446744073709551615) (hr : rightM v6 hi lo = true) : parseV (addrText v6 hi lo) = addrV v6 hi lo := by
  unfold parseV
  rw [has_text, parts_text]
  cases v6
  · have hlo := right_lo hl.1 hr
    have hhi : hi = 0 := by simp [rightM] at hr; omega
    have e : (partsS false hi lo).map (puN false) = [lo / 16777216 % 256, lo / 65536 % 256, lo / 256 % 256, lo / 1 % 256].map some := by
      simp only [partsS, Bool.false_eq_true, if_false, grp4, List.map_cons, List.map_nil]
      rw [puN_dec _ (by omega), puN_dec _ (by omega), puN_dec _ (by omega), puN_dec _ (by omega)]
    have hc := cand4 (lo / 16777216 % 256) (lo / 65536 % 256) (lo / 256 % 256) (lo / 1 % 256) (by omega) (by omega) (by omega) (by omega)
    have hc2 : (candU false [lo / 16777216 % 256, lo / 65536 % 256, lo / 256 % 256, lo / 1 % 256]).2 = lo := by rw [hc]; omega
    rw [if_pos (by simp [partsS, grp4, many]), e, optL_some]
    simp only [hiU, Bool.false_eq_true, if_false, hc2]
    rw [hhi, if_pos rfl]
  · have e : (partsS true hi lo).map (puN true) = (grp6 hi lo).map some := by
      simp only [partsS, if_true, grp6, List.map_cons, List.map_nil]
      rw [puN_hex _ (by omega), puN_hex _ (by omega), puN_hex _ (by omega), puN_hex _ (by omega), puN_hex _ (by omega), puN_hex _ (by omega), puN_hex _ (by omega), puN_hex _ (by omega)]
    have hc : candU true (grp6 hi lo) = (hi, lo) := by
      unfold grp6
      rw [cand6 _ _ _ _ _ _ _ _ (by omega) (by omega) (by omega) (by omega) (by omega) (by omega) (by omega) (by omega), Prod.mk.injEq]
      omega
    rw [if_pos (by simp [partsS, grp6, many]), e, optL_some]
    simp only [hiU, if_true, hc]
theorem cand_range (v6 : Bool) (ks : List Int) : (0 ≤ (candU v6 ks).1 ∧ (candU v6 ks).1 ≤ 18446744073709551615) ∧ (0 ≤ (candU v6 ks).2 ∧ (candU v6 ks).2 ≤ 18446744073709551615) := by
  have key : ∀ (ks : List Int) (a : Int × Int), ((0 ≤ a.1 ∧ a.1 ≤ 18446744073709551615) ∧ (0 ≤ a.2 ∧ a.2 ≤ 18446744073709551615)) → ((0 ≤ (ks.foldl (stepU v6) a).1 ∧ (ks.foldl (stepU v6) a).1 ≤ 18446744073709551615) ∧ (0 ≤ (ks.foldl (stepU v6) a).2 ∧ (ks.foldl (stepU v6) a).2 ≤ 18446744073709551615)) := by
    intro ks
    induction ks with
    | nil => intro a h; exact h
    | cons k ks ih =>
      intro a _
      rw [List.foldl_cons]
      refine ih _ ?_
      unfold stepU
      cases v6
      · exact ⟨orU_range _ _, orU_range _ _⟩
      · exact ⟨orU_range _ _, orU_range _ _⟩
  exact key ks (0, 0) (by simp)
theorem puN_range (v6 : Bool) (p : ByteArray) (k : Int) (h : puN v6 p = some k) : 0 ≤ k ∧ k ≤ pmax v6 := by
  unfold puN at h
  split at h
  · cases h
  · rcases puR_of (pbase v6) (pmax v6) (by cases v6 <;> decide) (by cases v6 <;> decide) (sInts p) 0 (by omega) (by cases v6 <;> decide) with ⟨k', h1, h2, h3, _⟩ | ⟨h1, _⟩
    · rw [h1] at h
      cases h
      exact ⟨h2, h3⟩
    · rw [h1] at h
      cases h
theorem optL_len : ∀ {l : List ByteArray} {f : ByteArray → Option Int} {ks : List Int}, optL (l.map f) = some ks → ks.length = l.length ∧ ∀ k, k ∈ ks → ∃ p, f p = some k
  | [], f, ks, h => by
    simp only [List.map_nil, optL, Option.some.injEq] at h
    subst h
    exact ⟨rfl, fun k hk => by simp at hk⟩
  | p :: l, f, ks, h => by
    simp only [List.map_cons, optL] at h
    split at h
    · rename_i k r h1 h2
      cases h
      obtain ⟨g1, g2⟩ := optL_len h2
      refine ⟨by simp [g1], fun k' hk' => ?_⟩
      rcases List.mem_cons.1 hk' with rfl | hk'
      · exact ⟨p, h1⟩
      · exact g2 k' hk'
    · cases h
/-- What is read is told as it was. -/
theorem parse_cases (s : ByteArray) : parseV s = noV ∨ ∃ v6 hi lo, parseV s = addrV v6 hi lo ∧ (0 ≤ hi ∧ hi ≤ 18446744073709551615) ∧ (0 ≤ lo ∧ lo ≤ 18446744073709551615) ∧ rightM v6 hi lo = true ∧ addrText v6 hi lo = s := by
  unfold parseV
  split
  · rename_i hn
    split
    · rename_i ks hks
      split
      · rename_i ht
        refine .inr ⟨has58 s, _, _, rfl, ?_, ?_, ?_, ht⟩
        · unfold hiU
          split
          · exact (cand_range _ _).1
          · omega
        · exact (cand_range _ _).2
        · obtain ⟨g1, g2⟩ := optL_len hks
          revert hn hks ht g1 g2
          cases has58 s
          · intro hn hks ht g1 g2
            have hl : ks.length = 4 := by rw [g1, hn]; rfl
            obtain ⟨k0, k1, k2, k3, rfl⟩ := list4 hl
            have r : ∀ k, k ∈ [k0, k1, k2, k3] → 0 ≤ k ∧ k < 256 := fun k hk => by
              obtain ⟨p, hp⟩ := g2 k hk
              have := puN_range false p k hp
              simp [pmax] at this
              omega
            have r0 := r k0 (by simp)
            have r1 := r k1 (by simp)
            have r2 := r k2 (by simp)
            have r3 := r k3 (by simp)
            have hlo := cand4 k0 k1 k2 k3 r0 r1 r2 r3
            exact right4 _ (by rw [hlo]; omega)
          · intro _ _ _ _ _
            simp [rightM]
      · exact .inl rfl
    · exact .inl rfl
  · exact .inl rfl
end Go.Proofs.YtopadpgpmkkpgaaGreatDoor
set_option maxRecDepth 100000
namespace Go.Proofs.YtopadpgpmkkpgaaGreatDoor
open Go.SX
theorem text_size (v6 : Bool) (hi lo : Int) : (addrText v6 hi lo).size ≤ 40 := by
  have h := join_le (sepS v6).data.toList (by cases v6 <;> simp [sepS]) 4 ((partsS v6 hi lo).map (·.data.toList)) (by
    intro x hx
    obtain ⟨y, hy, rfl⟩ := List.mem_map.1 hx
    unfold partsS at hy
    cases v6
    · obtain ⟨z, _, rfl⟩ := List.mem_map.1 hy
      exact decS_len z
    · obtain ⟨z, _, rfl⟩ := List.mem_map.1 hy
      exact hexS_len z)
  have h2 : ((partsS v6 hi lo).map (·.data.toList)).length ≤ 8 := by cases v6 <;> simp [partsS, grp4, grp6]
  have h3 := Nat.mul_le_mul_left 5 h2
  rw [Lib.size_eq]
  show (Lib.join ((partsS v6 hi lo).map (·.data.toList)) (sepS v6).data.toList).length ≤ 40
  omega
end Go.Proofs.YtopadpgpmkkpgaaGreatDoor
set_option maxRecDepth 100000
namespace Go.Proofs.YtopadpgpmkkpgaaGreatDoor
open Go.SX
/-! ### ref02.split -/
theorem sInts_inj {a b : ByteArray} (h : sInts a = sInts b) : a = b := by
  have h2 : a.data.toList = b.data.toList := by
    unfold sInts at h
    generalize a.data.toList = x at h
    generalize b.data.toList = y at h
    induction x generalizing y with
    | nil => cases y with
      | nil => rfl
      | cons _ _ => simp at h
    | cons p x ih => cases y with
      | nil => simp at h
      | cons q y =>
        simp only [List.map_cons, List.cons.injEq] at h
        have e : p = q := UInt8.toNat_inj.1 (by omega)
        rw [e, ih y h.2]
  exact ByteArray.ext (Array.toList_inj.1 h2)
theorem map_sInts_inj : ∀ {l r : List ByteArray}, l.map sInts = r.map sInts → l = r
  | [], [], _ => rfl
  | [], _ :: _, h => by simp at h
  | _ :: _, [], h => by simp at h
  | x :: l, y :: r, h => by
    simp only [List.map_cons, List.cons.injEq] at h
    rw [sInts_inj h.1, map_sInts_inj h.2]
theorem sInts_extract (s : ByteArray) (a b : Nat) : sInts (s.extract a b) = ((sInts s).drop a).take (b - a) := by
  unfold sInts
  have h := Lib.extract_toList s a b
  rw [Lib.toList_data] at h
  rw [h, List.map_take, List.map_drop]
def splI (c : Int) : List Int → List Int → List (List Int)
  | cur, [] => [cur]
  | cur, b :: r => if b = c then cur :: splI c [] r else splI c (cur ++ [b]) r
def spA : Option (Nat × Nat × List ByteArray) → AV
  | none => .v (.slice none 0 0)
  | some y => .sl 25 y.1 0 y.2.1
def spC : Option (Nat × Nat × List ByteArray) → List (Nat × Chunk)
  | none => []
  | some y => [(25, ⟨.row, 9, 1, y.1, (y.2.2.map Value.string).map .v⟩)]
def spL : Option (Nat × Nat × List ByteArray) → List ByteArray
  | none => []
  | some y => y.2.2
def spN : Option (Nat × Nat × List ByteArray) → Prop
  | none => True
  | some y => y.2.1 = y.2.2.length
theorem take_more (s : ByteArray) (f q : Int) (f0 : 0 ≤ f) (f1 : f ≤ q) (h1 : q < s.size) : ((sInts s).drop f.toNat).take ((q + 1).toNat - f.toNat) = ((sInts s).drop f.toNat).take (q.toNat - f.toNat) ++ [bAt s q] := by
  have h := sInts_get s q.toNat (by omega)
  rw [show ((q.toNat : Nat) : Int) = q by omega] at h
  rw [show (q + 1).toNat - f.toNat = (q.toNat - f.toNat) + 1 by omega, List.take_add_one, List.getElem?_drop, show f.toNat + (q.toNat - f.toNat) = q.toNat by omega, h]
  rfl
theorem ckapp' (k : CK) (ty es v : Nat) (a : List ByteArray) (p : ByteArray) : Chunk.mk k ty es v ((a.map Value.string).map .v ++ [.v (.string p)]) = Chunk.mk k ty es v (((a ++ [p]).map Value.string).map .v) := by simp
set_option maxHeartbeats 4000000 in
theorem split_ret (s : ByteArray) (hs : s.size < 4294967281) (c : Int) (ps : List ByteArray) (hps : ps.map sInts = splI c [] (sInts s)) (w : World) : RetRow Tryz.prog 74 [.string s, .int .u8 c] w 9 1 ps.length (ps.map .string) := by
  refine RetQ.row ?_
  refine RetQ.of (I := fun _ => True) (fun _ _ => trivial) (TTok 0 _) Tryz.func74 (by kernel_rfl) rfl rfl ?_
  repeat' (
    (conv => whnf)
    first
      | (with_reducible first
          | refine TR.seq ?_
          | refine TR.region (TTok _ _) ?_
          | refine TR.drawn (TTok _ _) mixed ?_
          | refine TR.block ?_
          | refine TR.ret ?_
          | refine TR.exit ?_
          | refine TR.skip ?_
          | refine TR.condB rfl ?_
          | refine Br.cond_t ?_
          | refine Br.cond_f ?_
          | refine Br.yes (by first | decide | assumption | (apply decide_eq_true; omega)) ?_
          | refine Br.non (by first | decide | assumption | (apply decide_eq_false; omega)) ?_
          | refine Br.cond_ff ?_
          | refine Br.eqT (by omega) ?_
          | refine Br.eqF (by omega) ?_
          | refine Br.neT (by omega) ?_
          | refine Br.neF (by omega) ?_
          | refine Ld.mk' _ rfl ?_
          | refine Need.mk (by first | decide | omega | kernel_rfl) ?_
          | refine Nm.i64 (by omega) ?_
          | refine Nm.u64 (by omega) ?_
          | refine Nm.u8 (by omega) ?_)
      | (refine x_exq (TTok _ _) ?_; (conv => whnf); fail_if_success (guard_target =ₛ False)))
  refine TR.loopH (fun x : Int × Int × Option (Nat × Nat × List ByteArray) => [(5, spA x.2.2), (6, .v (.int .i64 x.2.1)), (7, .v (.int .i64 x.1))]) (fun x => spC x.2.2) (fun x => 0 ≤ x.2.1 ∧ x.2.1 ≤ x.1 ∧ x.1 ≤ s.size ∧ spN x.2.2 ∧ (spL x.2.2).length ≤ x.1 ∧ (spL x.2.2).map sInts ++ splI c (((sInts s).drop x.2.1.toNat).take (x.1.toNat - x.2.1.toNat)) ((sInts s).drop x.1.toNat) = ps.map sInts) (fun x => (s.size - x.1).toNat) (0, 0, none) ⟨by dsimp only; omega, by dsimp only; omega, by dsimp only; omega, trivial, by simp [spL], by simp [spL, hps]⟩ ?_ ?_
  · repeat' ((conv => whnf); first | exact trivial | exact Fgt.nil | exact Fgt.mk rfl rfl rfl | refine And.intro rfl ?_ | refine And.intro ?_ ?_)
  · rintro ⟨q, f, g⟩ ⟨f0, f1, q1, gn, gl, hV⟩
    dsimp only at f0 f1 q1 gn gl hV ⊢
    by_cases hq : q < s.size
    · have hd := drop_bAt s q (by omega) hq
      by_cases hc : bAt s q = c
      · obtain ⟨p, hp⟩ : ∃ p, s.extract f.toNat q.toNat = p := ⟨_, rfl⟩
        have hp2 : sInts p = ((sInts s).drop f.toNat).take (q.toNat - f.toNat) := by rw [← hp, sInts_extract]
        rw [hd, splI, if_pos hc] at hV
        rcases g with _ | ⟨gv, gm, gp⟩
        · skip
          repeat' (
            (conv => whnf)
            first
              | (with_reducible first
                  | refine TR.seq ?_
                  | refine TR.region (TTok _ _) ?_
                  | refine TR.drawn (TTok _ _) mixed ?_
                  | refine TR.block ?_
                  | refine TR.ret ?_
                  | refine TR.exit ?_
                  | refine TR.skip ?_
                  | refine TR.condB rfl ?_
                  | refine Br.cond_t ?_
                  | refine Br.cond_f ?_
                  | refine Br.yes (by first | decide | assumption | (apply decide_eq_true; omega)) ?_
                  | refine Br.non (by first | decide | assumption | (apply decide_eq_false; omega)) ?_
                  | refine Br.cond_ff ?_
                  | refine Br.eqT (by omega) ?_
                  | refine Br.eqF (by omega) ?_
                  | refine Br.neT (by omega) ?_
                  | refine Br.neF (by omega) ?_
                  | refine Ld.mk' _ rfl ?_
                  | refine Need.mk (by first | decide | omega | kernel_rfl) ?_
                  | refine Nm.i64 (by omega) ?_
                  | refine Nm.u64 (by omega) ?_
                  | refine Nm.u8 (by omega) ?_)
              | refine Nm.mk' p hp ?_
              | refine x_append_nil (X := ⟨Tryz.prog, TT, 0, fun _ => True⟩) (TTok _ _) (d := 25) (c0 := 0) (t := 50) (e := 9) (m := 1) (cr := [(24, some ⟨.row, 9, 1, 0, [.v (.string p)]⟩)]) (l := [.v (.string p)]) rfl rfl rfl rfl rfl rfl (Nat.zero_lt_succ 0) rfl (by refine Src.sl (dk := ⟨.row, 9, 1, 0, [.v (.string p)]⟩) (lo := 0) (kd := 0) ?_ ?_ ?_ ?_ ?_ <;> rfl) (by intro i q h; simp only [List.mem_singleton, Prod.mk.injEq] at h; obtain ⟨rfl, rfl⟩ := h; rfl) (by decide) (by decide) ?_
              | (refine x_exq (TTok _ _) ?_; (conv => whnf); fail_if_success (guard_target =ₛ False)))
          all_goals (conv => whnf)
          refine ⟨(q + 1, q + 1, some (0, 1, [p])), ⟨by dsimp only; omega, by dsimp only; omega, by dsimp only; omega, rfl, by simp [spL]; omega, ?_⟩, by dsimp only; omega, ?_⟩
          · dsimp only [spL] at hV ⊢
            rw [← hV, Nat.sub_self, List.take_zero, ← hp2]
            rfl
          repeat' ((conv => whnf); first | exact trivial | exact Fgt.nil | exact Fgt.mk rfl rfl rfl | exact Fgt.mk rfl (by simp only [noRefC, nr_app, nr_map, noRefL, noRef, Bool.and_self]) rfl | refine And.intro rfl ?_ | refine And.intro (ckapp' _ _ _ _ _ _) ?_ | refine And.intro ?_ ?_)
        · have gn' : gm = gp.length := gn
          have hg1 : gm + 1 ≤ maxLen := by dsimp only [spL] at gl; unfold maxLen; omega
          have hg2 : (gm + 1) * 16 ≤ 140737488355328 := by dsimp only [spL] at gl; omega
          repeat' (
            (conv => whnf)
            first
              | (with_reducible first
                  | refine TR.seq ?_
                  | refine TR.region (TTok _ _) ?_
                  | refine TR.drawn (TTok _ _) mixed ?_
                  | refine TR.block ?_
                  | refine TR.ret ?_
                  | refine TR.exit ?_
                  | refine TR.skip ?_
                  | refine TR.condB rfl ?_
                  | refine Br.cond_t ?_
                  | refine Br.cond_f ?_
                  | refine Br.yes (by first | decide | assumption | (apply decide_eq_true; omega)) ?_
                  | refine Br.non (by first | decide | assumption | (apply decide_eq_false; omega)) ?_
                  | refine Br.cond_ff ?_
                  | refine Br.eqT (by omega) ?_
                  | refine Br.eqF (by omega) ?_
                  | refine Br.neT (by omega) ?_
                  | refine Br.neF (by omega) ?_
                  | refine Ld.mk' _ rfl ?_
                  | refine Need.mk (by first | decide | omega | kernel_rfl) ?_
                  | refine Nm.i64 (by omega) ?_
                  | refine Nm.u64 (by omega) ?_
                  | refine Nm.u8 (by omega) ?_)
              | refine Nm.mk' p hp ?_
              | refine x_append (X := ⟨Tryz.prog, TT, 0, fun _ => True⟩) (TTok _ _) (c := 25) (kv := gv) (t := 50) (e := 9) (n := gm) (m := 1) (ck := ⟨.row, 9, 1, gv, (gp.map Value.string).map .v⟩) (cr := [(24, some ⟨.row, 9, 1, 0, [.v (.string p)]⟩)]) (l := [.v (.string p)]) rfl rfl rfl rfl rfl rfl rfl rfl rfl rfl (Nat.zero_lt_succ 0) rfl (by simp [gn']) (by refine Src.sl (dk := ⟨.row, 9, 1, 0, [.v (.string p)]⟩) (lo := 0) (kd := 0) ?_ ?_ ?_ ?_ ?_ <;> rfl) (by intro i q h; simp only [List.mem_singleton, Prod.mk.injEq] at h; obtain ⟨rfl, rfl⟩ := h; rfl) hg1 hg2 ?_
              | (refine x_exq (TTok _ _) ?_; (conv => whnf); fail_if_success (guard_target =ₛ False)))
          all_goals (conv => whnf)
          refine ⟨(q + 1, q + 1, some (gv + 1, gm + 1, gp ++ [p])), ⟨by dsimp only; omega, by dsimp only; omega, by dsimp only; omega, by simp [spN, gn'], by simp [spL] at gl ⊢; omega, ?_⟩, by dsimp only; omega, ?_⟩
          · dsimp only [spL] at hV ⊢
            rw [← hV, Nat.sub_self, List.take_zero, List.map_append, List.map_cons, List.map_nil, List.append_assoc, hp2]
            rfl
          repeat' ((conv => whnf); first | exact trivial | exact Fgt.nil | exact Fgt.mk rfl rfl rfl | exact Fgt.mk rfl (by simp only [noRefC, nr_app, nr_map, noRefL, noRef, Bool.and_self]) rfl | refine And.intro rfl ?_ | refine And.intro (ckapp' _ _ _ _ _ _) ?_ | refine And.intro ?_ ?_)
      · rcases g with _ | ⟨gv, gm, gp⟩
        · skip
          repeat' (
            (conv => whnf)
            first
              | (with_reducible first
                  | refine TR.seq ?_
                  | refine TR.region (TTok _ _) ?_
                  | refine TR.drawn (TTok _ _) mixed ?_
                  | refine TR.block ?_
                  | refine TR.ret ?_
                  | refine TR.exit ?_
                  | refine TR.skip ?_
                  | refine TR.condB rfl ?_
                  | refine Br.cond_t ?_
                  | refine Br.cond_f ?_
                  | refine Br.yes (by first | decide | assumption | (apply decide_eq_true; omega)) ?_
                  | refine Br.non (by first | decide | assumption | (apply decide_eq_false; omega)) ?_
                  | refine Br.cond_ff ?_
                  | refine Br.eqT (by omega) ?_
                  | refine Br.eqF (by omega) ?_
                  | refine Br.neT (by omega) ?_
                  | refine Br.neF (by omega) ?_
                  | refine Ld.mk' _ rfl ?_
                  | refine Need.mk (by first | decide | omega | kernel_rfl) ?_
                  | refine Nm.i64 (by omega) ?_
                  | refine Nm.u64 (by omega) ?_
                  | refine Nm.u8 (by omega) ?_
                  | refine Br.non (by simpa using hc) ?_)
              | (refine x_exq (TTok _ _) ?_; (conv => whnf); fail_if_success (guard_target =ₛ False)))
          all_goals (conv => whnf)
          refine ⟨(q + 1, f, none), ⟨by dsimp only; omega, by dsimp only; omega, by dsimp only; omega, gn, by dsimp only; omega, ?_⟩, by dsimp only; omega, ?_⟩
          · dsimp only
            rw [← hV, hd, splI, if_neg hc, take_more s f q f0 f1 hq]
          repeat' ((conv => whnf); first | exact trivial | exact Fgt.nil | exact Fgt.mk rfl rfl rfl | exact Fgt.mk rfl (by simp only [noRefC, nr_app, nr_map, noRefL, noRef, Bool.and_self]) rfl | refine And.intro rfl ?_ | refine And.intro (ckapp' _ _ _ _ _ _) ?_ | refine And.intro ?_ ?_)
        · skip
          repeat' (
            (conv => whnf)
            first
              | (with_reducible first
                  | refine TR.seq ?_
                  | refine TR.region (TTok _ _) ?_
                  | refine TR.drawn (TTok _ _) mixed ?_
                  | refine TR.block ?_
                  | refine TR.ret ?_
                  | refine TR.exit ?_
                  | refine TR.skip ?_
                  | refine TR.condB rfl ?_
                  | refine Br.cond_t ?_
                  | refine Br.cond_f ?_
                  | refine Br.yes (by first | decide | assumption | (apply decide_eq_true; omega)) ?_
                  | refine Br.non (by first | decide | assumption | (apply decide_eq_false; omega)) ?_
                  | refine Br.cond_ff ?_
                  | refine Br.eqT (by omega) ?_
                  | refine Br.eqF (by omega) ?_
                  | refine Br.neT (by omega) ?_
                  | refine Br.neF (by omega) ?_
                  | refine Ld.mk' _ rfl ?_
                  | refine Need.mk (by first | decide | omega | kernel_rfl) ?_
                  | refine Nm.i64 (by omega) ?_
                  | refine Nm.u64 (by omega) ?_
                  | refine Nm.u8 (by omega) ?_
                  | refine Br.non (by simpa using hc) ?_)
              | (refine x_exq (TTok _ _) ?_; (conv => whnf); fail_if_success (guard_target =ₛ False)))
          all_goals (conv => whnf)
          refine ⟨(q + 1, f, some (gv, gm, gp)), ⟨by dsimp only; omega, by dsimp only; omega, by dsimp only; omega, gn, by dsimp only; omega, ?_⟩, by dsimp only; omega, ?_⟩
          · dsimp only
            rw [← hV, hd, splI, if_neg hc, take_more s f q f0 f1 hq]
          repeat' ((conv => whnf); first | exact trivial | exact Fgt.nil | exact Fgt.mk rfl rfl rfl | exact Fgt.mk rfl (by simp only [noRefC, nr_app, nr_map, noRefL, noRef, Bool.and_self]) rfl | refine And.intro rfl ?_ | refine And.intro (ckapp' _ _ _ _ _ _) ?_ | refine And.intro ?_ ?_)
    · have hqe : q = s.size := by omega
      obtain ⟨p, hp⟩ : ∃ p, s.extract f.toNat s.size = p := ⟨_, rfl⟩
      have hp2 : sInts p = ((sInts s).drop f.toNat).take (q.toNat - f.toNat) := by rw [← hp, sInts_extract, hqe]; rfl
      have hnil : (sInts s).drop q.toNat = [] := List.drop_eq_nil_of_le (by rw [sInts_length]; omega)
      rw [hnil, splI, ← hp2] at hV
      have hall : spL g ++ [p] = ps := map_sInts_inj (by rw [List.map_append]; exact hV)
      subst hall
      rcases g with _ | ⟨gv, gm, gp⟩
      · skip
        repeat' (
          (conv => whnf)
          first
            | (with_reducible first
                | refine TR.seq ?_
                | refine TR.region (TTok _ _) ?_
                | refine TR.drawn (TTok _ _) mixed ?_
                | refine TR.block ?_
                | refine TR.ret ?_
                | refine TR.exit ?_
                | refine TR.skip ?_
                | refine TR.condB rfl ?_
                | refine Br.cond_t ?_
                | refine Br.cond_f ?_
                | refine Br.yes (by first | decide | assumption | (apply decide_eq_true; omega)) ?_
                | refine Br.non (by first | decide | assumption | (apply decide_eq_false; omega)) ?_
                | refine Br.cond_ff ?_
                | refine Br.eqT (by omega) ?_
                | refine Br.eqF (by omega) ?_
                | refine Br.neT (by omega) ?_
                | refine Br.neF (by omega) ?_
                | refine Ld.mk' _ rfl ?_
                | refine Need.mk (by first | decide | omega | kernel_rfl) ?_
                | refine Nm.i64 (by omega) ?_
                | refine Nm.u64 (by omega) ?_
                | refine Nm.u8 (by omega) ?_)
            | refine Nm.mk' p hp ?_
            | refine x_append_nil (X := ⟨Tryz.prog, TT, 0, fun _ => True⟩) (TTok _ _) (d := 33) (c0 := 0) (t := 50) (e := 9) (m := 1) (cr := [(32, some ⟨.row, 9, 1, 0, [.v (.string p)]⟩)]) (l := [.v (.string p)]) rfl rfl rfl rfl rfl rfl (Nat.zero_lt_succ 0) rfl (by refine Src.sl (dk := ⟨.row, 9, 1, 0, [.v (.string p)]⟩) (lo := 0) (kd := 0) ?_ ?_ ?_ ?_ ?_ <;> rfl) (by intro i q h; simp only [List.mem_singleton, Prod.mk.injEq] at h; obtain ⟨rfl, rfl⟩ := h; rfl) (by decide) (by decide) ?_
            | (refine x_exq (TTok _ _) ?_; (conv => whnf); fail_if_success (guard_target =ₛ False)))
        all_goals (conv => whnf)
        exact Fin.row (c := 33) (ver := 0) rfl rfl rfl (Nat.zero_lt_succ 0) (Nat.zero_lt_succ 0) rfl
      · have gn' : gm = gp.length := gn
        have hg1 : gm + 1 ≤ maxLen := by dsimp only [spL] at gl; unfold maxLen; omega
        have hg2 : (gm + 1) * 16 ≤ 140737488355328 := by dsimp only [spL] at gl; omega
        repeat' (
          (conv => whnf)
          first
            | (with_reducible first
                | refine TR.seq ?_
                | refine TR.region (TTok _ _) ?_
                | refine TR.drawn (TTok _ _) mixed ?_
                | refine TR.block ?_
                | refine TR.ret ?_
                | refine TR.exit ?_
                | refine TR.skip ?_
                | refine TR.condB rfl ?_
                | refine Br.cond_t ?_
                | refine Br.cond_f ?_
                | refine Br.yes (by first | decide | assumption | (apply decide_eq_true; omega)) ?_
                | refine Br.non (by first | decide | assumption | (apply decide_eq_false; omega)) ?_
                | refine Br.cond_ff ?_
                | refine Br.eqT (by omega) ?_
                | refine Br.eqF (by omega) ?_
                | refine Br.neT (by omega) ?_
                | refine Br.neF (by omega) ?_
                | refine Ld.mk' _ rfl ?_
                | refine Need.mk (by first | decide | omega | kernel_rfl) ?_
                | refine Nm.i64 (by omega) ?_
                | refine Nm.u64 (by omega) ?_
                | refine Nm.u8 (by omega) ?_)
            | refine Nm.mk' p hp ?_
            | refine x_append (X := ⟨Tryz.prog, TT, 0, fun _ => True⟩) (TTok _ _) (c := 25) (kv := gv) (t := 50) (e := 9) (n := gm) (m := 1) (ck := ⟨.row, 9, 1, gv, (gp.map Value.string).map .v⟩) (cr := [(32, some ⟨.row, 9, 1, 0, [.v (.string p)]⟩)]) (l := [.v (.string p)]) rfl rfl rfl rfl rfl rfl rfl rfl rfl rfl (Nat.zero_lt_succ 0) rfl (by simp [gn']) (by refine Src.sl (dk := ⟨.row, 9, 1, 0, [.v (.string p)]⟩) (lo := 0) (kd := 0) ?_ ?_ ?_ ?_ ?_ <;> rfl) (by intro i q h; simp only [List.mem_singleton, Prod.mk.injEq] at h; obtain ⟨rfl, rfl⟩ := h; rfl) hg1 hg2 ?_
            | (refine x_exq (TTok _ _) ?_; (conv => whnf); fail_if_success (guard_target =ₛ False)))
        all_goals (conv => whnf)
        dsimp only [spL]
        rw [show (gp ++ [p]).length = gm + 1 by simp [gn']]
        exact Fin.row (c := 25) (ver := gv + 1) rfl rfl (ckapp' _ _ _ _ _ _) (Nat.zero_lt_succ _) (Nat.zero_lt_succ 0) (by simp [gn'])
end Go.Proofs.YtopadpgpmkkpgaaGreatDoor
set_option maxRecDepth 100000
namespace Go.Proofs.YtopadpgpmkkpgaaGreatDoor
open Go.SX
/-! ### ref02.digits, num, Number; ref04.value, Unhex -/
noncomputable def digB (n : Nat) : Bool := runF KK GG (fun f => Tryz.prog.funcs[f]?) TT 1000 12 Tryz.f57 [.v (.int .i64 (Int.ofNat n))] (eqStr (dec3 n))
theorem dig_run0 : allBelow 64 (fun n => digB (n + 0)) = true := by kernel_rfl
theorem dig_run1 : allBelow 64 (fun n => digB (n + 64)) = true := by kernel_rfl
theorem dig_run2 : allBelow 64 (fun n => digB (n + 128)) = true := by kernel_rfl
theorem dig_run3 : allBelow 64 (fun n => digB (n + 192)) = true := by kernel_rfl
theorem dig_run (n : Nat) (hn : n < 256) : digB n = true := by
  have key : ∀ k, allBelow 64 (fun n => digB (n + k)) = true → k ≤ n → n < k + 64 → digB n = true := fun k h h1 h2 => by
    have := allBelow_eq h (n - k) (by omega)
    rwa [Nat.sub_add_cancel h1] at this
  by_cases h0 : n < 64
  · exact key 0 dig_run0 (by omega) (by omega)
  by_cases h1 : n < 128
  · exact key 64 dig_run1 (by omega) (by omega)
  by_cases h2 : n < 192
  · exact key 128 dig_run2 (by omega) (by omega)
  · exact key 192 dig_run3 (by omega) (by omega)
theorem digits_ret (v : Int) (hv : 0 ≤ v ∧ v < 256) (w : World) (hI : I13 w) : Ret Tryz.prog 57 [.int .i64 v] w (.string (decS v)) := by
  obtain ⟨n, rfl⟩ : ∃ n : Nat, v = n := ⟨v.toNat, by omega⟩
  have h := dig_run n (by omega)
  unfold digB runF at h
  split at h
  · rename_i c hb
    exact Ret.runB (I := I13) (fun w' hm => hI.mod hm) (fun f => Tryz.prog.funcs[f]?) GG (fun w hw => hw) KK (KKok I13) 1000 12 (TTok 0 I13) mixed (fun f fn hf => hf) Tryz.func57 (by kernel_rfl) hb h eqStr_eq
  · cases h
def hxv (b : Int) : Int := let v := if 48 ≤ b ∧ b ≤ 57 then b - 48 else if 97 ≤ b ∧ b ≤ 118 then b - 97 + 10 else if 65 ≤ b ∧ b ≤ 86 then b - 65 + 10 else 99
  if 16 ≤ v then 99 else v
theorem hxv_range (b : Int) : 0 ≤ hxv b ∧ (hxv b < 16 ∨ hxv b = 99) := by
  unfold hxv
  simp only
  split <;> split <;> (try split) <;> (try split) <;> omega
theorem value_ret (b : Int) (hb : 0 ≤ b ∧ b ≤ 255) (w : World) : Ret Tryz.prog 121 [.int .u8 b, .int .u8 16] w (.int .u8 (hxv b)) := by
  have hc : (b < 48 ∨ (48 ≤ b ∧ b ≤ 57) ∨ (57 < b ∧ b < 65) ∨ (65 ≤ b ∧ b < 71) ∨ (71 ≤ b ∧ b ≤ 86) ∨ (86 < b ∧ b < 97) ∨ (97 ≤ b ∧ b < 103) ∨ (103 ≤ b ∧ b ≤ 118) ∨ 118 < b) := by omega
  rcases hc with hc | hc | hc | hc | hc | hc | hc | hc | hc
  all_goals refine Ret.tj (I := fun _ => True) (fun _ _ => trivial) (TTok 0 _) Tryz.func121 (by kernel_rfl) rfl ?_
  all_goals repeat' (
    (conv => whnf)
    first
      | (with_reducible first
          | refine TJ.seq ?_
          | refine TJ.region (TTok _ _) ?_
          | refine TJ.drawn (TTok _ _) mixed ?_
          | refine TJ.cond rfl ?_
          | refine TJ.block ?_
          | refine TJ.loop ?_
          | refine LJ.step ?_
          | refine TJ.ret ?_
          | refine TJ.exit ?_
          | refine TJ.skip ?_
          | refine TJ.scope ?_
          | refine TJ.label ?_
          | refine Br.cond_t ?_
          | refine Br.cond_f ?_
          | refine Br.yes (by first | decide | assumption | (apply decide_eq_true; omega)) ?_
          | refine Br.non (by first | decide | assumption | (apply decide_eq_false; omega)) ?_
          | refine Br.cond_ff ?_
          | refine Br.eqT (by omega) ?_
          | refine Br.eqF (by omega) ?_
          | refine Br.neT (by omega) ?_
          | refine Br.neF (by omega) ?_
          | refine Ld.mk' _ rfl ?_
          | refine Need.mk (by first | decide | omega | kernel_rfl) ?_
          | refine Nm.i64 (by omega) ?_
          | refine Nm.u64 (by omega) ?_
          | refine Nm.u8 (by omega) ?_))
  all_goals (conv => whnf)
  all_goals (simp only [val, hxv])
  all_goals congr 2
  all_goals (repeat' split) <;> omega
theorem num1_ret (v : Int) (hv : 0 ≤ v ∧ v < 256) (w : World) : Ret Tryz.prog 80 [.int .i64 v, .int .i64 1] w (.string (strOfNums [v])) := by
  refine Ret.tj (I := fun _ => True) (fun _ _ => trivial) (TTok 0 _) Tryz.func80 (by kernel_rfl) rfl ?_
  repeat' (
    (conv => whnf)
    first
      | (with_reducible first
          | refine TJ.seq ?_
          | refine TJ.region (TTok _ _) ?_
          | refine TJ.drawn (TTok _ _) mixed ?_
          | refine TJ.cond rfl ?_
          | refine TJ.block ?_
          | refine TJ.loop ?_
          | refine LJ.step ?_
          | refine TJ.ret ?_
          | refine TJ.exit ?_
          | refine TJ.skip ?_
          | refine TJ.scope ?_
          | refine TJ.label ?_
          | refine Br.cond_t ?_
          | refine Br.cond_f ?_
          | refine Br.yes (by first | decide | assumption | (apply decide_eq_true; omega)) ?_
          | refine Br.non (by first | decide | assumption | (apply decide_eq_false; omega)) ?_
          | refine Br.cond_ff ?_
          | refine Br.eqT (by omega) ?_
          | refine Br.eqF (by omega) ?_
          | refine Br.neT (by omega) ?_
          | refine Br.neF (by omega) ?_
          | refine Sh.shrL ?_
          | refine Sh.shlL ?_
          | refine Nm.fd (by decide) ?_
          | refine Ld.mk' _ rfl ?_
          | refine Need.mk (by first | decide | omega | kernel_rfl) ?_
          | refine Nm.i64 (by omega) ?_
          | refine Nm.u64 (by omega) ?_
          | refine Nm.u8 (by omega) ?_)
      | refine Nm.mk' (strOfNums [v]) (by simp) ?_
      | refine x_exq (TTok _ _) ?_)
  all_goals (conv => whnf)
  all_goals rfl
theorem num2_ret (v : Int) (hv : 0 ≤ v ∧ v < 65536) (w : World) : Ret Tryz.prog 80 [.int .i64 v, .int .i64 2] w (.string (strOfNums [v / 256, v % 256])) := by
  refine Ret.tj (I := fun _ => True) (fun _ _ => trivial) (TTok 0 _) Tryz.func80 (by kernel_rfl) rfl ?_
  repeat' (
    (conv => whnf)
    first
      | (with_reducible first
          | refine TJ.seq ?_
          | refine TJ.region (TTok _ _) ?_
          | refine TJ.drawn (TTok _ _) mixed ?_
          | refine TJ.cond rfl ?_
          | refine TJ.block ?_
          | refine TJ.loop ?_
          | refine LJ.step ?_
          | refine TJ.ret ?_
          | refine TJ.exit ?_
          | refine TJ.skip ?_
          | refine TJ.scope ?_
          | refine TJ.label ?_
          | refine Br.cond_t ?_
          | refine Br.cond_f ?_
          | refine Br.yes (by first | decide | assumption | (apply decide_eq_true; omega)) ?_
          | refine Br.non (by first | decide | assumption | (apply decide_eq_false; omega)) ?_
          | refine Br.cond_ff ?_
          | refine Br.eqT (by omega) ?_
          | refine Br.eqF (by omega) ?_
          | refine Br.neT (by omega) ?_
          | refine Br.neF (by omega) ?_
          | refine Sh.shrL ?_
          | refine Sh.shlL ?_
          | refine Nm.fd (by decide) ?_
          | refine Ld.mk' _ rfl ?_
          | refine Need.mk (by first | decide | omega | kernel_rfl) ?_
          | refine Nm.i64 (by omega) ?_
          | refine Nm.u64 (by omega) ?_
          | refine Nm.u8 (by omega) ?_
          | refine Nm.mk' (v % 256) (by simp [IntKind.wrap, IntKind.signed, IntKind.bits]) ?_
          | refine Nm.mk' (v / 256) (by simp [IntKind.wrap, IntKind.signed, IntKind.bits]; omega) ?_)
      | refine Nm.keep ?_
      | refine x_exq (TTok _ _) ?_)
  all_goals (conv => whnf)
  all_goals rfl
def numM : Int → List Int → Option Int
  | n, [] => some n
  | n, c :: r => if c < 48 ∨ 57 < c ∨ 255 < n then none else numM (10 * n + (c - 48)) r
def numV (s : ByteArray) : Int := match numM 0 (sInts s) with
  | none => -1
  | some n => if s = ⟨#[]⟩ ∨ 255 < n ∨ (1 < s.size ∧ bAt s 0 = 48) then -1 else n
theorem number_ret (s : ByteArray) (hs : s.size < 4294967281) (w : World) : Ret Tryz.prog 116 [.string s, .int .i64 255] w (.int .i64 (numV s)) := by
  refine Ret.of (I := fun _ => True) (fun _ _ => trivial) (TTok 0 _) Tryz.func116 (by kernel_rfl) rfl rfl ?_
  repeat' (
    (conv => whnf)
    first
      | (with_reducible first
          | refine TR.seq ?_
          | refine TR.region (TTok _ _) ?_
          | refine TR.drawn (TTok _ _) mixed ?_
          | refine TR.block ?_
          | refine TR.ret ?_
          | refine TR.exit ?_
          | refine TR.skip ?_
          | refine TR.condB rfl ?_
          | refine Br.cond_t ?_
          | refine Br.cond_f ?_
          | refine Br.yes (by first | decide | assumption | (apply decide_eq_true; omega)) ?_
          | refine Br.non (by first | decide | assumption | (apply decide_eq_false; omega)) ?_
          | refine Br.cond_ff ?_
          | refine Br.eqT (by omega) ?_
          | refine Br.eqF (by omega) ?_
          | refine Br.neT (by omega) ?_
          | refine Br.neF (by omega) ?_
          | refine Ld.mk' _ rfl ?_
          | refine Need.mk (by first | decide | omega | kernel_rfl) ?_
          | refine Nm.i64 (by omega) ?_
          | refine Nm.u64 (by omega) ?_
          | refine Nm.u8 (by omega) ?_)
      | (refine x_exq (TTok _ _) ?_; (conv => whnf); fail_if_success (guard_target =ₛ False)))
  refine TR.loopH (fun x : Int × Int => [(5, .v (.int .i64 x.2)), (6, .v (.int .i64 x.1))]) (fun _ => []) (fun x => 0 ≤ x.1 ∧ x.1 ≤ s.size ∧ 0 ≤ x.2 ∧ x.2 ≤ 2559 ∧ numM x.2 ((sInts s).drop x.1.toNat) = numM 0 (sInts s)) (fun x => (s.size - x.1).toNat) (0, 0) ⟨by dsimp only; omega, by dsimp only; omega, by dsimp only; omega, by dsimp only; omega, rfl⟩ ?_ ?_
  · repeat' ((conv => whnf); first | exact trivial | exact Fgt.nil | exact Fgt.mk rfl rfl rfl | refine And.intro rfl ?_ | refine And.intro ?_ ?_)
  · rintro ⟨q, n⟩ ⟨q0, q1, n0, n1, hV⟩
    dsimp only at q0 q1 n0 n1 hV ⊢
    by_cases hq : q < s.size
    · have hd := drop_bAt s q q0 hq
      have hb := bAt_range s q
      rw [hd, numM] at hV
      by_cases c1 : bAt s q < 48
      · rw [if_pos (.inl c1)] at hV
        repeat' (
          (conv => whnf)
          first
            | (with_reducible first
                | refine TR.seq ?_
                | refine TR.region (TTok _ _) ?_
                | refine TR.drawn (TTok _ _) mixed ?_
                | refine TR.block ?_
                | refine TR.ret ?_
                | refine TR.exit ?_
                | refine TR.skip ?_
                | refine TR.condB rfl ?_
                | refine Br.cond_t ?_
                | refine Br.cond_f ?_
                | refine Br.yes (by first | decide | assumption | (apply decide_eq_true; omega)) ?_
                | refine Br.non (by first | decide | assumption | (apply decide_eq_false; omega)) ?_
                | refine Br.cond_ff ?_
                | refine Br.eqT (by omega) ?_
                | refine Br.eqF (by omega) ?_
                | refine Br.neT (by omega) ?_
                | refine Br.neF (by omega) ?_
                | refine Ld.mk' _ rfl ?_
                | refine Need.mk (by first | decide | omega | kernel_rfl) ?_
                | refine Nm.i64 (by omega) ?_
                | refine Nm.u64 (by omega) ?_
                | refine Nm.u8 (by omega) ?_)
            | (refine x_exq (TTok _ _) ?_; (conv => whnf); fail_if_success (guard_target =ₛ False)))
        all_goals (conv => whnf)
        all_goals (simp only [val, numV, ← hV])
      · by_cases c2 : 57 < bAt s q
        · rw [if_pos (.inr (.inl c2))] at hV
          repeat' (
            (conv => whnf)
            first
              | (with_reducible first
                  | refine TR.seq ?_
                  | refine TR.region (TTok _ _) ?_
                  | refine TR.drawn (TTok _ _) mixed ?_
                  | refine TR.block ?_
                  | refine TR.ret ?_
                  | refine TR.exit ?_
                  | refine TR.skip ?_
                  | refine TR.condB rfl ?_
                  | refine Br.cond_t ?_
                  | refine Br.cond_f ?_
                  | refine Br.yes (by first | decide | assumption | (apply decide_eq_true; omega)) ?_
                  | refine Br.non (by first | decide | assumption | (apply decide_eq_false; omega)) ?_
                  | refine Br.cond_ff ?_
                  | refine Br.eqT (by omega) ?_
                  | refine Br.eqF (by omega) ?_
                  | refine Br.neT (by omega) ?_
                  | refine Br.neF (by omega) ?_
                  | refine Ld.mk' _ rfl ?_
                  | refine Need.mk (by first | decide | omega | kernel_rfl) ?_
                  | refine Nm.i64 (by omega) ?_
                  | refine Nm.u64 (by omega) ?_
                  | refine Nm.u8 (by omega) ?_)
              | (refine x_exq (TTok _ _) ?_; (conv => whnf); fail_if_success (guard_target =ₛ False)))
          all_goals (conv => whnf)
          all_goals (simp only [val, numV, ← hV])
        · by_cases c3 : 255 < n
          · rw [if_pos (.inr (.inr c3))] at hV
            repeat' (
              (conv => whnf)
              first
                | (with_reducible first
                    | refine TR.seq ?_
                    | refine TR.region (TTok _ _) ?_
                    | refine TR.drawn (TTok _ _) mixed ?_
                    | refine TR.block ?_
                    | refine TR.ret ?_
                    | refine TR.exit ?_
                    | refine TR.skip ?_
                    | refine TR.condB rfl ?_
                    | refine Br.cond_t ?_
                    | refine Br.cond_f ?_
                    | refine Br.yes (by first | decide | assumption | (apply decide_eq_true; omega)) ?_
                    | refine Br.non (by first | decide | assumption | (apply decide_eq_false; omega)) ?_
                    | refine Br.cond_ff ?_
                    | refine Br.eqT (by omega) ?_
                    | refine Br.eqF (by omega) ?_
                    | refine Br.neT (by omega) ?_
                    | refine Br.neF (by omega) ?_
                    | refine Ld.mk' _ rfl ?_
                    | refine Need.mk (by first | decide | omega | kernel_rfl) ?_
                    | refine Nm.i64 (by omega) ?_
                    | refine Nm.u64 (by omega) ?_
                    | refine Nm.u8 (by omega) ?_)
                | (refine x_exq (TTok _ _) ?_; (conv => whnf); fail_if_success (guard_target =ₛ False)))
            all_goals (conv => whnf)
            all_goals (simp only [val, numV, ← hV])
          · rw [if_neg (by omega)] at hV
            repeat' (
              (conv => whnf)
              first
                | (with_reducible first
                    | refine TR.seq ?_
                    | refine TR.region (TTok _ _) ?_
                    | refine TR.drawn (TTok _ _) mixed ?_
                    | refine TR.block ?_
                    | refine TR.ret ?_
                    | refine TR.exit ?_
                    | refine TR.skip ?_
                    | refine TR.condB rfl ?_
                    | refine Br.cond_t ?_
                    | refine Br.cond_f ?_
                    | refine Br.yes (by first | decide | assumption | (apply decide_eq_true; omega)) ?_
                    | refine Br.non (by first | decide | assumption | (apply decide_eq_false; omega)) ?_
                    | refine Br.cond_ff ?_
                    | refine Br.eqT (by omega) ?_
                    | refine Br.eqF (by omega) ?_
                    | refine Br.neT (by omega) ?_
                    | refine Br.neF (by omega) ?_
                    | refine Ld.mk' _ rfl ?_
                    | refine Need.mk (by first | decide | omega | kernel_rfl) ?_
                    | refine Nm.i64 (by omega) ?_
                    | refine Nm.u64 (by omega) ?_
                    | refine Nm.u8 (by omega) ?_)
                | (refine x_exq (TTok _ _) ?_; (conv => whnf); fail_if_success (guard_target =ₛ False)))
            all_goals (conv => whnf)
            refine ⟨(q + 1, 10 * n + (bAt s q - 48)), ⟨by dsimp only; omega, by dsimp only; omega, by dsimp only; omega, by dsimp only; omega, hV⟩, by dsimp only; omega, ?_⟩
            repeat' ((conv => whnf); first | exact trivial | exact Fgt.nil | exact Fgt.mk rfl rfl rfl | refine And.intro rfl ?_ | refine And.intro ?_ ?_)
    · have hnil : (sInts s).drop q.toNat = [] := List.drop_eq_nil_of_le (by rw [sInts_length]; omega)
      rw [hnil, numM] at hV
      by_cases c1 : s = ⟨#[]⟩
      · skip
        repeat' (
          (conv => whnf)
          first
            | (with_reducible first
                | refine TR.seq ?_
                | refine TR.region (TTok _ _) ?_
                | refine TR.drawn (TTok _ _) mixed ?_
                | refine TR.block ?_
                | refine TR.ret ?_
                | refine TR.exit ?_
                | refine TR.skip ?_
                | refine TR.condB rfl ?_
                | refine Br.cond_t ?_
                | refine Br.cond_f ?_
                | refine Br.yes (by first | decide | assumption | (apply decide_eq_true; omega)) ?_
                | refine Br.non (by first | decide | assumption | (apply decide_eq_false; omega)) ?_
                | refine Br.cond_ff ?_
                | refine Br.eqT (by omega) ?_
                | refine Br.eqF (by omega) ?_
                | refine Br.neT (by omega) ?_
                | refine Br.neF (by omega) ?_
                | refine Ld.mk' _ rfl ?_
                | refine Need.mk (by first | decide | omega | kernel_rfl) ?_
                | refine Nm.i64 (by omega) ?_
                | refine Nm.u64 (by omega) ?_
                | refine Nm.u8 (by omega) ?_
                | refine Br.yes (decide_eq_true c1) ?_)
            | (refine x_exq (TTok _ _) ?_; (conv => whnf); fail_if_success (guard_target =ₛ False)))
        all_goals (conv => whnf)
        all_goals (simp only [val, numV, ← hV]; rw [if_pos (.inl c1)])
      · by_cases c2 : 255 < n
        · skip
          repeat' (
            (conv => whnf)
            first
              | (with_reducible first
                  | refine TR.seq ?_
                  | refine TR.region (TTok _ _) ?_
                  | refine TR.drawn (TTok _ _) mixed ?_
                  | refine TR.block ?_
                  | refine TR.ret ?_
                  | refine TR.exit ?_
                  | refine TR.skip ?_
                  | refine TR.condB rfl ?_
                  | refine Br.cond_t ?_
                  | refine Br.cond_f ?_
                  | refine Br.yes (by first | decide | assumption | (apply decide_eq_true; omega)) ?_
                  | refine Br.non (by first | decide | assumption | (apply decide_eq_false; omega)) ?_
                  | refine Br.cond_ff ?_
                  | refine Br.eqT (by omega) ?_
                  | refine Br.eqF (by omega) ?_
                  | refine Br.neT (by omega) ?_
                  | refine Br.neF (by omega) ?_
                  | refine Ld.mk' _ rfl ?_
                  | refine Need.mk (by first | decide | omega | kernel_rfl) ?_
                  | refine Nm.i64 (by omega) ?_
                  | refine Nm.u64 (by omega) ?_
                  | refine Nm.u8 (by omega) ?_
                  | refine Br.non (decide_eq_false c1) ?_)
              | (refine x_exq (TTok _ _) ?_; (conv => whnf); fail_if_success (guard_target =ₛ False)))
          all_goals (conv => whnf)
          all_goals (simp only [val, numV, ← hV, c2, true_or, or_true, if_true])
        · have hlen : s.size ≠ 0 := fun h => c1 (ByteArray.ext (Array.eq_empty_of_size_eq_zero h))
          by_cases c3 : 1 < s.size
          · by_cases c4 : bAt s 0 = 48
            · skip
              repeat' (
                (conv => whnf)
                first
                  | (with_reducible first
                      | refine TR.seq ?_
                      | refine TR.region (TTok _ _) ?_
                      | refine TR.drawn (TTok _ _) mixed ?_
                      | refine TR.block ?_
                      | refine TR.ret ?_
                      | refine TR.exit ?_
                      | refine TR.skip ?_
                      | refine TR.condB rfl ?_
                      | refine Br.cond_t ?_
                      | refine Br.cond_f ?_
                      | refine Br.yes (by first | decide | assumption | (apply decide_eq_true; omega)) ?_
                      | refine Br.non (by first | decide | assumption | (apply decide_eq_false; omega)) ?_
                      | refine Br.cond_ff ?_
                      | refine Br.eqT (by omega) ?_
                      | refine Br.eqF (by omega) ?_
                      | refine Br.neT (by omega) ?_
                      | refine Br.neF (by omega) ?_
                      | refine Ld.mk' _ rfl ?_
                      | refine Need.mk (by first | decide | omega | kernel_rfl) ?_
                      | refine Nm.i64 (by omega) ?_
                      | refine Nm.u64 (by omega) ?_
                      | refine Nm.u8 (by omega) ?_
                      | refine Br.non (decide_eq_false c1) ?_
                      | refine Br.yes (by simpa using c4) ?_)
                  | (refine x_exq (TTok _ _) ?_; (conv => whnf); fail_if_success (guard_target =ₛ False)))
              all_goals (conv => whnf)
              all_goals (simp only [val, numV, ← hV, c3, c4, and_self, or_true, if_true])
            · skip
              repeat' (
                (conv => whnf)
                first
                  | (with_reducible first
                      | refine TR.seq ?_
                      | refine TR.region (TTok _ _) ?_
                      | refine TR.drawn (TTok _ _) mixed ?_
                      | refine TR.block ?_
                      | refine TR.ret ?_
                      | refine TR.exit ?_
                      | refine TR.skip ?_
                      | refine TR.condB rfl ?_
                      | refine Br.cond_t ?_
                      | refine Br.cond_f ?_
                      | refine Br.yes (by first | decide | assumption | (apply decide_eq_true; omega)) ?_
                      | refine Br.non (by first | decide | assumption | (apply decide_eq_false; omega)) ?_
                      | refine Br.cond_ff ?_
                      | refine Br.eqT (by omega) ?_
                      | refine Br.eqF (by omega) ?_
                      | refine Br.neT (by omega) ?_
                      | refine Br.neF (by omega) ?_
                      | refine Ld.mk' _ rfl ?_
                      | refine Need.mk (by first | decide | omega | kernel_rfl) ?_
                      | refine Nm.i64 (by omega) ?_
                      | refine Nm.u64 (by omega) ?_
                      | refine Nm.u8 (by omega) ?_
                      | refine Br.non (decide_eq_false c1) ?_
                      | refine Br.non (by simpa using c4) ?_)
                  | (refine x_exq (TTok _ _) ?_; (conv => whnf); fail_if_success (guard_target =ₛ False)))
              all_goals (conv => whnf)
              all_goals (simp only [val, numV, ← hV, c1, c2, c4, and_false, or_self, if_false])
          · skip
            repeat' (
              (conv => whnf)
              first
                | (with_reducible first
                    | refine TR.seq ?_
                    | refine TR.region (TTok _ _) ?_
                    | refine TR.drawn (TTok _ _) mixed ?_
                    | refine TR.block ?_
                    | refine TR.ret ?_
                    | refine TR.exit ?_
                    | refine TR.skip ?_
                    | refine TR.condB rfl ?_
                    | refine Br.cond_t ?_
                    | refine Br.cond_f ?_
                    | refine Br.yes (by first | decide | assumption | (apply decide_eq_true; omega)) ?_
                    | refine Br.non (by first | decide | assumption | (apply decide_eq_false; omega)) ?_
                    | refine Br.cond_ff ?_
                    | refine Br.eqT (by omega) ?_
                    | refine Br.eqF (by omega) ?_
                    | refine Br.neT (by omega) ?_
                    | refine Br.neF (by omega) ?_
                    | refine Ld.mk' _ rfl ?_
                    | refine Need.mk (by first | decide | omega | kernel_rfl) ?_
                    | refine Nm.i64 (by omega) ?_
                    | refine Nm.u64 (by omega) ?_
                    | refine Nm.u8 (by omega) ?_
                    | refine Br.non (decide_eq_false c1) ?_)
                | (refine x_exq (TTok _ _) ?_; (conv => whnf); fail_if_success (guard_target =ₛ False)))
            all_goals (conv => whnf)
            all_goals (simp only [val, numV, ← hV, c1, c2, c3, false_and, or_self, if_false])
end Go.Proofs.YtopadpgpmkkpgaaGreatDoor
set_option maxRecDepth 100000
namespace Go.Proofs.YtopadpgpmkkpgaaGreatDoor
open Go.SX
/-! ### ref04.Unhex -/
def unhM : List Int → List Int → Option (List Int)
  | acc, a :: b :: r => if hxv a = 99 ∨ hxv b = 99 then none else unhM (acc ++ [16 * hxv a + hxv b]) r
  | acc, _ => some acc
def unhV (s : ByteArray) : Value := match unhM [] (sInts s) with
  | none => .tuple #[.string ⟨#[]⟩, .bool false]
  | some l => if s.size % 2 = 0 then .tuple #[.string (strOfNums l), .bool true] else .tuple #[.string ⟨#[]⟩, .bool false]
def uhA : Option (Nat × Nat × List Int) → AV
  | none => .v (.slice none 0 0)
  | some y => .sl 36 y.1 0 y.2.1
def uhC : Option (Nat × Nat × List Int) → List (Nat × Chunk)
  | none => []
  | some y => [(36, ⟨.row, 5, 1, y.1, byt y.2.2⟩)]
def uhL : Option (Nat × Nat × List Int) → List Int
  | none => []
  | some y => y.2.2
def uhN : Option (Nat × Nat × List Int) → Prop
  | none => True
  | some y => y.2.1 = y.2.2.length
theorem nr_byt (ms : List Nat) : ∀ l : List Int, noRefL ms (byt l) = true
  | [] => rfl
  | x :: l => by
    have := nr_byt ms l
    simp only [byt] at this
    simp [byt, noRefL, noRef, this]
theorem ckbyt (k : CK) (ty es v : Nat) (a : List Int) (p : Int) : Chunk.mk k ty es v (byt a ++ [.v (.int .u8 p)]) = Chunk.mk k ty es v (byt (a ++ [p])) := by simp [byt]
theorem byt_len (l : List Int) : (byt l).length = l.length := by simp [byt]
set_option maxHeartbeats 4000000 in
theorem unhex_ret (s : ByteArray) (hs : s.size < 4294967281) (w : World) : Ret Tryz.prog 117 [.string s] w (unhV s) := by
  refine Ret.of (I := fun _ => True) (fun _ _ => trivial) (TTok 0 _) Tryz.func117 (by kernel_rfl) rfl rfl ?_
  repeat' (
    (conv => whnf)
    first
      | (with_reducible first
          | refine TR.seq ?_
          | refine TR.region (TTok _ _) ?_
          | refine TR.drawn (TTok _ _) mixed ?_
          | refine TR.block ?_
          | refine TR.ret ?_
          | refine TR.exit ?_
          | refine TR.skip ?_
          | refine TR.condB rfl ?_
          | refine Br.cond_t ?_
          | refine Br.cond_f ?_
          | refine Br.yes (by first | decide | assumption | (apply decide_eq_true; omega)) ?_
          | refine Br.non (by first | decide | assumption | (apply decide_eq_false; omega)) ?_
          | refine Br.cond_ff ?_
          | refine Br.eqT (by omega) ?_
          | refine Br.eqF (by omega) ?_
          | refine Br.neT (by omega) ?_
          | refine Br.neF (by omega) ?_
          | refine Ld.mk' _ rfl ?_
          | refine Need.mk (by first | decide | omega | kernel_rfl) ?_
          | refine Nm.i64 (by omega) ?_
          | refine Nm.u64 (by omega) ?_
          | refine Nm.u8 (by omega) ?_)
      | (refine x_exq (TTok _ _) ?_; (conv => whnf); fail_if_success (guard_target =ₛ False)))
  refine TR.loopH (fun x : Int × Option (Nat × Nat × List Int) => [(4, uhA x.2), (5, .v (.int .i64 x.1))]) (fun x => uhC x.2) (fun x => 0 ≤ x.1 ∧ x.1 ≤ s.size ∧ uhN x.2 ∧ (uhL x.2).length ≤ x.1 ∧ unhM (uhL x.2) ((sInts s).drop x.1.toNat) = unhM [] (sInts s)) (fun x => (s.size - x.1).toNat) (0, none) ⟨by dsimp only; omega, by dsimp only; omega, trivial, by simp [uhL], rfl⟩ ?_ ?_
  · repeat' ((conv => whnf); first | exact trivial | exact Fgt.nil | exact Fgt.mk rfl rfl rfl | exact Fgt.mk rfl (by simp only [noRefC, nr_byt, nr_app, noRefL, noRef, Bool.and_self]) rfl | refine And.intro rfl ?_ | refine And.intro (ckbyt _ _ _ _ _ _) ?_ | refine And.intro ?_ ?_)
  · rintro ⟨q, g⟩ ⟨q0, q1, gn, gb, hV⟩
    dsimp only at q0 q1 gn gb hV ⊢
    by_cases hq : q + 1 < s.size
    · have hd := drop_bAt s q q0 (by omega)
      have hd2 := drop_bAt s (q + 1) (by omega) hq
      rw [show q + 1 + 1 = q + 2 by omega] at hd2
      have hb := bAt_range s q
      have hb2 := bAt_range s (q + 1)
      have hr := hxv_range (bAt s q)
      have hr2 := hxv_range (bAt s (q + 1))
      have hva := fun w => value_ret _ hb w
      have hvb := fun w => value_ret _ hb2 w
      rw [hd, hd2, unhM] at hV
      rcases g with _ | ⟨gv, gm, gl⟩
      · by_cases c1 : hxv (bAt s q) = 99
        · rw [if_pos (.inl c1)] at hV
          repeat' (
            (conv => whnf)
            first
              | (with_reducible first
                  | refine TR.seq ?_
                  | refine TR.region (TTok _ _) ?_
                  | refine TR.drawn (TTok _ _) mixed ?_
                  | refine TR.block ?_
                  | refine TR.ret ?_
                  | refine TR.exit ?_
                  | refine TR.skip ?_
                  | refine TR.condB rfl ?_
                  | refine Br.cond_t ?_
                  | refine Br.cond_f ?_
                  | refine Br.yes (by first | decide | assumption | (apply decide_eq_true; omega)) ?_
                  | refine Br.non (by first | decide | assumption | (apply decide_eq_false; omega)) ?_
                  | refine Br.cond_ff ?_
                  | refine Br.eqT (by omega) ?_
                  | refine Br.eqF (by omega) ?_
                  | refine Br.neT (by omega) ?_
                  | refine Br.neF (by omega) ?_
                  | refine Ld.mk' _ rfl ?_
                  | refine Need.mk (by first | decide | omega | kernel_rfl) ?_
                  | refine Nm.i64 (by omega) ?_
                  | refine Nm.u64 (by omega) ?_
                  | refine Nm.u8 (by omega) ?_)
              | refine x_ret (f := 121) rfl rfl (fun w _ => hva w) ?_
              | refine x_ret (f := 121) rfl rfl (fun w _ => hvb w) ?_
              | (refine x_exq (TTok _ _) ?_; (conv => whnf); fail_if_success (guard_target =ₛ False)))
          all_goals (conv => whnf)
          all_goals (simp only [val, valL, unhV, ← hV])
        · by_cases c2 : hxv (bAt s (q + 1)) = 99
          · rw [if_pos (.inr c2)] at hV
            repeat' (
              (conv => whnf)
              first
                | (with_reducible first
                    | refine TR.seq ?_
                    | refine TR.region (TTok _ _) ?_
                    | refine TR.drawn (TTok _ _) mixed ?_
                    | refine TR.block ?_
                    | refine TR.ret ?_
                    | refine TR.exit ?_
                    | refine TR.skip ?_
                    | refine TR.condB rfl ?_
                    | refine Br.cond_t ?_
                    | refine Br.cond_f ?_
                    | refine Br.yes (by first | decide | assumption | (apply decide_eq_true; omega)) ?_
                    | refine Br.non (by first | decide | assumption | (apply decide_eq_false; omega)) ?_
                    | refine Br.cond_ff ?_
                    | refine Br.eqT (by omega) ?_
                    | refine Br.eqF (by omega) ?_
                    | refine Br.neT (by omega) ?_
                    | refine Br.neF (by omega) ?_
                    | refine Ld.mk' _ rfl ?_
                    | refine Need.mk (by first | decide | omega | kernel_rfl) ?_
                    | refine Nm.i64 (by omega) ?_
                    | refine Nm.u64 (by omega) ?_
                    | refine Nm.u8 (by omega) ?_)
                | refine x_ret (f := 121) rfl rfl (fun w _ => hva w) ?_
                | refine x_ret (f := 121) rfl rfl (fun w _ => hvb w) ?_
                | (refine x_exq (TTok _ _) ?_; (conv => whnf); fail_if_success (guard_target =ₛ False)))
            all_goals (conv => whnf)
            all_goals (simp only [val, valL, unhV, ← hV])
          · rw [if_neg (by omega)] at hV
            repeat' (
              (conv => whnf)
              first
                | (with_reducible first
                    | refine TR.seq ?_
                    | refine TR.region (TTok _ _) ?_
                    | refine TR.drawn (TTok _ _) mixed ?_
                    | refine TR.block ?_
                    | refine TR.ret ?_
                    | refine TR.exit ?_
                    | refine TR.skip ?_
                    | refine TR.condB rfl ?_
                    | refine Br.cond_t ?_
                    | refine Br.cond_f ?_
                    | refine Br.yes (by first | decide | assumption | (apply decide_eq_true; omega)) ?_
                    | refine Br.non (by first | decide | assumption | (apply decide_eq_false; omega)) ?_
                    | refine Br.cond_ff ?_
                    | refine Br.eqT (by omega) ?_
                    | refine Br.eqF (by omega) ?_
                    | refine Br.neT (by omega) ?_
                    | refine Br.neF (by omega) ?_
                    | refine Ld.mk' _ rfl ?_
                    | refine Need.mk (by first | decide | omega | kernel_rfl) ?_
                    | refine Nm.i64 (by omega) ?_
                    | refine Nm.u64 (by omega) ?_
                    | refine Nm.u8 (by omega) ?_)
                | refine x_ret (f := 121) rfl rfl (fun w _ => hva w) ?_
                | refine x_ret (f := 121) rfl rfl (fun w _ => hvb w) ?_
                | refine x_append_nil (X := ⟨Tryz.prog, TT, 0, fun _ => True⟩) (TTok _ _) (d := 36) (c0 := 0) (t := 81) (e := 5) (m := 1) (cr := [(35, some ⟨.row, 5, 1, 0, [.v (.int .u8 (16 * hxv (bAt s q) + hxv (bAt s (q + 1))))]⟩)]) (l := [.v (.int .u8 (16 * hxv (bAt s q) + hxv (bAt s (q + 1))))]) rfl rfl rfl rfl rfl rfl (Nat.zero_lt_succ 0) rfl (by refine Src.sl (dk := ⟨.row, 5, 1, 0, [.v (.int .u8 (16 * hxv (bAt s q) + hxv (bAt s (q + 1))))]⟩) (lo := 0) (kd := 0) ?_ ?_ ?_ ?_ ?_ <;> rfl) (by intro i q h; simp only [List.mem_singleton, Prod.mk.injEq] at h; obtain ⟨rfl, rfl⟩ := h; rfl) (by decide) (by decide) ?_
                | (refine x_exq (TTok _ _) ?_; (conv => whnf); fail_if_success (guard_target =ₛ False)))
            all_goals (conv => whnf)
            refine ⟨(q + 2, some (0, 1, [16 * hxv (bAt s q) + hxv (bAt s (q + 1))])), ⟨by dsimp only; omega, by dsimp only; omega, ?_, by simp [uhL] at gb ⊢; omega, ?_⟩, by dsimp only; omega, ?_⟩
            · rfl
            · dsimp only [uhL] at hV ⊢
              exact hV
            repeat' ((conv => whnf); first | exact trivial | exact Fgt.nil | exact Fgt.mk rfl rfl rfl | exact Fgt.mk rfl (by simp only [noRefC, nr_byt, nr_app, noRefL, noRef, Bool.and_self]) rfl | refine And.intro rfl ?_ | refine And.intro (ckbyt _ _ _ _ _ _) ?_ | refine And.intro ?_ ?_)
      · have gn' : gm = gl.length := gn
        have hg1 : gm + 1 ≤ maxLen := by dsimp only [uhL] at gb; unfold maxLen; omega
        have hg2 : (gm + 1) * 1 ≤ 140737488355328 := by dsimp only [uhL] at gb; omega
        by_cases c1 : hxv (bAt s q) = 99
        · rw [if_pos (.inl c1)] at hV
          repeat' (
            (conv => whnf)
            first
              | (with_reducible first
                  | refine TR.seq ?_
                  | refine TR.region (TTok _ _) ?_
                  | refine TR.drawn (TTok _ _) mixed ?_
                  | refine TR.block ?_
                  | refine TR.ret ?_
                  | refine TR.exit ?_
                  | refine TR.skip ?_
                  | refine TR.condB rfl ?_
                  | refine Br.cond_t ?_
                  | refine Br.cond_f ?_
                  | refine Br.yes (by first | decide | assumption | (apply decide_eq_true; omega)) ?_
                  | refine Br.non (by first | decide | assumption | (apply decide_eq_false; omega)) ?_
                  | refine Br.cond_ff ?_
                  | refine Br.eqT (by omega) ?_
                  | refine Br.eqF (by omega) ?_
                  | refine Br.neT (by omega) ?_
                  | refine Br.neF (by omega) ?_
                  | refine Ld.mk' _ rfl ?_
                  | refine Need.mk (by first | decide | omega | kernel_rfl) ?_
                  | refine Nm.i64 (by omega) ?_
                  | refine Nm.u64 (by omega) ?_
                  | refine Nm.u8 (by omega) ?_)
              | refine x_ret (f := 121) rfl rfl (fun w _ => hva w) ?_
              | refine x_ret (f := 121) rfl rfl (fun w _ => hvb w) ?_
              | (refine x_exq (TTok _ _) ?_; (conv => whnf); fail_if_success (guard_target =ₛ False)))
          all_goals (conv => whnf)
          all_goals (simp only [val, valL, unhV, ← hV])
        · by_cases c2 : hxv (bAt s (q + 1)) = 99
          · rw [if_pos (.inr c2)] at hV
            repeat' (
              (conv => whnf)
              first
                | (with_reducible first
                    | refine TR.seq ?_
                    | refine TR.region (TTok _ _) ?_
                    | refine TR.drawn (TTok _ _) mixed ?_
                    | refine TR.block ?_
                    | refine TR.ret ?_
                    | refine TR.exit ?_
                    | refine TR.skip ?_
                    | refine TR.condB rfl ?_
                    | refine Br.cond_t ?_
                    | refine Br.cond_f ?_
                    | refine Br.yes (by first | decide | assumption | (apply decide_eq_true; omega)) ?_
                    | refine Br.non (by first | decide | assumption | (apply decide_eq_false; omega)) ?_
                    | refine Br.cond_ff ?_
                    | refine Br.eqT (by omega) ?_
                    | refine Br.eqF (by omega) ?_
                    | refine Br.neT (by omega) ?_
                    | refine Br.neF (by omega) ?_
                    | refine Ld.mk' _ rfl ?_
                    | refine Need.mk (by first | decide | omega | kernel_rfl) ?_
                    | refine Nm.i64 (by omega) ?_
                    | refine Nm.u64 (by omega) ?_
                    | refine Nm.u8 (by omega) ?_)
                | refine x_ret (f := 121) rfl rfl (fun w _ => hva w) ?_
                | refine x_ret (f := 121) rfl rfl (fun w _ => hvb w) ?_
                | (refine x_exq (TTok _ _) ?_; (conv => whnf); fail_if_success (guard_target =ₛ False)))
            all_goals (conv => whnf)
            all_goals (simp only [val, valL, unhV, ← hV])
          · rw [if_neg (by omega)] at hV
            repeat' (
              (conv => whnf)
              first
                | (with_reducible first
                    | refine TR.seq ?_
                    | refine TR.region (TTok _ _) ?_
                    | refine TR.drawn (TTok _ _) mixed ?_
                    | refine TR.block ?_
                    | refine TR.ret ?_
                    | refine TR.exit ?_
                    | refine TR.skip ?_
                    | refine TR.condB rfl ?_
                    | refine Br.cond_t ?_
                    | refine Br.cond_f ?_
                    | refine Br.yes (by first | decide | assumption | (apply decide_eq_true; omega)) ?_
                    | refine Br.non (by first | decide | assumption | (apply decide_eq_false; omega)) ?_
                    | refine Br.cond_ff ?_
                    | refine Br.eqT (by omega) ?_
                    | refine Br.eqF (by omega) ?_
                    | refine Br.neT (by omega) ?_
                    | refine Br.neF (by omega) ?_
                    | refine Ld.mk' _ rfl ?_
                    | refine Need.mk (by first | decide | omega | kernel_rfl) ?_
                    | refine Nm.i64 (by omega) ?_
                    | refine Nm.u64 (by omega) ?_
                    | refine Nm.u8 (by omega) ?_)
                | refine x_ret (f := 121) rfl rfl (fun w _ => hva w) ?_
                | refine x_ret (f := 121) rfl rfl (fun w _ => hvb w) ?_
                | refine x_append (X := ⟨Tryz.prog, TT, 0, fun _ => True⟩) (TTok _ _) (c := 36) (kv := gv) (t := 81) (e := 5) (n := gm) (m := 1) (ck := ⟨.row, 5, 1, gv, byt gl⟩) (cr := [(35, some ⟨.row, 5, 1, 0, [.v (.int .u8 (16 * hxv (bAt s q) + hxv (bAt s (q + 1))))]⟩)]) (l := [.v (.int .u8 (16 * hxv (bAt s q) + hxv (bAt s (q + 1))))]) rfl rfl rfl rfl rfl rfl rfl rfl rfl rfl (Nat.zero_lt_succ 0) rfl (by simp [byt, gn']) (by refine Src.sl (dk := ⟨.row, 5, 1, 0, [.v (.int .u8 (16 * hxv (bAt s q) + hxv (bAt s (q + 1))))]⟩) (lo := 0) (kd := 0) ?_ ?_ ?_ ?_ ?_ <;> rfl) (by intro i q h; simp only [List.mem_singleton, Prod.mk.injEq] at h; obtain ⟨rfl, rfl⟩ := h; rfl) hg1 hg2 ?_
                | (refine x_exq (TTok _ _) ?_; (conv => whnf); fail_if_success (guard_target =ₛ False)))
            all_goals (conv => whnf)
            refine ⟨(q + 2, some (gv + 1, gm + 1, gl ++ [16 * hxv (bAt s q) + hxv (bAt s (q + 1))])), ⟨by dsimp only; omega, by dsimp only; omega, ?_, by simp [uhL] at gb ⊢; omega, ?_⟩, by dsimp only; omega, ?_⟩
            · simp [uhN, gn']
            · dsimp only [uhL] at hV ⊢
              exact hV
            repeat' ((conv => whnf); first | exact trivial | exact Fgt.nil | exact Fgt.mk rfl rfl rfl | exact Fgt.mk rfl (by simp only [noRefC, nr_byt, nr_app, noRefL, noRef, Bool.and_self]) rfl | refine And.intro rfl ?_ | refine And.intro (ckbyt _ _ _ _ _ _) ?_ | refine And.intro ?_ ?_)
    · have hend : unhM (uhL g) ((sInts s).drop q.toNat) = some (uhL g) := by
        have hl : ((sInts s).drop q.toNat).length ≤ 1 := by rw [List.length_drop, sInts_length]; omega
        match (sInts s).drop q.toNat, hl with
        | [], _ => rfl
        | [x], _ => rfl
      rw [hend] at hV
      by_cases c1 : s.size % 2 = 0
      · rcases g with _ | ⟨gv, gm, gl⟩
        · skip
          repeat' (
            (conv => whnf)
            first
              | (with_reducible first
                  | refine TR.seq ?_
                  | refine TR.region (TTok _ _) ?_
                  | refine TR.drawn (TTok _ _) mixed ?_
                  | refine TR.block ?_
                  | refine TR.ret ?_
                  | refine TR.exit ?_
                  | refine TR.skip ?_
                  | refine TR.condB rfl ?_
                  | refine Br.cond_t ?_
                  | refine Br.cond_f ?_
                  | refine Br.yes (by first | decide | assumption | (apply decide_eq_true; omega)) ?_
                  | refine Br.non (by first | decide | assumption | (apply decide_eq_false; omega)) ?_
                  | refine Br.cond_ff ?_
                  | refine Br.eqT (by omega) ?_
                  | refine Br.eqF (by omega) ?_
                  | refine Br.neT (by omega) ?_
                  | refine Br.neF (by omega) ?_
                  | refine Ld.mk' _ rfl ?_
                  | refine Need.mk (by first | decide | omega | kernel_rfl) ?_
                  | refine Nm.i64 (by omega) ?_
                  | refine Nm.u64 (by omega) ?_
                  | refine Nm.u8 (by omega) ?_)
              | refine Nm.mk' ((s.size : Int) % 2) (by exact Int.tmod_eq_emod_of_nonneg (by omega)) ?_
              | refine x_bytes_str_nil (TTok _ _) rfl rfl rfl rfl rfl rfl rfl rfl ?_
              | (refine x_exq (TTok _ _) ?_; (conv => whnf); fail_if_success (guard_target =ₛ False)))
          all_goals (conv => whnf)
          all_goals (simp only [val, valL, unhV, ← hV, uhL, if_pos c1])
          all_goals rfl
        · have gn' : gm = gl.length := gn
          repeat' (
            (conv => whnf)
            first
              | (with_reducible first
                  | refine TR.seq ?_
                  | refine TR.region (TTok _ _) ?_
                  | refine TR.drawn (TTok _ _) mixed ?_
                  | refine TR.block ?_
                  | refine TR.ret ?_
                  | refine TR.exit ?_
                  | refine TR.skip ?_
                  | refine TR.condB rfl ?_
                  | refine Br.cond_t ?_
                  | refine Br.cond_f ?_
                  | refine Br.yes (by first | decide | assumption | (apply decide_eq_true; omega)) ?_
                  | refine Br.non (by first | decide | assumption | (apply decide_eq_false; omega)) ?_
                  | refine Br.cond_ff ?_
                  | refine Br.eqT (by omega) ?_
                  | refine Br.eqF (by omega) ?_
                  | refine Br.neT (by omega) ?_
                  | refine Br.neF (by omega) ?_
                  | refine Ld.mk' _ rfl ?_
                  | refine Need.mk (by first | decide | omega | kernel_rfl) ?_
                  | refine Nm.i64 (by omega) ?_
                  | refine Nm.u64 (by omega) ?_
                  | refine Nm.u8 (by omega) ?_)
              | refine Nm.mk' ((s.size : Int) % 2) (by exact Int.tmod_eq_emod_of_nonneg (by omega)) ?_
              | refine x_bytes_str (ns := gl) (TTok _ _) rfl rfl rfl rfl rfl rfl rfl rfl rfl rfl rfl rfl (by have h := subL_all' (byt gl); rw [byt_len, ← gn'] at h; exact h) ?_
              | (refine x_exq (TTok _ _) ?_; (conv => whnf); fail_if_success (guard_target =ₛ False)))
          all_goals (conv => whnf)
          all_goals (simp only [val, valL, unhV, ← hV, uhL, if_pos c1])
      · rcases g with _ | ⟨gv, gm, gl⟩
        · skip
          repeat' (
            (conv => whnf)
            first
              | (with_reducible first
                  | refine TR.seq ?_
                  | refine TR.region (TTok _ _) ?_
                  | refine TR.drawn (TTok _ _) mixed ?_
                  | refine TR.block ?_
                  | refine TR.ret ?_
                  | refine TR.exit ?_
                  | refine TR.skip ?_
                  | refine TR.condB rfl ?_
                  | refine Br.cond_t ?_
                  | refine Br.cond_f ?_
                  | refine Br.yes (by first | decide | assumption | (apply decide_eq_true; omega)) ?_
                  | refine Br.non (by first | decide | assumption | (apply decide_eq_false; omega)) ?_
                  | refine Br.cond_ff ?_
                  | refine Br.eqT (by omega) ?_
                  | refine Br.eqF (by omega) ?_
                  | refine Br.neT (by omega) ?_
                  | refine Br.neF (by omega) ?_
                  | refine Ld.mk' _ rfl ?_
                  | refine Need.mk (by first | decide | omega | kernel_rfl) ?_
                  | refine Nm.i64 (by omega) ?_
                  | refine Nm.u64 (by omega) ?_
                  | refine Nm.u8 (by omega) ?_)
              | refine Nm.mk' ((s.size : Int) % 2) (by exact Int.tmod_eq_emod_of_nonneg (by omega)) ?_
              | (refine x_exq (TTok _ _) ?_; (conv => whnf); fail_if_success (guard_target =ₛ False)))
          all_goals (conv => whnf)
          all_goals (simp only [val, valL, unhV, ← hV, if_neg c1])
        · skip
          repeat' (
            (conv => whnf)
            first
              | (with_reducible first
                  | refine TR.seq ?_
                  | refine TR.region (TTok _ _) ?_
                  | refine TR.drawn (TTok _ _) mixed ?_
                  | refine TR.block ?_
                  | refine TR.ret ?_
                  | refine TR.exit ?_
                  | refine TR.skip ?_
                  | refine TR.condB rfl ?_
                  | refine Br.cond_t ?_
                  | refine Br.cond_f ?_
                  | refine Br.yes (by first | decide | assumption | (apply decide_eq_true; omega)) ?_
                  | refine Br.non (by first | decide | assumption | (apply decide_eq_false; omega)) ?_
                  | refine Br.cond_ff ?_
                  | refine Br.eqT (by omega) ?_
                  | refine Br.eqF (by omega) ?_
                  | refine Br.neT (by omega) ?_
                  | refine Br.neF (by omega) ?_
                  | refine Ld.mk' _ rfl ?_
                  | refine Need.mk (by first | decide | omega | kernel_rfl) ?_
                  | refine Nm.i64 (by omega) ?_
                  | refine Nm.u64 (by omega) ?_
                  | refine Nm.u8 (by omega) ?_)
              | refine Nm.mk' ((s.size : Int) % 2) (by exact Int.tmod_eq_emod_of_nonneg (by omega)) ?_
              | (refine x_exq (TTok _ _) ?_; (conv => whnf); fail_if_success (guard_target =ₛ False)))
          all_goals (conv => whnf)
          all_goals (simp only [val, valL, unhV, ← hV, if_neg c1])
end Go.Proofs.YtopadpgpmkkpgaaGreatDoor
set_option maxRecDepth 100000
namespace Go.Proofs.YtopadpgpmkkpgaaGreatDoor
open Go.SX
/-! ### Plain laws: texts apart -/
def spS (c : Int) (s : ByteArray) : List ByteArray := (splI c [] (sInts s)).map strOfNums
theorem sInts_range (s : ByteArray) (n : Int) (h : n ∈ sInts s) : 0 ≤ n ∧ n ≤ 255 := by
  unfold sInts at h
  obtain ⟨b, _, rfl⟩ := List.mem_map.1 h
  have := b.toNat_lt
  omega
theorem splI_mem (c : Int) : ∀ (l cur : List Int) (x : List Int), x ∈ splI c cur l → ∀ n, n ∈ x → n ∈ cur ∨ n ∈ l
  | [], cur, x, h, n, hn => by
    simp only [splI, List.mem_singleton] at h
    subst h
    exact .inl hn
  | b :: r, cur, x, h, n, hn => by
    unfold splI at h
    split at h
    · rcases List.mem_cons.1 h with h | h
      · subst h
        exact .inl hn
      · rcases splI_mem c r [] x h n hn with h | h
        · simp at h
        · exact .inr (List.mem_cons_of_mem _ h)
    · rcases splI_mem c r (cur ++ [b]) x h n hn with h | h
      · rcases List.mem_append.1 h with h | h
        · exact .inl h
        · simp only [List.mem_singleton] at h
          subst h
          exact .inr (List.mem_cons_self ..)
      · exact .inr (List.mem_cons_of_mem _ h)
theorem splI_len (c : Int) : ∀ (l cur : List Int), (splI c cur l).length ≤ l.length + 1
  | [], cur => by simp [splI]
  | b :: r, cur => by
    unfold splI
    split
    · have := splI_len c r []
      simp only [List.length_cons]
      omega
    · have := splI_len c r (cur ++ [b])
      simp only [List.length_cons]
      omega
theorem splI_part (c : Int) : ∀ (l cur x : List Int), x ∈ splI c cur l → x.length ≤ cur.length + l.length
  | [], cur, x, h => by
    simp only [splI, List.mem_singleton] at h
    subst h
    omega
  | b :: r, cur, x, h => by
    unfold splI at h
    split at h
    · rcases List.mem_cons.1 h with h | h
      · subst h
        omega
      · have := splI_part c r [] x h
        simp only [List.length_cons, List.length_nil] at this ⊢
        omega
    · have := splI_part c r (cur ++ [b]) x h
      simp only [List.length_cons, List.length_append, List.length_nil] at this ⊢
      omega
theorem spS_ok (c : Int) (s : ByteArray) : (spS c s).map sInts = splI c [] (sInts s) := by
  unfold spS
  rw [List.map_map]
  have : ∀ x, x ∈ splI c [] (sInts s) → (sInts ∘ strOfNums) x = id x := fun x hx => sInts_str x fun n hn => by
    rcases splI_mem c _ _ x hx n hn with h | h
    · simp at h
    · exact sInts_range s n h
  rw [List.map_congr_left this, List.map_id]
theorem spS_len (c : Int) (s : ByteArray) : (spS c s).length ≤ s.size + 1 := by
  have := splI_len c (sInts s) []
  rw [sInts_length] at this
  simpa [spS] using this
theorem spS_part (c : Int) (s p : ByteArray) (h : p ∈ spS c s) : p.size ≤ s.size := by
  unfold spS at h
  obtain ⟨x, hx, rfl⟩ := List.mem_map.1 h
  have := splI_part c _ _ x hx
  rw [sInts_length] at this
  rw [strOfNums_size]
  simpa using this
theorem splI_skip (c : Int) : ∀ (x cur r : List Int), c ∉ x → splI c cur (x ++ r) = splI c (cur ++ x) r
  | [], cur, r, _ => by simp
  | b :: x, cur, r, h => by
    have hb : b ≠ c := fun e => h (by simp [e])
    rw [List.cons_append, splI, if_neg hb, splI_skip c x (cur ++ [b]) r fun hx => h (List.mem_cons_of_mem _ hx)]
    simp
theorem splI_tail (c : Int) : ∀ (ps : List (List Int)) (cur : List Int), (∀ x, x ∈ ps → c ∉ x) → splI c cur (ps.flatMap (c :: ·)) = cur :: ps
  | [], cur, _ => rfl
  | p :: ps, cur, h => by
    rw [List.flatMap_cons, List.cons_append, splI, if_pos rfl, splI_skip _ _ _ _ (h p (List.mem_cons_self ..)), List.nil_append, splI_tail c ps p fun x hx => h x (List.mem_cons_of_mem _ hx)]
theorem join_ints (c : UInt8) (x : List UInt8) (r : List (List UInt8)) : (Lib.join (x :: r) [c]).map (fun b => (b.toNat : Int)) = x.map (fun b => (b.toNat : Int)) ++ (r.map (·.map fun b => (b.toNat : Int))).flatMap ((c.toNat : Int) :: ·) := by
  rw [Lib.join_cons, List.map_append]
  congr 1
  induction r with
  | nil => rfl
  | cons y r ih =>
    have e : Lib.joinTail [c] (y :: r) = c :: (y ++ Lib.joinTail [c] r) := by simp [Lib.joinTail]
    rw [e, List.map_cons, List.map_append, ih]
    simp
theorem ints_sep {c : UInt8} {x : List UInt8} (h : c ∉ x) : (c.toNat : Int) ∉ x.map (fun b => (b.toNat : Int)) := by
  intro hm
  obtain ⟨b, hb, e⟩ := List.mem_map.1 hm
  have : b = c := UInt8.toNat_inj.1 (by omega)
  exact h (this ▸ hb)
theorem spS_text (v6 : Bool) (hi lo : Int) : spS ((sepC v6).toNat : Int) (addrText v6 hi lo) = partsS v6 hi lo := by
  apply map_sInts_inj
  rw [spS_ok]
  have hs := fun x hx => sep_not v6 v6 hi lo x hx
  have e : sInts (addrText v6 hi lo) = (Lib.join ((partsS v6 hi lo).map (·.data.toList)) [sepC v6]).map (fun b => (b.toNat : Int)) := by rw [← addr_data]; rfl
  rw [e]
  have e2 : (partsS v6 hi lo).map sInts = ((partsS v6 hi lo).map (·.data.toList)).map (·.map fun b => (b.toNat : Int)) := by rw [List.map_map]; rfl
  rw [e2]
  have hne := parts_ne v6 hi lo
  generalize (partsS v6 hi lo).map (·.data.toList) = l at hs hne
  cases l with
  | nil => exact absurd rfl hne
  | cons x r =>
    rw [join_ints, splI_skip _ _ _ _ (ints_sep (hs x (List.mem_cons_self ..))), List.nil_append, splI_tail]
    · rfl
    · intro y hy
      obtain ⟨z, hz, rfl⟩ := List.mem_map.1 hy
      exact ints_sep (hs z (List.mem_cons_of_mem _ hz))
/-! ### Numbers of parts -/
def nm4 (p : ByteArray) : List Int := if 0 ≤ numV p then [numV p] else []
def d4 (s : ByteArray) : List Int := (spS 46 s).flatMap nm4
def pad4 (l : List Int) : List Int := List.replicate (4 - l.length) 48 ++ l
def padS (p : ByteArray) : ByteArray := strOfNums (pad4 (sInts p))
def unhL (s : ByteArray) : List Int := match unhM [] (sInts s) with
  | none => []
  | some l => if s.size % 2 = 0 then l else []
def unhB (s : ByteArray) : Bool := match unhM [] (sInts s) with
  | none => false
  | some _ => if s.size % 2 = 0 then true else false
theorem unhex_ret' (s : ByteArray) (hs : s.size < 4294967281) (w : World) : Ret Tryz.prog 117 [.string s] w (.tuple #[.string (strOfNums (unhL s)), .bool (unhB s)]) := by
  have h := unhex_ret s hs w
  unfold unhV at h
  unfold unhL unhB
  cases hu : unhM [] (sInts s) with
  | none =>
    simp only [hu] at h ⊢
    exact h
  | some l =>
    simp only [hu] at h ⊢
    by_cases hc : s.size % 2 = 0
    · simp only [if_pos hc] at h ⊢
      exact h
    · simp only [if_neg hc] at h ⊢
      exact h
def nm6 (p : ByteArray) : List Int := unhL (padS p)
def d6 (s : ByteArray) : List Int := (spS 58 s).flatMap nm6
theorem numM_range : ∀ (l : List Int) (n m : Int), 0 ≤ n → (∀ c, c ∈ l → 0 ≤ c ∧ c ≤ 255) → numM n l = some m → 0 ≤ m
  | [], n, m, h0, _, h => by
    simp only [numM, Option.some.injEq] at h
    omega
  | c :: r, n, m, h0, hc, h => by
    unfold numM at h
    split at h
    · cases h
    · exact numM_range r _ m (by omega) (fun x hx => hc x (List.mem_cons_of_mem _ hx)) h
theorem numV_range (p : ByteArray) : numV p = -1 ∨ (0 ≤ numV p ∧ numV p ≤ 255) := by
  unfold numV
  split
  · exact .inl rfl
  · rename_i n hn
    split
    · exact .inl rfl
    · rename_i hc
      have := numM_range _ 0 n (by omega) (sInts_range p) hn
      exact .inr ⟨this, by omega⟩
theorem unhM_range : ∀ (k : Nat) (l : List Int), l.length ≤ k → ∀ (acc m : List Int), unhM acc l = some m → (∀ c, c ∈ acc → 0 ≤ c ∧ c ≤ 255) → (∀ c, c ∈ m → 0 ≤ c ∧ c ≤ 255) ∧ m.length ≤ acc.length + l.length
  | k, [], _, acc, m, h, ha => by
    simp only [unhM, Option.some.injEq] at h
    subst h
    exact ⟨ha, by simp⟩
  | k, [x], _, acc, m, h, ha => by
    simp only [unhM, Option.some.injEq] at h
    subst h
    exact ⟨ha, by simp⟩
  | k + 1, a :: b :: r, hk, acc, m, h, ha => by
    unfold unhM at h
    split at h
    · cases h
    · have h1 := hxv_range a
      have h2 := hxv_range b
      have := unhM_range k r (by simp at hk; omega) (acc ++ [16 * hxv a + hxv b]) m h (fun c hc => by
        rcases List.mem_append.1 hc with hc | hc
        · exact ha c hc
        · simp only [List.mem_singleton] at hc
          omega)
      refine ⟨this.1, ?_⟩
      have := this.2
      simp only [List.length_append, List.length_cons, List.length_nil] at this ⊢
      omega
theorem unhL_range (s : ByteArray) : (∀ c, c ∈ unhL s → 0 ≤ c ∧ c ≤ 255) ∧ (unhL s).length ≤ s.size := by
  unfold unhL
  split
  · exact ⟨fun c h => by simp at h, by simp⟩
  · rename_i l hl
    have := unhM_range _ _ (Nat.le_refl _) [] l hl (fun c h => by simp at h)
    rw [sInts_length] at this
    split
    · exact ⟨this.1, by have := this.2; simpa using this⟩
    · exact ⟨fun c h => by simp at h, by simp⟩
theorem padS_size (p : ByteArray) : (padS p).size ≤ 4 + p.size := by
  unfold padS pad4
  rw [strOfNums_size, List.length_append, List.length_replicate, sInts_length]
  omega
noncomputable def nvB (n : Nat) : Bool := decide (numV ⟨⟨dec3 n⟩⟩ = (n : Int))
theorem nv_all : allBelow 256 nvB = true := by kernel_rfl
theorem numV_dec (v : Int) (hv : 0 ≤ v ∧ v < 256) : numV (decS v) = v := by
  have := allBelow_eq nv_all v.toNat (by omega)
  have := of_decide_eq_true this
  rw [decS, this]
  omega
theorem hxv_d (d : Int) (h : 0 ≤ d ∧ d < 16) : hxv (bAt D36 d) = d := by
  rcases hd_cases d h with rfl | rfl | rfl | rfl | rfl | rfl | rfl | rfl | rfl | rfl | rfl | rfl | rfl | rfl | rfl | rfl <;> decide
theorem nm6_hex (v : Int) (hv : 0 ≤ v ∧ v < 65536) : nm6 (hexS v) = [v / 256, v % 256] := by
  have hs : sInts (hexS v) = hexL v := sInts_str _ fun n hn => by have := hexL_mem v hv n hn; omega
  have h0 : hxv 48 = 0 := by decide
  have key : ∀ a b c d : Int, 0 ≤ a ∧ a < 16 → 0 ≤ b ∧ b < 16 → 0 ≤ c ∧ c < 16 → 0 ≤ d ∧ d < 16 → ∀ x y z t, hxv x = a → hxv y = b → hxv z = c → hxv t = d → (0 ≤ x ∧ x ≤ 255) → (0 ≤ y ∧ y ≤ 255) → (0 ≤ z ∧ z ≤ 255) → (0 ≤ t ∧ t ≤ 255) → unhL (strOfNums [x, y, z, t]) = [16 * a + b, 16 * c + d] := by
    intro a b c d ha hb hc hd x y z t ex ey ez et hx hy hz ht
    have e : sInts (strOfNums [x, y, z, t]) = [x, y, z, t] := sInts_str _ fun n hn => by
      simp only [List.mem_cons, List.not_mem_nil, or_false] at hn
      omega
    have e2 : unhM [] [x, y, z, t] = some [16 * a + b, 16 * c + d] := by
      rw [unhM, if_neg (by omega), unhM, if_neg (by omega), unhM, ex, ey, ez, et]
      rfl
      all_goals simp
    unfold unhL
    rw [e, e2]
    simp only
    rw [if_pos (by rw [strOfNums_size]; simp)]
  unfold nm6 padS
  rw [hs]
  have hm := hexL_mem v hv
  unfold hexL at hm ⊢
  unfold pad4
  split at hm
  · rename_i c
    rw [if_pos c]
    have := hm (bAt D36 v) (by simp)
    show unhL (strOfNums [48, 48, 48, bAt D36 v]) = _
    rw [key 0 0 0 v (by omega) (by omega) (by omega) (by omega) _ _ _ _ h0 h0 h0 (hxv_d _ (by omega)) (by omega) (by omega) (by omega) (by omega)]
    congr 1
    · omega
    · congr 1
      omega
  split at hm
  · rename_i c c2
    rw [if_neg c, if_pos c2]
    have m1 := hm (bAt D36 (v / 16)) (by simp)
    have m2 := hm (bAt D36 (v % 16)) (by simp)
    show unhL (strOfNums [48, 48, bAt D36 (v / 16), bAt D36 (v % 16)]) = _
    rw [key 0 0 (v / 16) (v % 16) (by omega) (by omega) (by omega) (by omega) _ _ _ _ h0 h0 (hxv_d _ (by omega)) (hxv_d _ (by omega)) (by omega) (by omega) (by omega) (by omega)]
    congr 1
    · omega
    · congr 1
      omega
  split at hm
  · rename_i c c2 c3
    rw [if_neg c, if_neg c2, if_pos c3]
    have m1 := hm (bAt D36 (v / 16 / 16)) (by simp)
    have m2 := hm (bAt D36 (v / 16 % 16)) (by simp)
    have m3 := hm (bAt D36 (v % 16)) (by simp)
    show unhL (strOfNums [48, bAt D36 (v / 16 / 16), bAt D36 (v / 16 % 16), bAt D36 (v % 16)]) = _
    rw [key 0 (v / 16 / 16) (v / 16 % 16) (v % 16) (by omega) (by omega) (by omega) (by omega) _ _ _ _ h0 (hxv_d _ (by omega)) (hxv_d _ (by omega)) (hxv_d _ (by omega)) (by omega) (by omega) (by omega) (by omega)]
    congr 1
    · omega
    · congr 1
      omega
  · rename_i c c2 c3
    rw [if_neg c, if_neg c2, if_neg c3]
    have m1 := hm (bAt D36 (v / 16 / 16 / 16)) (by simp)
    have m2 := hm (bAt D36 (v / 16 / 16 % 16)) (by simp)
    have m3 := hm (bAt D36 (v / 16 % 16)) (by simp)
    have m4 := hm (bAt D36 (v % 16)) (by simp)
    show unhL (strOfNums [bAt D36 (v / 16 / 16 / 16), bAt D36 (v / 16 / 16 % 16), bAt D36 (v / 16 % 16), bAt D36 (v % 16)]) = _
    rw [key (v / 16 / 16 / 16) (v / 16 / 16 % 16) (v / 16 % 16) (v % 16) (by omega) (by omega) (by omega) (by omega) _ _ _ _ (hxv_d _ (by omega)) (hxv_d _ (by omega)) (hxv_d _ (by omega)) (hxv_d _ (by omega)) (by omega) (by omega) (by omega) (by omega)]
    congr 1
    · omega
    · congr 1
      omega
theorem w8 (x : Int) : IntKind.u8.wrap x = x % 256 := by simp [IntKind.wrap, IntKind.signed, IntKind.bits]
theorem d4_text (lo : Int) : d4 (addrText false 0 lo) = bitsOf false 0 lo := by
  have h := spS_text false 0 lo
  have e : ((sepC false).toNat : Int) = 46 := rfl
  rw [e] at h
  unfold d4
  rw [h]
  have n : ∀ x : Int, nm4 (decS (x % 256)) = [x % 256] := fun x => by
    unfold nm4
    rw [numV_dec _ (by omega), if_pos (by omega)]
  simp only [partsS, Bool.false_eq_true, if_false, grp4, List.map_cons, List.map_nil, List.flatMap_cons, List.flatMap_nil, n, bitsOf, B8, w8]
  rfl
theorem d6_text (hi lo : Int) : d6 (addrText true hi lo) = bitsOf true hi lo := by
  have h := spS_text true hi lo
  have e : ((sepC true).toNat : Int) = 58 := rfl
  rw [e] at h
  unfold d6
  rw [h]
  have n : ∀ x : Int, nm6 (hexS (x % 65536)) = [x % 65536 / 256, x % 65536 % 256] := fun x => nm6_hex _ (by omega)
  simp only [partsS, if_true, grp6, List.map_cons, List.map_nil, List.flatMap_cons, List.flatMap_nil, n, bitsOf, B8, w8, List.cons_append, List.nil_append, List.append_nil, List.cons.injEq, and_true]
  omega
end Go.Proofs.YtopadpgpmkkpgaaGreatDoor
set_option maxRecDepth 100000
namespace Go.Proofs.YtopadpgpmkkpgaaGreatDoor
open Go.SX
/-! ### ref02.numbers -/
theorem subL_row : ∀ (ps : List ByteArray) (k : Nat) (p : ByteArray), ps[k]? = some p → subL ((ps.map Value.string).map .v) k 1 = some [.v (.string p)]
  | [], k, p, h => by simp at h
  | x :: ps, 0, p, h => by
    simp only [List.getElem?_cons_zero, Option.some.injEq] at h
    subst h
    cases ps <;> rfl
  | x :: ps, k + 1, p, h => by
    simp only [List.map_cons, subL]
    exact subL_row ps k p (by simpa using h)
theorem str_app (a b : List Int) : strOfNums a ++ strOfNums b = strOfNums (a ++ b) := by
  apply ByteArray.ext
  apply Array.toList_inj.1
  rw [strOfNums_data, ByteArray.data_append, Array.toList_append, strOfNums_data, strOfNums_data, List.map_append]
theorem flat_take {α β : Type} (f : α → List β) (l : List α) (k : Nat) (x : α) (h : l[k]? = some x) : (l.take (k + 1)).flatMap f = (l.take k).flatMap f ++ f x := by
  rw [List.take_add_one, h]
  simp
set_option maxHeartbeats 4000000 in
theorem numbers4_ret (s : ByteArray) (hs : s.size ≤ 2000000) (w : World) : Ret Tryz.prog 75 [.int .i64 1, .string s] w (.string (strOfNums (d4 s))) := by
  have hrow := fun w => split_ret s (by omega) 46 (spS 46 s) (spS_ok 46 s) w
  have hpl := spS_len 46 s
  have hpp := spS_part 46 s
  unfold d4
  generalize spS 46 s = ps at hrow hpl hpp
  refine Ret.of (I := fun _ => True) (fun _ _ => trivial) (TTok 0 _) Tryz.func75 (by kernel_rfl) rfl rfl ?_
  repeat' (
    (conv => whnf)
    first
      | (with_reducible first
          | refine TR.seq ?_
          | refine TR.region (TTok _ _) ?_
          | refine TR.drawn (TTok _ _) mixed ?_
          | refine TR.block ?_
          | refine TR.ret ?_
          | refine TR.exit ?_
          | refine TR.skip ?_
          | refine TR.condB rfl ?_
          | refine Br.cond_t ?_
          | refine Br.cond_f ?_
          | refine Br.yes (by first | decide | assumption | (apply decide_eq_true; omega)) ?_
          | refine Br.non (by first | decide | assumption | (apply decide_eq_false; omega)) ?_
          | refine Br.cond_ff ?_
          | refine Br.eqT (by omega) ?_
          | refine Br.eqF (by omega) ?_
          | refine Br.neT (by omega) ?_
          | refine Br.neF (by omega) ?_
          | refine Ld.mk' _ rfl ?_
          | refine Need.mk (by first | decide | omega | kernel_rfl) ?_
          | refine Nm.i64 (by omega) ?_
          | refine Nm.u64 (by omega) ?_
          | refine Nm.u8 (by omega) ?_)
      | refine x_row (f := 74) (d := 17) rfl rfl (fun w _ => hrow w) rfl ?_
      | (refine x_exq (TTok _ _) ?_; (conv => whnf); fail_if_success (guard_target =ₛ False)))
  refine TR.loopH (fun x : Int × ByteArray => [(5, .v (.string x.2)), (7, .v (.int .i64 x.1))]) (fun _ => []) (fun x => 0 ≤ x.1 ∧ x.1 ≤ ps.length ∧ x.2.size ≤ x.1 ∧ x.2 = strOfNums ((ps.take x.1.toNat).flatMap nm4)) (fun x => (ps.length - x.1).toNat) (0, ⟨#[]⟩) ⟨by dsimp only; omega, by dsimp only; omega, by decide, rfl⟩ ?_ ?_
  · repeat' ((conv => whnf); first | exact trivial | exact Fgt.nil | exact Fgt.mk rfl rfl rfl | exact Fgt.mk rfl (by simp only [noRefC, nr_map, nr_app, noRefL, noRef, Bool.and_self]) rfl | refine And.intro rfl ?_ | refine And.intro ?_ ?_)
  · rintro ⟨q, o⟩ ⟨q0, q1, ob, hV⟩
    dsimp only at q0 q1 ob hV ⊢
    by_cases hq : q < ps.length
    · obtain ⟨p, hp⟩ : ∃ p, ps[q.toNat]? = some p := ⟨ps[q.toNat], by rw [List.getElem?_eq_getElem]⟩
      have hps := hpp p (List.mem_of_getElem? hp)
      have hnr := numV_range p
      have hft := flat_take nm4 ps q.toNat p hp
      by_cases hn : 0 ≤ numV p
      · have hc : o ++ strOfNums [numV p] = strOfNums ((ps.take (q.toNat + 1)).flatMap nm4) := by rw [hV, hft, str_app, nm4, if_pos hn]
        obtain ⟨o2, ho2⟩ : ∃ o2, o ++ strOfNums [numV p] = o2 := ⟨_, rfl⟩
        have hz : (strOfNums [numV p]).size = 1 := strOfNums_size _
        have hz2 : o2.size ≤ q + 1 := by rw [← ho2, ByteArray.size_append, hz]; omega
        rw [ho2] at hc
        repeat' (
          (conv => whnf)
          first
            | (with_reducible first
                | refine TR.seq ?_
                | refine TR.region (TTok _ _) ?_
                | refine TR.drawn (TTok _ _) mixed ?_
                | refine TR.block ?_
                | refine TR.ret ?_
                | refine TR.exit ?_
                | refine TR.skip ?_
                | refine TR.condB rfl ?_
                | refine Br.cond_t ?_
                | refine Br.cond_f ?_
                | refine Br.yes (by first | decide | assumption | (apply decide_eq_true; omega)) ?_
                | refine Br.non (by first | decide | assumption | (apply decide_eq_false; omega)) ?_
                | refine Br.cond_ff ?_
                | refine Br.eqT (by omega) ?_
                | refine Br.eqF (by omega) ?_
                | refine Br.neT (by omega) ?_
                | refine Br.neF (by omega) ?_
                | refine Ld.mk' _ rfl ?_
                | refine Need.mk (by first | decide | omega | kernel_rfl) ?_
                | refine Nm.i64 (by omega) ?_
                | refine Nm.u64 (by omega) ?_
                | refine Nm.u8 (by omega) ?_)
            | refine Ld.mk' [.v (.string p)] (by have h := subL_row ps q.toNat p hp; rw [show q.toNat = 0 * 1 + q.toNat * 1 by omega] at h; exact h) ?_
            | refine x_ret (f := 116) rfl rfl (fun w _ => number_ret p (by omega) w) ?_
            | refine x_ret (f := 80) rfl rfl (fun w _ => num1_ret (numV p) (by omega) w) ?_
            | refine Nm.mk' o2 ho2 ?_
            | (refine x_exq (TTok _ _) ?_; (conv => whnf); fail_if_success (guard_target =ₛ False)))
        all_goals (conv => whnf)
        refine ⟨(q + 1, o2), ⟨by dsimp only; omega, by dsimp only; omega, by dsimp only; omega, ?_⟩, by dsimp only; omega, ?_⟩
        · dsimp only
          rw [show (q + 1).toNat = q.toNat + 1 by omega]
          exact hc
        repeat' ((conv => whnf); first | exact trivial | exact Fgt.nil | exact Fgt.mk rfl rfl rfl | exact Fgt.mk rfl (by simp only [noRefC, nr_map, nr_app, noRefL, noRef, Bool.and_self]) rfl | refine And.intro rfl ?_ | refine And.intro ?_ ?_)
      · have hc : o = strOfNums ((ps.take (q.toNat + 1)).flatMap nm4) := by rw [hV, hft, nm4, if_neg hn, List.append_nil]
        repeat' (
          (conv => whnf)
          first
            | (with_reducible first
                | refine TR.seq ?_
                | refine TR.region (TTok _ _) ?_
                | refine TR.drawn (TTok _ _) mixed ?_
                | refine TR.block ?_
                | refine TR.ret ?_
                | refine TR.exit ?_
                | refine TR.skip ?_
                | refine TR.condB rfl ?_
                | refine Br.cond_t ?_
                | refine Br.cond_f ?_
                | refine Br.yes (by first | decide | assumption | (apply decide_eq_true; omega)) ?_
                | refine Br.non (by first | decide | assumption | (apply decide_eq_false; omega)) ?_
                | refine Br.cond_ff ?_
                | refine Br.eqT (by omega) ?_
                | refine Br.eqF (by omega) ?_
                | refine Br.neT (by omega) ?_
                | refine Br.neF (by omega) ?_
                | refine Ld.mk' _ rfl ?_
                | refine Need.mk (by first | decide | omega | kernel_rfl) ?_
                | refine Nm.i64 (by omega) ?_
                | refine Nm.u64 (by omega) ?_
                | refine Nm.u8 (by omega) ?_)
            | refine Ld.mk' [.v (.string p)] (by have h := subL_row ps q.toNat p hp; rw [show q.toNat = 0 * 1 + q.toNat * 1 by omega] at h; exact h) ?_
            | refine x_ret (f := 116) rfl rfl (fun w _ => number_ret p (by omega) w) ?_
            | (refine x_exq (TTok _ _) ?_; (conv => whnf); fail_if_success (guard_target =ₛ False)))
        all_goals (conv => whnf)
        refine ⟨(q + 1, o), ⟨by dsimp only; omega, by dsimp only; omega, by dsimp only; omega, ?_⟩, by dsimp only; omega, ?_⟩
        · dsimp only
          rw [show (q + 1).toNat = q.toNat + 1 by omega]
          exact hc
        repeat' ((conv => whnf); first | exact trivial | exact Fgt.nil | exact Fgt.mk rfl rfl rfl | exact Fgt.mk rfl (by simp only [noRefC, nr_map, nr_app, noRefL, noRef, Bool.and_self]) rfl | refine And.intro rfl ?_ | refine And.intro ?_ ?_)
    · have hV2 : o = strOfNums (ps.flatMap nm4) := by rw [hV, List.take_of_length_le (by omega)]
      repeat' (
        (conv => whnf)
        first
          | (with_reducible first
              | refine TR.seq ?_
              | refine TR.region (TTok _ _) ?_
              | refine TR.drawn (TTok _ _) mixed ?_
              | refine TR.block ?_
              | refine TR.ret ?_
              | refine TR.exit ?_
              | refine TR.skip ?_
              | refine TR.condB rfl ?_
              | refine Br.cond_t ?_
              | refine Br.cond_f ?_
              | refine Br.yes (by first | decide | assumption | (apply decide_eq_true; omega)) ?_
              | refine Br.non (by first | decide | assumption | (apply decide_eq_false; omega)) ?_
              | refine Br.cond_ff ?_
              | refine Br.eqT (by omega) ?_
              | refine Br.eqF (by omega) ?_
              | refine Br.neT (by omega) ?_
              | refine Br.neF (by omega) ?_
              | refine Ld.mk' _ rfl ?_
              | refine Need.mk (by first | decide | omega | kernel_rfl) ?_
              | refine Nm.i64 (by omega) ?_
              | refine Nm.u64 (by omega) ?_
              | refine Nm.u8 (by omega) ?_)
          | (refine x_exq (TTok _ _) ?_; (conv => whnf); fail_if_success (guard_target =ₛ False)))
      all_goals (conv => whnf)
      all_goals (simp only [val, hV2])
theorem pad_step (s : ByteArray) (h : s.size < 4) : pad4 (48 :: sInts s) = pad4 (sInts s) := by
  unfold pad4
  rw [List.length_cons, sInts_length, show 4 - s.size = (4 - (s.size + 1)) + 1 by omega, List.replicate_succ', List.append_assoc]
  rfl
theorem sInts_app (a b : ByteArray) : sInts (a ++ b) = sInts a ++ sInts b := by
  unfold sInts
  rw [ByteArray.data_append, Array.toList_append, List.map_append]
set_option maxHeartbeats 4000000 in
theorem numbers6_ret (s : ByteArray) (hs : s.size ≤ 2000000) (w : World) : Ret Tryz.prog 75 [.int .i64 28, .string s] w (.string (strOfNums (d6 s))) := by
  have hrow := fun w => split_ret s (by omega) 58 (spS 58 s) (spS_ok 58 s) w
  have hpl := spS_len 58 s
  have hpp := spS_part 58 s
  unfold d6
  generalize spS 58 s = ps at hrow hpl hpp
  refine Ret.of (I := fun _ => True) (fun _ _ => trivial) (TTok 0 _) Tryz.func75 (by kernel_rfl) rfl rfl ?_
  repeat' (
    (conv => whnf)
    first
      | (with_reducible first
          | refine TR.seq ?_
          | refine TR.region (TTok _ _) ?_
          | refine TR.drawn (TTok _ _) mixed ?_
          | refine TR.block ?_
          | refine TR.ret ?_
          | refine TR.exit ?_
          | refine TR.skip ?_
          | refine TR.condB rfl ?_
          | refine Br.cond_t ?_
          | refine Br.cond_f ?_
          | refine Br.yes (by first | decide | assumption | (apply decide_eq_true; omega)) ?_
          | refine Br.non (by first | decide | assumption | (apply decide_eq_false; omega)) ?_
          | refine Br.cond_ff ?_
          | refine Br.eqT (by omega) ?_
          | refine Br.eqF (by omega) ?_
          | refine Br.neT (by omega) ?_
          | refine Br.neF (by omega) ?_
          | refine Ld.mk' _ rfl ?_
          | refine Need.mk (by first | decide | omega | kernel_rfl) ?_
          | refine Nm.i64 (by omega) ?_
          | refine Nm.u64 (by omega) ?_
          | refine Nm.u8 (by omega) ?_)
      | refine x_row (f := 74) (d := 37) rfl rfl (fun w _ => hrow w) rfl ?_
      | (refine x_exq (TTok _ _) ?_; (conv => whnf); fail_if_success (guard_target =ₛ False)))
  refine TR.loopH (fun x : Int × ByteArray => [(5, .v (.string x.2)), (10, .v (.int .i64 x.1))]) (fun _ => []) (fun x => 0 ≤ x.1 ∧ x.1 ≤ ps.length ∧ x.2.size ≤ x.1 * 2000004 ∧ x.2 = strOfNums ((ps.take x.1.toNat).flatMap nm6)) (fun x => (ps.length - x.1).toNat) (0, ⟨#[]⟩) ⟨by dsimp only; omega, by dsimp only; omega, by decide, rfl⟩ ?_ ?_
  · repeat' ((conv => whnf); first | exact trivial | exact Fgt.nil | exact Fgt.mk rfl rfl rfl | exact Fgt.mk rfl (by simp only [noRefC, nr_map, nr_app, noRefL, noRef, Bool.and_self]) rfl | refine And.intro rfl ?_ | refine And.intro ?_ ?_)
  · rintro ⟨q, o⟩ ⟨q0, q1, ob, hV⟩
    dsimp only at q0 q1 ob hV ⊢
    by_cases hq : q < ps.length
    · obtain ⟨p, hp⟩ : ∃ p, ps[q.toNat]? = some p := ⟨ps[q.toNat], by rw [List.getElem?_eq_getElem]⟩
      have hps := hpp p (List.mem_of_getElem? hp)
      have hft := flat_take nm6 ps q.toNat p hp
      have hul := (unhL_range (padS p)).2
      have hpz := padS_size p
      have hc : o ++ strOfNums (unhL (padS p)) = strOfNums ((ps.take (q.toNat + 1)).flatMap nm6) := by rw [hV, hft, str_app, nm6]
      obtain ⟨o2, ho2⟩ : ∃ o2, o ++ strOfNums (unhL (padS p)) = o2 := ⟨_, rfl⟩
      have hz : (strOfNums (unhL (padS p))).size = (unhL (padS p)).length := strOfNums_size _
      have hz2 : o2.size ≤ (q + 1) * 2000004 := by rw [← ho2, ByteArray.size_append, hz]; omega
      rw [ho2] at hc
      repeat' (
        (conv => whnf)
        first
          | (with_reducible first
              | refine TR.seq ?_
              | refine TR.region (TTok _ _) ?_
              | refine TR.drawn (TTok _ _) mixed ?_
              | refine TR.block ?_
              | refine TR.ret ?_
              | refine TR.exit ?_
              | refine TR.skip ?_
              | refine TR.condB rfl ?_
              | refine Br.cond_t ?_
              | refine Br.cond_f ?_
              | refine Br.yes (by first | decide | assumption | (apply decide_eq_true; omega)) ?_
              | refine Br.non (by first | decide | assumption | (apply decide_eq_false; omega)) ?_
              | refine Br.cond_ff ?_
              | refine Br.eqT (by omega) ?_
              | refine Br.eqF (by omega) ?_
              | refine Br.neT (by omega) ?_
              | refine Br.neF (by omega) ?_
              | refine Ld.mk' _ rfl ?_
              | refine Need.mk (by first | decide | omega | kernel_rfl) ?_
              | refine Nm.i64 (by omega) ?_
              | refine Nm.u64 (by omega) ?_
              | refine Nm.u8 (by omega) ?_)
          | refine Ld.mk' [.v (.string p)] (by have h := subL_row ps q.toNat p hp; rw [show q.toNat = 0 * 1 + q.toNat * 1 by omega] at h; exact h) ?_
          | (refine x_exq (TTok _ _) ?_; (conv => whnf); fail_if_success (guard_target =ₛ False)))
      refine TR.loopH (fun x : ByteArray => [(11, .v (.string x))]) (fun _ => []) (fun x => x.size ≤ 4 + p.size ∧ pad4 (sInts x) = pad4 (sInts p)) (fun x => 4 - x.size) p ⟨by omega, rfl⟩ ?_ ?_
      · repeat' ((conv => whnf); first | exact trivial | exact Fgt.nil | exact Fgt.mk rfl rfl rfl | exact Fgt.mk rfl (by simp only [noRefC, nr_map, nr_app, noRefL, noRef, Bool.and_self]) rfl | refine And.intro rfl ?_ | refine And.intro ?_ ?_)
      · rintro x ⟨x0, x1⟩
        dsimp only at x0 x1 ⊢
        by_cases hx : x.size < 4
        · obtain ⟨x2, hx2⟩ : ∃ x2, (⟨#[48]⟩ : ByteArray) ++ x = x2 := ⟨_, rfl⟩
          have hz3 : x2.size = 1 + x.size := by rw [← hx2, ByteArray.size_append]; rfl
          have hz4 : (⟨#[48]⟩ : ByteArray).size = 1 := rfl
          repeat' (
            (conv => whnf)
            first
              | (with_reducible first
                  | refine TR.seq ?_
                  | refine TR.region (TTok _ _) ?_
                  | refine TR.drawn (TTok _ _) mixed ?_
                  | refine TR.block ?_
                  | refine TR.ret ?_
                  | refine TR.exit ?_
                  | refine TR.skip ?_
                  | refine TR.condB rfl ?_
                  | refine Br.cond_t ?_
                  | refine Br.cond_f ?_
                  | refine Br.yes (by first | decide | assumption | (apply decide_eq_true; omega)) ?_
                  | refine Br.non (by first | decide | assumption | (apply decide_eq_false; omega)) ?_
                  | refine Br.cond_ff ?_
                  | refine Br.eqT (by omega) ?_
                  | refine Br.eqF (by omega) ?_
                  | refine Br.neT (by omega) ?_
                  | refine Br.neF (by omega) ?_
                  | refine Ld.mk' _ rfl ?_
                  | refine Need.mk (by first | decide | omega | kernel_rfl) ?_
                  | refine Nm.i64 (by omega) ?_
                  | refine Nm.u64 (by omega) ?_
                  | refine Nm.u8 (by omega) ?_)
              | refine Nm.mk' x2 hx2 ?_
              | (refine x_exq (TTok _ _) ?_; (conv => whnf); fail_if_success (guard_target =ₛ False)))
          all_goals (conv => whnf)
          refine ⟨x2, ⟨by omega, ?_⟩, by omega, ?_⟩
          · rw [← x1, ← hx2, sInts_app]
            exact pad_step x hx
          repeat' ((conv => whnf); first | exact trivial | exact Fgt.nil | exact Fgt.mk rfl rfl rfl | exact Fgt.mk rfl (by simp only [noRefC, nr_map, nr_app, noRefL, noRef, Bool.and_self]) rfl | refine And.intro rfl ?_ | refine And.intro ?_ ?_)
        · have hx3 : x = padS p := sInts_inj (by
            have e : pad4 (sInts x) = sInts x := by
              unfold pad4
              rw [sInts_length, show 4 - x.size = 0 by omega]
              rfl
            rw [padS, sInts_str, ← x1, e]
            intro n hn
            rw [← x1, e] at hn
            exact sInts_range x n hn)
          subst hx3
          repeat' (
            (conv => whnf)
            first
              | (with_reducible first
                  | refine TR.seq ?_
                  | refine TR.region (TTok _ _) ?_
                  | refine TR.drawn (TTok _ _) mixed ?_
                  | refine TR.block ?_
                  | refine TR.ret ?_
                  | refine TR.exit ?_
                  | refine TR.skip ?_
                  | refine TR.condB rfl ?_
                  | refine Br.cond_t ?_
                  | refine Br.cond_f ?_
                  | refine Br.yes (by first | decide | assumption | (apply decide_eq_true; omega)) ?_
                  | refine Br.non (by first | decide | assumption | (apply decide_eq_false; omega)) ?_
                  | refine Br.cond_ff ?_
                  | refine Br.eqT (by omega) ?_
                  | refine Br.eqF (by omega) ?_
                  | refine Br.neT (by omega) ?_
                  | refine Br.neF (by omega) ?_
                  | refine Ld.mk' _ rfl ?_
                  | refine Need.mk (by first | decide | omega | kernel_rfl) ?_
                  | refine Nm.i64 (by omega) ?_
                  | refine Nm.u64 (by omega) ?_
                  | refine Nm.u8 (by omega) ?_)
              | refine x_ret (f := 117) rfl rfl (fun w _ => unhex_ret' (padS p) (by omega) w) ?_
              | refine Nm.mk' o2 ho2 ?_
              | (refine x_exq (TTok _ _) ?_; (conv => whnf); fail_if_success (guard_target =ₛ False)))
          all_goals (conv => whnf)
          refine ⟨(q + 1, o2), ⟨by dsimp only; omega, by dsimp only; omega, by dsimp only; omega, ?_⟩, by dsimp only; omega, ?_⟩
          · dsimp only
            rw [show (q + 1).toNat = q.toNat + 1 by omega]
            exact hc
          repeat' ((conv => whnf); first | exact trivial | exact Fgt.nil | exact Fgt.mk rfl rfl rfl | exact Fgt.mk rfl (by simp only [noRefC, nr_map, nr_app, noRefL, noRef, Bool.and_self]) rfl | refine And.intro rfl ?_ | refine And.intro ?_ ?_)
    · have hV2 : o = strOfNums (ps.flatMap nm6) := by rw [hV, List.take_of_length_le (by omega)]
      repeat' (
        (conv => whnf)
        first
          | (with_reducible first
              | refine TR.seq ?_
              | refine TR.region (TTok _ _) ?_
              | refine TR.drawn (TTok _ _) mixed ?_
              | refine TR.block ?_
              | refine TR.ret ?_
              | refine TR.exit ?_
              | refine TR.skip ?_
              | refine TR.condB rfl ?_
              | refine Br.cond_t ?_
              | refine Br.cond_f ?_
              | refine Br.yes (by first | decide | assumption | (apply decide_eq_true; omega)) ?_
              | refine Br.non (by first | decide | assumption | (apply decide_eq_false; omega)) ?_
              | refine Br.cond_ff ?_
              | refine Br.eqT (by omega) ?_
              | refine Br.eqF (by omega) ?_
              | refine Br.neT (by omega) ?_
              | refine Br.neF (by omega) ?_
              | refine Ld.mk' _ rfl ?_
              | refine Need.mk (by first | decide | omega | kernel_rfl) ?_
              | refine Nm.i64 (by omega) ?_
              | refine Nm.u64 (by omega) ?_
              | refine Nm.u8 (by omega) ?_)
          | (refine x_exq (TTok _ _) ?_; (conv => whnf); fail_if_success (guard_target =ₛ False)))
      all_goals (conv => whnf)
      all_goals (simp only [val, hV2])
end Go.Proofs.YtopadpgpmkkpgaaGreatDoor
set_option maxRecDepth 100000
namespace Go.Proofs.YtopadpgpmkkpgaaGreatDoor
open Go.SX
/-! ### ref04.Hex, ref02.hex4, address -/
def H16 : ByteArray := ⟨#[48, 49, 50, 51, 52, 53, 54, 55, 56, 57, 97, 98, 99, 100, 101, 102]⟩
theorem H16_D (d : Int) (h : 0 ≤ d ∧ d < 16) : bAt H16 d = bAt D36 d := by
  rcases hd_cases d h with rfl | rfl | rfl | rfl | rfl | rfl | rfl | rfl | rfl | rfl | rfl | rfl | rfl | rfl | rfl | rfl <;> decide
theorem D36_48 (d : Int) (h : 0 ≤ d ∧ d < 16) : bAt D36 d = 48 ↔ d = 0 := by
  rcases hd_cases d h with rfl | rfl | rfl | rfl | rfl | rfl | rfl | rfl | rfl | rfl | rfl | rfl | rfl | rfl | rfl | rfl <;> decide
theorem quo16 (x : Int) (h : 0 ≤ x ∧ x ≤ 255) : IntKind.u8.wrap (x.tdiv 16) = x / 16 := by
  rw [Int.tdiv_eq_ediv_of_nonneg (by omega), w8]
  omega
theorem rem16 (x : Int) (h : 0 ≤ x ∧ x ≤ 255) : x.tmod 16 = x % 16 := Int.tmod_eq_emod_of_nonneg (by omega)
theorem rem16' (x : Int) (h : 0 ≤ x ∧ x ≤ 255) : IntKind.u8.wrap (x.tmod 16) = x % 16 := by
  rw [rem16 x h, w8]
  omega
theorem hex2_ret (a b : Int) (ha : 0 ≤ a ∧ a < 256) (hb : 0 ≤ b ∧ b < 256) (w : World) : Ret Tryz.prog 61 [.string (strOfNums [a, b])] w (.string (strOfNums [bAt D36 (a / 16), bAt D36 (a % 16), bAt D36 (b / 16), bAt D36 (b % 16)])) := by
  have z : (strOfNums [a, b]).size = 2 := strOfNums_size _
  have e0 : bAt (strOfNums [a, b]) 0 = a := bAt_nums [a, b] 0 a rfl (by omega)
  have e1 : bAt (strOfNums [a, b]) (0 + 1) = b := bAt_nums [a, b] 1 b rfl (by omega)
  have f1 := H16_D (a / 16) (by omega)
  have f2 := H16_D (a % 16) (by omega)
  have f3 := H16_D (b / 16) (by omega)
  have f4 := H16_D (b % 16) (by omega)
  generalize strOfNums [a, b] = s at z e0 e1
  have hz : H16.size = 16 := rfl
  rw [← f1, ← f2, ← f3, ← f4, ← e0, ← e1]
  have b0 := bAt_range s 0
  have b1 := bAt_range s (0 + 1)
  refine Ret.tj (I := fun _ => True) (fun _ _ => trivial) (TTok 0 _) Tryz.func61 (by kernel_rfl) rfl ?_
  repeat' (
    (conv => whnf)
    first
      | (with_reducible first
          | refine TJ.seq ?_
          | refine TJ.region (TTok _ _) ?_
          | refine TJ.drawn (TTok _ _) mixed ?_
          | refine TJ.cond rfl ?_
          | refine TJ.block ?_
          | refine TJ.loop ?_
          | refine LJ.step ?_
          | refine TJ.ret ?_
          | refine TJ.exit ?_
          | refine TJ.skip ?_
          | refine TJ.scope ?_
          | refine TJ.label ?_
          | refine Br.cond_t ?_
          | refine Br.cond_f ?_
          | refine Br.yes (by first | decide | assumption | (apply decide_eq_true; omega)) ?_
          | refine Br.non (by first | decide | assumption | (apply decide_eq_false; omega)) ?_
          | refine Br.cond_ff ?_
          | refine Br.eqT (by omega) ?_
          | refine Br.eqF (by omega) ?_
          | refine Br.neT (by omega) ?_
          | refine Br.neF (by omega) ?_
          | refine Need.mk (by exact ⟨by omega, Int.lt_of_lt_of_le (b := 16) (by omega) (by decide)⟩) ?_
          | refine Ld.mk' _ rfl ?_
          | refine Need.mk (by first | decide | omega | kernel_rfl) ?_
          | refine Nm.i64 (by omega) ?_
          | refine Nm.u64 (by omega) ?_
          | refine Nm.u8 (by omega) ?_)
      | refine Nm.mk' (bAt s 0 / 16) (by exact quo16 _ b0) ?_
      | refine Nm.mk' (bAt s (0 + 1) / 16) (by exact quo16 _ b1) ?_
      | refine Nm.mk' (bAt s 0 % 16) (by exact rem16 _ b0) ?_
      | refine Nm.mk' (bAt s (0 + 1) % 16) (by exact rem16 _ b1) ?_
      | refine Nm.mk' (bAt s 0 % 16) (by exact rem16' _ b0) ?_
      | refine Nm.mk' (bAt s (0 + 1) % 16) (by exact rem16' _ b1) ?_
      | refine Nm.keep ?_
      | (refine x_exq (TTok _ _) ?_; (conv => whnf); fail_if_success (guard_target =ₛ False)))
  all_goals (conv => whnf)
  all_goals rfl
theorem hex4_core (v : Int) (N : ByteArray) (h0 h1 h2 h3 : Int) (r0 : 0 ≤ h0 ∧ h0 ≤ 255) (r1 : 0 ≤ h1 ∧ h1 ≤ 255) (r2 : 0 ≤ h2 ∧ h2 ≤ 255) (r3 : 0 ≤ h3 ∧ h3 ≤ 255) (n2 : ∀ w, Ret Tryz.prog 80 [.int .i64 v, .int .i64 2] w (.string N)) (hx : ∀ w, Ret Tryz.prog 61 [.string N] w (.string (strOfNums [h0, h1, h2, h3]))) (w : World) :
    (h0 = 48 → h1 = 48 → h2 = 48 → Ret Tryz.prog 58 [.int .i64 v] w (.string (strOfNums [h3]))) ∧ (h0 = 48 → h1 = 48 → h2 ≠ 48 → Ret Tryz.prog 58 [.int .i64 v] w (.string (strOfNums [h2, h3]))) ∧ (h0 = 48 → h1 ≠ 48 → Ret Tryz.prog 58 [.int .i64 v] w (.string (strOfNums [h1, h2, h3]))) ∧ (h0 ≠ 48 → Ret Tryz.prog 58 [.int .i64 v] w (.string (strOfNums [h0, h1, h2, h3]))) := by
  have z0 : (strOfNums [h0, h1, h2, h3]).size = 4 := strOfNums_size _
  have z1 : (strOfNums [h1, h2, h3]).size = 3 := strOfNums_size _
  have z2 : (strOfNums [h2, h3]).size = 2 := strOfNums_size _
  have z3 : (strOfNums [h3]).size = 1 := strOfNums_size _
  have e0 : bAt (strOfNums [h0, h1, h2, h3]) 0 = h0 := bAt_nums [h0, h1, h2, h3] 0 h0 rfl r0
  have e1 : bAt (strOfNums [h1, h2, h3]) 0 = h1 := bAt_nums [h1, h2, h3] 0 h1 rfl r1
  have e2 : bAt (strOfNums [h2, h3]) 0 = h2 := bAt_nums [h2, h3] 0 h2 rfl r2
  have x0 : (strOfNums [h0, h1, h2, h3]).extract 1 (strOfNums [h0, h1, h2, h3]).size = strOfNums [h1, h2, h3] := by rw [z0]; rfl
  have x1 : (strOfNums [h1, h2, h3]).extract 1 (strOfNums [h1, h2, h3]).size = strOfNums [h2, h3] := by rw [z1]; rfl
  have x2 : (strOfNums [h2, h3]).extract 1 (strOfNums [h2, h3]).size = strOfNums [h3] := by rw [z2]; rfl
  generalize strOfNums [h0, h1, h2, h3] = S0 at hx z0 e0 x0
  generalize strOfNums [h1, h2, h3] = S1 at z1 e1 x0 x1
  generalize strOfNums [h2, h3] = S2 at z2 e2 x1 x2
  generalize strOfNums [h3] = S3 at z3 x2
  refine ⟨fun a b c => ?_, fun a b c => ?_, fun a b => ?_, fun a => ?_⟩
  all_goals refine Ret.tj (I := fun _ => True) (fun _ _ => trivial) (TTok 0 _) Tryz.func58 (by kernel_rfl) rfl ?_
  all_goals repeat' (
    (conv => whnf)
    first
      | (with_reducible first
          | refine TJ.seq ?_
          | refine TJ.region (TTok _ _) ?_
          | refine TJ.drawn (TTok _ _) mixed ?_
          | refine TJ.cond rfl ?_
          | refine TJ.block ?_
          | refine TJ.loop ?_
          | refine LJ.step ?_
          | refine TJ.ret ?_
          | refine TJ.exit ?_
          | refine TJ.skip ?_
          | refine TJ.scope ?_
          | refine TJ.label ?_
          | refine Br.cond_t ?_
          | refine Br.cond_f ?_
          | refine Br.yes (by first | decide | assumption | (apply decide_eq_true; omega)) ?_
          | refine Br.non (by first | decide | assumption | (apply decide_eq_false; omega)) ?_
          | refine Br.cond_ff ?_
          | refine Br.eqT (by omega) ?_
          | refine Br.eqF (by omega) ?_
          | refine Br.neT (by omega) ?_
          | refine Br.neF (by omega) ?_
          | refine Ld.mk' _ rfl ?_
          | refine Need.mk (by first | decide | omega | kernel_rfl) ?_
          | refine Nm.i64 (by omega) ?_
          | refine Nm.u64 (by omega) ?_
          | refine Nm.u8 (by omega) ?_
          | refine x_ret (f := 80) rfl rfl (fun w _ => n2 w) ?_
          | refine x_ret (f := 61) rfl rfl (fun w _ => hx w) ?_)
      | refine Nm.mk' S1 x0 ?_
      | refine Nm.mk' S2 x1 ?_
      | refine Nm.mk' S3 x2 ?_
      | (refine x_exq (TTok _ _) ?_; (conv => whnf); fail_if_success (guard_target =ₛ False)))
  all_goals (conv => whnf)
  all_goals rfl
theorem hex4_ret (v : Int) (hv : 0 ≤ v ∧ v < 65536) (w : World) : Ret Tryz.prog 58 [.int .i64 v] w (.string (hexS v)) := by
  have n2 := fun w => num2_ret v hv w
  have hx := fun w => hex2_ret (v / 256) (v % 256) (by omega) (by omega) w
  rw [show v / 256 / 16 = v / 16 / 16 / 16 by omega, show v / 256 % 16 = v / 16 / 16 % 16 by omega, show v % 256 / 16 = v / 16 % 16 by omega, show v % 256 % 16 = v % 16 by omega] at hx
  have k0 := D36_48 (v / 16 / 16 / 16) (by omega)
  have k1 := D36_48 (v / 16 / 16 % 16) (by omega)
  have k2 := D36_48 (v / 16 % 16) (by omega)
  have m0 := hd_range (v / 16 / 16 / 16) (by omega)
  have m1 := hd_range (v / 16 / 16 % 16) (by omega)
  have m2 := hd_range (v / 16 % 16) (by omega)
  have m3 := hd_range (v % 16) (by omega)
  obtain ⟨c3, c2, c1, c0⟩ := hex4_core v _ _ _ _ _ (by omega) (by omega) (by omega) (by omega) n2 hx w
  unfold hexS hexL
  split
  · have := c3 (k0.2 (by omega)) (k1.2 (by omega)) (k2.2 (by omega))
    rwa [show v % 16 = v by omega] at this
  split
  · have := c2 (k0.2 (by omega)) (k1.2 (by omega)) (fun e => by have := k2.1 e; omega)
    rwa [show v / 16 % 16 = v / 16 by omega] at this
  split
  · have := c1 (k0.2 (by omega)) (fun e => by have := k1.1 e; omega)
    rwa [show v / 16 / 16 % 16 = v / 16 / 16 by omega] at this
  · exact c0 (fun e => by have := k0.1 e; omega)
theorem hexS_size (v : Int) : (hexS v).size ≤ 4 := by
  have := hexS_len v
  rwa [← Lib.size_eq] at this
theorem decS_size (v : Int) : (decS v).size ≤ 4 := by
  have := decS_len v
  rwa [← Lib.size_eq] at this
def a4 (d : ByteArray) : ByteArray := ((((⟨#[]⟩ : ByteArray) ++ decS (bAt d (0))) ++ (⟨#[46]⟩ : ByteArray) ++ decS (bAt d (0 + 1))) ++ (⟨#[46]⟩ : ByteArray) ++ decS (bAt d (0 + 1 + 1))) ++ (⟨#[46]⟩ : ByteArray) ++ decS (bAt d (0 + 1 + 1 + 1))
def a6 (d : ByteArray) : ByteArray := ((((((((⟨#[]⟩ : ByteArray) ++ hexS (256 * bAt d (0) + bAt d (0 + 1))) ++ (⟨#[58]⟩ : ByteArray) ++ hexS (256 * bAt d (0 + 2) + bAt d (0 + 2 + 1))) ++ (⟨#[58]⟩ : ByteArray) ++ hexS (256 * bAt d (0 + 2 + 2) + bAt d (0 + 2 + 2 + 1))) ++ (⟨#[58]⟩ : ByteArray) ++ hexS (256 * bAt d (0 + 2 + 2 + 2) + bAt d (0 + 2 + 2 + 2 + 1))) ++ (⟨#[58]⟩ : ByteArray) ++ hexS (256 * bAt d (0 + 2 + 2 + 2 + 2) + bAt d (0 + 2 + 2 + 2 + 2 + 1))) ++ (⟨#[58]⟩ : ByteArray) ++ hexS (256 * bAt d (0 + 2 + 2 + 2 + 2 + 2) + bAt d (0 + 2 + 2 + 2 + 2 + 2 + 1))) ++ (⟨#[58]⟩ : ByteArray) ++ hexS (256 * bAt d (0 + 2 + 2 + 2 + 2 + 2 + 2) + bAt d (0 + 2 + 2 + 2 + 2 + 2 + 2 + 1))) ++ (⟨#[58]⟩ : ByteArray) ++ hexS (256 * bAt d (0 + 2 + 2 + 2 + 2 + 2 + 2 + 2) + bAt d (0 + 2 + 2 + 2 + 2 + 2 + 2 + 2 + 1))
set_option maxHeartbeats 4000000 in
theorem addr4_ret (d : ByteArray) (hd : d.size = 4) (w : World) (hI : I13 w) : Ret Tryz.prog 33 [.string d] w (.string (a4 d)) := by
  unfold a4
  have b0 := bAt_range d (0)
  have q0 := fun w (hw : I13 w) => digits_ret (bAt d (0)) (by omega) w hw
  have z0 := decS_size (bAt d (0))
  have b1 := bAt_range d (0 + 1)
  have q1 := fun w (hw : I13 w) => digits_ret (bAt d (0 + 1)) (by omega) w hw
  have z1 := decS_size (bAt d (0 + 1))
  have b2 := bAt_range d (0 + 1 + 1)
  have q2 := fun w (hw : I13 w) => digits_ret (bAt d (0 + 1 + 1)) (by omega) w hw
  have z2 := decS_size (bAt d (0 + 1 + 1))
  have b3 := bAt_range d (0 + 1 + 1 + 1)
  have q3 := fun w (hw : I13 w) => digits_ret (bAt d (0 + 1 + 1 + 1)) (by omega) w hw
  have z3 := decS_size (bAt d (0 + 1 + 1 + 1))
  generalize decS (bAt d (0)) = V0 at q0 z0 ⊢
  generalize decS (bAt d (0 + 1)) = V1 at q1 z1 ⊢
  generalize decS (bAt d (0 + 1 + 1)) = V2 at q2 z2 ⊢
  generalize decS (bAt d (0 + 1 + 1 + 1)) = V3 at q3 z3 ⊢
  obtain ⟨T0, hT0⟩ : ∃ T, (⟨#[]⟩ : ByteArray) ++ V0 = T := ⟨_, rfl⟩
  have zT0 : T0.size ≤ 4 := by rw [← hT0, ByteArray.size_append]; have : (⟨#[]⟩ : ByteArray).size = 0 := rfl; omega
  have zsep : (⟨#[46]⟩ : ByteArray).size = 1 := rfl
  have znil : (⟨#[]⟩ : ByteArray).size = 0 := rfl
  obtain ⟨T1, hT1⟩ : ∃ T, T0 ++ (⟨#[46]⟩ : ByteArray) = T := ⟨_, rfl⟩
  have zT1 : T1.size ≤ 5 := by rw [← hT1, ByteArray.size_append]; omega
  obtain ⟨T2, hT2⟩ : ∃ T, T1 ++ V1 = T := ⟨_, rfl⟩
  have zT2 : T2.size ≤ 9 := by rw [← hT2, ByteArray.size_append]; omega
  obtain ⟨T3, hT3⟩ : ∃ T, T2 ++ (⟨#[46]⟩ : ByteArray) = T := ⟨_, rfl⟩
  have zT3 : T3.size ≤ 10 := by rw [← hT3, ByteArray.size_append]; omega
  obtain ⟨T4, hT4⟩ : ∃ T, T3 ++ V2 = T := ⟨_, rfl⟩
  have zT4 : T4.size ≤ 14 := by rw [← hT4, ByteArray.size_append]; omega
  obtain ⟨T5, hT5⟩ : ∃ T, T4 ++ (⟨#[46]⟩ : ByteArray) = T := ⟨_, rfl⟩
  have zT5 : T5.size ≤ 15 := by rw [← hT5, ByteArray.size_append]; omega
  obtain ⟨T6, hT6⟩ : ∃ T, T5 ++ V3 = T := ⟨_, rfl⟩
  have zT6 : T6.size ≤ 19 := by rw [← hT6, ByteArray.size_append]; omega
  rw [hT0, hT1, hT2, hT3, hT4, hT5, hT6]
  refine Ret.tj (I := I13) (fun w' hm => hI.mod hm) (TTok 0 _) Tryz.func33 (by kernel_rfl) rfl ?_
  repeat' (
    (conv => whnf)
    first
      | (with_reducible first
          | refine TJ.seq ?_
          | refine TJ.region (TTok _ _) ?_
          | refine TJ.drawn (TTok _ _) mixed ?_
          | refine TJ.cond rfl ?_
          | refine TJ.block ?_
          | refine TJ.loop ?_
          | refine LJ.step ?_
          | refine TJ.ret ?_
          | refine TJ.exit ?_
          | refine TJ.skip ?_
          | refine TJ.scope ?_
          | refine TJ.label ?_
          | refine Br.cond_t ?_
          | refine Br.cond_f ?_
          | refine Br.yes (by first | decide | assumption | (apply decide_eq_true; omega)) ?_
          | refine Br.non (by first | decide | assumption | (apply decide_eq_false; omega)) ?_
          | refine Br.cond_ff ?_
          | refine Br.eqT (by omega) ?_
          | refine Br.eqF (by omega) ?_
          | refine Br.neT (by omega) ?_
          | refine Br.neF (by omega) ?_
          | refine Ld.mk' _ rfl ?_
          | refine Need.mk (by first | decide | omega | kernel_rfl) ?_
          | refine Nm.i64 (by omega) ?_
          | refine Nm.u64 (by omega) ?_
          | refine Nm.u8 (by omega) ?_)
      | refine x_ret (f := 57) rfl rfl (fun w hw => q0 w hw) ?_
      | refine x_ret (f := 57) rfl rfl (fun w hw => q1 w hw) ?_
      | refine x_ret (f := 57) rfl rfl (fun w hw => q2 w hw) ?_
      | refine x_ret (f := 57) rfl rfl (fun w hw => q3 w hw) ?_
      | refine Nm.mk' T0 hT0 ?_
      | refine Nm.mk' T1 hT1 ?_
      | refine Nm.mk' T2 hT2 ?_
      | refine Nm.mk' T3 hT3 ?_
      | refine Nm.mk' T4 hT4 ?_
      | refine Nm.mk' T5 hT5 ?_
      | refine Nm.mk' T6 hT6 ?_
      | refine x_call (f := 34) (TTok _ _) rfl rfl Tryz.func34 (by kernel_rfl) rfl ?_
      | refine x_exq (TTok _ _) ?_)
  all_goals (conv => whnf)
  all_goals rfl
set_option maxHeartbeats 4000000 in
theorem addr6_ret (d : ByteArray) (hd : d.size = 16) (w : World) : Ret Tryz.prog 33 [.string d] w (.string (a6 d)) := by
  unfold a6
  have b0 := bAt_range d (0)
  have c0 := bAt_range d (0 + 1)
  have q0 := fun w => hex4_ret (256 * bAt d (0) + bAt d (0 + 1)) (by omega) w
  have z0 := hexS_size (256 * bAt d (0) + bAt d (0 + 1))
  have b1 := bAt_range d (0 + 2)
  have c1 := bAt_range d (0 + 2 + 1)
  have q1 := fun w => hex4_ret (256 * bAt d (0 + 2) + bAt d (0 + 2 + 1)) (by omega) w
  have z1 := hexS_size (256 * bAt d (0 + 2) + bAt d (0 + 2 + 1))
  have b2 := bAt_range d (0 + 2 + 2)
  have c2 := bAt_range d (0 + 2 + 2 + 1)
  have q2 := fun w => hex4_ret (256 * bAt d (0 + 2 + 2) + bAt d (0 + 2 + 2 + 1)) (by omega) w
  have z2 := hexS_size (256 * bAt d (0 + 2 + 2) + bAt d (0 + 2 + 2 + 1))
  have b3 := bAt_range d (0 + 2 + 2 + 2)
  have c3 := bAt_range d (0 + 2 + 2 + 2 + 1)
  have q3 := fun w => hex4_ret (256 * bAt d (0 + 2 + 2 + 2) + bAt d (0 + 2 + 2 + 2 + 1)) (by omega) w
  have z3 := hexS_size (256 * bAt d (0 + 2 + 2 + 2) + bAt d (0 + 2 + 2 + 2 + 1))
  have b4 := bAt_range d (0 + 2 + 2 + 2 + 2)
  have c4 := bAt_range d (0 + 2 + 2 + 2 + 2 + 1)
  have q4 := fun w => hex4_ret (256 * bAt d (0 + 2 + 2 + 2 + 2) + bAt d (0 + 2 + 2 + 2 + 2 + 1)) (by omega) w
  have z4 := hexS_size (256 * bAt d (0 + 2 + 2 + 2 + 2) + bAt d (0 + 2 + 2 + 2 + 2 + 1))
  have b5 := bAt_range d (0 + 2 + 2 + 2 + 2 + 2)
  have c5 := bAt_range d (0 + 2 + 2 + 2 + 2 + 2 + 1)
  have q5 := fun w => hex4_ret (256 * bAt d (0 + 2 + 2 + 2 + 2 + 2) + bAt d (0 + 2 + 2 + 2 + 2 + 2 + 1)) (by omega) w
  have z5 := hexS_size (256 * bAt d (0 + 2 + 2 + 2 + 2 + 2) + bAt d (0 + 2 + 2 + 2 + 2 + 2 + 1))
  have b6 := bAt_range d (0 + 2 + 2 + 2 + 2 + 2 + 2)
  have c6 := bAt_range d (0 + 2 + 2 + 2 + 2 + 2 + 2 + 1)
  have q6 := fun w => hex4_ret (256 * bAt d (0 + 2 + 2 + 2 + 2 + 2 + 2) + bAt d (0 + 2 + 2 + 2 + 2 + 2 + 2 + 1)) (by omega) w
  have z6 := hexS_size (256 * bAt d (0 + 2 + 2 + 2 + 2 + 2 + 2) + bAt d (0 + 2 + 2 + 2 + 2 + 2 + 2 + 1))
  have b7 := bAt_range d (0 + 2 + 2 + 2 + 2 + 2 + 2 + 2)
  have c7 := bAt_range d (0 + 2 + 2 + 2 + 2 + 2 + 2 + 2 + 1)
  have q7 := fun w => hex4_ret (256 * bAt d (0 + 2 + 2 + 2 + 2 + 2 + 2 + 2) + bAt d (0 + 2 + 2 + 2 + 2 + 2 + 2 + 2 + 1)) (by omega) w
  have z7 := hexS_size (256 * bAt d (0 + 2 + 2 + 2 + 2 + 2 + 2 + 2) + bAt d (0 + 2 + 2 + 2 + 2 + 2 + 2 + 2 + 1))
  generalize hexS (256 * bAt d (0) + bAt d (0 + 1)) = V0 at q0 z0 ⊢
  generalize hexS (256 * bAt d (0 + 2) + bAt d (0 + 2 + 1)) = V1 at q1 z1 ⊢
  generalize hexS (256 * bAt d (0 + 2 + 2) + bAt d (0 + 2 + 2 + 1)) = V2 at q2 z2 ⊢
  generalize hexS (256 * bAt d (0 + 2 + 2 + 2) + bAt d (0 + 2 + 2 + 2 + 1)) = V3 at q3 z3 ⊢
  generalize hexS (256 * bAt d (0 + 2 + 2 + 2 + 2) + bAt d (0 + 2 + 2 + 2 + 2 + 1)) = V4 at q4 z4 ⊢
  generalize hexS (256 * bAt d (0 + 2 + 2 + 2 + 2 + 2) + bAt d (0 + 2 + 2 + 2 + 2 + 2 + 1)) = V5 at q5 z5 ⊢
  generalize hexS (256 * bAt d (0 + 2 + 2 + 2 + 2 + 2 + 2) + bAt d (0 + 2 + 2 + 2 + 2 + 2 + 2 + 1)) = V6 at q6 z6 ⊢
  generalize hexS (256 * bAt d (0 + 2 + 2 + 2 + 2 + 2 + 2 + 2) + bAt d (0 + 2 + 2 + 2 + 2 + 2 + 2 + 2 + 1)) = V7 at q7 z7 ⊢
  obtain ⟨T0, hT0⟩ : ∃ T, (⟨#[]⟩ : ByteArray) ++ V0 = T := ⟨_, rfl⟩
  have zT0 : T0.size ≤ 4 := by rw [← hT0, ByteArray.size_append]; have : (⟨#[]⟩ : ByteArray).size = 0 := rfl; omega
  have zsep : (⟨#[58]⟩ : ByteArray).size = 1 := rfl
  have znil : (⟨#[]⟩ : ByteArray).size = 0 := rfl
  obtain ⟨T1, hT1⟩ : ∃ T, T0 ++ (⟨#[58]⟩ : ByteArray) = T := ⟨_, rfl⟩
  have zT1 : T1.size ≤ 5 := by rw [← hT1, ByteArray.size_append]; omega
  obtain ⟨T2, hT2⟩ : ∃ T, T1 ++ V1 = T := ⟨_, rfl⟩
  have zT2 : T2.size ≤ 9 := by rw [← hT2, ByteArray.size_append]; omega
  obtain ⟨T3, hT3⟩ : ∃ T, T2 ++ (⟨#[58]⟩ : ByteArray) = T := ⟨_, rfl⟩
  have zT3 : T3.size ≤ 10 := by rw [← hT3, ByteArray.size_append]; omega
  obtain ⟨T4, hT4⟩ : ∃ T, T3 ++ V2 = T := ⟨_, rfl⟩
  have zT4 : T4.size ≤ 14 := by rw [← hT4, ByteArray.size_append]; omega
  obtain ⟨T5, hT5⟩ : ∃ T, T4 ++ (⟨#[58]⟩ : ByteArray) = T := ⟨_, rfl⟩
  have zT5 : T5.size ≤ 15 := by rw [← hT5, ByteArray.size_append]; omega
  obtain ⟨T6, hT6⟩ : ∃ T, T5 ++ V3 = T := ⟨_, rfl⟩
  have zT6 : T6.size ≤ 19 := by rw [← hT6, ByteArray.size_append]; omega
  obtain ⟨T7, hT7⟩ : ∃ T, T6 ++ (⟨#[58]⟩ : ByteArray) = T := ⟨_, rfl⟩
  have zT7 : T7.size ≤ 20 := by rw [← hT7, ByteArray.size_append]; omega
  obtain ⟨T8, hT8⟩ : ∃ T, T7 ++ V4 = T := ⟨_, rfl⟩
  have zT8 : T8.size ≤ 24 := by rw [← hT8, ByteArray.size_append]; omega
  obtain ⟨T9, hT9⟩ : ∃ T, T8 ++ (⟨#[58]⟩ : ByteArray) = T := ⟨_, rfl⟩
  have zT9 : T9.size ≤ 25 := by rw [← hT9, ByteArray.size_append]; omega
  obtain ⟨T10, hT10⟩ : ∃ T, T9 ++ V5 = T := ⟨_, rfl⟩
  have zT10 : T10.size ≤ 29 := by rw [← hT10, ByteArray.size_append]; omega
  obtain ⟨T11, hT11⟩ : ∃ T, T10 ++ (⟨#[58]⟩ : ByteArray) = T := ⟨_, rfl⟩
  have zT11 : T11.size ≤ 30 := by rw [← hT11, ByteArray.size_append]; omega
  obtain ⟨T12, hT12⟩ : ∃ T, T11 ++ V6 = T := ⟨_, rfl⟩
  have zT12 : T12.size ≤ 34 := by rw [← hT12, ByteArray.size_append]; omega
  obtain ⟨T13, hT13⟩ : ∃ T, T12 ++ (⟨#[58]⟩ : ByteArray) = T := ⟨_, rfl⟩
  have zT13 : T13.size ≤ 35 := by rw [← hT13, ByteArray.size_append]; omega
  obtain ⟨T14, hT14⟩ : ∃ T, T13 ++ V7 = T := ⟨_, rfl⟩
  have zT14 : T14.size ≤ 39 := by rw [← hT14, ByteArray.size_append]; omega
  rw [hT0, hT1, hT2, hT3, hT4, hT5, hT6, hT7, hT8, hT9, hT10, hT11, hT12, hT13, hT14]
  refine Ret.tj (I := fun _ => True) (fun _ _ => trivial) (TTok 0 _) Tryz.func33 (by kernel_rfl) rfl ?_
  repeat' (
    (conv => whnf)
    first
      | (with_reducible first
          | refine TJ.seq ?_
          | refine TJ.region (TTok _ _) ?_
          | refine TJ.drawn (TTok _ _) mixed ?_
          | refine TJ.cond rfl ?_
          | refine TJ.block ?_
          | refine TJ.loop ?_
          | refine LJ.step ?_
          | refine TJ.ret ?_
          | refine TJ.exit ?_
          | refine TJ.skip ?_
          | refine TJ.scope ?_
          | refine TJ.label ?_
          | refine Br.cond_t ?_
          | refine Br.cond_f ?_
          | refine Br.yes (by first | decide | assumption | (apply decide_eq_true; omega)) ?_
          | refine Br.non (by first | decide | assumption | (apply decide_eq_false; omega)) ?_
          | refine Br.cond_ff ?_
          | refine Br.eqT (by omega) ?_
          | refine Br.eqF (by omega) ?_
          | refine Br.neT (by omega) ?_
          | refine Br.neF (by omega) ?_
          | refine Ld.mk' _ rfl ?_
          | refine Need.mk (by first | decide | omega | kernel_rfl) ?_
          | refine Nm.i64 (by omega) ?_
          | refine Nm.u64 (by omega) ?_
          | refine Nm.u8 (by omega) ?_)
      | refine x_ret (f := 58) rfl rfl (fun w _ => q0 w) ?_
      | refine x_ret (f := 58) rfl rfl (fun w _ => q1 w) ?_
      | refine x_ret (f := 58) rfl rfl (fun w _ => q2 w) ?_
      | refine x_ret (f := 58) rfl rfl (fun w _ => q3 w) ?_
      | refine x_ret (f := 58) rfl rfl (fun w _ => q4 w) ?_
      | refine x_ret (f := 58) rfl rfl (fun w _ => q5 w) ?_
      | refine x_ret (f := 58) rfl rfl (fun w _ => q6 w) ?_
      | refine x_ret (f := 58) rfl rfl (fun w _ => q7 w) ?_
      | refine Nm.mk' T0 hT0 ?_
      | refine Nm.mk' T1 hT1 ?_
      | refine Nm.mk' T2 hT2 ?_
      | refine Nm.mk' T3 hT3 ?_
      | refine Nm.mk' T4 hT4 ?_
      | refine Nm.mk' T5 hT5 ?_
      | refine Nm.mk' T6 hT6 ?_
      | refine Nm.mk' T7 hT7 ?_
      | refine Nm.mk' T8 hT8 ?_
      | refine Nm.mk' T9 hT9 ?_
      | refine Nm.mk' T10 hT10 ?_
      | refine Nm.mk' T11 hT11 ?_
      | refine Nm.mk' T12 hT12 ?_
      | refine Nm.mk' T13 hT13 ?_
      | refine Nm.mk' T14 hT14 ?_
      | refine x_call (f := 34) (TTok _ _) rfl rfl Tryz.func34 (by kernel_rfl) rfl ?_
      | refine x_exq (TTok _ _) ?_)
  all_goals (conv => whnf)
  all_goals rfl
end Go.Proofs.YtopadpgpmkkpgaaGreatDoor
set_option maxRecDepth 100000
namespace Go.Proofs.YtopadpgpmkkpgaaGreatDoor
open Go.SX
/-! ### ref02.Right, Text, guess, Read of addresses -/
theorem right4_yes (d : ByteArray) (hd : d.size = 4) (w : World) : Ret Tryz.prog 32 [.int .i64 1, .string d] w (.bool true) := by
  refine Ret.tj (I := fun _ => True) (fun _ _ => trivial) (TTok 0 _) Tryz.func32 (by kernel_rfl) rfl ?_
  repeat' (
    (conv => whnf)
    first
      | (with_reducible first
          | refine TJ.seq ?_
          | refine TJ.region (TTok _ _) ?_
          | refine TJ.drawn (TTok _ _) mixed ?_
          | refine TJ.cond rfl ?_
          | refine TJ.block ?_
          | refine TJ.loop ?_
          | refine LJ.step ?_
          | refine TJ.ret ?_
          | refine TJ.exit ?_
          | refine TJ.skip ?_
          | refine TJ.scope ?_
          | refine TJ.label ?_
          | refine Br.cond_t ?_
          | refine Br.cond_f ?_
          | refine Br.yes (by first | decide | assumption | (apply decide_eq_true; omega)) ?_
          | refine Br.non (by first | decide | assumption | (apply decide_eq_false; omega)) ?_
          | refine Br.cond_ff ?_
          | refine Br.eqT (by omega) ?_
          | refine Br.eqF (by omega) ?_
          | refine Br.neT (by omega) ?_
          | refine Br.neF (by omega) ?_
          | refine Ld.mk' _ rfl ?_
          | refine Need.mk (by first | decide | omega | kernel_rfl) ?_
          | refine Nm.i64 (by omega) ?_
          | refine Nm.u64 (by omega) ?_
          | refine Nm.u8 (by omega) ?_)
      | refine x_exq (TTok _ _) ?_)
  all_goals (conv => whnf)
  all_goals (simp only [val, hd])
  all_goals rfl
theorem right4_no (d : ByteArray) (hd : d.size ≠ 4) (w : World) : Ret Tryz.prog 32 [.int .i64 1, .string d] w (.bool false) := by
  have hf : (((d.size : Int)) == 4) = false := by simpa using (by omega : ¬ (d.size : Int) = 4)
  by_cases hz : 2000 < d.size
  all_goals refine Ret.tj (I := fun _ => True) (fun _ _ => trivial) (TTok 0 _) Tryz.func32 (by kernel_rfl) rfl ?_
  all_goals repeat' (
    (conv => whnf)
    first
      | (with_reducible first
          | refine TJ.seq ?_
          | refine TJ.region (TTok _ _) ?_
          | refine TJ.drawn (TTok _ _) mixed ?_
          | refine TJ.cond rfl ?_
          | refine TJ.block ?_
          | refine TJ.loop ?_
          | refine LJ.step ?_
          | refine TJ.ret ?_
          | refine TJ.exit ?_
          | refine TJ.skip ?_
          | refine TJ.scope ?_
          | refine TJ.label ?_
          | refine Br.cond_t ?_
          | refine Br.cond_f ?_
          | refine Br.yes (by first | decide | assumption | (apply decide_eq_true; omega)) ?_
          | refine Br.non (by first | decide | assumption | (apply decide_eq_false; omega)) ?_
          | refine Br.cond_ff ?_
          | refine Br.eqT (by omega) ?_
          | refine Br.eqF (by omega) ?_
          | refine Br.neT (by omega) ?_
          | refine Br.neF (by omega) ?_
          | refine Ld.mk' _ rfl ?_
          | refine Need.mk (by first | decide | omega | kernel_rfl) ?_
          | refine Nm.i64 (by omega) ?_
          | refine Nm.u64 (by omega) ?_
          | refine Nm.u8 (by omega) ?_)
      | refine x_exq (TTok _ _) ?_)
  all_goals (conv => whnf)
  all_goals (simp only [val, hf])
theorem told4_yes (d : ByteArray) (hd : d.size = 4) (w : World) (hI : I13 w) : Ret Tryz.prog 17 [.int .i64 1, .string d] w (.tuple #[.string (a4 d), .int .i64 0]) := by
  refine Ret.tj (I := I13) (fun w' hm => hI.mod hm) (TTok 0 _) Tryz.func17 (by kernel_rfl) rfl ?_
  repeat' (
    (conv => whnf)
    first
      | (with_reducible first
          | refine TJ.seq ?_
          | refine TJ.region (TTok _ _) ?_
          | refine TJ.drawn (TTok _ _) mixed ?_
          | refine TJ.cond rfl ?_
          | refine TJ.block ?_
          | refine TJ.loop ?_
          | refine LJ.step ?_
          | refine TJ.ret ?_
          | refine TJ.exit ?_
          | refine TJ.skip ?_
          | refine TJ.scope ?_
          | refine TJ.label ?_
          | refine Br.cond_t ?_
          | refine Br.cond_f ?_
          | refine Br.yes (by first | decide | assumption | (apply decide_eq_true; omega)) ?_
          | refine Br.non (by first | decide | assumption | (apply decide_eq_false; omega)) ?_
          | refine Br.cond_ff ?_
          | refine Br.eqT (by omega) ?_
          | refine Br.eqF (by omega) ?_
          | refine Br.neT (by omega) ?_
          | refine Br.neF (by omega) ?_
          | refine Ld.mk' _ rfl ?_
          | refine Need.mk (by first | decide | omega | kernel_rfl) ?_
          | refine Nm.i64 (by omega) ?_
          | refine Nm.u64 (by omega) ?_
          | refine Nm.u8 (by omega) ?_
          | refine x_ret (f := 32) rfl rfl (fun w _ => right4_yes d hd w) ?_
          | refine x_ret (f := 33) rfl rfl (fun w hw => addr4_ret d hd w hw) ?_)
      | refine x_exq (TTok _ _) ?_)
  all_goals (conv => whnf)
  all_goals rfl
theorem told4_no (d : ByteArray) (hd : d.size ≠ 4) (w : World) : Ret Tryz.prog 17 [.int .i64 1, .string d] w (.tuple #[.string ⟨#[]⟩, .int .i64 6]) := by
  refine Ret.tj (I := fun _ => True) (fun _ _ => trivial) (TTok 0 _) Tryz.func17 (by kernel_rfl) rfl ?_
  repeat' (
    (conv => whnf)
    first
      | (with_reducible first
          | refine TJ.seq ?_
          | refine TJ.region (TTok _ _) ?_
          | refine TJ.drawn (TTok _ _) mixed ?_
          | refine TJ.cond rfl ?_
          | refine TJ.block ?_
          | refine TJ.loop ?_
          | refine LJ.step ?_
          | refine TJ.ret ?_
          | refine TJ.exit ?_
          | refine TJ.skip ?_
          | refine TJ.scope ?_
          | refine TJ.label ?_
          | refine Br.cond_t ?_
          | refine Br.cond_f ?_
          | refine Br.yes (by first | decide | assumption | (apply decide_eq_true; omega)) ?_
          | refine Br.non (by first | decide | assumption | (apply decide_eq_false; omega)) ?_
          | refine Br.cond_ff ?_
          | refine Br.eqT (by omega) ?_
          | refine Br.eqF (by omega) ?_
          | refine Br.neT (by omega) ?_
          | refine Br.neF (by omega) ?_
          | refine Ld.mk' _ rfl ?_
          | refine Need.mk (by first | decide | omega | kernel_rfl) ?_
          | refine Nm.i64 (by omega) ?_
          | refine Nm.u64 (by omega) ?_
          | refine Nm.u8 (by omega) ?_
          | refine x_ret (f := 32) rfl rfl (fun w _ => right4_no d hd w) ?_)
      | refine x_exq (TTok _ _) ?_)
  all_goals (conv => whnf)
  all_goals rfl
theorem guess4_ret (s : ByteArray) (hs : s.size ≤ 2000000) (w : World) : Ret Tryz.prog 40 [.int .i64 1, .string s] w (.string (strOfNums (d4 s))) := by
  have hrow := fun w => split_ret s (by omega) 32 (spS 32 s) (spS_ok 32 s) w
  generalize spS 32 s = ps at hrow
  refine Ret.tj (I := fun _ => True) (fun _ _ => trivial) (TTok 0 _) Tryz.func40 (by kernel_rfl) rfl ?_
  repeat' (
    (conv => whnf)
    first
      | (with_reducible first
          | refine TJ.seq ?_
          | refine TJ.region (TTok _ _) ?_
          | refine TJ.drawn (TTok _ _) mixed ?_
          | refine TJ.cond rfl ?_
          | refine TJ.block ?_
          | refine TJ.loop ?_
          | refine LJ.step ?_
          | refine TJ.ret ?_
          | refine TJ.exit ?_
          | refine TJ.skip ?_
          | refine TJ.scope ?_
          | refine TJ.label ?_
          | refine Br.cond_t ?_
          | refine Br.cond_f ?_
          | refine Br.yes (by first | decide | assumption | (apply decide_eq_true; omega)) ?_
          | refine Br.non (by first | decide | assumption | (apply decide_eq_false; omega)) ?_
          | refine Br.cond_ff ?_
          | refine Br.eqT (by omega) ?_
          | refine Br.eqF (by omega) ?_
          | refine Br.neT (by omega) ?_
          | refine Br.neF (by omega) ?_
          | refine Ld.mk' _ rfl ?_
          | refine Need.mk (by first | decide | omega | kernel_rfl) ?_
          | refine Nm.i64 (by omega) ?_
          | refine Nm.u64 (by omega) ?_
          | refine Nm.u8 (by omega) ?_
          | refine x_ret (f := 75) rfl rfl (fun w _ => numbers4_ret s hs w) ?_)
      | refine x_row (f := 74) (d := 0) rfl rfl (fun w _ => hrow w) rfl ?_
      | refine x_exq (TTok _ _) ?_)
  all_goals (conv => whnf)
  all_goals rfl
theorem read4_yes (s : ByteArray) (hs : s.size ≤ 2000000) (hd : (strOfNums (d4 s)).size = 4) (ha : a4 (strOfNums (d4 s)) = s) (w : World) (hI : I13 w) : Ret Tryz.prog 22 [.int .i64 1, .string s] w (.tuple #[.string (strOfNums (d4 s)), .int .i64 0]) := by
  have g := fun w => guess4_ret s hs w
  have t := fun w (hw : I13 w) => told4_yes (strOfNums (d4 s)) hd w hw
  rw [ha] at t
  generalize strOfNums (d4 s) = d at g t hd ha
  refine Ret.tj (I := I13) (fun w' hm => hI.mod hm) (TTok 0 _) Tryz.func22 (by kernel_rfl) rfl ?_
  repeat' (
    (conv => whnf)
    first
      | (with_reducible first
          | refine TJ.seq ?_
          | refine TJ.region (TTok _ _) ?_
          | refine TJ.drawn (TTok _ _) mixed ?_
          | refine TJ.cond rfl ?_
          | refine TJ.block ?_
          | refine TJ.loop ?_
          | refine LJ.step ?_
          | refine TJ.ret ?_
          | refine TJ.exit ?_
          | refine TJ.skip ?_
          | refine TJ.scope ?_
          | refine TJ.label ?_
          | refine Br.cond_t ?_
          | refine Br.cond_f ?_
          | refine Br.yes (by first | decide | assumption | (apply decide_eq_true; omega)) ?_
          | refine Br.non (by first | decide | assumption | (apply decide_eq_false; omega)) ?_
          | refine Br.cond_ff ?_
          | refine Br.eqT (by omega) ?_
          | refine Br.eqF (by omega) ?_
          | refine Br.neT (by omega) ?_
          | refine Br.neF (by omega) ?_
          | refine Ld.mk' _ rfl ?_
          | refine Need.mk (by first | decide | omega | kernel_rfl) ?_
          | refine Nm.i64 (by omega) ?_
          | refine Nm.u64 (by omega) ?_
          | refine Nm.u8 (by omega) ?_
          | refine x_ret (f := 40) rfl rfl (fun w _ => g w) ?_
          | refine x_ret (f := 17) rfl rfl (fun w hw => t w hw) ?_
          | refine Br.non (by simp) ?_)
      | refine Br.non (by simp [eqR]) ?_
      | (refine x_exq (TTok _ _) ?_; (conv => whnf); fail_if_success (guard_target =ₛ False)))
  all_goals (conv => whnf)
  all_goals rfl
theorem read4_no1 (s : ByteArray) (hs : s.size ≤ 2000000) (hd : (strOfNums (d4 s)).size = 4) (ha : ¬ a4 (strOfNums (d4 s)) = s) (w : World) (hI : I13 w) : Ret Tryz.prog 22 [.int .i64 1, .string s] w (.tuple #[.string ⟨#[]⟩, .int .i64 7]) := by
  have g := fun w => guess4_ret s hs w
  have t := fun w (hw : I13 w) => told4_yes (strOfNums (d4 s)) hd w hw
  generalize a4 (strOfNums (d4 s)) = u at t ha
  generalize strOfNums (d4 s) = d at g t hd
  refine Ret.tj (I := I13) (fun w' hm => hI.mod hm) (TTok 0 _) Tryz.func22 (by kernel_rfl) rfl ?_
  repeat' (
    (conv => whnf)
    first
      | (with_reducible first
          | refine TJ.seq ?_
          | refine TJ.region (TTok _ _) ?_
          | refine TJ.drawn (TTok _ _) mixed ?_
          | refine TJ.cond rfl ?_
          | refine TJ.block ?_
          | refine TJ.loop ?_
          | refine LJ.step ?_
          | refine TJ.ret ?_
          | refine TJ.exit ?_
          | refine TJ.skip ?_
          | refine TJ.scope ?_
          | refine TJ.label ?_
          | refine Br.cond_t ?_
          | refine Br.cond_f ?_
          | refine Br.yes (by first | decide | assumption | (apply decide_eq_true; omega)) ?_
          | refine Br.non (by first | decide | assumption | (apply decide_eq_false; omega)) ?_
          | refine Br.cond_ff ?_
          | refine Br.eqT (by omega) ?_
          | refine Br.eqF (by omega) ?_
          | refine Br.neT (by omega) ?_
          | refine Br.neF (by omega) ?_
          | refine Ld.mk' _ rfl ?_
          | refine Need.mk (by first | decide | omega | kernel_rfl) ?_
          | refine Nm.i64 (by omega) ?_
          | refine Nm.u64 (by omega) ?_
          | refine Nm.u8 (by omega) ?_
          | refine x_ret (f := 40) rfl rfl (fun w _ => g w) ?_
          | refine x_ret (f := 17) rfl rfl (fun w hw => t w hw) ?_
          | refine Br.yes (by simpa using ha) ?_)
      | refine Br.yes (by simpa [eqR] using ha) ?_
      | (refine x_exq (TTok _ _) ?_; (conv => whnf); fail_if_success (guard_target =ₛ False)))
  all_goals (conv => whnf)
  all_goals rfl
theorem read4_no2 (s : ByteArray) (hs : s.size ≤ 2000000) (hd : ¬ (strOfNums (d4 s)).size = 4) (w : World) : Ret Tryz.prog 22 [.int .i64 1, .string s] w (.tuple #[.string ⟨#[]⟩, .int .i64 7]) := by
  have g := fun w => guess4_ret s hs w
  have t := fun w => told4_no (strOfNums (d4 s)) hd w
  generalize strOfNums (d4 s) = d at g t hd
  refine Ret.tj (I := fun _ => True) (fun _ _ => trivial) (TTok 0 _) Tryz.func22 (by kernel_rfl) rfl ?_
  repeat' (
    (conv => whnf)
    first
      | (with_reducible first
          | refine TJ.seq ?_
          | refine TJ.region (TTok _ _) ?_
          | refine TJ.drawn (TTok _ _) mixed ?_
          | refine TJ.cond rfl ?_
          | refine TJ.block ?_
          | refine TJ.loop ?_
          | refine LJ.step ?_
          | refine TJ.ret ?_
          | refine TJ.exit ?_
          | refine TJ.skip ?_
          | refine TJ.scope ?_
          | refine TJ.label ?_
          | refine Br.cond_t ?_
          | refine Br.cond_f ?_
          | refine Br.yes (by first | decide | assumption | (apply decide_eq_true; omega)) ?_
          | refine Br.non (by first | decide | assumption | (apply decide_eq_false; omega)) ?_
          | refine Br.cond_ff ?_
          | refine Br.eqT (by omega) ?_
          | refine Br.eqF (by omega) ?_
          | refine Br.neT (by omega) ?_
          | refine Br.neF (by omega) ?_
          | refine Ld.mk' _ rfl ?_
          | refine Need.mk (by first | decide | omega | kernel_rfl) ?_
          | refine Nm.i64 (by omega) ?_
          | refine Nm.u64 (by omega) ?_
          | refine Nm.u8 (by omega) ?_
          | refine x_ret (f := 40) rfl rfl (fun w _ => g w) ?_
          | refine x_ret (f := 17) rfl rfl (fun w hw => t w) ?_)
      | refine x_exq (TTok _ _) ?_)
  all_goals (conv => whnf)
  all_goals rfl
theorem right6_yes (d : ByteArray) (hd : d.size = 16) (w : World) : Ret Tryz.prog 32 [.int .i64 28, .string d] w (.bool true) := by
  refine Ret.tj (I := fun _ => True) (fun _ _ => trivial) (TTok 0 _) Tryz.func32 (by kernel_rfl) rfl ?_
  repeat' (
    (conv => whnf)
    first
      | (with_reducible first
          | refine TJ.seq ?_
          | refine TJ.region (TTok _ _) ?_
          | refine TJ.drawn (TTok _ _) mixed ?_
          | refine TJ.cond rfl ?_
          | refine TJ.block ?_
          | refine TJ.loop ?_
          | refine LJ.step ?_
          | refine TJ.ret ?_
          | refine TJ.exit ?_
          | refine TJ.skip ?_
          | refine TJ.scope ?_
          | refine TJ.label ?_
          | refine Br.cond_t ?_
          | refine Br.cond_f ?_
          | refine Br.yes (by first | decide | assumption | (apply decide_eq_true; omega)) ?_
          | refine Br.non (by first | decide | assumption | (apply decide_eq_false; omega)) ?_
          | refine Br.cond_ff ?_
          | refine Br.eqT (by omega) ?_
          | refine Br.eqF (by omega) ?_
          | refine Br.neT (by omega) ?_
          | refine Br.neF (by omega) ?_
          | refine Ld.mk' _ rfl ?_
          | refine Need.mk (by first | decide | omega | kernel_rfl) ?_
          | refine Nm.i64 (by omega) ?_
          | refine Nm.u64 (by omega) ?_
          | refine Nm.u8 (by omega) ?_)
      | refine x_exq (TTok _ _) ?_)
  all_goals (conv => whnf)
  all_goals (simp only [val, hd])
  all_goals rfl
theorem right6_no (d : ByteArray) (hd : d.size ≠ 16) (w : World) : Ret Tryz.prog 32 [.int .i64 28, .string d] w (.bool false) := by
  have hf : (((d.size : Int)) == 16) = false := by simpa using (by omega : ¬ (d.size : Int) = 16)
  by_cases hz : 2000 < d.size
  all_goals refine Ret.tj (I := fun _ => True) (fun _ _ => trivial) (TTok 0 _) Tryz.func32 (by kernel_rfl) rfl ?_
  all_goals repeat' (
    (conv => whnf)
    first
      | (with_reducible first
          | refine TJ.seq ?_
          | refine TJ.region (TTok _ _) ?_
          | refine TJ.drawn (TTok _ _) mixed ?_
          | refine TJ.cond rfl ?_
          | refine TJ.block ?_
          | refine TJ.loop ?_
          | refine LJ.step ?_
          | refine TJ.ret ?_
          | refine TJ.exit ?_
          | refine TJ.skip ?_
          | refine TJ.scope ?_
          | refine TJ.label ?_
          | refine Br.cond_t ?_
          | refine Br.cond_f ?_
          | refine Br.yes (by first | decide | assumption | (apply decide_eq_true; omega)) ?_
          | refine Br.non (by first | decide | assumption | (apply decide_eq_false; omega)) ?_
          | refine Br.cond_ff ?_
          | refine Br.eqT (by omega) ?_
          | refine Br.eqF (by omega) ?_
          | refine Br.neT (by omega) ?_
          | refine Br.neF (by omega) ?_
          | refine Ld.mk' _ rfl ?_
          | refine Need.mk (by first | decide | omega | kernel_rfl) ?_
          | refine Nm.i64 (by omega) ?_
          | refine Nm.u64 (by omega) ?_
          | refine Nm.u8 (by omega) ?_)
      | refine x_exq (TTok _ _) ?_)
  all_goals (conv => whnf)
  all_goals (simp only [val, hf])
theorem told6_yes (d : ByteArray) (hd : d.size = 16) (w : World)  : Ret Tryz.prog 17 [.int .i64 28, .string d] w (.tuple #[.string (a6 d), .int .i64 0]) := by
  refine Ret.tj (I := fun _ => True) (fun _ _ => trivial) (TTok 0 _) Tryz.func17 (by kernel_rfl) rfl ?_
  repeat' (
    (conv => whnf)
    first
      | (with_reducible first
          | refine TJ.seq ?_
          | refine TJ.region (TTok _ _) ?_
          | refine TJ.drawn (TTok _ _) mixed ?_
          | refine TJ.cond rfl ?_
          | refine TJ.block ?_
          | refine TJ.loop ?_
          | refine LJ.step ?_
          | refine TJ.ret ?_
          | refine TJ.exit ?_
          | refine TJ.skip ?_
          | refine TJ.scope ?_
          | refine TJ.label ?_
          | refine Br.cond_t ?_
          | refine Br.cond_f ?_
          | refine Br.yes (by first | decide | assumption | (apply decide_eq_true; omega)) ?_
          | refine Br.non (by first | decide | assumption | (apply decide_eq_false; omega)) ?_
          | refine Br.cond_ff ?_
          | refine Br.eqT (by omega) ?_
          | refine Br.eqF (by omega) ?_
          | refine Br.neT (by omega) ?_
          | refine Br.neF (by omega) ?_
          | refine Ld.mk' _ rfl ?_
          | refine Need.mk (by first | decide | omega | kernel_rfl) ?_
          | refine Nm.i64 (by omega) ?_
          | refine Nm.u64 (by omega) ?_
          | refine Nm.u8 (by omega) ?_
          | refine x_ret (f := 32) rfl rfl (fun w _ => right6_yes d hd w) ?_
          | refine x_ret (f := 33) rfl rfl (fun w _ => addr6_ret d hd w) ?_)
      | refine x_exq (TTok _ _) ?_)
  all_goals (conv => whnf)
  all_goals rfl
theorem told6_no (d : ByteArray) (hd : d.size ≠ 16) (w : World) : Ret Tryz.prog 17 [.int .i64 28, .string d] w (.tuple #[.string ⟨#[]⟩, .int .i64 6]) := by
  refine Ret.tj (I := fun _ => True) (fun _ _ => trivial) (TTok 0 _) Tryz.func17 (by kernel_rfl) rfl ?_
  repeat' (
    (conv => whnf)
    first
      | (with_reducible first
          | refine TJ.seq ?_
          | refine TJ.region (TTok _ _) ?_
          | refine TJ.drawn (TTok _ _) mixed ?_
          | refine TJ.cond rfl ?_
          | refine TJ.block ?_
          | refine TJ.loop ?_
          | refine LJ.step ?_
          | refine TJ.ret ?_
          | refine TJ.exit ?_
          | refine TJ.skip ?_
          | refine TJ.scope ?_
          | refine TJ.label ?_
          | refine Br.cond_t ?_
          | refine Br.cond_f ?_
          | refine Br.yes (by first | decide | assumption | (apply decide_eq_true; omega)) ?_
          | refine Br.non (by first | decide | assumption | (apply decide_eq_false; omega)) ?_
          | refine Br.cond_ff ?_
          | refine Br.eqT (by omega) ?_
          | refine Br.eqF (by omega) ?_
          | refine Br.neT (by omega) ?_
          | refine Br.neF (by omega) ?_
          | refine Ld.mk' _ rfl ?_
          | refine Need.mk (by first | decide | omega | kernel_rfl) ?_
          | refine Nm.i64 (by omega) ?_
          | refine Nm.u64 (by omega) ?_
          | refine Nm.u8 (by omega) ?_
          | refine x_ret (f := 32) rfl rfl (fun w _ => right6_no d hd w) ?_)
      | refine x_exq (TTok _ _) ?_)
  all_goals (conv => whnf)
  all_goals rfl
theorem guess6_ret (s : ByteArray) (hs : s.size ≤ 2000000) (w : World) : Ret Tryz.prog 40 [.int .i64 28, .string s] w (.string (strOfNums (d6 s))) := by
  have hrow := fun w => split_ret s (by omega) 32 (spS 32 s) (spS_ok 32 s) w
  generalize spS 32 s = ps at hrow
  refine Ret.tj (I := fun _ => True) (fun _ _ => trivial) (TTok 0 _) Tryz.func40 (by kernel_rfl) rfl ?_
  repeat' (
    (conv => whnf)
    first
      | (with_reducible first
          | refine TJ.seq ?_
          | refine TJ.region (TTok _ _) ?_
          | refine TJ.drawn (TTok _ _) mixed ?_
          | refine TJ.cond rfl ?_
          | refine TJ.block ?_
          | refine TJ.loop ?_
          | refine LJ.step ?_
          | refine TJ.ret ?_
          | refine TJ.exit ?_
          | refine TJ.skip ?_
          | refine TJ.scope ?_
          | refine TJ.label ?_
          | refine Br.cond_t ?_
          | refine Br.cond_f ?_
          | refine Br.yes (by first | decide | assumption | (apply decide_eq_true; omega)) ?_
          | refine Br.non (by first | decide | assumption | (apply decide_eq_false; omega)) ?_
          | refine Br.cond_ff ?_
          | refine Br.eqT (by omega) ?_
          | refine Br.eqF (by omega) ?_
          | refine Br.neT (by omega) ?_
          | refine Br.neF (by omega) ?_
          | refine Ld.mk' _ rfl ?_
          | refine Need.mk (by first | decide | omega | kernel_rfl) ?_
          | refine Nm.i64 (by omega) ?_
          | refine Nm.u64 (by omega) ?_
          | refine Nm.u8 (by omega) ?_
          | refine x_ret (f := 75) rfl rfl (fun w _ => numbers6_ret s hs w) ?_)
      | refine x_row (f := 74) (d := 0) rfl rfl (fun w _ => hrow w) rfl ?_
      | refine x_exq (TTok _ _) ?_)
  all_goals (conv => whnf)
  all_goals rfl
theorem read6_yes (s : ByteArray) (hs : s.size ≤ 2000000) (hd : (strOfNums (d6 s)).size = 16) (ha : a6 (strOfNums (d6 s)) = s) (w : World)  : Ret Tryz.prog 22 [.int .i64 28, .string s] w (.tuple #[.string (strOfNums (d6 s)), .int .i64 0]) := by
  have g := fun w => guess6_ret s hs w
  have t := fun w  => told6_yes (strOfNums (d6 s)) hd w
  rw [ha] at t
  generalize strOfNums (d6 s) = d at g t hd ha
  refine Ret.tj (I := fun _ => True) (fun _ _ => trivial) (TTok 0 _) Tryz.func22 (by kernel_rfl) rfl ?_
  repeat' (
    (conv => whnf)
    first
      | (with_reducible first
          | refine TJ.seq ?_
          | refine TJ.region (TTok _ _) ?_
          | refine TJ.drawn (TTok _ _) mixed ?_
          | refine TJ.cond rfl ?_
          | refine TJ.block ?_
          | refine TJ.loop ?_
          | refine LJ.step ?_
          | refine TJ.ret ?_
          | refine TJ.exit ?_
          | refine TJ.skip ?_
          | refine TJ.scope ?_
          | refine TJ.label ?_
          | refine Br.cond_t ?_
          | refine Br.cond_f ?_
          | refine Br.yes (by first | decide | assumption | (apply decide_eq_true; omega)) ?_
          | refine Br.non (by first | decide | assumption | (apply decide_eq_false; omega)) ?_
          | refine Br.cond_ff ?_
          | refine Br.eqT (by omega) ?_
          | refine Br.eqF (by omega) ?_
          | refine Br.neT (by omega) ?_
          | refine Br.neF (by omega) ?_
          | refine Ld.mk' _ rfl ?_
          | refine Need.mk (by first | decide | omega | kernel_rfl) ?_
          | refine Nm.i64 (by omega) ?_
          | refine Nm.u64 (by omega) ?_
          | refine Nm.u8 (by omega) ?_
          | refine x_ret (f := 40) rfl rfl (fun w _ => g w) ?_
          | refine x_ret (f := 17) rfl rfl (fun w hw => t w) ?_
          | refine Br.non (by simp) ?_)
      | refine Br.non (by simp [eqR]) ?_
      | (refine x_exq (TTok _ _) ?_; (conv => whnf); fail_if_success (guard_target =ₛ False)))
  all_goals (conv => whnf)
  all_goals rfl
theorem read6_no1 (s : ByteArray) (hs : s.size ≤ 2000000) (hd : (strOfNums (d6 s)).size = 16) (ha : ¬ a6 (strOfNums (d6 s)) = s) (w : World)  : Ret Tryz.prog 22 [.int .i64 28, .string s] w (.tuple #[.string ⟨#[]⟩, .int .i64 7]) := by
  have g := fun w => guess6_ret s hs w
  have t := fun w  => told6_yes (strOfNums (d6 s)) hd w
  generalize a6 (strOfNums (d6 s)) = u at t ha
  generalize strOfNums (d6 s) = d at g t hd
  refine Ret.tj (I := fun _ => True) (fun _ _ => trivial) (TTok 0 _) Tryz.func22 (by kernel_rfl) rfl ?_
  repeat' (
    (conv => whnf)
    first
      | (with_reducible first
          | refine TJ.seq ?_
          | refine TJ.region (TTok _ _) ?_
          | refine TJ.drawn (TTok _ _) mixed ?_
          | refine TJ.cond rfl ?_
          | refine TJ.block ?_
          | refine TJ.loop ?_
          | refine LJ.step ?_
          | refine TJ.ret ?_
          | refine TJ.exit ?_
          | refine TJ.skip ?_
          | refine TJ.scope ?_
          | refine TJ.label ?_
          | refine Br.cond_t ?_
          | refine Br.cond_f ?_
          | refine Br.yes (by first | decide | assumption | (apply decide_eq_true; omega)) ?_
          | refine Br.non (by first | decide | assumption | (apply decide_eq_false; omega)) ?_
          | refine Br.cond_ff ?_
          | refine Br.eqT (by omega) ?_
          | refine Br.eqF (by omega) ?_
          | refine Br.neT (by omega) ?_
          | refine Br.neF (by omega) ?_
          | refine Ld.mk' _ rfl ?_
          | refine Need.mk (by first | decide | omega | kernel_rfl) ?_
          | refine Nm.i64 (by omega) ?_
          | refine Nm.u64 (by omega) ?_
          | refine Nm.u8 (by omega) ?_
          | refine x_ret (f := 40) rfl rfl (fun w _ => g w) ?_
          | refine x_ret (f := 17) rfl rfl (fun w hw => t w) ?_
          | refine Br.yes (by simpa using ha) ?_)
      | refine Br.yes (by simpa [eqR] using ha) ?_
      | (refine x_exq (TTok _ _) ?_; (conv => whnf); fail_if_success (guard_target =ₛ False)))
  all_goals (conv => whnf)
  all_goals rfl
theorem read6_no2 (s : ByteArray) (hs : s.size ≤ 2000000) (hd : ¬ (strOfNums (d6 s)).size = 16) (w : World) : Ret Tryz.prog 22 [.int .i64 28, .string s] w (.tuple #[.string ⟨#[]⟩, .int .i64 7]) := by
  have g := fun w => guess6_ret s hs w
  have t := fun w => told6_no (strOfNums (d6 s)) hd w
  generalize strOfNums (d6 s) = d at g t hd
  refine Ret.tj (I := fun _ => True) (fun _ _ => trivial) (TTok 0 _) Tryz.func22 (by kernel_rfl) rfl ?_
  repeat' (
    (conv => whnf)
    first
      | (with_reducible first
          | refine TJ.seq ?_
          | refine TJ.region (TTok _ _) ?_
          | refine TJ.drawn (TTok _ _) mixed ?_
          | refine TJ.cond rfl ?_
          | refine TJ.block ?_
          | refine TJ.loop ?_
          | refine LJ.step ?_
          | refine TJ.ret ?_
          | refine TJ.exit ?_
          | refine TJ.skip ?_
          | refine TJ.scope ?_
          | refine TJ.label ?_
          | refine Br.cond_t ?_
          | refine Br.cond_f ?_
          | refine Br.yes (by first | decide | assumption | (apply decide_eq_true; omega)) ?_
          | refine Br.non (by first | decide | assumption | (apply decide_eq_false; omega)) ?_
          | refine Br.cond_ff ?_
          | refine Br.eqT (by omega) ?_
          | refine Br.eqF (by omega) ?_
          | refine Br.neT (by omega) ?_
          | refine Br.neF (by omega) ?_
          | refine Ld.mk' _ rfl ?_
          | refine Need.mk (by first | decide | omega | kernel_rfl) ?_
          | refine Nm.i64 (by omega) ?_
          | refine Nm.u64 (by omega) ?_
          | refine Nm.u8 (by omega) ?_
          | refine x_ret (f := 40) rfl rfl (fun w _ => g w) ?_
          | refine x_ret (f := 17) rfl rfl (fun w hw => t w) ?_)
      | refine x_exq (TTok _ _) ?_)
  all_goals (conv => whnf)
  all_goals rfl
/-! ### ref13.Of -/
theorem foldl_take {α β : Type} (f : β → α → β) (z : β) (l : List α) (k : Nat) (x : α) (h : l[k]? = some x) : (l.take (k + 1)).foldl f z = f ((l.take k).foldl f z) x := by
  rw [List.take_add_one, h]
  simp
set_option maxHeartbeats 4000000 in
theorem of_ret (d : ByteArray) (hd : d.size < 4294967281) (w : World) : Ret Tryz.prog 23 [.string d] w (.agg #[.bool ((d.size : Int) == 16), .int .u64 (candU false (sInts d)).1, .int .u64 (candU false (sInts d)).2]) := by
  refine Ret.of (I := fun _ => True) (fun _ _ => trivial) (TTok 0 _) Tryz.func23 (by kernel_rfl) rfl rfl ?_
  repeat' (
    (conv => whnf)
    first
      | (with_reducible first
          | refine TR.seq ?_
          | refine TR.region (TTok _ _) ?_
          | refine TR.drawn (TTok _ _) mixed ?_
          | refine TR.block ?_
          | refine TR.ret ?_
          | refine TR.exit ?_
          | refine TR.skip ?_
          | refine TR.condB rfl ?_
          | refine Br.cond_t ?_
          | refine Br.cond_f ?_
          | refine Br.yes (by first | decide | assumption | (apply decide_eq_true; omega)) ?_
          | refine Br.non (by first | decide | assumption | (apply decide_eq_false; omega)) ?_
          | refine Br.cond_ff ?_
          | refine Br.eqT (by omega) ?_
          | refine Br.eqF (by omega) ?_
          | refine Br.neT (by omega) ?_
          | refine Br.neF (by omega) ?_
          | refine Ld.mk' _ rfl ?_
          | refine Need.mk (by first | decide | omega | kernel_rfl) ?_
          | refine Nm.i64 (by omega) ?_
          | refine Nm.u64 (by omega) ?_
          | refine Nm.u8 (by omega) ?_)
      | (refine x_exq (TTok _ _) ?_; (conv => whnf); fail_if_success (guard_target =ₛ False)))
  refine TR.loopH (fun x : Int × Int × Int => [(4, .v (.int .i64 x.1))]) (fun x => [(3, ⟨.own, 24, 3, 0, [.v (.bool false), .v (.int .u64 x.2.1), .v (.int .u64 x.2.2)]⟩)]) (fun x => 0 ≤ x.1 ∧ x.1 ≤ d.size ∧ (0 ≤ x.2.1 ∧ x.2.1 ≤ 18446744073709551615) ∧ (0 ≤ x.2.2 ∧ x.2.2 ≤ 18446744073709551615) ∧ x.2 = candU false ((sInts d).take x.1.toNat)) (fun x => (d.size - x.1).toNat) (0, 0, 0) ⟨by dsimp only; omega, by dsimp only; omega, by decide, by decide, rfl⟩ ?_ ?_
  · repeat' ((conv => whnf); first | exact trivial | exact Fgt.nil | exact Fgt.mk rfl rfl rfl | refine And.intro rfl ?_ | refine And.intro ?_ ?_)
  · rintro ⟨q, h, l⟩ ⟨q0, q1, hr, lr, hV⟩
    dsimp only at q0 q1 hr lr hV ⊢
    by_cases hq : q < d.size
    · have hg := sInts_get d q.toNat (by omega)
      rw [show ((q.toNat : Nat) : Int) = q by omega] at hg
      have hb := bAt_range d q
      have hf := foldl_take (stepU false) (0, 0) (sInts d) q.toNat _ hg
      repeat' (
        (conv => whnf)
        first
          | (with_reducible first
              | refine TR.seq ?_
              | refine TR.region (TTok _ _) ?_
              | refine TR.drawn (TTok _ _) mixed ?_
              | refine TR.block ?_
              | refine TR.ret ?_
              | refine TR.exit ?_
              | refine TR.skip ?_
              | refine TR.condB rfl ?_
              | refine Br.cond_t ?_
              | refine Br.cond_f ?_
              | refine Br.yes (by first | decide | assumption | (apply decide_eq_true; omega)) ?_
              | refine Br.non (by first | decide | assumption | (apply decide_eq_false; omega)) ?_
              | refine Br.cond_ff ?_
              | refine Br.eqT (by omega) ?_
              | refine Br.eqF (by omega) ?_
              | refine Br.neT (by omega) ?_
              | refine Br.neF (by omega) ?_
              | refine Nm.shlU ?_
              | refine Nm.orU ?_
              | refine Ld.mk' _ rfl ?_
              | refine Need.mk (by first | decide | omega | kernel_rfl) ?_
              | refine Nm.i64 (by omega) ?_
              | refine Nm.u64 (by omega) ?_
              | refine Nm.u8 (by omega) ?_
              | refine Sh.shrL ?_
              | refine Sh.shlL ?_
              | refine Nm.fd (by decide) ?_)
          | (refine x_exq (TTok _ _) ?_; (conv => whnf); fail_if_success (guard_target =ₛ False)))
      all_goals (conv => whnf)
      refine ⟨(q + 1, orU (shlU 256 h) (l / 72057594037927936), orU (shlU 256 l) (bAt d q)), ⟨by dsimp only; omega, by dsimp only; omega, orU_range _ _, orU_range _ _, ?_⟩, by dsimp only; omega, ?_⟩
      · dsimp only
        unfold candU
        rw [show (q + 1).toNat = q.toNat + 1 by omega, hf]
        unfold candU at hV
        rw [← hV]
        simp [stepU]
      repeat' ((conv => whnf); first | exact trivial | exact Fgt.nil | exact Fgt.mk rfl rfl rfl | refine And.intro rfl ?_ | refine And.intro ?_ ?_)
    · have hV2 : (h, l) = candU false (sInts d) := by rw [hV, List.take_of_length_le (by rw [sInts_length]; omega)]
      repeat' (
        (conv => whnf)
        first
          | (with_reducible first
              | refine TR.seq ?_
              | refine TR.region (TTok _ _) ?_
              | refine TR.drawn (TTok _ _) mixed ?_
              | refine TR.block ?_
              | refine TR.ret ?_
              | refine TR.exit ?_
              | refine TR.skip ?_
              | refine TR.condB rfl ?_
              | refine Br.cond_t ?_
              | refine Br.cond_f ?_
              | refine Br.yes (by first | decide | assumption | (apply decide_eq_true; omega)) ?_
              | refine Br.non (by first | decide | assumption | (apply decide_eq_false; omega)) ?_
              | refine Br.cond_ff ?_
              | refine Br.eqT (by omega) ?_
              | refine Br.eqF (by omega) ?_
              | refine Br.neT (by omega) ?_
              | refine Br.neF (by omega) ?_
              | refine Ld.mk' _ rfl ?_
              | refine Need.mk (by first | decide | omega | kernel_rfl) ?_
              | refine Nm.i64 (by omega) ?_
              | refine Nm.u64 (by omega) ?_
              | refine Nm.u8 (by omega) ?_)
          | (refine x_exq (TTok _ _) ?_; (conv => whnf); fail_if_success (guard_target =ₛ False)))
      all_goals (conv => whnf)
      all_goals (rw [← hV2])
      all_goals rfl
end Go.Proofs.YtopadpgpmkkpgaaGreatDoor
