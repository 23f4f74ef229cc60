/-
  AclBack: called with any address and any text, together of bulk at most 1048576, the law returns true, and its arguments read as they did; the listed variables hold what the program lays (the card ties them).
-/
import Derived.Test.YtopadpgpmkkpgaaDoorBacka
import Derived.Test.YtopadpgpmkkpgaaDoorRows
import Derived.Test.YtopadpgpmkkpgaaDoorSxb
set_option linter.unusedVariables false
set_option linter.unusedSimpArgs false
set_option linter.unnecessarySimpa false
set_option maxRecDepth 100000
namespace Go.Proofs.YtopadpgpmkkpgaaDoor
open Go.SX
def stepU (v6 : Bool) (a : Int × Int) (k : Int) : Int × Int := if v6 then (orU (shlU 65536 a.1) (a.2 / 281474976710656), orU (shlU 65536 a.2) k) else (orU (shlU 256 a.1) (a.2 / 72057594037927936), orU (shlU 256 a.2) k)
def candU (v6 : Bool) (ks : List Int) : Int × Int := ks.foldl (stepU v6) (0, 0)
def noV : Value := .tuple #[.agg #[.bool false, .int .u64 0, .int .u64 0], .int .i64 7]
def addrV (v6 : Bool) (hi lo : Int) : Value := .tuple #[.agg #[.bool v6, .int .u64 hi, .int .u64 lo], .int .i64 0]
/-- What is known of the world where a text is read. -/
structure IP (u2 : TypeId) (v2 : Value) (u3 : TypeId) (v3 : Value) (w : World) : Prop where
  t : I13 w
  e : IE u2 v2 u3 v3 w
  m : IM w
theorem IP.mod {u2 v2 u3 v3} {w w' : World} (h : IP u2 v2 u3 v3 w) (hm : Mod w w' fun _ => False) : IP u2 v2 u3 v3 w' := ⟨h.t.mod hm, h.e.mod hm, h.m.mod hm⟩
theorem orU_range (a b : Int) : 0 ≤ orU a b ∧ orU a b ≤ 18446744073709551615 := wrapu _
theorem gr6 (w : World) : Ret Tryd.prog 24 [.bool true] w (.tuple #[.int .i64 8, .int .i64 16, .int .i64 16, .string ⟨#[58]⟩]) := groups_ret true w
theorem gr4 (w : World) : Ret Tryd.prog 24 [.bool false] w (.tuple #[.int .i64 4, .int .i64 8, .int .i64 10, .string ⟨#[46]⟩]) := groups_ret false w
/-- Another number of parts. -/
theorem parse_many (s : ByteArray) (hs : s.size < 4294967281) {u2 v2 u3 v3} (w : World) (hI : IP u2 v2 u3 v3 w) (v6 : Bool) (hv : has58 s = v6) (hn : (parts v6 s).length ≠ many v6) : Ret Tryd.prog 14 [.string s] w noV := by
  have h27 : ∀ w, Ret Tryd.prog 27 [.string s, .string ⟨#[58]⟩] w (.bool v6) := fun w => hv ▸ has_ret s w
  obtain ⟨ps, hps⟩ : ∃ ps, parts v6 s = ps := ⟨_, rfl⟩
  rw [hps] at hn
  have h28 := fun w hw => split_row v6 s hs ps hps w hw
  generalize hl : ps.length = n at hn h28
  clear hv
  have hc : v6 = true ∨ v6 = false := by cases v6 <;> simp
  rcases hc with rfl | rfl
  all_goals simp only [many, if_true, Bool.false_eq_true, if_false] at hn
  all_goals refine Ret.tj (I := IP u2 v2 u3 v3) (fun w' hm => hI.mod hm) (TTok 0 _) Tryd.func14 (by kernel_rfl) rfl ?_
  all_goals repeat' (
    (conv => whnf)
    first
      | (with_reducible first
          | refine TJ.seq ?_
          | refine TJ.region (TTok _ _) ?_
          | refine TJ.drawn (TTok _ _) mixed ?_
          | refine TJ.cond rfl ?_
          | refine TJ.block ?_
          | refine TJ.loop ?_
          | refine LJ.step ?_
          | refine TJ.ret ?_
          | refine TJ.exit ?_
          | refine TJ.skip ?_
          | refine TJ.scope ?_
          | refine TJ.label ?_
          | refine Br.cond_t ?_
          | refine Br.cond_f ?_
          | refine Br.yes (by first | decide | assumption | (apply decide_eq_true; omega)) ?_
          | refine Br.non (by first | decide | assumption | (apply decide_eq_false; omega)) ?_
          | refine Br.cond_ff ?_
          | refine Br.eqT (by omega) ?_
          | refine Br.eqF (by omega) ?_
          | refine Br.neT (by omega) ?_
          | refine Br.neF (by omega) ?_
          | refine Ld.mk' _ rfl ?_
          | refine Need.mk (by first | decide | omega | kernel_rfl) ?_
          | refine Nm.i64 (by omega) ?_
          | refine Nm.u64 (by omega) ?_
          | refine Nm.u8 (by omega) ?_
          | refine x_ret (f := 27) rfl rfl (fun w _ => h27 w) ?_
          | refine x_ret (f := 24) rfl rfl (fun w _ => gr6 w) ?_
          | refine x_ret (f := 24) rfl rfl (fun w _ => gr4 w) ?_
          | refine x_row (f := 28) (d := 2) rfl rfl (fun w hw => h28 w hw.m) rfl ?_))
  all_goals (conv => whnf)
  all_goals rfl
set_option maxHeartbeats 8000000 in
theorem parse6_0 (s : ByteArray) {u2 v2 u3 v3} (w : World) (hI : IP u2 v2 u3 v3 w) (p0 p1 p2 p3 p4 p5 p6 p7 : ByteArray) (h27 : ∀ w, Ret Tryd.prog 27 [.string s, .string ⟨#[58]⟩] w (.bool true))
    (h28 : ∀ w, IM w → RetRow Tryd.prog 28 [.string s, .string (sepS true)] w 9 1 8 ([p0, p1, p2, p3, p4, p5, p6, p7].map Value.string))   (x : Int) (g0 : ∀ w, IE u2 v2 u3 v3 w → RetA Tryd.prog 29 [.string p0, .int .i64 16, .int .i64 16] w (.tup [.v (.int .u64 x), .ifc 105 .dead])) : Ret Tryd.prog 14 [.string s] w noV := by
  refine Ret.tj (I := IP u2 v2 u3 v3) (fun w' hm => hI.mod hm) (TTok 0 _) Tryd.func14 (by kernel_rfl) rfl ?_
  repeat' (
    (conv => whnf)
    first
      | (with_reducible first
          | refine TJ.seq ?_
          | refine TJ.region (TTok _ _) ?_
          | refine TJ.drawn (TTok _ _) mixed ?_
          | refine TJ.cond rfl ?_
          | refine TJ.block ?_
          | refine TJ.loop ?_
          | refine LJ.step ?_
          | refine TJ.ret ?_
          | refine TJ.exit ?_
          | refine TJ.skip ?_
          | refine TJ.scope ?_
          | refine TJ.label ?_
          | refine Br.cond_t ?_
          | refine Br.cond_f ?_
          | refine Br.yes (by first | decide | assumption | (apply decide_eq_true; omega)) ?_
          | refine Br.non (by first | decide | assumption | (apply decide_eq_false; omega)) ?_
          | refine Br.cond_ff ?_
          | refine Br.eqT (by omega) ?_
          | refine Br.eqF (by omega) ?_
          | refine Br.neT (by omega) ?_
          | refine Br.neF (by omega) ?_
          | refine Br.ndec (fun hc => ?_) (fun hc => ?_)
          | refine Nm.shlU ?_
          | refine Nm.orU ?_
          | refine Ld.mk' _ rfl ?_
          | refine Need.mk (by first | decide | omega | kernel_rfl) ?_
          | refine Nm.i64 (by omega) ?_
          | refine Nm.u64 (by omega) ?_
          | refine Nm.u8 (by omega) ?_
          | refine Sh.shrL ?_
          | refine Sh.shlL ?_
          | refine Nm.fd (by decide) ?_
          | refine x_ret (f := 27) rfl rfl (fun w _ => h27 w) ?_
          | refine x_ret (f := 24) rfl rfl (fun w _ => gr6 w) ?_
          | refine x_row (f := 28) (d := 2) rfl rfl (fun w hw => h28 w hw.m) rfl ?_
          | refine x_retA (f := 29) rfl rfl (fun w hw => g0 w hw.e) ?_
          | refine x_ne_ifc (TTok _ _) .neq (.inr rfl) rfl rfl rfl rfl ?_)
      | refine x_exq (TTok _ _) ?_)
  all_goals (conv => whnf)
  all_goals rfl
set_option maxHeartbeats 8000000 in
theorem parse6_1 (s : ByteArray) {u2 v2 u3 v3} (w : World) (hI : IP u2 v2 u3 v3 w) (p0 p1 p2 p3 p4 p5 p6 p7 : ByteArray) (h27 : ∀ w, Ret Tryd.prog 27 [.string s, .string ⟨#[58]⟩] w (.bool true))
    (h28 : ∀ w, IM w → RetRow Tryd.prog 28 [.string s, .string (sepS true)] w 9 1 8 ([p0, p1, p2, p3, p4, p5, p6, p7].map Value.string)) (k0 : Int) (g0 : ∀ w, Ret Tryd.prog 29 [.string p0, .int .i64 16, .int .i64 16] w (goodV k0)) (x : Int) (g1 : ∀ w, IE u2 v2 u3 v3 w → RetA Tryd.prog 29 [.string p1, .int .i64 16, .int .i64 16] w (.tup [.v (.int .u64 x), .ifc 105 .dead])) : Ret Tryd.prog 14 [.string s] w noV := by
  refine Ret.tj (I := IP u2 v2 u3 v3) (fun w' hm => hI.mod hm) (TTok 0 _) Tryd.func14 (by kernel_rfl) rfl ?_
  repeat' (
    (conv => whnf)
    first
      | (with_reducible first
          | refine TJ.seq ?_
          | refine TJ.region (TTok _ _) ?_
          | refine TJ.drawn (TTok _ _) mixed ?_
          | refine TJ.cond rfl ?_
          | refine TJ.block ?_
          | refine TJ.loop ?_
          | refine LJ.step ?_
          | refine TJ.ret ?_
          | refine TJ.exit ?_
          | refine TJ.skip ?_
          | refine TJ.scope ?_
          | refine TJ.label ?_
          | refine Br.cond_t ?_
          | refine Br.cond_f ?_
          | refine Br.yes (by first | decide | assumption | (apply decide_eq_true; omega)) ?_
          | refine Br.non (by first | decide | assumption | (apply decide_eq_false; omega)) ?_
          | refine Br.cond_ff ?_
          | refine Br.eqT (by omega) ?_
          | refine Br.eqF (by omega) ?_
          | refine Br.neT (by omega) ?_
          | refine Br.neF (by omega) ?_
          | refine Br.ndec (fun hc => ?_) (fun hc => ?_)
          | refine Nm.shlU ?_
          | refine Nm.orU ?_
          | refine Ld.mk' _ rfl ?_
          | refine Need.mk (by first | decide | omega | kernel_rfl) ?_
          | refine Nm.i64 (by omega) ?_
          | refine Nm.u64 (by omega) ?_
          | refine Nm.u8 (by omega) ?_
          | refine Sh.shrL ?_
          | refine Sh.shlL ?_
          | refine Nm.fd (by decide) ?_
          | refine x_ret (f := 27) rfl rfl (fun w _ => h27 w) ?_
          | refine x_ret (f := 24) rfl rfl (fun w _ => gr6 w) ?_
          | refine x_row (f := 28) (d := 2) rfl rfl (fun w hw => h28 w hw.m) rfl ?_
          | refine x_ret (f := 29) rfl rfl (fun w _ => g0 w) ?_
          | refine x_retA (f := 29) rfl rfl (fun w hw => g1 w hw.e) ?_
          | refine x_ne_ifc (TTok _ _) .neq (.inr rfl) rfl rfl rfl rfl ?_)
      | refine x_exq (TTok _ _) ?_)
  all_goals (conv => whnf)
  all_goals rfl
set_option maxHeartbeats 8000000 in
theorem parse6_2 (s : ByteArray) {u2 v2 u3 v3} (w : World) (hI : IP u2 v2 u3 v3 w) (p0 p1 p2 p3 p4 p5 p6 p7 : ByteArray) (h27 : ∀ w, Ret Tryd.prog 27 [.string s, .string ⟨#[58]⟩] w (.bool true))
    (h28 : ∀ w, IM w → RetRow Tryd.prog 28 [.string s, .string (sepS true)] w 9 1 8 ([p0, p1, p2, p3, p4, p5, p6, p7].map Value.string)) (k0 k1 : Int) (g0 : ∀ w, Ret Tryd.prog 29 [.string p0, .int .i64 16, .int .i64 16] w (goodV k0)) (g1 : ∀ w, Ret Tryd.prog 29 [.string p1, .int .i64 16, .int .i64 16] w (goodV k1)) (x : Int) (g2 : ∀ w, IE u2 v2 u3 v3 w → RetA Tryd.prog 29 [.string p2, .int .i64 16, .int .i64 16] w (.tup [.v (.int .u64 x), .ifc 105 .dead])) : Ret Tryd.prog 14 [.string s] w noV := by
  refine Ret.tj (I := IP u2 v2 u3 v3) (fun w' hm => hI.mod hm) (TTok 0 _) Tryd.func14 (by kernel_rfl) rfl ?_
  repeat' (
    (conv => whnf)
    first
      | (with_reducible first
          | refine TJ.seq ?_
          | refine TJ.region (TTok _ _) ?_
          | refine TJ.drawn (TTok _ _) mixed ?_
          | refine TJ.cond rfl ?_
          | refine TJ.block ?_
          | refine TJ.loop ?_
          | refine LJ.step ?_
          | refine TJ.ret ?_
          | refine TJ.exit ?_
          | refine TJ.skip ?_
          | refine TJ.scope ?_
          | refine TJ.label ?_
          | refine Br.cond_t ?_
          | refine Br.cond_f ?_
          | refine Br.yes (by first | decide | assumption | (apply decide_eq_true; omega)) ?_
          | refine Br.non (by first | decide | assumption | (apply decide_eq_false; omega)) ?_
          | refine Br.cond_ff ?_
          | refine Br.eqT (by omega) ?_
          | refine Br.eqF (by omega) ?_
          | refine Br.neT (by omega) ?_
          | refine Br.neF (by omega) ?_
          | refine Br.ndec (fun hc => ?_) (fun hc => ?_)
          | refine Nm.shlU ?_
          | refine Nm.orU ?_
          | refine Ld.mk' _ rfl ?_
          | refine Need.mk (by first | decide | omega | kernel_rfl) ?_
          | refine Nm.i64 (by omega) ?_
          | refine Nm.u64 (by omega) ?_
          | refine Nm.u8 (by omega) ?_
          | refine Sh.shrL ?_
          | refine Sh.shlL ?_
          | refine Nm.fd (by decide) ?_
          | refine x_ret (f := 27) rfl rfl (fun w _ => h27 w) ?_
          | refine x_ret (f := 24) rfl rfl (fun w _ => gr6 w) ?_
          | refine x_row (f := 28) (d := 2) rfl rfl (fun w hw => h28 w hw.m) rfl ?_
          | refine x_ret (f := 29) rfl rfl (fun w _ => g0 w) ?_
          | refine x_ret (f := 29) rfl rfl (fun w _ => g1 w) ?_
          | refine x_retA (f := 29) rfl rfl (fun w hw => g2 w hw.e) ?_
          | refine x_ne_ifc (TTok _ _) .neq (.inr rfl) rfl rfl rfl rfl ?_)
      | refine x_exq (TTok _ _) ?_)
  all_goals (conv => whnf)
  all_goals rfl
set_option maxHeartbeats 8000000 in
theorem parse6_3 (s : ByteArray) {u2 v2 u3 v3} (w : World) (hI : IP u2 v2 u3 v3 w) (p0 p1 p2 p3 p4 p5 p6 p7 : ByteArray) (h27 : ∀ w, Ret Tryd.prog 27 [.string s, .string ⟨#[58]⟩] w (.bool true))
    (h28 : ∀ w, IM w → RetRow Tryd.prog 28 [.string s, .string (sepS true)] w 9 1 8 ([p0, p1, p2, p3, p4, p5, p6, p7].map Value.string)) (k0 k1 k2 : Int) (g0 : ∀ w, Ret Tryd.prog 29 [.string p0, .int .i64 16, .int .i64 16] w (goodV k0)) (g1 : ∀ w, Ret Tryd.prog 29 [.string p1, .int .i64 16, .int .i64 16] w (goodV k1)) (g2 : ∀ w, Ret Tryd.prog 29 [.string p2, .int .i64 16, .int .i64 16] w (goodV k2)) (x : Int) (g3 : ∀ w, IE u2 v2 u3 v3 w → RetA Tryd.prog 29 [.string p3, .int .i64 16, .int .i64 16] w (.tup [.v (.int .u64 x), .ifc 105 .dead])) : Ret Tryd.prog 14 [.string s] w noV := by
  refine Ret.tj (I := IP u2 v2 u3 v3) (fun w' hm => hI.mod hm) (TTok 0 _) Tryd.func14 (by kernel_rfl) rfl ?_
  repeat' (
    (conv => whnf)
    first
      | (with_reducible first
          | refine TJ.seq ?_
          | refine TJ.region (TTok _ _) ?_
          | refine TJ.drawn (TTok _ _) mixed ?_
          | refine TJ.cond rfl ?_
          | refine TJ.block ?_
          | refine TJ.loop ?_
          | refine LJ.step ?_
          | refine TJ.ret ?_
          | refine TJ.exit ?_
          | refine TJ.skip ?_
          | refine TJ.scope ?_
          | refine TJ.label ?_
          | refine Br.cond_t ?_
          | refine Br.cond_f ?_
          | refine Br.yes (by first | decide | assumption | (apply decide_eq_true; omega)) ?_
          | refine Br.non (by first | decide | assumption | (apply decide_eq_false; omega)) ?_
          | refine Br.cond_ff ?_
          | refine Br.eqT (by omega) ?_
          | refine Br.eqF (by omega) ?_
          | refine Br.neT (by omega) ?_
          | refine Br.neF (by omega) ?_
          | refine Br.ndec (fun hc => ?_) (fun hc => ?_)
          | refine Nm.shlU ?_
          | refine Nm.orU ?_
          | refine Ld.mk' _ rfl ?_
          | refine Need.mk (by first | decide | omega | kernel_rfl) ?_
          | refine Nm.i64 (by omega) ?_
          | refine Nm.u64 (by omega) ?_
          | refine Nm.u8 (by omega) ?_
          | refine Sh.shrL ?_
          | refine Sh.shlL ?_
          | refine Nm.fd (by decide) ?_
          | refine x_ret (f := 27) rfl rfl (fun w _ => h27 w) ?_
          | refine x_ret (f := 24) rfl rfl (fun w _ => gr6 w) ?_
          | refine x_row (f := 28) (d := 2) rfl rfl (fun w hw => h28 w hw.m) rfl ?_
          | refine x_ret (f := 29) rfl rfl (fun w _ => g0 w) ?_
          | refine x_ret (f := 29) rfl rfl (fun w _ => g1 w) ?_
          | refine x_ret (f := 29) rfl rfl (fun w _ => g2 w) ?_
          | refine x_retA (f := 29) rfl rfl (fun w hw => g3 w hw.e) ?_
          | refine x_ne_ifc (TTok _ _) .neq (.inr rfl) rfl rfl rfl rfl ?_)
      | refine x_exq (TTok _ _) ?_)
  all_goals (conv => whnf)
  all_goals rfl
set_option maxHeartbeats 8000000 in
theorem parse6_4 (s : ByteArray) {u2 v2 u3 v3} (w : World) (hI : IP u2 v2 u3 v3 w) (p0 p1 p2 p3 p4 p5 p6 p7 : ByteArray) (h27 : ∀ w, Ret Tryd.prog 27 [.string s, .string ⟨#[58]⟩] w (.bool true))
    (h28 : ∀ w, IM w → RetRow Tryd.prog 28 [.string s, .string (sepS true)] w 9 1 8 ([p0, p1, p2, p3, p4, p5, p6, p7].map Value.string)) (k0 k1 k2 k3 : Int) (g0 : ∀ w, Ret Tryd.prog 29 [.string p0, .int .i64 16, .int .i64 16] w (goodV k0)) (g1 : ∀ w, Ret Tryd.prog 29 [.string p1, .int .i64 16, .int .i64 16] w (goodV k1)) (g2 : ∀ w, Ret Tryd.prog 29 [.string p2, .int .i64 16, .int .i64 16] w (goodV k2)) (g3 : ∀ w, Ret Tryd.prog 29 [.string p3, .int .i64 16, .int .i64 16] w (goodV k3)) (x : Int) (g4 : ∀ w, IE u2 v2 u3 v3 w → RetA Tryd.prog 29 [.string p4, .int .i64 16, .int .i64 16] w (.tup [.v (.int .u64 x), .ifc 105 .dead])) : Ret Tryd.prog 14 [.string s] w noV := by
  refine Ret.tj (I := IP u2 v2 u3 v3) (fun w' hm => hI.mod hm) (TTok 0 _) Tryd.func14 (by kernel_rfl) rfl ?_
  repeat' (
    (conv => whnf)
    first
      | (with_reducible first
          | refine TJ.seq ?_
          | refine TJ.region (TTok _ _) ?_
          | refine TJ.drawn (TTok _ _) mixed ?_
          | refine TJ.cond rfl ?_
          | refine TJ.block ?_
          | refine TJ.loop ?_
          | refine LJ.step ?_
          | refine TJ.ret ?_
          | refine TJ.exit ?_
          | refine TJ.skip ?_
          | refine TJ.scope ?_
          | refine TJ.label ?_
          | refine Br.cond_t ?_
          | refine Br.cond_f ?_
          | refine Br.yes (by first | decide | assumption | (apply decide_eq_true; omega)) ?_
          | refine Br.non (by first | decide | assumption | (apply decide_eq_false; omega)) ?_
          | refine Br.cond_ff ?_
          | refine Br.eqT (by omega) ?_
          | refine Br.eqF (by omega) ?_
          | refine Br.neT (by omega) ?_
          | refine Br.neF (by omega) ?_
          | refine Br.ndec (fun hc => ?_) (fun hc => ?_)
          | refine Nm.shlU ?_
          | refine Nm.orU ?_
          | refine Ld.mk' _ rfl ?_
          | refine Need.mk (by first | decide | omega | kernel_rfl) ?_
          | refine Nm.i64 (by omega) ?_
          | refine Nm.u64 (by omega) ?_
          | refine Nm.u8 (by omega) ?_
          | refine Sh.shrL ?_
          | refine Sh.shlL ?_
          | refine Nm.fd (by decide) ?_
          | refine x_ret (f := 27) rfl rfl (fun w _ => h27 w) ?_
          | refine x_ret (f := 24) rfl rfl (fun w _ => gr6 w) ?_
          | refine x_row (f := 28) (d := 2) rfl rfl (fun w hw => h28 w hw.m) rfl ?_
          | refine x_ret (f := 29) rfl rfl (fun w _ => g0 w) ?_
          | refine x_ret (f := 29) rfl rfl (fun w _ => g1 w) ?_
          | refine x_ret (f := 29) rfl rfl (fun w _ => g2 w) ?_
          | refine x_ret (f := 29) rfl rfl (fun w _ => g3 w) ?_
          | refine x_retA (f := 29) rfl rfl (fun w hw => g4 w hw.e) ?_
          | refine x_ne_ifc (TTok _ _) .neq (.inr rfl) rfl rfl rfl rfl ?_)
      | refine x_exq (TTok _ _) ?_)
  all_goals (conv => whnf)
  all_goals rfl
set_option maxHeartbeats 8000000 in
theorem parse6_5 (s : ByteArray) {u2 v2 u3 v3} (w : World) (hI : IP u2 v2 u3 v3 w) (p0 p1 p2 p3 p4 p5 p6 p7 : ByteArray) (h27 : ∀ w, Ret Tryd.prog 27 [.string s, .string ⟨#[58]⟩] w (.bool true))
    (h28 : ∀ w, IM w → RetRow Tryd.prog 28 [.string s, .string (sepS true)] w 9 1 8 ([p0, p1, p2, p3, p4, p5, p6, p7].map Value.string)) (k0 k1 k2 k3 k4 : Int) (g0 : ∀ w, Ret Tryd.prog 29 [.string p0, .int .i64 16, .int .i64 16] w (goodV k0)) (g1 : ∀ w, Ret Tryd.prog 29 [.string p1, .int .i64 16, .int .i64 16] w (goodV k1)) (g2 : ∀ w, Ret Tryd.prog 29 [.string p2, .int .i64 16, .int .i64 16] w (goodV k2)) (g3 : ∀ w, Ret Tryd.prog 29 [.string p3, .int .i64 16, .int .i64 16] w (goodV k3)) (g4 : ∀ w, Ret Tryd.prog 29 [.string p4, .int .i64 16, .int .i64 16] w (goodV k4)) (x : Int) (g5 : ∀ w, IE u2 v2 u3 v3 w → RetA Tryd.prog 29 [.string p5, .int .i64 16, .int .i64 16] w (.tup [.v (.int .u64 x), .ifc 105 .dead])) : Ret Tryd.prog 14 [.string s] w noV := by
  refine Ret.tj (I := IP u2 v2 u3 v3) (fun w' hm => hI.mod hm) (TTok 0 _) Tryd.func14 (by kernel_rfl) rfl ?_
  repeat' (
    (conv => whnf)
    first
      | (with_reducible first
          | refine TJ.seq ?_
          | refine TJ.region (TTok _ _) ?_
          | refine TJ.drawn (TTok _ _) mixed ?_
          | refine TJ.cond rfl ?_
          | refine TJ.block ?_
          | refine TJ.loop ?_
          | refine LJ.step ?_
          | refine TJ.ret ?_
          | refine TJ.exit ?_
          | refine TJ.skip ?_
          | refine TJ.scope ?_
          | refine TJ.label ?_
          | refine Br.cond_t ?_
          | refine Br.cond_f ?_
          | refine Br.yes (by first | decide | assumption | (apply decide_eq_true; omega)) ?_
          | refine Br.non (by first | decide | assumption | (apply decide_eq_false; omega)) ?_
          | refine Br.cond_ff ?_
          | refine Br.eqT (by omega) ?_
          | refine Br.eqF (by omega) ?_
          | refine Br.neT (by omega) ?_
          | refine Br.neF (by omega) ?_
          | refine Br.ndec (fun hc => ?_) (fun hc => ?_)
          | refine Nm.shlU ?_
          | refine Nm.orU ?_
          | refine Ld.mk' _ rfl ?_
          | refine Need.mk (by first | decide | omega | kernel_rfl) ?_
          | refine Nm.i64 (by omega) ?_
          | refine Nm.u64 (by omega) ?_
          | refine Nm.u8 (by omega) ?_
          | refine Sh.shrL ?_
          | refine Sh.shlL ?_
          | refine Nm.fd (by decide) ?_
          | refine x_ret (f := 27) rfl rfl (fun w _ => h27 w) ?_
          | refine x_ret (f := 24) rfl rfl (fun w _ => gr6 w) ?_
          | refine x_row (f := 28) (d := 2) rfl rfl (fun w hw => h28 w hw.m) rfl ?_
          | refine x_ret (f := 29) rfl rfl (fun w _ => g0 w) ?_
          | refine x_ret (f := 29) rfl rfl (fun w _ => g1 w) ?_
          | refine x_ret (f := 29) rfl rfl (fun w _ => g2 w) ?_
          | refine x_ret (f := 29) rfl rfl (fun w _ => g3 w) ?_
          | refine x_ret (f := 29) rfl rfl (fun w _ => g4 w) ?_
          | refine x_retA (f := 29) rfl rfl (fun w hw => g5 w hw.e) ?_
          | refine x_ne_ifc (TTok _ _) .neq (.inr rfl) rfl rfl rfl rfl ?_)
      | refine x_exq (TTok _ _) ?_)
  all_goals (conv => whnf)
  all_goals rfl
set_option maxHeartbeats 8000000 in
theorem parse6_6 (s : ByteArray) {u2 v2 u3 v3} (w : World) (hI : IP u2 v2 u3 v3 w) (p0 p1 p2 p3 p4 p5 p6 p7 : ByteArray) (h27 : ∀ w, Ret Tryd.prog 27 [.string s, .string ⟨#[58]⟩] w (.bool true))
    (h28 : ∀ w, IM w → RetRow Tryd.prog 28 [.string s, .string (sepS true)] w 9 1 8 ([p0, p1, p2, p3, p4, p5, p6, p7].map Value.string)) (k0 k1 k2 k3 k4 k5 : Int) (g0 : ∀ w, Ret Tryd.prog 29 [.string p0, .int .i64 16, .int .i64 16] w (goodV k0)) (g1 : ∀ w, Ret Tryd.prog 29 [.string p1, .int .i64 16, .int .i64 16] w (goodV k1)) (g2 : ∀ w, Ret Tryd.prog 29 [.string p2, .int .i64 16, .int .i64 16] w (goodV k2)) (g3 : ∀ w, Ret Tryd.prog 29 [.string p3, .int .i64 16, .int .i64 16] w (goodV k3)) (g4 : ∀ w, Ret Tryd.prog 29 [.string p4, .int .i64 16, .int .i64 16] w (goodV k4)) (g5 : ∀ w, Ret Tryd.prog 29 [.string p5, .int .i64 16, .int .i64 16] w (goodV k5)) (x : Int) (g6 : ∀ w, IE u2 v2 u3 v3 w → RetA Tryd.prog 29 [.string p6, .int .i64 16, .int .i64 16] w (.tup [.v (.int .u64 x), .ifc 105 .dead])) : Ret Tryd.prog 14 [.string s] w noV := by
  refine Ret.tj (I := IP u2 v2 u3 v3) (fun w' hm => hI.mod hm) (TTok 0 _) Tryd.func14 (by kernel_rfl) rfl ?_
  repeat' (
    (conv => whnf)
    first
      | (with_reducible first
          | refine TJ.seq ?_
          | refine TJ.region (TTok _ _) ?_
          | refine TJ.drawn (TTok _ _) mixed ?_
          | refine TJ.cond rfl ?_
          | refine TJ.block ?_
          | refine TJ.loop ?_
          | refine LJ.step ?_
          | refine TJ.ret ?_
          | refine TJ.exit ?_
          | refine TJ.skip ?_
          | refine TJ.scope ?_
          | refine TJ.label ?_
          | refine Br.cond_t ?_
          | refine Br.cond_f ?_
          | refine Br.yes (by first | decide | assumption | (apply decide_eq_true; omega)) ?_
          | refine Br.non (by first | decide | assumption | (apply decide_eq_false; omega)) ?_
          | refine Br.cond_ff ?_
          | refine Br.eqT (by omega) ?_
          | refine Br.eqF (by omega) ?_
          | refine Br.neT (by omega) ?_
          | refine Br.neF (by omega) ?_
          | refine Br.ndec (fun hc => ?_) (fun hc => ?_)
          | refine Nm.shlU ?_
          | refine Nm.orU ?_
          | refine Ld.mk' _ rfl ?_
          | refine Need.mk (by first | decide | omega | kernel_rfl) ?_
          | refine Nm.i64 (by omega) ?_
          | refine Nm.u64 (by omega) ?_
          | refine Nm.u8 (by omega) ?_
          | refine Sh.shrL ?_
          | refine Sh.shlL ?_
          | refine Nm.fd (by decide) ?_
          | refine x_ret (f := 27) rfl rfl (fun w _ => h27 w) ?_
          | refine x_ret (f := 24) rfl rfl (fun w _ => gr6 w) ?_
          | refine x_row (f := 28) (d := 2) rfl rfl (fun w hw => h28 w hw.m) rfl ?_
          | refine x_ret (f := 29) rfl rfl (fun w _ => g0 w) ?_
          | refine x_ret (f := 29) rfl rfl (fun w _ => g1 w) ?_
          | refine x_ret (f := 29) rfl rfl (fun w _ => g2 w) ?_
          | refine x_ret (f := 29) rfl rfl (fun w _ => g3 w) ?_
          | refine x_ret (f := 29) rfl rfl (fun w _ => g4 w) ?_
          | refine x_ret (f := 29) rfl rfl (fun w _ => g5 w) ?_
          | refine x_retA (f := 29) rfl rfl (fun w hw => g6 w hw.e) ?_
          | refine x_ne_ifc (TTok _ _) .neq (.inr rfl) rfl rfl rfl rfl ?_)
      | refine x_exq (TTok _ _) ?_)
  all_goals (conv => whnf)
  all_goals rfl
set_option maxHeartbeats 8000000 in
theorem parse6_7 (s : ByteArray) {u2 v2 u3 v3} (w : World) (hI : IP u2 v2 u3 v3 w) (p0 p1 p2 p3 p4 p5 p6 p7 : ByteArray) (h27 : ∀ w, Ret Tryd.prog 27 [.string s, .string ⟨#[58]⟩] w (.bool true))
    (h28 : ∀ w, IM w → RetRow Tryd.prog 28 [.string s, .string (sepS true)] w 9 1 8 ([p0, p1, p2, p3, p4, p5, p6, p7].map Value.string)) (k0 k1 k2 k3 k4 k5 k6 : Int) (g0 : ∀ w, Ret Tryd.prog 29 [.string p0, .int .i64 16, .int .i64 16] w (goodV k0)) (g1 : ∀ w, Ret Tryd.prog 29 [.string p1, .int .i64 16, .int .i64 16] w (goodV k1)) (g2 : ∀ w, Ret Tryd.prog 29 [.string p2, .int .i64 16, .int .i64 16] w (goodV k2)) (g3 : ∀ w, Ret Tryd.prog 29 [.string p3, .int .i64 16, .int .i64 16] w (goodV k3)) (g4 : ∀ w, Ret Tryd.prog 29 [.string p4, .int .i64 16, .int .i64 16] w (goodV k4)) (g5 : ∀ w, Ret Tryd.prog 29 [.string p5, .int .i64 16, .int .i64 16] w (goodV k5)) (g6 : ∀ w, Ret Tryd.prog 29 [.string p6, .int .i64 16, .int .i64 16] w (goodV k6)) (x : Int) (g7 : ∀ w, IE u2 v2 u3 v3 w → RetA Tryd.prog 29 [.string p7, .int .i64 16, .int .i64 16] w (.tup [.v (.int .u64 x), .ifc 105 .dead])) : Ret Tryd.prog 14 [.string s] w noV := by
  refine Ret.tj (I := IP u2 v2 u3 v3) (fun w' hm => hI.mod hm) (TTok 0 _) Tryd.func14 (by kernel_rfl) rfl ?_
  repeat' (
    (conv => whnf)
    first
      | (with_reducible first
          | refine TJ.seq ?_
          | refine TJ.region (TTok _ _) ?_
          | refine TJ.drawn (TTok _ _) mixed ?_
          | refine TJ.cond rfl ?_
          | refine TJ.block ?_
          | refine TJ.loop ?_
          | refine LJ.step ?_
          | refine TJ.ret ?_
          | refine TJ.exit ?_
          | refine TJ.skip ?_
          | refine TJ.scope ?_
          | refine TJ.label ?_
          | refine Br.cond_t ?_
          | refine Br.cond_f ?_
          | refine Br.yes (by first | decide | assumption | (apply decide_eq_true; omega)) ?_
          | refine Br.non (by first | decide | assumption | (apply decide_eq_false; omega)) ?_
          | refine Br.cond_ff ?_
          | refine Br.eqT (by omega) ?_
          | refine Br.eqF (by omega) ?_
          | refine Br.neT (by omega) ?_
          | refine Br.neF (by omega) ?_
          | refine Br.ndec (fun hc => ?_) (fun hc => ?_)
          | refine Nm.shlU ?_
          | refine Nm.orU ?_
          | refine Ld.mk' _ rfl ?_
          | refine Need.mk (by first | decide | omega | kernel_rfl) ?_
          | refine Nm.i64 (by omega) ?_
          | refine Nm.u64 (by omega) ?_
          | refine Nm.u8 (by omega) ?_
          | refine Sh.shrL ?_
          | refine Sh.shlL ?_
          | refine Nm.fd (by decide) ?_
          | refine x_ret (f := 27) rfl rfl (fun w _ => h27 w) ?_
          | refine x_ret (f := 24) rfl rfl (fun w _ => gr6 w) ?_
          | refine x_row (f := 28) (d := 2) rfl rfl (fun w hw => h28 w hw.m) rfl ?_
          | refine x_ret (f := 29) rfl rfl (fun w _ => g0 w) ?_
          | refine x_ret (f := 29) rfl rfl (fun w _ => g1 w) ?_
          | refine x_ret (f := 29) rfl rfl (fun w _ => g2 w) ?_
          | refine x_ret (f := 29) rfl rfl (fun w _ => g3 w) ?_
          | refine x_ret (f := 29) rfl rfl (fun w _ => g4 w) ?_
          | refine x_ret (f := 29) rfl rfl (fun w _ => g5 w) ?_
          | refine x_ret (f := 29) rfl rfl (fun w _ => g6 w) ?_
          | refine x_retA (f := 29) rfl rfl (fun w hw => g7 w hw.e) ?_
          | refine x_ne_ifc (TTok _ _) .neq (.inr rfl) rfl rfl rfl rfl ?_)
      | refine x_exq (TTok _ _) ?_)
  all_goals (conv => whnf)
  all_goals rfl
set_option maxHeartbeats 8000000 in
theorem parse6_8 (s : ByteArray) {u2 v2 u3 v3} (w : World) (hI : IP u2 v2 u3 v3 w) (p0 p1 p2 p3 p4 p5 p6 p7 : ByteArray) (h27 : ∀ w, Ret Tryd.prog 27 [.string s, .string ⟨#[58]⟩] w (.bool true))
    (h28 : ∀ w, IM w → RetRow Tryd.prog 28 [.string s, .string (sepS true)] w 9 1 8 ([p0, p1, p2, p3, p4, p5, p6, p7].map Value.string)) (k0 k1 k2 k3 k4 k5 k6 k7 : Int) (g0 : ∀ w, Ret Tryd.prog 29 [.string p0, .int .i64 16, .int .i64 16] w (goodV k0)) (g1 : ∀ w, Ret Tryd.prog 29 [.string p1, .int .i64 16, .int .i64 16] w (goodV k1)) (g2 : ∀ w, Ret Tryd.prog 29 [.string p2, .int .i64 16, .int .i64 16] w (goodV k2)) (g3 : ∀ w, Ret Tryd.prog 29 [.string p3, .int .i64 16, .int .i64 16] w (goodV k3)) (g4 : ∀ w, Ret Tryd.prog 29 [.string p4, .int .i64 16, .int .i64 16] w (goodV k4)) (g5 : ∀ w, Ret Tryd.prog 29 [.string p5, .int .i64 16, .int .i64 16] w (goodV k5)) (g6 : ∀ w, Ret Tryd.prog 29 [.string p6, .int .i64 16, .int .i64 16] w (goodV k6)) (g7 : ∀ w, Ret Tryd.prog 29 [.string p7, .int .i64 16, .int .i64 16] w (goodV k7)) (htx : ∀ w, I13 w → Ret Tryd.prog 13 [.agg #[.bool true, .int .u64 (candU true [k0, k1, k2, k3, k4, k5, k6, k7]).1, .int .u64 (candU true [k0, k1, k2, k3, k4, k5, k6, k7]).2]] w (.tuple #[.string (addrText true (candU true [k0, k1, k2, k3, k4, k5, k6, k7]).1 (candU true [k0, k1, k2, k3, k4, k5, k6, k7]).2), .int .i64 0])) : Ret Tryd.prog 14 [.string s] w (if addrText true (candU true [k0, k1, k2, k3, k4, k5, k6, k7]).1 (candU true [k0, k1, k2, k3, k4, k5, k6, k7]).2 = s then addrV true (candU true [k0, k1, k2, k3, k4, k5, k6, k7]).1 (candU true [k0, k1, k2, k3, k4, k5, k6, k7]).2 else noV) := by
  refine Ret.tj (I := IP u2 v2 u3 v3) (fun w' hm => hI.mod hm) (TTok 0 _) Tryd.func14 (by kernel_rfl) rfl ?_
  repeat' (
    (conv => whnf)
    first
      | (with_reducible first
          | refine TJ.seq ?_
          | refine TJ.region (TTok _ _) ?_
          | refine TJ.drawn (TTok _ _) mixed ?_
          | refine TJ.cond rfl ?_
          | refine TJ.block ?_
          | refine TJ.loop ?_
          | refine LJ.step ?_
          | refine TJ.ret ?_
          | refine TJ.exit ?_
          | refine TJ.skip ?_
          | refine TJ.scope ?_
          | refine TJ.label ?_
          | refine Br.cond_t ?_
          | refine Br.cond_f ?_
          | refine Br.yes (by first | decide | assumption | (apply decide_eq_true; omega)) ?_
          | refine Br.non (by first | decide | assumption | (apply decide_eq_false; omega)) ?_
          | refine Br.cond_ff ?_
          | refine Br.eqT (by omega) ?_
          | refine Br.eqF (by omega) ?_
          | refine Br.neT (by omega) ?_
          | refine Br.neF (by omega) ?_
          | refine Br.ndec (fun hc => ?_) (fun hc => ?_)
          | refine Nm.shlU ?_
          | refine Nm.orU ?_
          | refine Ld.mk' _ rfl ?_
          | refine Need.mk (by first | decide | omega | kernel_rfl) ?_
          | refine Nm.i64 (by omega) ?_
          | refine Nm.u64 (by omega) ?_
          | refine Nm.u8 (by omega) ?_
          | refine Sh.shrL ?_
          | refine Sh.shlL ?_
          | refine Nm.fd (by decide) ?_
          | refine x_ret (f := 27) rfl rfl (fun w _ => h27 w) ?_
          | refine x_ret (f := 24) rfl rfl (fun w _ => gr6 w) ?_
          | refine x_row (f := 28) (d := 2) rfl rfl (fun w hw => h28 w hw.m) rfl ?_
          | refine x_ret (f := 29) rfl rfl (fun w _ => g0 w) ?_
          | refine x_ret (f := 29) rfl rfl (fun w _ => g1 w) ?_
          | refine x_ret (f := 29) rfl rfl (fun w _ => g2 w) ?_
          | refine x_ret (f := 29) rfl rfl (fun w _ => g3 w) ?_
          | refine x_ret (f := 29) rfl rfl (fun w _ => g4 w) ?_
          | refine x_ret (f := 29) rfl rfl (fun w _ => g5 w) ?_
          | refine x_ret (f := 29) rfl rfl (fun w _ => g6 w) ?_
          | refine x_ret (f := 29) rfl rfl (fun w _ => g7 w) ?_
          | refine x_ret (f := 13) rfl rfl (fun w hw => htx w hw.t) ?_)
      | refine x_exq (TTok _ _) ?_)
  · (conv => whnf)
    rw [if_neg hc]
    rfl
  · (conv => whnf)
    rw [if_pos hc]
    rfl
set_option maxHeartbeats 8000000 in
theorem parse4_0 (s : ByteArray) {u2 v2 u3 v3} (w : World) (hI : IP u2 v2 u3 v3 w) (p0 p1 p2 p3 : ByteArray) (h27 : ∀ w, Ret Tryd.prog 27 [.string s, .string ⟨#[58]⟩] w (.bool false))
    (h28 : ∀ w, IM w → RetRow Tryd.prog 28 [.string s, .string (sepS false)] w 9 1 4 ([p0, p1, p2, p3].map Value.string))   (x : Int) (g0 : ∀ w, IE u2 v2 u3 v3 w → RetA Tryd.prog 29 [.string p0, .int .i64 10, .int .i64 8] w (.tup [.v (.int .u64 x), .ifc 105 .dead])) : Ret Tryd.prog 14 [.string s] w noV := by
  refine Ret.tj (I := IP u2 v2 u3 v3) (fun w' hm => hI.mod hm) (TTok 0 _) Tryd.func14 (by kernel_rfl) rfl ?_
  repeat' (
    (conv => whnf)
    first
      | (with_reducible first
          | refine TJ.seq ?_
          | refine TJ.region (TTok _ _) ?_
          | refine TJ.drawn (TTok _ _) mixed ?_
          | refine TJ.cond rfl ?_
          | refine TJ.block ?_
          | refine TJ.loop ?_
          | refine LJ.step ?_
          | refine TJ.ret ?_
          | refine TJ.exit ?_
          | refine TJ.skip ?_
          | refine TJ.scope ?_
          | refine TJ.label ?_
          | refine Br.cond_t ?_
          | refine Br.cond_f ?_
          | refine Br.yes (by first | decide | assumption | (apply decide_eq_true; omega)) ?_
          | refine Br.non (by first | decide | assumption | (apply decide_eq_false; omega)) ?_
          | refine Br.cond_ff ?_
          | refine Br.eqT (by omega) ?_
          | refine Br.eqF (by omega) ?_
          | refine Br.neT (by omega) ?_
          | refine Br.neF (by omega) ?_
          | refine Br.ndec (fun hc => ?_) (fun hc => ?_)
          | refine Nm.shlU ?_
          | refine Nm.orU ?_
          | refine Ld.mk' _ rfl ?_
          | refine Need.mk (by first | decide | omega | kernel_rfl) ?_
          | refine Nm.i64 (by omega) ?_
          | refine Nm.u64 (by omega) ?_
          | refine Nm.u8 (by omega) ?_
          | refine Sh.shrL ?_
          | refine Sh.shlL ?_
          | refine Nm.fd (by decide) ?_
          | refine x_ret (f := 27) rfl rfl (fun w _ => h27 w) ?_
          | refine x_ret (f := 24) rfl rfl (fun w _ => gr4 w) ?_
          | refine x_row (f := 28) (d := 2) rfl rfl (fun w hw => h28 w hw.m) rfl ?_
          | refine x_retA (f := 29) rfl rfl (fun w hw => g0 w hw.e) ?_
          | refine x_ne_ifc (TTok _ _) .neq (.inr rfl) rfl rfl rfl rfl ?_)
      | refine x_exq (TTok _ _) ?_)
  all_goals (conv => whnf)
  all_goals rfl
set_option maxHeartbeats 8000000 in
theorem parse4_1 (s : ByteArray) {u2 v2 u3 v3} (w : World) (hI : IP u2 v2 u3 v3 w) (p0 p1 p2 p3 : ByteArray) (h27 : ∀ w, Ret Tryd.prog 27 [.string s, .string ⟨#[58]⟩] w (.bool false))
    (h28 : ∀ w, IM w → RetRow Tryd.prog 28 [.string s, .string (sepS false)] w 9 1 4 ([p0, p1, p2, p3].map Value.string)) (k0 : Int) (g0 : ∀ w, Ret Tryd.prog 29 [.string p0, .int .i64 10, .int .i64 8] w (goodV k0)) (x : Int) (g1 : ∀ w, IE u2 v2 u3 v3 w → RetA Tryd.prog 29 [.string p1, .int .i64 10, .int .i64 8] w (.tup [.v (.int .u64 x), .ifc 105 .dead])) : Ret Tryd.prog 14 [.string s] w noV := by
  refine Ret.tj (I := IP u2 v2 u3 v3) (fun w' hm => hI.mod hm) (TTok 0 _) Tryd.func14 (by kernel_rfl) rfl ?_
  repeat' (
    (conv => whnf)
    first
      | (with_reducible first
          | refine TJ.seq ?_
          | refine TJ.region (TTok _ _) ?_
          | refine TJ.drawn (TTok _ _) mixed ?_
          | refine TJ.cond rfl ?_
          | refine TJ.block ?_
          | refine TJ.loop ?_
          | refine LJ.step ?_
          | refine TJ.ret ?_
          | refine TJ.exit ?_
          | refine TJ.skip ?_
          | refine TJ.scope ?_
          | refine TJ.label ?_
          | refine Br.cond_t ?_
          | refine Br.cond_f ?_
          | refine Br.yes (by first | decide | assumption | (apply decide_eq_true; omega)) ?_
          | refine Br.non (by first | decide | assumption | (apply decide_eq_false; omega)) ?_
          | refine Br.cond_ff ?_
          | refine Br.eqT (by omega) ?_
          | refine Br.eqF (by omega) ?_
          | refine Br.neT (by omega) ?_
          | refine Br.neF (by omega) ?_
          | refine Br.ndec (fun hc => ?_) (fun hc => ?_)
          | refine Nm.shlU ?_
          | refine Nm.orU ?_
          | refine Ld.mk' _ rfl ?_
          | refine Need.mk (by first | decide | omega | kernel_rfl) ?_
          | refine Nm.i64 (by omega) ?_
          | refine Nm.u64 (by omega) ?_
          | refine Nm.u8 (by omega) ?_
          | refine Sh.shrL ?_
          | refine Sh.shlL ?_
          | refine Nm.fd (by decide) ?_
          | refine x_ret (f := 27) rfl rfl (fun w _ => h27 w) ?_
          | refine x_ret (f := 24) rfl rfl (fun w _ => gr4 w) ?_
          | refine x_row (f := 28) (d := 2) rfl rfl (fun w hw => h28 w hw.m) rfl ?_
          | refine x_ret (f := 29) rfl rfl (fun w _ => g0 w) ?_
          | refine x_retA (f := 29) rfl rfl (fun w hw => g1 w hw.e) ?_
          | refine x_ne_ifc (TTok _ _) .neq (.inr rfl) rfl rfl rfl rfl ?_)
      | refine x_exq (TTok _ _) ?_)
  all_goals (conv => whnf)
  all_goals rfl
set_option maxHeartbeats 8000000 in
theorem parse4_2 (s : ByteArray) {u2 v2 u3 v3} (w : World) (hI : IP u2 v2 u3 v3 w) (p0 p1 p2 p3 : ByteArray) (h27 : ∀ w, Ret Tryd.prog 27 [.string s, .string ⟨#[58]⟩] w (.bool false))
    (h28 : ∀ w, IM w → RetRow Tryd.prog 28 [.string s, .string (sepS false)] w 9 1 4 ([p0, p1, p2, p3].map Value.string)) (k0 k1 : Int) (g0 : ∀ w, Ret Tryd.prog 29 [.string p0, .int .i64 10, .int .i64 8] w (goodV k0)) (g1 : ∀ w, Ret Tryd.prog 29 [.string p1, .int .i64 10, .int .i64 8] w (goodV k1)) (x : Int) (g2 : ∀ w, IE u2 v2 u3 v3 w → RetA Tryd.prog 29 [.string p2, .int .i64 10, .int .i64 8] w (.tup [.v (.int .u64 x), .ifc 105 .dead])) : Ret Tryd.prog 14 [.string s] w noV := by
  refine Ret.tj (I := IP u2 v2 u3 v3) (fun w' hm => hI.mod hm) (TTok 0 _) Tryd.func14 (by kernel_rfl) rfl ?_
  repeat' (
    (conv => whnf)
    first
      | (with_reducible first
          | refine TJ.seq ?_
          | refine TJ.region (TTok _ _) ?_
          | refine TJ.drawn (TTok _ _) mixed ?_
          | refine TJ.cond rfl ?_
          | refine TJ.block ?_
          | refine TJ.loop ?_
          | refine LJ.step ?_
          | refine TJ.ret ?_
          | refine TJ.exit ?_
          | refine TJ.skip ?_
          | refine TJ.scope ?_
          | refine TJ.label ?_
          | refine Br.cond_t ?_
          | refine Br.cond_f ?_
          | refine Br.yes (by first | decide | assumption | (apply decide_eq_true; omega)) ?_
          | refine Br.non (by first | decide | assumption | (apply decide_eq_false; omega)) ?_
          | refine Br.cond_ff ?_
          | refine Br.eqT (by omega) ?_
          | refine Br.eqF (by omega) ?_
          | refine Br.neT (by omega) ?_
          | refine Br.neF (by omega) ?_
          | refine Br.ndec (fun hc => ?_) (fun hc => ?_)
          | refine Nm.shlU ?_
          | refine Nm.orU ?_
          | refine Ld.mk' _ rfl ?_
          | refine Need.mk (by first | decide | omega | kernel_rfl) ?_
          | refine Nm.i64 (by omega) ?_
          | refine Nm.u64 (by omega) ?_
          | refine Nm.u8 (by omega) ?_
          | refine Sh.shrL ?_
          | refine Sh.shlL ?_
          | refine Nm.fd (by decide) ?_
          | refine x_ret (f := 27) rfl rfl (fun w _ => h27 w) ?_
          | refine x_ret (f := 24) rfl rfl (fun w _ => gr4 w) ?_
          | refine x_row (f := 28) (d := 2) rfl rfl (fun w hw => h28 w hw.m) rfl ?_
          | refine x_ret (f := 29) rfl rfl (fun w _ => g0 w) ?_
          | refine x_ret (f := 29) rfl rfl (fun w _ => g1 w) ?_
          | refine x_retA (f := 29) rfl rfl (fun w hw => g2 w hw.e) ?_
          | refine x_ne_ifc (TTok _ _) .neq (.inr rfl) rfl rfl rfl rfl ?_)
      | refine x_exq (TTok _ _) ?_)
  all_goals (conv => whnf)
  all_goals rfl
set_option maxHeartbeats 8000000 in
theorem parse4_3 (s : ByteArray) {u2 v2 u3 v3} (w : World) (hI : IP u2 v2 u3 v3 w) (p0 p1 p2 p3 : ByteArray) (h27 : ∀ w, Ret Tryd.prog 27 [.string s, .string ⟨#[58]⟩] w (.bool false))
    (h28 : ∀ w, IM w → RetRow Tryd.prog 28 [.string s, .string (sepS false)] w 9 1 4 ([p0, p1, p2, p3].map Value.string)) (k0 k1 k2 : Int) (g0 : ∀ w, Ret Tryd.prog 29 [.string p0, .int .i64 10, .int .i64 8] w (goodV k0)) (g1 : ∀ w, Ret Tryd.prog 29 [.string p1, .int .i64 10, .int .i64 8] w (goodV k1)) (g2 : ∀ w, Ret Tryd.prog 29 [.string p2, .int .i64 10, .int .i64 8] w (goodV k2)) (x : Int) (g3 : ∀ w, IE u2 v2 u3 v3 w → RetA Tryd.prog 29 [.string p3, .int .i64 10, .int .i64 8] w (.tup [.v (.int .u64 x), .ifc 105 .dead])) : Ret Tryd.prog 14 [.string s] w noV := by
  refine Ret.tj (I := IP u2 v2 u3 v3) (fun w' hm => hI.mod hm) (TTok 0 _) Tryd.func14 (by kernel_rfl) rfl ?_
  repeat' (
    (conv => whnf)
    first
      | (with_reducible first
          | refine TJ.seq ?_
          | refine TJ.region (TTok _ _) ?_
          | refine TJ.drawn (TTok _ _) mixed ?_
          | refine TJ.cond rfl ?_
          | refine TJ.block ?_
          | refine TJ.loop ?_
          | refine LJ.step ?_
          | refine TJ.ret ?_
          | refine TJ.exit ?_
          | refine TJ.skip ?_
          | refine TJ.scope ?_
          | refine TJ.label ?_
          | refine Br.cond_t ?_
          | refine Br.cond_f ?_
          | refine Br.yes (by first | decide | assumption | (apply decide_eq_true; omega)) ?_
          | refine Br.non (by first | decide | assumption | (apply decide_eq_false; omega)) ?_
          | refine Br.cond_ff ?_
          | refine Br.eqT (by omega) ?_
          | refine Br.eqF (by omega) ?_
          | refine Br.neT (by omega) ?_
          | refine Br.neF (by omega) ?_
          | refine Br.ndec (fun hc => ?_) (fun hc => ?_)
          | refine Nm.shlU ?_
          | refine Nm.orU ?_
          | refine Ld.mk' _ rfl ?_
          | refine Need.mk (by first | decide | omega | kernel_rfl) ?_
          | refine Nm.i64 (by omega) ?_
          | refine Nm.u64 (by omega) ?_
          | refine Nm.u8 (by omega) ?_
          | refine Sh.shrL ?_
          | refine Sh.shlL ?_
          | refine Nm.fd (by decide) ?_
          | refine x_ret (f := 27) rfl rfl (fun w _ => h27 w) ?_
          | refine x_ret (f := 24) rfl rfl (fun w _ => gr4 w) ?_
          | refine x_row (f := 28) (d := 2) rfl rfl (fun w hw => h28 w hw.m) rfl ?_
          | refine x_ret (f := 29) rfl rfl (fun w _ => g0 w) ?_
          | refine x_ret (f := 29) rfl rfl (fun w _ => g1 w) ?_
          | refine x_ret (f := 29) rfl rfl (fun w _ => g2 w) ?_
          | refine x_retA (f := 29) rfl rfl (fun w hw => g3 w hw.e) ?_
          | refine x_ne_ifc (TTok _ _) .neq (.inr rfl) rfl rfl rfl rfl ?_)
      | refine x_exq (TTok _ _) ?_)
  all_goals (conv => whnf)
  all_goals rfl
set_option maxHeartbeats 8000000 in
theorem parse4_4 (s : ByteArray) {u2 v2 u3 v3} (w : World) (hI : IP u2 v2 u3 v3 w) (p0 p1 p2 p3 : ByteArray) (h27 : ∀ w, Ret Tryd.prog 27 [.string s, .string ⟨#[58]⟩] w (.bool false))
    (h28 : ∀ w, IM w → RetRow Tryd.prog 28 [.string s, .string (sepS false)] w 9 1 4 ([p0, p1, p2, p3].map Value.string)) (k0 k1 k2 k3 : Int) (g0 : ∀ w, Ret Tryd.prog 29 [.string p0, .int .i64 10, .int .i64 8] w (goodV k0)) (g1 : ∀ w, Ret Tryd.prog 29 [.string p1, .int .i64 10, .int .i64 8] w (goodV k1)) (g2 : ∀ w, Ret Tryd.prog 29 [.string p2, .int .i64 10, .int .i64 8] w (goodV k2)) (g3 : ∀ w, Ret Tryd.prog 29 [.string p3, .int .i64 10, .int .i64 8] w (goodV k3)) (htx : ∀ w, I13 w → Ret Tryd.prog 13 [.agg #[.bool false, .int .u64 0, .int .u64 (candU false [k0, k1, k2, k3]).2]] w (.tuple #[.string (addrText false 0 (candU false [k0, k1, k2, k3]).2), .int .i64 0])) : Ret Tryd.prog 14 [.string s] w (if addrText false 0 (candU false [k0, k1, k2, k3]).2 = s then addrV false 0 (candU false [k0, k1, k2, k3]).2 else noV) := by
  refine Ret.tj (I := IP u2 v2 u3 v3) (fun w' hm => hI.mod hm) (TTok 0 _) Tryd.func14 (by kernel_rfl) rfl ?_
  repeat' (
    (conv => whnf)
    first
      | (with_reducible first
          | refine TJ.seq ?_
          | refine TJ.region (TTok _ _) ?_
          | refine TJ.drawn (TTok _ _) mixed ?_
          | refine TJ.cond rfl ?_
          | refine TJ.block ?_
          | refine TJ.loop ?_
          | refine LJ.step ?_
          | refine TJ.ret ?_
          | refine TJ.exit ?_
          | refine TJ.skip ?_
          | refine TJ.scope ?_
          | refine TJ.label ?_
          | refine Br.cond_t ?_
          | refine Br.cond_f ?_
          | refine Br.yes (by first | decide | assumption | (apply decide_eq_true; omega)) ?_
          | refine Br.non (by first | decide | assumption | (apply decide_eq_false; omega)) ?_
          | refine Br.cond_ff ?_
          | refine Br.eqT (by omega) ?_
          | refine Br.eqF (by omega) ?_
          | refine Br.neT (by omega) ?_
          | refine Br.neF (by omega) ?_
          | refine Br.ndec (fun hc => ?_) (fun hc => ?_)
          | refine Nm.shlU ?_
          | refine Nm.orU ?_
          | refine Ld.mk' _ rfl ?_
          | refine Need.mk (by first | decide | omega | kernel_rfl) ?_
          | refine Nm.i64 (by omega) ?_
          | refine Nm.u64 (by omega) ?_
          | refine Nm.u8 (by omega) ?_
          | refine Sh.shrL ?_
          | refine Sh.shlL ?_
          | refine Nm.fd (by decide) ?_
          | refine x_ret (f := 27) rfl rfl (fun w _ => h27 w) ?_
          | refine x_ret (f := 24) rfl rfl (fun w _ => gr4 w) ?_
          | refine x_row (f := 28) (d := 2) rfl rfl (fun w hw => h28 w hw.m) rfl ?_
          | refine x_ret (f := 29) rfl rfl (fun w _ => g0 w) ?_
          | refine x_ret (f := 29) rfl rfl (fun w _ => g1 w) ?_
          | refine x_ret (f := 29) rfl rfl (fun w _ => g2 w) ?_
          | refine x_ret (f := 29) rfl rfl (fun w _ => g3 w) ?_
          | refine x_ret (f := 13) rfl rfl (fun w hw => htx w hw.t) ?_)
      | refine x_exq (TTok _ _) ?_)
  · (conv => whnf)
    rw [if_neg hc]
    rfl
  · (conv => whnf)
    rw [if_pos hc]
    rfl
end Go.Proofs.YtopadpgpmkkpgaaDoor
set_option maxRecDepth 100000
namespace Go.Proofs.YtopadpgpmkkpgaaDoor
open Go.SX
/-! ### Texts taken apart -/
def splitC (c : UInt8) : List UInt8 → List (List UInt8)
  | [] => [[]]
  | b :: l => if b = c then [] :: splitC c l else match splitC c l with
    | [] => [[b]]
    | x :: r => (b :: x) :: r
theorem ix_cases (c : UInt8) : ∀ l : List UInt8, (Lib.indexByte l c = -1 ∧ splitC c l = [l] ∧ l.count c = 0) ∨ (∃ i : Nat, Lib.indexByte l c = i ∧ splitC c l = l.take i :: splitC c (l.drop (i + 1)) ∧ (l.drop (i + 1)).count c + 1 = l.count c)
  | [] => .inl ⟨rfl, rfl, rfl⟩
  | b :: l => by
    by_cases hb : b = c
    · subst hb
      exact .inr ⟨0, by simp [Lib.indexByte], by simp [splitC], by simp⟩
    · rcases ix_cases c l with ⟨h1, h2, h3⟩ | ⟨i, h1, h2, h3⟩
      · refine .inl ⟨by simp [Lib.indexByte, hb, h1], by simp [splitC, hb, h2], by simp [List.count_cons, hb, h3]⟩
      · refine .inr ⟨i + 1, ?_, ?_, ?_⟩
        · have : ¬ ((i : Int) = -1) := by omega
          simp [Lib.indexByte, hb, h1, this]
        · simp [splitC, hb, h2]
        · simp [List.count_cons, hb, h3]
theorem splitK_C (c : UInt8) : ∀ (k : Nat) (l : List UInt8), l.count c ≤ k → Lib.splitK [c] 0 k l = splitC c l
  | 0, l, h => by
    rcases ix_cases c l with ⟨_, h2, _⟩ | ⟨i, _, _, h3⟩
    · rw [h2]
      rfl
    · omega
  | k + 1, l, h => by
    unfold Lib.splitK
    rw [Lib.index_one]
    rcases ix_cases c l with ⟨h1, h2, _⟩ | ⟨i, h1, h2, h3⟩
    · simp [h1, h2]
    · have hi : ¬ ((i : Int) == -1) = true := by simp
      rw [h1, h2, if_neg hi]
      have e := splitK_C c k (l.drop (i + 1)) (by omega)
      simpa using e
theorem split_one (c : UInt8) (x : List UInt8) (h : c ∉ x) : splitC c x = [x] := by
  rcases ix_cases c x with ⟨_, h2, _⟩ | ⟨i, _, _, h3⟩
  · exact h2
  · have := List.count_eq_zero.2 h
    omega
theorem split_app (c : UInt8) (x r : List UInt8) (h : c ∉ x) : splitC c (x ++ c :: r) = x :: splitC c r := by
  induction x with
  | nil => simp [splitC]
  | cons b x ih =>
    simp only [List.mem_cons, not_or] at h
    have hb : ¬ b = c := fun e => h.1 e.symm
    simp [splitC, hb, ih h.2]
theorem split_tail (c : UInt8) : ∀ (r : List (List UInt8)) (x : List UInt8), c ∉ x → (∀ y, y ∈ r → c ∉ y) → splitC c (x ++ Lib.joinTail [c] r) = x :: r
  | [], x, hx, _ => by simpa [Lib.joinTail] using split_one c x hx
  | y :: r, x, hx, hr => by
    have e : x ++ Lib.joinTail [c] (y :: r) = x ++ c :: (y ++ Lib.joinTail [c] r) := by simp [Lib.joinTail]
    rw [e, split_app c x _ hx, split_tail c r y (hr y (List.mem_cons_self ..)) fun z hz => hr z (List.mem_cons_of_mem _ hz)]
theorem split_join (c : UInt8) (xs : List (List UInt8)) (h0 : xs ≠ []) (h : ∀ x, x ∈ xs → c ∉ x) : splitC c (Lib.join xs [c]) = xs := by
  cases xs with
  | nil => exact (h0 rfl).elim
  | cons x r =>
    rw [Lib.join_cons]
    exact split_tail c r x (h x (List.mem_cons_self ..)) fun y hy => h y (List.mem_cons_of_mem _ hy)
theorem index_iff (c : UInt8) (l : List UInt8) : 0 ≤ Lib.indexByte l c ↔ c ∈ l := by
  rcases ix_cases c l with ⟨h1, _, h3⟩ | ⟨i, h1, _, h3⟩
  · rw [h1]
    have := List.count_eq_zero.1 h3
    simp [this]
  · rw [h1]
    have : 0 < l.count c := by omega
    simp [List.count_pos_iff.1 this]
def sepC (v6 : Bool) : UInt8 := if v6 then 58 else 46
theorem count_size (v6 : Bool) (s : ByteArray) : s.data.toList.count (sepC v6) ≤ Lib.countB s (sepS v6) := by
  have e : (sepS v6).data.toList = [sepC v6] := by cases v6 <;> rfl
  unfold Lib.countB
  rw [e, Lib.count_one]
  exact Nat.le_refl _
theorem parts_data (v6 : Bool) (s : ByteArray) : (parts v6 s).map (·.data.toList) = splitC (sepC v6) s.data.toList := by
  unfold parts
  rw [Lib.splitB_data]
  have e : (sepS v6).data.toList = [sepC v6] := by cases v6 <;> rfl
  rw [e]
  exact splitK_C _ _ _ (count_size v6 s)
end Go.Proofs.YtopadpgpmkkpgaaDoor
set_option maxRecDepth 100000
namespace Go.Proofs.YtopadpgpmkkpgaaDoor
open Go.SX
/-! ### Digits -/
theorem hd_cases (d : Int) (h : 0 ≤ d ∧ d < 16) : d = 0 ∨ d = 1 ∨ d = 2 ∨ d = 3 ∨ d = 4 ∨ d = 5 ∨ d = 6 ∨ d = 7 ∨ d = 8 ∨ d = 9 ∨ d = 10 ∨ d = 11 ∨ d = 12 ∨ d = 13 ∨ d = 14 ∨ d = 15 := by omega
theorem hd_dig (d : Int) (h : 0 ≤ d ∧ d < 16) : dig (bAt D36 d) = some d := by
  rcases hd_cases d h with rfl | rfl | rfl | rfl | rfl | rfl | rfl | rfl | rfl | rfl | rfl | rfl | rfl | rfl | rfl | rfl <;> decide
theorem hd_range (d : Int) (h : 0 ≤ d ∧ d < 16) : (48 ≤ bAt D36 d ∧ bAt D36 d ≤ 57) ∨ (97 ≤ bAt D36 d ∧ bAt D36 d ≤ 102) := by
  rcases hd_cases d h with rfl | rfl | rfl | rfl | rfl | rfl | rfl | rfl | rfl | rfl | rfl | rfl | rfl | rfl | rfl | rfl <;> decide
theorem hexL_mem (v : Int) (hv : 0 ≤ v ∧ v < 65536) (n : Int) (h : n ∈ hexL v) : (48 ≤ n ∧ n ≤ 57) ∨ (97 ≤ n ∧ n ≤ 102) := by
  unfold hexL at h
  split at h
  · simp at h; subst h; exact hd_range _ (by omega)
  split at h
  · simp at h; rcases h with rfl | rfl <;> exact hd_range _ (by omega)
  split at h
  · simp at h; rcases h with rfl | rfl | rfl <;> exact hd_range _ (by omega)
  · simp at h; rcases h with rfl | rfl | rfl | rfl <;> exact hd_range _ (by omega)
theorem sInts_str (l : List Int) (h : ∀ n, n ∈ l → 0 ≤ n ∧ n ≤ 255) : sInts (strOfNums l) = l := by
  unfold sInts
  rw [strOfNums_data, List.map_map]
  induction l with
  | nil => rfl
  | cons n l ih =>
    have h1 := h n (List.mem_cons_self ..)
    rw [List.map_cons, ih fun m hm => h m (List.mem_cons_of_mem _ hm)]
    congr 1
    simp
    omega
theorem puO_go {b m n c d : Int} {r : List Int} (h : dig c = some d) (hb : d < b) (hm : n * b + d ≤ m) : puO b m n (c :: r) = puO b m (n * b + d) r := by
  simp only [puO, h]
  rw [if_neg (by omega), if_neg (by omega)]
theorem puN_hex (v : Int) (hv : 0 ≤ v ∧ v < 65536) : puN true (hexS v) = some v := by
  have hm := hexL_mem v hv
  have hs : sInts (hexS v) = hexL v := sInts_str _ fun n hn => by have := hm n hn; omega
  have he : ¬ hexS v = ⟨#[]⟩ := by
    intro e
    have : (hexS v).size = 0 := by rw [e]; rfl
    rw [hexS, strOfNums_size] at this
    unfold hexL at this
    split at this
    · simp at this
    split at this
    · simp at this
    split at this <;> simp at this
  unfold puN
  rw [if_neg he, hs]
  simp only [pbase, pmax, if_true]
  unfold hexL
  split
  · rw [puO_go (hd_dig _ (by omega)) (by omega) (by omega)]
    simp [puO]
  split
  · rw [puO_go (hd_dig _ (by omega)) (by omega) (by omega), puO_go (hd_dig _ (by omega)) (by omega) (by omega)]
    simp only [puO, Option.some.injEq]
    omega
  split
  · rw [puO_go (hd_dig _ (by omega)) (by omega) (by omega), puO_go (hd_dig _ (by omega)) (by omega) (by omega), puO_go (hd_dig _ (by omega)) (by omega) (by omega)]
    simp only [puO, Option.some.injEq]
    omega
  · rw [puO_go (hd_dig _ (by omega)) (by omega) (by omega), puO_go (hd_dig _ (by omega)) (by omega) (by omega), puO_go (hd_dig _ (by omega)) (by omega) (by omega), puO_go (hd_dig _ (by omega)) (by omega) (by omega)]
    simp only [puO, Option.some.injEq]
    omega
def oI : Option Int → Nat → Bool
  | some v, n => decide (v = n)
  | none, _ => false
theorem oI_eq {o : Option Int} {n : Nat} (h : oI o n = true) : o = some (n : Int) := by
  cases o with
  | none => cases h
  | some v => simp only [oI, decide_eq_true_eq] at h; rw [h]
def digsB : List UInt8 → Bool
  | [] => true
  | b :: l => Nat.ble 48 b.toNat && Nat.ble b.toNat 57 && digsB l
theorem digsB_mem : ∀ {l : List UInt8}, digsB l = true → ∀ b, b ∈ l → 48 ≤ b.toNat ∧ b.toNat ≤ 57
  | [], _, b, h => by simp at h
  | a :: l, hd, b, h => by
    simp only [digsB, Bool.and_eq_true] at hd
    rcases List.mem_cons.1 h with rfl | h
    · exact ⟨Nat.le_of_ble_eq_true hd.1.1, Nat.le_of_ble_eq_true hd.1.2⟩
    · exact digsB_mem hd.2 b h
theorem dec_all : allBelow 256 (fun n => oI (puN false ⟨⟨dec3 n⟩⟩) n && digsB (dec3 n)) = true := by kernel_rfl
theorem puN_dec (v : Int) (hv : 0 ≤ v ∧ v < 256) : puN false (decS v) = some v := by
  have := allBelow_eq dec_all v.toNat (by omega)
  simp only [Bool.and_eq_true] at this
  have := oI_eq this.1
  rw [decS, this]
  congr 1
  omega
theorem dec_mem (v : Int) (hv : 0 ≤ v ∧ v < 256) (b : UInt8) (h : b ∈ (decS v).data.toList) : 48 ≤ b.toNat ∧ b.toNat ≤ 57 := by
  have := allBelow_eq dec_all v.toNat (by omega)
  simp only [Bool.and_eq_true] at this
  exact digsB_mem this.2 b h
theorem hex_mem (v : Int) (hv : 0 ≤ v ∧ v < 65536) (b : UInt8) (h : b ∈ (hexS v).data.toList) : (48 ≤ b.toNat ∧ b.toNat ≤ 57) ∨ (97 ≤ b.toNat ∧ b.toNat ≤ 102) := by
  rw [hexS, strOfNums_data] at h
  obtain ⟨n, hn, rfl⟩ := List.mem_map.1 h
  have := hexL_mem v hv n hn
  simp
  omega
end Go.Proofs.YtopadpgpmkkpgaaDoor
set_option maxRecDepth 100000
namespace Go.Proofs.YtopadpgpmkkpgaaDoor
open Go.SX
/-! ### Numbers put together -/
theorem wrap_mod (x : Int) : IntKind.u64.wrap x = x % 18446744073709551616 := by simp [IntKind.wrap, IntKind.signed, IntKind.bits]
theorem ofInt_toNat (x : Int) (h : 0 ≤ x ∧ x ≤ 18446744073709551615) : (BitVec.ofInt 64 x).toNat = x.toNat := by
  simp only [BitVec.toNat_ofInt]
  omega
theorem orU_add (a b : Int) (j : Nat) (ha : 0 ≤ a ∧ a ≤ 18446744073709551615) (hd : a % 2 ^ j = 0) (hb : 0 ≤ b ∧ b < 2 ^ j) (hab : a + b ≤ 18446744073709551615) : orU a b = a + b := by
  have hb2 : b ≤ 18446744073709551615 := by omega
  unfold orU
  rw [wrap_mod]
  have e : (BitVec.ofInt IntKind.u64.bits a ||| BitVec.ofInt IntKind.u64.bits b).toNat = a.toNat ||| b.toNat := by
    rw [BitVec.toNat_or]
    show (BitVec.ofInt 64 a).toNat ||| (BitVec.ofInt 64 b).toNat = _
    rw [ofInt_toNat a ha, ofInt_toNat b ⟨hb.1, hb2⟩]
  rw [e]
  obtain ⟨q, hq⟩ : ∃ q : Nat, a = q * 2 ^ j := by
    refine ⟨(a / 2 ^ j).toNat, ?_⟩
    have h1 := Int.mul_ediv_add_emod a (2 ^ j)
    have h2 : 0 ≤ a / 2 ^ j := Int.ediv_nonneg ha.1 (Int.le_of_lt (pow_pos' j))
    rw [Int.toNat_of_nonneg h2]
    rw [hd, Int.mul_comm] at h1
    omega
  have hbj : b.toNat < 2 ^ j := by
    have : ((2 ^ j : Nat) : Int) = (2 : Int) ^ j := by simp
    omega
  have ea : a.toNat = q <<< j := by
    rw [hq, Nat.shiftLeft_eq]
    have : ((q * 2 ^ j : Nat) : Int) = (q : Int) * 2 ^ j := by simp
    omega
  rw [ea, ← Nat.shiftLeft_add_eq_or_of_lt hbj, ← ea]
  omega
theorem shlU6 (a : Int) : shlU 65536 a = a * 65536 % 18446744073709551616 := wrap_mod _
theorem shlU4 (a : Int) : shlU 256 a = a * 256 % 18446744073709551616 := wrap_mod _
theorem step6 (a l k : Int) (hl : 0 ≤ l ∧ l ≤ 18446744073709551615) (hk : 0 ≤ k ∧ k < 65536) : stepU true (a, l) k = (a * 65536 % 18446744073709551616 + l / 281474976710656, l * 65536 % 18446744073709551616 + k) := by
  simp only [stepU, if_true, shlU6]
  rw [orU_add _ _ 16 (by omega) (by first | (simp; done) | (simp; omega)) (by first | (simp; done) | (simp; omega)) (by omega), orU_add _ _ 16 (by omega) (by first | (simp; done) | (simp; omega)) (by first | (simp; done) | (simp; omega)) (by omega)]
theorem step4 (a l k : Int) (hl : 0 ≤ l ∧ l ≤ 18446744073709551615) (hk : 0 ≤ k ∧ k < 256) : stepU false (a, l) k = (a * 256 % 18446744073709551616 + l / 72057594037927936, l * 256 % 18446744073709551616 + k) := by
  simp only [stepU, Bool.false_eq_true, if_false, shlU4]
  rw [orU_add _ _ 8 (by omega) (by first | (simp; done) | (simp; omega)) (by first | (simp; done) | (simp; omega)) (by omega), orU_add _ _ 8 (by omega) (by first | (simp; done) | (simp; omega)) (by first | (simp; done) | (simp; omega)) (by omega)]
theorem cand4 (k0 k1 k2 k3 : Int) (h0 : 0 ≤ k0 ∧ k0 < 256) (h1 : 0 ≤ k1 ∧ k1 < 256) (h2 : 0 ≤ k2 ∧ k2 < 256) (h3 : 0 ≤ k3 ∧ k3 < 256) : (candU false [k0, k1, k2, k3]).2 = k0 * 16777216 + k1 * 65536 + k2 * 256 + k3 := by
  simp only [candU, List.foldl_cons, List.foldl_nil]
  rw [step4 _ _ _ (by omega) h0, step4 _ _ _ (by omega) h1, step4 _ _ _ (by omega) h2, step4 _ _ _ (by omega) h3]
  simp only
  omega
theorem cand6 (k0 k1 k2 k3 k4 k5 k6 k7 : Int) (h0 : 0 ≤ k0 ∧ k0 < 65536) (h1 : 0 ≤ k1 ∧ k1 < 65536) (h2 : 0 ≤ k2 ∧ k2 < 65536) (h3 : 0 ≤ k3 ∧ k3 < 65536) (h4 : 0 ≤ k4 ∧ k4 < 65536) (h5 : 0 ≤ k5 ∧ k5 < 65536) (h6 : 0 ≤ k6 ∧ k6 < 65536) (h7 : 0 ≤ k7 ∧ k7 < 65536) :
    candU true [k0, k1, k2, k3, k4, k5, k6, k7] = (k0 * 281474976710656 + k1 * 4294967296 + k2 * 65536 + k3, k4 * 281474976710656 + k5 * 4294967296 + k6 * 65536 + k7) := by
  have s1 : stepU true (0, 0) k0 = (0, k0) := by rw [step6 _ _ _ (by omega) h0]; simp
  have s2 : stepU true (0, k0) k1 = (0, k0 * 65536 + k1) := by
    rw [step6 _ _ _ (by omega) h1, Prod.mk.injEq]; omega
  have s3 : stepU true (0, k0 * 65536 + k1) k2 = (0, k0 * 4294967296 + k1 * 65536 + k2) := by
    rw [step6 _ _ _ (by omega) h2, Prod.mk.injEq]; omega
  have s4 : stepU true (0, k0 * 4294967296 + k1 * 65536 + k2) k3 = (0, k0 * 281474976710656 + k1 * 4294967296 + k2 * 65536 + k3) := by
    rw [step6 _ _ _ (by omega) h3, Prod.mk.injEq]; omega
  have s5 : stepU true (0, k0 * 281474976710656 + k1 * 4294967296 + k2 * 65536 + k3) k4 = (k0, k1 * 281474976710656 + k2 * 4294967296 + k3 * 65536 + k4) := by
    rw [step6 _ _ _ (by omega) h4, Prod.mk.injEq]; omega
  have s6 : stepU true (k0, k1 * 281474976710656 + k2 * 4294967296 + k3 * 65536 + k4) k5 = (k0 * 65536 + k1, k2 * 281474976710656 + k3 * 4294967296 + k4 * 65536 + k5) := by
    rw [step6 _ _ _ (by omega) h5, Prod.mk.injEq]; omega
  have s7 : stepU true (k0 * 65536 + k1, k2 * 281474976710656 + k3 * 4294967296 + k4 * 65536 + k5) k6 = (k0 * 4294967296 + k1 * 65536 + k2, k3 * 281474976710656 + k4 * 4294967296 + k5 * 65536 + k6) := by
    rw [step6 _ _ _ (by omega) h6, Prod.mk.injEq]; omega
  have s8 : stepU true (k0 * 4294967296 + k1 * 65536 + k2, k3 * 281474976710656 + k4 * 4294967296 + k5 * 65536 + k6) k7 = (k0 * 281474976710656 + k1 * 4294967296 + k2 * 65536 + k3, k4 * 281474976710656 + k5 * 4294967296 + k6 * 65536 + k7) := by
    rw [step6 _ _ _ (by omega) h7, Prod.mk.injEq]; omega
  simp only [candU, List.foldl_cons, List.foldl_nil]
  rw [s1, s2, s3, s4, s5, s6, s7, s8]

/-! ### What acl.Parse answers -/
def optL : List (Option Int) → Option (List Int)
  | [] => some []
  | o :: r => match o, optL r with
    | some k, some l => some (k :: l)
    | _, _ => none
def hiU (v6 : Bool) (ks : List Int) : Int := if v6 then (candU true ks).1 else 0
def parseV (s : ByteArray) : Value :=
  if (parts (has58 s) s).length = many (has58 s) then match optL ((parts (has58 s) s).map (puN (has58 s))) with
    | some ks => if addrText (has58 s) (hiU (has58 s) ks) (candU (has58 s) ks).2 = s then addrV (has58 s) (hiU (has58 s) ks) (candU (has58 s) ks).2 else noV
    | none => noV
  else noV
theorem list8 {α : Type} {l : List α} (h : l.length = 8) : ∃ a0 a1 a2 a3 a4 a5 a6 a7, l = [a0, a1, a2, a3, a4, a5, a6, a7] := by
  match l, h with
  | [a0, a1, a2, a3, a4, a5, a6, a7], _ => exact ⟨_, _, _, _, _, _, _, _, rfl⟩
theorem list4 {α : Type} {l : List α} (h : l.length = 4) : ∃ a0 a1 a2 a3, l = [a0, a1, a2, a3] := by
  match l, h with
  | [a0, a1, a2, a3], _ => exact ⟨_, _, _, _, rfl⟩
theorem splitC_size (c : UInt8) : ∀ (l x : List UInt8), x ∈ splitC c l → x.length ≤ l.length
  | [], x, h => by simp [splitC] at h; subst h; simp
  | b :: l, x, h => by
    simp only [splitC] at h
    split at h
    · rcases List.mem_cons.1 h with rfl | h
      · simp
      · have := splitC_size c l x h
        simp; omega
    · split at h
      · rename_i e
        rcases List.mem_cons.1 h with rfl | h
        · simp
        · simp at h
      · rename_i y r e
        rcases List.mem_cons.1 h with rfl | h
        · have := splitC_size c l y (by rw [e]; simp)
          simp; omega
        · have := splitC_size c l x (by rw [e]; exact List.mem_cons_of_mem _ h)
          simp; omega
theorem part_size (v6 : Bool) (s p : ByteArray) (h : p ∈ parts v6 s) : p.size ≤ s.size := by
  have h1 : p.data.toList ∈ (parts v6 s).map (·.data.toList) := List.mem_map_of_mem h
  rw [parts_data] at h1
  have := splitC_size _ _ _ h1
  rw [Lib.size_eq, Lib.size_eq]
  exact this
end Go.Proofs.YtopadpgpmkkpgaaDoor
set_option maxRecDepth 100000
namespace Go.Proofs.YtopadpgpmkkpgaaDoor
open Go.SX
theorem right4 (ks : Int) (h : 0 ≤ ks ∧ ks < 4294967296) : rightM false 0 ks = true := by
  simp [rightM]
  omega
theorem parse_ret (s : ByteArray) (hs : s.size < 4294967281) {u2 v2 u3 v3} (w : World) (hI : IP u2 v2 u3 v3 w) : Ret Tryd.prog 14 [.string s] w (parseV s) := by
  unfold parseV
  obtain ⟨v6, hv⟩ : ∃ v6, has58 s = v6 := ⟨_, rfl⟩
  rw [hv]
  by_cases hn : (parts v6 s).length = many v6
  case neg =>
    rw [if_neg hn]
    exact parse_many s hs w hI v6 hv hn
  rw [if_pos hn]
  have h27 : ∀ w, Ret Tryd.prog 27 [.string s, .string ⟨#[58]⟩] w (.bool v6) := fun w => hv ▸ has_ret s w
  have hsz : ∀ p, p ∈ parts v6 s → p.size < 4294967281 := fun p hp => by
    have := part_size v6 s p hp
    omega
  have hc : v6 = true ∨ v6 = false := by cases v6 <;> simp
  rcases hc with rfl | rfl
  · obtain ⟨p0, p1, p2, p3, p4, p5, p6, p7, hps⟩ := list8 hn
    have h28 := fun w hw => split_row true s hs _ hps w hw
    rw [hps] at hsz ⊢
    clear hn hps
    simp only [List.map_cons, List.map_nil]
    rcases part_cases true p0 (hsz p0 (by simp)) with ⟨k0, e0, a0, b0, g0⟩ | ⟨e0, x, g0⟩
    rotate_left
    · simp only [e0, optL]
      exact parse6_0 s w hI p0 p1 p2 p3 p4 p5 p6 p7 h27 h28 x (fun w hw => g0 _ _ _ _ w hw)
    rcases part_cases true p1 (hsz p1 (by simp)) with ⟨k1, e1, a1, b1, g1⟩ | ⟨e1, x, g1⟩
    rotate_left
    · simp only [e0, e1, optL]
      exact parse6_1 s w hI p0 p1 p2 p3 p4 p5 p6 p7 h27 h28 k0 g0 x (fun w hw => g1 _ _ _ _ w hw)
    rcases part_cases true p2 (hsz p2 (by simp)) with ⟨k2, e2, a2, b2, g2⟩ | ⟨e2, x, g2⟩
    rotate_left
    · simp only [e0, e1, e2, optL]
      exact parse6_2 s w hI p0 p1 p2 p3 p4 p5 p6 p7 h27 h28 k0 k1 g0 g1 x (fun w hw => g2 _ _ _ _ w hw)
    rcases part_cases true p3 (hsz p3 (by simp)) with ⟨k3, e3, a3, b3, g3⟩ | ⟨e3, x, g3⟩
    rotate_left
    · simp only [e0, e1, e2, e3, optL]
      exact parse6_3 s w hI p0 p1 p2 p3 p4 p5 p6 p7 h27 h28 k0 k1 k2 g0 g1 g2 x (fun w hw => g3 _ _ _ _ w hw)
    rcases part_cases true p4 (hsz p4 (by simp)) with ⟨k4, e4, a4, b4, g4⟩ | ⟨e4, x, g4⟩
    rotate_left
    · simp only [e0, e1, e2, e3, e4, optL]
      exact parse6_4 s w hI p0 p1 p2 p3 p4 p5 p6 p7 h27 h28 k0 k1 k2 k3 g0 g1 g2 g3 x (fun w hw => g4 _ _ _ _ w hw)
    rcases part_cases true p5 (hsz p5 (by simp)) with ⟨k5, e5, a5, b5, g5⟩ | ⟨e5, x, g5⟩
    rotate_left
    · simp only [e0, e1, e2, e3, e4, e5, optL]
      exact parse6_5 s w hI p0 p1 p2 p3 p4 p5 p6 p7 h27 h28 k0 k1 k2 k3 k4 g0 g1 g2 g3 g4 x (fun w hw => g5 _ _ _ _ w hw)
    rcases part_cases true p6 (hsz p6 (by simp)) with ⟨k6, e6, a6, b6, g6⟩ | ⟨e6, x, g6⟩
    rotate_left
    · simp only [e0, e1, e2, e3, e4, e5, e6, optL]
      exact parse6_6 s w hI p0 p1 p2 p3 p4 p5 p6 p7 h27 h28 k0 k1 k2 k3 k4 k5 g0 g1 g2 g3 g4 g5 x (fun w hw => g6 _ _ _ _ w hw)
    rcases part_cases true p7 (hsz p7 (by simp)) with ⟨k7, e7, a7, b7, g7⟩ | ⟨e7, x, g7⟩
    rotate_left
    · simp only [e0, e1, e2, e3, e4, e5, e6, e7, optL]
      exact parse6_7 s w hI p0 p1 p2 p3 p4 p5 p6 p7 h27 h28 k0 k1 k2 k3 k4 k5 k6 g0 g1 g2 g3 g4 g5 g6 x (fun w hw => g7 _ _ _ _ w hw)
    simp only [e0, e1, e2, e3, e4, e5, e6, e7, optL]
    refine parse6_8 s w hI p0 p1 p2 p3 p4 p5 p6 p7 h27 h28 k0 k1 k2 k3 k4 k5 k6 k7 g0 g1 g2 g3 g4 g5 g6 g7 fun w hw => ?_
    have := text_ret true (candU true [k0, k1, k2, k3, k4, k5, k6, k7]).1 (candU true [k0, k1, k2, k3, k4, k5, k6, k7]).2 w hw (orU_range _ _) (orU_range _ _)
    simpa [textV, rightM] using this
  · obtain ⟨p0, p1, p2, p3, hps⟩ := list4 hn
    have h28 := fun w hw => split_row false s hs _ hps w hw
    rw [hps] at hsz ⊢
    clear hn hps
    simp only [List.map_cons, List.map_nil]
    rcases part_cases false p0 (hsz p0 (by simp)) with ⟨k0, e0, a0, b0, g0⟩ | ⟨e0, x, g0⟩
    rotate_left
    · simp only [e0, optL]
      exact parse4_0 s w hI p0 p1 p2 p3 h27 h28 x (fun w hw => g0 _ _ _ _ w hw)
    rcases part_cases false p1 (hsz p1 (by simp)) with ⟨k1, e1, a1, b1, g1⟩ | ⟨e1, x, g1⟩
    rotate_left
    · simp only [e0, e1, optL]
      exact parse4_1 s w hI p0 p1 p2 p3 h27 h28 k0 g0 x (fun w hw => g1 _ _ _ _ w hw)
    rcases part_cases false p2 (hsz p2 (by simp)) with ⟨k2, e2, a2, b2, g2⟩ | ⟨e2, x, g2⟩
    rotate_left
    · simp only [e0, e1, e2, optL]
      exact parse4_2 s w hI p0 p1 p2 p3 h27 h28 k0 k1 g0 g1 x (fun w hw => g2 _ _ _ _ w hw)
    rcases part_cases false p3 (hsz p3 (by simp)) with ⟨k3, e3, a3, b3, g3⟩ | ⟨e3, x, g3⟩
    rotate_left
    · simp only [e0, e1, e2, e3, optL]
      exact parse4_3 s w hI p0 p1 p2 p3 h27 h28 k0 k1 k2 g0 g1 g2 x (fun w hw => g3 _ _ _ _ w hw)
    simp only [e0, e1, e2, e3, optL]
    refine parse4_4 s w hI p0 p1 p2 p3 h27 h28 k0 k1 k2 k3 g0 g1 g2 g3 fun w hw => ?_
    simp only [pmax, Bool.false_eq_true, if_false] at b0 b1 b2 b3
    have hlo := cand4 k0 k1 k2 k3 (by omega) (by omega) (by omega) (by omega)
    have := text_ret false 0 (candU false [k0, k1, k2, k3]).2 w hw (by omega) (orU_range _ _)
    unfold textV at this
    rwa [right4 _ (by rw [hlo]; omega), if_pos rfl] at this
/-! ### Text and back -/
theorem optL_some : ∀ (l : List Int), optL (l.map some) = some l
  | [] => rfl
  | k :: l => by simp [optL, optL_some l]
theorem addr_data (v6 : Bool) (hi lo : Int) : (addrText v6 hi lo).data.toList = Lib.join ((partsS v6 hi lo).map (·.data.toList)) [sepC v6] := by
  have e : (sepS v6).data.toList = [sepC v6] := by cases v6 <;> rfl
  unfold addrText
  rw [e]
theorem parts_mem (v6 : Bool) (hi lo : Int) (x : List UInt8) (h : x ∈ (partsS v6 hi lo).map (·.data.toList)) (b : UInt8) (hb : b ∈ x) : (48 ≤ b.toNat ∧ b.toNat ≤ 57) ∨ (v6 = true ∧ 97 ≤ b.toNat ∧ b.toNat ≤ 102) := by
  obtain ⟨y, hy, rfl⟩ := List.mem_map.1 h
  unfold partsS at hy
  cases v6
  · obtain ⟨z, hz, rfl⟩ := List.mem_map.1 hy
    refine .inl (dec_mem z ?_ b hb)
    simp [grp4] at hz
    omega
  · obtain ⟨z, hz, rfl⟩ := List.mem_map.1 hy
    have := hex_mem z (by simp [grp6] at hz; omega) b hb
    rcases this with h | h
    · exact .inl h
    · exact .inr ⟨rfl, h⟩
theorem sep_not (v6 w6 : Bool) (hi lo : Int) (x : List UInt8) (h : x ∈ (partsS v6 hi lo).map (·.data.toList)) : sepC w6 ∉ x := by
  intro hb
  have := parts_mem v6 hi lo x h _ hb
  cases w6 <;> simp [sepC] at this
theorem parts_ne (v6 : Bool) (hi lo : Int) : (partsS v6 hi lo).map (·.data.toList) ≠ [] := by cases v6 <;> simp [partsS, grp4, grp6]
theorem map_data_inj : ∀ {l r : List ByteArray}, l.map (·.data.toList) = r.map (·.data.toList) → l = r
  | [], [], _ => rfl
  | [], _ :: _, h => by simp at h
  | _ :: _, [], h => by simp at h
  | a :: l, b :: r, h => by
    simp only [List.map_cons, List.cons.injEq] at h
    obtain ⟨h1, h2⟩ := h
    have : a = b := by
      obtain ⟨⟨x⟩⟩ := a
      obtain ⟨⟨y⟩⟩ := b
      simpa using h1
    rw [this, map_data_inj h2]
theorem parts_text (v6 : Bool) (hi lo : Int) : parts v6 (addrText v6 hi lo) = partsS v6 hi lo := by
  apply map_data_inj
  rw [parts_data, addr_data]
  exact split_join _ _ (parts_ne v6 hi lo) fun x hx => sep_not v6 v6 hi lo x hx
theorem join_mem (c b : UInt8) : ∀ (xs : List (List UInt8)), b ∈ Lib.join xs [c] → b = c ∨ ∃ x, x ∈ xs ∧ b ∈ x := by
  have tail : ∀ r : List (List UInt8), b ∈ Lib.joinTail [c] r → b = c ∨ ∃ x, x ∈ r ∧ b ∈ x := by
    intro r
    induction r with
    | nil => intro h; simp [Lib.joinTail] at h
    | cons x r ih =>
      intro h
      have e : Lib.joinTail [c] (x :: r) = c :: (x ++ Lib.joinTail [c] r) := by simp [Lib.joinTail]
      rw [e] at h
      rcases List.mem_cons.1 h with h | h
      · exact .inl h
      · rcases List.mem_append.1 h with h | h
        · exact .inr ⟨x, by simp, h⟩
        · rcases ih h with h | ⟨y, h1, h2⟩
          · exact .inl h
          · exact .inr ⟨y, List.mem_cons_of_mem _ h1, h2⟩
  intro xs h
  cases xs with
  | nil => simp [Lib.join_nil] at h
  | cons x r =>
    rw [Lib.join_cons] at h
    rcases List.mem_append.1 h with h | h
    · exact .inr ⟨x, by simp, h⟩
    · rcases tail r h with h | ⟨y, h1, h2⟩
      · exact .inl h
      · exact .inr ⟨y, List.mem_cons_of_mem _ h1, h2⟩
theorem has_text (v6 : Bool) (hi lo : Int) : has58 (addrText v6 hi lo) = v6 := by
  unfold has58
  have e : decide (0 ≤ Lib.indexByte (addrText v6 hi lo).data.toList 58) = decide ((58 : UInt8) ∈ (addrText v6 hi lo).data.toList) := by
    rw [Bool.eq_iff_iff]
    simp only [decide_eq_true_eq]
    exact index_iff _ _
  rw [e, addr_data]
  cases v6
  · rw [decide_eq_false]
    intro h
    rcases join_mem _ _ _ h with h | ⟨x, h1, h2⟩
    · exact absurd h (by decide)
    · exact sep_not false true hi lo x h1 h2
  · rw [decide_eq_true]
    have : (partsS true hi lo).map (·.data.toList) = (hexS (hi / 281474976710656 % 65536)).data.toList :: (hexS (hi / 4294967296 % 65536)).data.toList :: ((partsS true hi lo).map (·.data.toList)).drop 2 := by simp [partsS, grp6]
    rw [this, Lib.join_cons]
    refine List.mem_append_right _ ?_
    simp [Lib.joinTail, sepC]
/-- What is told is read back. -/
theorem parse_text (v6 : Bool) (hi lo : Int) (hh : 0 ≤ hi ∧ hi ≤ 18446744073709551615) (hl : 0 ≤ lo ∧ lo ≤ 18446744073709551615) (hr : rightM v6 hi lo = true) : parseV (addrText v6 hi lo) = addrV v6 hi lo := by
  unfold parseV
  rw [has_text, parts_text]
  cases v6
  · have hlo := right_lo hl.1 hr
    have hhi : hi = 0 := by simp [rightM] at hr; omega
    have e : (partsS false hi lo).map (puN false) = [lo / 16777216 % 256, lo / 65536 % 256, lo / 256 % 256, lo / 1 % 256].map some := by
      simp only [partsS, Bool.false_eq_true, if_false, grp4, List.map_cons, List.map_nil]
      rw [puN_dec _ (by omega), puN_dec _ (by omega), puN_dec _ (by omega), puN_dec _ (by omega)]
    have hc := cand4 (lo / 16777216 % 256) (lo / 65536 % 256) (lo / 256 % 256) (lo / 1 % 256) (by omega) (by omega) (by omega) (by omega)
    have hc2 : (candU false [lo / 16777216 % 256, lo / 65536 % 256, lo / 256 % 256, lo / 1 % 256]).2 = lo := by rw [hc]; omega
    rw [if_pos (by simp [partsS, grp4, many]), e, optL_some]
    simp only [hiU, Bool.false_eq_true, if_false, hc2]
    rw [hhi, if_pos rfl]
  · have e : (partsS true hi lo).map (puN true) = (grp6 hi lo).map some := by
      simp only [partsS, if_true, grp6, List.map_cons, List.map_nil]
      rw [puN_hex _ (by omega), puN_hex _ (by omega), puN_hex _ (by omega), puN_hex _ (by omega), puN_hex _ (by omega), puN_hex _ (by omega), puN_hex _ (by omega), puN_hex _ (by omega)]
    have hc : candU true (grp6 hi lo) = (hi, lo) := by
      unfold grp6
      rw [cand6 _ _ _ _ _ _ _ _ (by omega) (by omega) (by omega) (by omega) (by omega) (by omega) (by omega) (by omega), Prod.mk.injEq]
      omega
    rw [if_pos (by simp [partsS, grp6, many]), e, optL_some]
    simp only [hiU, if_true, hc]
theorem cand_range (v6 : Bool) (ks : List Int) : (0 ≤ (candU v6 ks).1 ∧ (candU v6 ks).1 ≤ 18446744073709551615) ∧ (0 ≤ (candU v6 ks).2 ∧ (candU v6 ks).2 ≤ 18446744073709551615) := by
  have key : ∀ (ks : List Int) (a : Int × Int), ((0 ≤ a.1 ∧ a.1 ≤ 18446744073709551615) ∧ (0 ≤ a.2 ∧ a.2 ≤ 18446744073709551615)) → ((0 ≤ (ks.foldl (stepU v6) a).1 ∧ (ks.foldl (stepU v6) a).1 ≤ 18446744073709551615) ∧ (0 ≤ (ks.foldl (stepU v6) a).2 ∧ (ks.foldl (stepU v6) a).2 ≤ 18446744073709551615)) := by
    intro ks
    induction ks with
    | nil => intro a h; exact h
    | cons k ks ih =>
      intro a _
      rw [List.foldl_cons]
      refine ih _ ?_
      unfold stepU
      cases v6
      · exact ⟨orU_range _ _, orU_range _ _⟩
      · exact ⟨orU_range _ _, orU_range _ _⟩
  exact key ks (0, 0) (by simp)
theorem puN_range (v6 : Bool) (p : ByteArray) (k : Int) (h : puN v6 p = some k) : 0 ≤ k ∧ k ≤ pmax v6 := by
  unfold puN at h
  split at h
  · cases h
  · rcases puR_of (pbase v6) (pmax v6) (by cases v6 <;> decide) (by cases v6 <;> decide) (sInts p) 0 (by omega) (by cases v6 <;> decide) with ⟨k', h1, h2, h3, _⟩ | ⟨h1, _⟩
    · rw [h1] at h
      cases h
      exact ⟨h2, h3⟩
    · rw [h1] at h
      cases h
theorem optL_len : ∀ {l : List ByteArray} {f : ByteArray → Option Int} {ks : List Int}, optL (l.map f) = some ks → ks.length = l.length ∧ ∀ k, k ∈ ks → ∃ p, f p = some k
  | [], f, ks, h => by
    simp only [List.map_nil, optL, Option.some.injEq] at h
    subst h
    exact ⟨rfl, fun k hk => by simp at hk⟩
  | p :: l, f, ks, h => by
    simp only [List.map_cons, optL] at h
    split at h
    · rename_i k r h1 h2
      cases h
      obtain ⟨g1, g2⟩ := optL_len h2
      refine ⟨by simp [g1], fun k' hk' => ?_⟩
      rcases List.mem_cons.1 hk' with rfl | hk'
      · exact ⟨p, h1⟩
      · exact g2 k' hk'
    · cases h
/-- What is read is told as it was. -/
theorem parse_cases (s : ByteArray) : parseV s = noV ∨ ∃ v6 hi lo, parseV s = addrV v6 hi lo ∧ (0 ≤ hi ∧ hi ≤ 18446744073709551615) ∧ (0 ≤ lo ∧ lo ≤ 18446744073709551615) ∧ rightM v6 hi lo = true ∧ addrText v6 hi lo = s := by
  unfold parseV
  split
  · rename_i hn
    split
    · rename_i ks hks
      split
      · rename_i ht
        refine .inr ⟨has58 s, _, _, rfl, ?_, ?_, ?_, ht⟩
        · unfold hiU
          split
          · exact (cand_range _ _).1
          · omega
        · exact (cand_range _ _).2
        · obtain ⟨g1, g2⟩ := optL_len hks
          revert hn hks ht g1 g2
          cases has58 s
          · intro hn hks ht g1 g2
            have hl : ks.length = 4 := by rw [g1, hn]; rfl
            obtain ⟨k0, k1, k2, k3, rfl⟩ := list4 hl
            have r : ∀ k, k ∈ [k0, k1, k2, k3] → 0 ≤ k ∧ k < 256 := fun k hk => by
              obtain ⟨p, hp⟩ := g2 k hk
              have := puN_range false p k hp
              simp [pmax] at this
              omega
            have r0 := r k0 (by simp)
            have r1 := r k1 (by simp)
            have r2 := r k2 (by simp)
            have r3 := r k3 (by simp)
            have hlo := cand4 k0 k1 k2 k3 r0 r1 r2 r3
            exact right4 _ (by rw [hlo]; omega)
          · intro _ _ _ _ _
            simp [rightM]
      · exact .inl rfl
    · exact .inl rfl
  · exact .inl rfl
end Go.Proofs.YtopadpgpmkkpgaaDoor
set_option maxRecDepth 100000
namespace Go.Proofs.YtopadpgpmkkpgaaDoor
open Go.SX
theorem text_size (v6 : Bool) (hi lo : Int) : (addrText v6 hi lo).size ≤ 40 := by
  have h := join_le (sepS v6).data.toList (by cases v6 <;> simp [sepS]) 4 ((partsS v6 hi lo).map (·.data.toList)) (by
    intro x hx
    obtain ⟨y, hy, rfl⟩ := List.mem_map.1 hx
    unfold partsS at hy
    cases v6
    · obtain ⟨z, _, rfl⟩ := List.mem_map.1 hy
      exact decS_len z
    · obtain ⟨z, _, rfl⟩ := List.mem_map.1 hy
      exact hexS_len z)
  have h2 : ((partsS v6 hi lo).map (·.data.toList)).length ≤ 8 := by cases v6 <;> simp [partsS, grp4, grp6]
  have h3 := Nat.mul_le_mul_left 5 h2
  rw [Lib.size_eq]
  show (Lib.join ((partsS v6 hi lo).map (·.data.toList)) (sepS v6).data.toList).length ≤ 40
  omega
set_option maxHeartbeats 4000000 in
theorem back_ret (v6 : Bool) (hi lo : Int) (text : ByteArray) (hs : text.size < 4294967281) {u2 v2 u3 v3} (w : World) (hI : IP u2 v2 u3 v3 w) (hh : 0 ≤ hi ∧ hi ≤ 18446744073709551615) (hl : 0 ≤ lo ∧ lo ≤ 18446744073709551615) :
    Ret Tryd.prog 4 [.agg #[.bool v6, .int .u64 hi, .int .u64 lo], .string text] w (.bool true) := by
  have hcase : (∀ w, I13 w → Ret Tryd.prog 13 [.agg #[.bool v6, .int .u64 hi, .int .u64 lo]] w (.tuple #[.string ⟨#[]⟩, .int .i64 1])) ∨
      ((∀ w, I13 w → Ret Tryd.prog 13 [.agg #[.bool v6, .int .u64 hi, .int .u64 lo]] w (.tuple #[.string (addrText v6 hi lo), .int .i64 0])) ∧ (∀ w, IP u2 v2 u3 v3 w → Ret Tryd.prog 14 [.string (addrText v6 hi lo)] w (addrV v6 hi lo))) := by
    by_cases hr : rightM v6 hi lo = true
    · refine .inr ⟨fun w hw => ?_, fun w hw => ?_⟩
      · have := text_ret v6 hi lo w hw hh hl
        unfold textV at this
        rwa [if_pos hr] at this
      · have := parse_ret (addrText v6 hi lo) (by have := text_size v6 hi lo; omega) w hw
        rwa [parse_text v6 hi lo hh hl hr] at this
    · refine .inl fun w hw => ?_
      have := text_ret v6 hi lo w hw hh hl
      unfold textV at this
      rwa [if_neg hr] at this
  have hcase2 : (∀ w, IP u2 v2 u3 v3 w → Ret Tryd.prog 14 [.string text] w noV) ∨ (∃ w6 h2 l2, (∀ w, IP u2 v2 u3 v3 w → Ret Tryd.prog 14 [.string text] w (addrV w6 h2 l2)) ∧ ∀ w, I13 w → Ret Tryd.prog 13 [.agg #[.bool w6, .int .u64 h2, .int .u64 l2]] w (.tuple #[.string text, .int .i64 0])) := by
    rcases parse_cases text with h | ⟨w6, h2, l2, h, g1, g2, g3, g4⟩
    · exact .inl fun w hw => h ▸ parse_ret text hs w hw
    · refine .inr ⟨w6, h2, l2, fun w hw => h ▸ parse_ret text hs w hw, fun w hw => ?_⟩
      have := text_ret w6 h2 l2 w hw g1 g2
      unfold textV at this
      rwa [if_pos g3, g4] at this
  rcases hcase with h13 | ⟨h13, h14⟩ <;> rcases hcase2 with k14 | ⟨w6, h2, l2, k14, k13⟩
  all_goals refine Ret.tj (I := IP u2 v2 u3 v3) (fun w' hm => hI.mod hm) (TTok 0 _) Tryd.func4 (by kernel_rfl) rfl ?_
  all_goals repeat' (
    (conv => whnf)
    first
      | (with_reducible first
          | refine TJ.seq ?_
          | refine TJ.region (TTok _ _) ?_
          | refine TJ.drawn (TTok _ _) mixed ?_
          | refine TJ.cond rfl ?_
          | refine TJ.block ?_
          | refine TJ.loop ?_
          | refine LJ.step ?_
          | refine TJ.ret ?_
          | refine TJ.exit ?_
          | refine TJ.skip ?_
          | refine TJ.scope ?_
          | refine TJ.label ?_
          | refine Br.cond_t ?_
          | refine Br.cond_f ?_
          | refine Br.yes (by first | decide | assumption | (apply decide_eq_true; omega)) ?_
          | refine Br.non (by first | decide | assumption | (apply decide_eq_false; omega)) ?_
          | refine Br.cond_ff ?_
          | refine Br.eqT (by omega) ?_
          | refine Br.eqF (by omega) ?_
          | refine Br.neT (by omega) ?_
          | refine Br.neF (by omega) ?_
          | refine Ld.mk' _ rfl ?_
          | refine Need.mk (by first | decide | omega | kernel_rfl) ?_
          | refine Nm.i64 (by omega) ?_
          | refine Nm.u64 (by omega) ?_
          | refine Nm.u8 (by omega) ?_
          | refine x_ret (f := 8) rfl rfl (fun w hw => examples_ret hw.t) ?_
          | refine x_ret (f := 13) rfl rfl (fun w hw => h13 w hw.t) ?_)
      | refine x_ret (f := 14) rfl rfl (fun w hw => h14 w hw) ?_
      | refine x_ret (f := 14) rfl rfl (fun w hw => k14 w hw) ?_
      | refine x_ret (f := 13) rfl rfl (fun w hw => k13 w hw.t) ?_
      | refine x_exq (TTok _ _) ?_
      | refine Br.non (by simp [eqR]) ?_
      | refine Br.yes (by simp [eqR]) ?_)
  all_goals (conv => whnf)
  all_goals first | rfl | simp [val]
end Go.Proofs.YtopadpgpmkkpgaaDoor
set_option maxRecDepth 100000
namespace Go.Proofs.YtopadpgpmkkpgaaDoor
open Go.SX
theorem law_ret (v6 : Bool) (hi lo bits : Int) (av6 : Bool) (ahi alo : Int) (w : World) (hI : I13 w) (hh : 0 ≤ hi ∧ hi ≤ 18446744073709551615) (hl : 0 ≤ lo ∧ lo ≤ 18446744073709551615) (ah : 0 ≤ ahi ∧ ahi ≤ 18446744073709551615) (al : 0 ≤ alo ∧ alo ≤ 18446744073709551615) :
    Ret Tryd.prog 6 [.agg #[.bool v6, .int .u64 hi, .int .u64 lo, .int .i64 bits], .agg #[.bool av6, .int .u64 ahi, .int .u64 alo]] w (.bool true) := by
  obtain ⟨b, hb⟩ := both_hold v6 hi lo bits av6 ahi alo hh hl ah al
  refine Ret.of (I := I13) (fun w' hm => hI.mod hm) (TTok 0 _) Tryd.func6 (by kernel_rfl) rfl rfl ?_
  repeat' ((conv => whnf); with_reducible first
    | refine TR.seq ?_ | refine TR.region (TTok 0 _) ?_ | refine Ld.mk' _ rfl ?_ | refine TR.ret ?_ | refine TR.drawn (TTok 0 _) mixed ?_
    | refine TR.cond_true rfl ?_ | refine TR.cond_false rfl ?_ | refine TR.cond rfl (fun hc => ?_) (fun hc => ?_) | refine TR.skip ?_ | refine Need.mk' (by kernel_rfl) (fun _ => ?_)
    | refine Br.tt ?_ | refine Br.mk (fun _ => ?_) (fun _ => ?_) | refine x_ret (f := 8) rfl rfl (fun w hw => examples_ret hw) ?_ | refine x_ret (f := 16) rfl rfl (fun w _ => (hb w).2) ?_ | refine x_ret (f := 17) rfl rfl (fun w _ => (hb w).1) ?_ | refine TR.block ?_)
  all_goals (conv => whnf)
  all_goals simp_all [val, eqR]
end Go.Proofs.YtopadpgpmkkpgaaDoor
set_option maxRecDepth 100000
namespace Go.Proofs.YtopadpgpmkkpgaaDoor
open Go.SX
def tab0 : List Int := [1, 10, 100, 1000, 10000, 100000, 1000000, 10000000, 100000000, 1000000000, 10000000000, 100000000000, 1000000000000, 10000000000000, 100000000000000, 1000000000000000, 10000000000000000, 100000000000000000, 1000000000000000000, 10000000000000000000]
def tab5 : List Int := [0, 1, 56, 2, 57, 49, 28, 3, 61, 58, 42, 50, 38, 29, 17, 4, 62, 47, 59, 36, 45, 43, 51, 22, 53, 39, 33, 30, 24, 18, 12, 5, 63, 55, 48, 27, 60, 41, 37, 16, 46, 35, 44, 21, 52, 32, 23, 11, 54, 26, 40, 15, 34, 20, 31, 10, 25, 14, 19, 9, 13, 8, 7, 6]
theorem I13_of {l : List (String × DataW Unit)} {W : World} (h : laidMet Tryd.prog l W) (hm : ("internal/strconv.uint64pow10", Lib.tabData .u64 tab0) ∈ l) (hm5 : ("math/bits.deBruijn64tab", Lib.tabData .u8 tab5) ∈ l) : I13 W := by
  intro g cells hg
  unfold GG at hg
  split at hg
  · cases hg
    exact laid_tab h hm (t := 109) (e := 30) (n := 20) (by kernel_rfl) (by kernel_rfl) Tryd.underlying109 Tryd.underlying30 (by kernel_rfl) (by kernel_rfl)
  · cases hg
    exact laid_tab h hm5 (t := 132) (e := 5) (n := 64) (by kernel_rfl) (by kernel_rfl) Tryd.underlying132 Tryd.underlying5 (by kernel_rfl) (by kernel_rfl)
  · cases hg
theorem fit_addr {W : World} {B : Nat} {v : Value} (h : FitV TT W B 32 v) : ∃ (v6 : Bool) (hi lo : Int), v = .agg #[.bool v6, .int .u64 hi, .int .u64 lo] ∧ (0 ≤ hi ∧ hi ≤ 18446744073709551615) ∧ (0 ≤ lo ∧ lo ≤ 18446744073709551615) := by
  obtain ⟨cs, hf, rfl⟩ := h
  obtain ⟨hl, h1, h2, h3, _⟩ := hf
  match cs, hl with
  | [a, b, c], _ =>
    obtain ⟨v6, e1⟩ := h1
    obtain ⟨hi, e2, r2⟩ := h2
    obtain ⟨lo, e3, r3⟩ := h3
    simp at e1 e2 e3
    subst e1 e2 e3
    exact ⟨v6, hi, lo, rfl, bounds_u64 r2, bounds_u64 r3⟩
theorem fit_prefix {W : World} {B : Nat} {v : Value} (h : FitV TT W B 34 v) : ∃ (v6 : Bool) (hi lo bits : Int), v = .agg #[.bool v6, .int .u64 hi, .int .u64 lo, .int .i64 bits] ∧ (0 ≤ hi ∧ hi ≤ 18446744073709551615) ∧ (0 ≤ lo ∧ lo ≤ 18446744073709551615) ∧ (-9223372036854775808 ≤ bits ∧ bits ≤ 9223372036854775807) := by
  obtain ⟨cs, hf, rfl⟩ := h
  obtain ⟨hl, h1, h2, _⟩ := hf
  match cs, hl with
  | [a, b, c, d], _ =>
    obtain ⟨_, g1, g2, g3, _⟩ := h1
    obtain ⟨v6, e1⟩ := g1
    obtain ⟨hi, e2, r2⟩ := g2
    obtain ⟨lo, e3, r3⟩ := g3
    obtain ⟨bits, e4, r4⟩ := h2
    simp at e1 e2 e3 e4
    subst e1 e2 e3 e4
    exact ⟨v6, hi, lo, bits, rfl, bounds_u64 r2, bounds_u64 r3, bounds_i64 r4⟩
namespace aclHolds
def inv (W : World) : Prop := I13 W
theorem inv_of {W : World} (h : laidMet Tryd.prog Rows.aclHoldsRow.laid W) (_ : W.ShapedOpen Tryd.prog) : inv W := I13_of h (List.mem_of_getElem? (i := 2) (by kernel_rfl)) (List.mem_of_getElem? (i := 1) (by kernel_rfl))
theorem returns (W : World) (args : Array Value) (hI : inv W) (hF : FitAll TT W maxLen Tryd.f6.params.toList args.toList) : Ret Tryd.prog 6 args.toList W (.bool true) := by
  rw [show Tryd.f6.params.toList = [34, 32] by kernel_rfl] at hF
  generalize args.toList = l at hF
  obtain ⟨p, l, rfl, hp, hF⟩ := fitAll_cons hF
  obtain ⟨a, l, rfl, ha, hF⟩ := fitAll_cons hF
  obtain rfl := fitAll_nil hF
  obtain ⟨v6, hi, lo, bits, rfl, r1, r2, r3⟩ := fit_prefix hp
  obtain ⟨av6, ahi, alo, rfl, r4, r5⟩ := fit_addr ha
  exact law_ret v6 hi lo bits av6 ahi alo W hI r1 r2 r4 r5
end aclHolds
end Go.Proofs.YtopadpgpmkkpgaaDoor
set_option maxRecDepth 100000
namespace Go.Proofs.YtopadpgpmkkpgaaDoor
open Go.SX
/-- A listed variable of an interface's type holds a value that is not nil. -/
theorem laid_ifc {P : Program} {l : List (String × DataW Unit)} {W : World} {name n : String} {d : DataW Unit} {g : Nat} {t : TypeId} {ms : Array (String × TypeId)} (h : laidMet P l W) (hm : (name, DataW.iface n d) ∈ l)
    (hg : P.globalNamed name = some g) (hty : (P.globals[g]?).map (·.type) = some t) (ht : P.underlying t = some (.interface ms)) : ∃ u v, W.cell? ⟨g, 0, none⟩ = some (.iface u v) := by
  obtain ⟨ps, hl, _⟩ := h
  obtain ⟨g', t', cs, fuel, p, hg', ht', hvar, hd⟩ := laidVars_mem hl _ _ hm
  obtain rfl := Option.some.inj (hg.symm.trans hg')
  obtain rfl := Option.some.inj (hty.symm.trans ht')
  have hc : ∃ u v, cs.toList = [.iface u v] := by
    cases fuel with
    | zero => simp [DataW.trod] at hd
    | succ m =>
      unfold DataW.trod at hd
      rw [ht] at hd
      split at hd <;> simp_all
  obtain ⟨u, v, hc⟩ := hc
  refine ⟨u, v, ?_⟩
  have := World.var?_cell hg hvar 0
  rw [this]
  have e : cs[0]? = cs.toList[0]? := by simp
  rw [e, hc]
  rfl
namespace aclBack
def inv (W : World) : Prop := ∃ u2 v2 u3 v3, IP u2 v2 u3 v3 W
theorem inv_of {W : World} (h : laidMet Tryd.prog Rows.aclBackUptoRow.laid W) (hs : W.ShapedOpen Tryd.prog) : inv W := by
  have h1 : I13 W := I13_of h (List.mem_of_getElem? (i := 2) (by kernel_rfl)) (List.mem_of_getElem? (i := 1) (by kernel_rfl))
  obtain ⟨u3, v3, h3⟩ := laid_ifc h (List.mem_of_getElem? (i := 4) rfl) (by kernel_rfl) (by kernel_rfl) Tryd.underlying74
  obtain ⟨u2, v2, h2⟩ := laid_ifc h (List.mem_of_getElem? (i := 5) rfl) (by kernel_rfl) (by kernel_rfl) Tryd.underlying74
  exact ⟨u2, v2, u3, v3, h1, ⟨h2, h3⟩, Tryd.laysM146.s1_3 W hs⟩
theorem returns (W : World) (args : Array Value) (hI : inv W) (hF : FitAll TT W 1048576 Tryd.f4.params.toList args.toList) : Ret Tryd.prog 4 args.toList W (.bool true) := by
  obtain ⟨u2, v2, u3, v3, hI⟩ := hI
  rw [show Tryd.f4.params.toList = [32, 9] by kernel_rfl] at hF
  generalize args.toList = l at hF
  obtain ⟨a, l, rfl, ha, hF⟩ := fitAll_cons hF
  obtain ⟨t, l, rfl, ht, hF⟩ := fitAll_cons hF
  obtain rfl := fitAll_nil hF
  obtain ⟨v6, hi, lo, rfl, r1, r2⟩ := fit_addr ha
  obtain ⟨s, rfl, hs⟩ := fit_str rfl rfl ht
  exact back_ret v6 hi lo s (by omega) W hI r1 r2
end aclBack
end Go.Proofs.YtopadpgpmkkpgaaDoor
