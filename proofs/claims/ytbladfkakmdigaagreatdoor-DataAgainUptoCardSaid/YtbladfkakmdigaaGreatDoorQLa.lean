/-
  What the laws of these data stand on: contracts of functions, and plain laws.
-/
import Derived.Test.YtbladfkakmdigaaGreatDoorQXa
import Derived.Test.YtbladfkakmdigaaGreatDoorQXb
import Derived.Test.YtbladfkakmdigaaGreatDoorQXc
import Derived.Test.YtbladfkakmdigaaGreatDoorQXd
import Derived.Test.YtbladfkakmdigaaGreatDoorQBa
import Derived.Test.YtbladfkakmdigaaGreatDoorQFa
import Derived.Test.YtbladfkakmdigaaGreatDoorQQa
import Derived.Test.YtbladfkakmdigaaGreatDoorQAa
set_option linter.unusedVariables false
set_option linter.unusedSimpArgs false
set_option linter.unnecessarySimpa false
set_option maxRecDepth 100000
set_option linter.unusedVariables false
set_option linter.unusedSimpArgs false
namespace Go.Proofs.YtbladfkakmdigaaGreatDoor
open Go.SX
set_option maxHeartbeats 32000000 in
theorem again_11 {u2 v2 u3 v3} (d : ByteArray) (hs : d.size < 4294967281) (x : ByteArray) (l : List Int) (h5 : nsW d = some (x, l)) (y0 y1 y2 : Int) (y3 y4 : ByteArray) (m : List Int) (h6 : n3W d = some (y0, y1, y2, y3, y4, m)) (w : World) (hI : IC u2 v2 u3 v3 w) : Ret Tryz.prog 9 [.string d] w (.bool true) := by
  obtain ⟨a0, a1, a2, a3, a4, a5, a6, e1, s1, k1, p1, q1, r1⟩ := soa_ag d hs
  obtain ⟨b0, b1, b2, b3, b4, b5, b6, b7, b8, e2, s2, k2, p2, q2, r2⟩ := sig_ag d hs
  obtain ⟨c0, c1, c2, c3, e3, s3, k3, p3, q3, r3⟩ := key_ag d hs
  obtain ⟨d0, d1, d2, d3, e4, s4, k4, p4, q4, r4⟩ := dsr_ag d hs
  obtain ⟨g5, z5⟩ := ns_again h5
  have hl5 := ns_len h5
  have c5 := fun v => Con.inI (I := IC u2 v2 u3 v3) (ofns_con x l v (by omega) (by omega))
  rw [g5] at c5
  unfold rwH at c5
  obtain ⟨g6, z6, z7⟩ := n3_again h6
  have hl6 := n3_len h6
  have c6 := fun v => Con.inI (I := IC u2 v2 u3 v3) (ofn3_con y0 y1 y2 y3 y4 m v (by omega) (by omega) (by omega))
  rw [g6] at c6
  unfold rwH at c6
  have hs1 : True := trivial
  have hs2 : True := trivial
  have hs3 : True := trivial
  have hs4 : True := trivial
  refine Ret.of (I := IC u2 v2 u3 v3) (fun w' hm => hI.mod hm) (TTok 0 _) Tryz.func9 (by kernel_rfl) rfl rfl ?_
  repeat' ((conv => whnf); first | (with_reducible first | refine TR.seq ?_ | refine TR.regionL ?_ | refine TR.drawn (TTok _ _) mixed ?_ | refine TR.block ?_ | refine TR.ret ?_ | refine TR.exit ?_ | refine TR.skip ?_ | refine TR.condB rfl ?_ | refine TRL.nil ?_ | refine Br.cond_t ?_ | refine Br.cond_f ?_ | refine Br.yes (by first | decide | assumption | (apply decide_eq_true; omega)) ?_ | refine Br.non (by first | decide | assumption | (apply decide_eq_false; omega)) ?_ | refine Br.cond_ff ?_ | refine Br.eqT (by omega) ?_ | refine Br.eqF (by omega) ?_ | refine Br.neT (by omega) ?_ | refine Br.neF (by omega) ?_ | refine Ld.mk' _ rfl ?_ | refine Need.mk (by first | decide | omega | kernel_rfl) ?_ | refine Nm.i64 (by omega) ?_ | refine Nm.u64 (by omega) ?_ | refine Nm.u8 (by omega) ?_ | refine Nm.keep ?_ | refine Need.mk (by dsimp only; omega) ?_ | refine x_ret (f := 21) rfl rfl (fun w _ => p1 w) ?_ | refine x_ret (f := 34) rfl rfl (fun w _ => q1 w) ?_ | refine x_ret (f := 23) rfl rfl (fun w _ => p2 w) ?_ | refine x_ret (f := 36) rfl rfl (fun w _ => q2 w) ?_ | refine x_ret (f := 25) rfl rfl (fun w _ => p3 w) ?_ | refine x_ret (f := 38) rfl rfl (fun w _ => q3 w) ?_ | refine x_ret (f := 27) rfl rfl (fun w _ => p4 w) ?_ | refine x_ret (f := 40) rfl rfl (fun w _ => q4 w) ?_ | refine x_ret (f := 14) rfl rfl (fun w hw => examples_ret hw) ?_) | (refine TRL.con [] [53] (Con.inI (ns_some d hs _ h5)) rfl rfl rfl rfl trivial rfl rfl (fun v5 _ => ⟨⟨rfl, trivial⟩, ?_⟩) (fun _ h => h.elim); dsimp only [nsR, n3R, nsA, n3A]) | (refine TRL.con [53] [53] (c5 _) rfl rfl rfl rfl ⟨rfl, trivial⟩ rfl rfl (fun _ _ => ⟨trivial, ?_⟩) (fun _ h => h.elim)) | (refine TRL.con [] [58] (Con.inI (n3_some d hs _ h6)) rfl rfl rfl rfl trivial rfl rfl (fun v6 _ => ⟨⟨rfl, trivial⟩, ?_⟩) (fun _ h => h.elim); dsimp only [nsR, n3R, nsA, n3A]) | (refine TRL.con [58] [58] (c6 _) rfl rfl rfl rfl ⟨rfl, trivial⟩ rfl rfl (fun _ _ => ⟨trivial, ?_⟩) (fun _ h => h.elim)) | refine Br.agn r1 (fun _ => ?_) (fun _ hs1 => ?_) | refine Br.agn r2 (fun _ => ?_) (fun _ hs2 => ?_) | refine Br.agn r3 (fun _ => ?_) (fun _ hs3 => ?_) | refine Br.agn r4 (fun _ => ?_) (fun _ hs4 => ?_) | refine Br.yes (by simp [hs1]) ?_ | refine Br.yes (by simp [hs2]) ?_ | refine Br.yes (by simp [hs3]) ?_ | refine Br.yes (by simp [hs4]) ?_ | refine Br.yes (by simp [eqR]) ?_ | refine Br.yes rfl ?_ | refine Br.non rfl ?_ | refine TRL.step (TTok _ _) ?_ | (refine x_exq (TTok _ _) ?_; (conv => whnf); fail_if_success (guard_target =ₛ False)))
  all_goals (conv => whnf)
  all_goals first | rfl | simp [val] | trace_state
end Go.Proofs.YtbladfkakmdigaaGreatDoor
