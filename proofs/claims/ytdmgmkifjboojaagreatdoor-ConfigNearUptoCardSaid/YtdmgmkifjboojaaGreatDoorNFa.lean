/-
  What the laws of these data stand on: contracts of functions, and plain laws.
-/
import Derived.Test.YtdmgmkifjboojaaGreatDoorNXa
import Derived.Test.YtdmgmkifjboojaaGreatDoorNXb
import Derived.Test.YtdmgmkifjboojaaGreatDoorNXc
import Derived.Test.YtdmgmkifjboojaaGreatDoorNXd
import Derived.Test.YtdmgmkifjboojaaGreatDoorNBa
import Derived.Test.YtdmgmkifjboojaaGreatDoorNAa
import Derived.Test.YtdmgmkifjboojaaGreatDoorNCa
import Derived.Test.YtdmgmkifjboojaaGreatDoorNDa
import Derived.Test.YtdmgmkifjboojaaGreatDoorNEa
set_option linter.unusedVariables false
set_option linter.unusedSimpArgs false
set_option linter.unnecessarySimpa false
set_option maxRecDepth 100000
set_option linter.unusedVariables false
namespace Go.Proofs.YtdmgmkifjboojaaGreatDoor
open Go.SX
theorem near_con (I : World → Prop) (n : ByteArray) (l : List Up) (la : List An) (m : Up) (an : An) (f : Up → Nat × List Value) (H : NearH I n l la m an f) (b0 b1 b2 : Option Addr) (n0 n1 n2 d0 d1 d2 : Nat) (j5 j6 j7 j8 : Int) :
    Con Tryz.prog I 6 (fun s => [.agg [.v (.slice b0 n0 d0), .v (.slice b1 n1 d1), .v (.slice b2 n2 d2), .sl (s 0) 0 0 l.length, .sl (s 1) 0 0 la.length, .v (.int .i64 j5), .v (.int .i64 j6), .v (.int .i64 j7), .v (.int .i64 j8)], .agg [.v (.string m.name), .v (.slice m.ad m.m m.cp), .v (.bool m.fwd)], .agg [.v (.string an.name), .v (.int .i64 an.tag), .v (.int .i64 an.alg), .v (.int .i64 an.kind), .v (.string an.dig)], .v (.string n)]) (fun _ => coH l la 0 0) (fun _ : Unit => True) (fun _ _ => .v (.bool true)) (fun _ _ => coH l la 0 0) (fun _ => False) := by
  by_cases h1 : undB n m.name = true
  · by_cases h2 : (bestU n l).name = ⟨#[]⟩
    · by_cases h3 : undB n an.name = true
      · by_cases h4 : bestA n la = ⟨#[]⟩
        · exact near_tete I n l la m an f H b0 b1 b2 n0 n1 n2 d0 d1 d2 j5 j6 j7 j8 h1 h2 h3 h4
        · exact near_tetn I n l la m an f H b0 b1 b2 n0 n1 n2 d0 d1 d2 j5 j6 j7 j8 h1 h2 h3 h4
      · rw [Bool.not_eq_true] at h3
        by_cases h4 : bestA n la = ⟨#[]⟩
        · exact near_tefe I n l la m an f H b0 b1 b2 n0 n1 n2 d0 d1 d2 j5 j6 j7 j8 h1 h2 h3 h4
        · exact near_tefn I n l la m an f H b0 b1 b2 n0 n1 n2 d0 d1 d2 j5 j6 j7 j8 h1 h2 h3 h4
    · by_cases h3 : undB n an.name = true
      · by_cases h4 : bestA n la = ⟨#[]⟩
        · exact near_tnte I n l la m an f H b0 b1 b2 n0 n1 n2 d0 d1 d2 j5 j6 j7 j8 h1 h2 h3 h4
        · exact near_tntn I n l la m an f H b0 b1 b2 n0 n1 n2 d0 d1 d2 j5 j6 j7 j8 h1 h2 h3 h4
      · rw [Bool.not_eq_true] at h3
        by_cases h4 : bestA n la = ⟨#[]⟩
        · exact near_tnfe I n l la m an f H b0 b1 b2 n0 n1 n2 d0 d1 d2 j5 j6 j7 j8 h1 h2 h3 h4
        · exact near_tnfn I n l la m an f H b0 b1 b2 n0 n1 n2 d0 d1 d2 j5 j6 j7 j8 h1 h2 h3 h4
  · rw [Bool.not_eq_true] at h1
    by_cases h2 : (bestU n l).name = ⟨#[]⟩
    · by_cases h3 : undB n an.name = true
      · by_cases h4 : bestA n la = ⟨#[]⟩
        · exact near_fete I n l la m an f H b0 b1 b2 n0 n1 n2 d0 d1 d2 j5 j6 j7 j8 h1 h2 h3 h4
        · exact near_fetn I n l la m an f H b0 b1 b2 n0 n1 n2 d0 d1 d2 j5 j6 j7 j8 h1 h2 h3 h4
      · rw [Bool.not_eq_true] at h3
        by_cases h4 : bestA n la = ⟨#[]⟩
        · exact near_fefe I n l la m an f H b0 b1 b2 n0 n1 n2 d0 d1 d2 j5 j6 j7 j8 h1 h2 h3 h4
        · exact near_fefn I n l la m an f H b0 b1 b2 n0 n1 n2 d0 d1 d2 j5 j6 j7 j8 h1 h2 h3 h4
    · by_cases h3 : undB n an.name = true
      · by_cases h4 : bestA n la = ⟨#[]⟩
        · exact near_fnte I n l la m an f H b0 b1 b2 n0 n1 n2 d0 d1 d2 j5 j6 j7 j8 h1 h2 h3 h4
        · exact near_fntn I n l la m an f H b0 b1 b2 n0 n1 n2 d0 d1 d2 j5 j6 j7 j8 h1 h2 h3 h4
      · rw [Bool.not_eq_true] at h3
        by_cases h4 : bestA n la = ⟨#[]⟩
        · exact near_fnfe I n l la m an f H b0 b1 b2 n0 n1 n2 d0 d1 d2 j5 j6 j7 j8 h1 h2 h3 h4
        · exact near_fnfn I n l la m an f H b0 b1 b2 n0 n1 n2 d0 d1 d2 j5 j6 j7 j8 h1 h2 h3 h4
end Go.Proofs.YtdmgmkifjboojaaGreatDoor
set_option maxRecDepth 100000
set_option linter.unusedVariables false
namespace Go.Proofs.YtdmgmkifjboojaaGreatDoor
open Go.SX
theorem SvW.at {W : World} {sv : Value} {m : Nat} {us : List Value} (h : SvW W sv m us) (hm : m < 1099511627776) : SvAt (fun w => Mod W w fun _ => False) sv m us := by
  obtain ⟨h1, h2, h3⟩ := h
  refine ⟨h1, h2, hm, ?_⟩
  rcases h3 with h3 | ⟨ad, c, h4, h5⟩
  · exact .inl h3
  · refine .inr ⟨ad, c, h4, fun w hw j q hq => ?_⟩
    have h6 := h5 j q hq
    have h7 := cell_lt' h6
    have h8 := hw.block _ h7 (fun h => h)
    simp only [World.cell?] at h6 ⊢
    rw [h8]
    exact h6
namespace configNear
def inv (W : World) : Prop := 0 < W.heap.size
theorem inv_of {W : World} (h : laidMet Tryz.prog Rows.configNearUptoRow.laid W) (_ : W.ShapedOpen Tryz.prog) : inv W :=
  laid_pos h (List.mem_of_getElem? (i := 2) rfl)
theorem returns (W : World) (args : Array Value) (hI : inv W) (hF : FitAll TT W 1048576 Tryz.f6.params.toList args.toList) : Ret Tryz.prog 6 args.toList W (.bool true) := by
  rw [show Tryz.f6.params.toList = [28, 47, 51, 9] by kernel_rfl] at hF
  generalize args.toList = r at hF
  obtain ⟨a, r, rfl, ha, hF⟩ := fitAll_cons hF
  obtain ⟨b, r, rfl, hb, hF⟩ := fitAll_cons hF
  obtain ⟨c, r, rfl, hc, hF⟩ := fitAll_cons hF
  obtain ⟨t, r, rfl, ht, hF⟩ := fitAll_cons hF
  obtain rfl := fitAll_nil hF
  obtain ⟨b0, b1, b2, n0, n1, n2, d0, d1, d2, su, sa, l, la, j5, j6, j7, j8, rfl, h1, h2, h3, h4, h5, h6⟩ := fit_cfg ha
  obtain ⟨cs, hb, rfl⟩ := hb
  obtain ⟨m, us, rfl, hm1, hm2, hm3⟩ := fit_up hb
  obtain ⟨cs, hc, rfl⟩ := hc
  obtain ⟨an, rfl, han⟩ := fit_an hc
  obtain ⟨n, rfl, hn⟩ := fit_str rfl rfl ht
  have hsv : ∀ u, u ∈ up0 :: (l ++ [m]) → u.m ≤ 1048576 ∧ ∃ us, SvW W u.sv u.m us := fun u hu => by
    rcases List.mem_cons.1 hu with rfl | hu
    · exact ⟨Nat.zero_le _, [], rfl, fun q hq => (by simp at hq), .inl ⟨rfl, rfl⟩⟩
    · rcases List.mem_append.1 hu with hu | hu
      · exact (h3 u hu).2
      · simp at hu
        subst hu
        exact ⟨hm2, us, hm3⟩
  obtain ⟨g, hg⟩ : ∃ g : Up → List Value, ∀ u, u ∈ up0 :: (l ++ [m]) → SvW W u.sv u.m (g u) := by
    classical
    refine ⟨fun u => if h : ∃ us, SvW W u.sv u.m us then h.choose else [], fun u hu => ?_⟩
    have h := (hsv u hu).2
    simp only [dif_pos h]
    exact h.choose_spec
  obtain ⟨L1, p1, p2, p3, p4, p5⟩ := ro_locE h2 hI 47 ((upsC l).map .v)
  obtain ⟨L2, q1, q2, q3, q4, q5⟩ := ro_locE h5 hI 51 ((ansC la).map .v)
  have H : NearH (fun w => Mod W w fun _ => False) n l la m an (fun u => (u.m, g u)) :=
    ⟨fun w w' h1 h2 => h1.trans h2 (fun x h => h.elim), by omega, by omega, by omega, fun u hu => by have := (h3 u hu).1; omega, fun u hu => by have := h6 u hu; omega, by omega, by omega,
      fun u hu => (hg u hu).at (Nat.lt_of_le_of_lt (hsv u hu).1 (by omega))⟩
  refine Con.retF (near_con _ n l la m an _ H b0 b1 b2 n0 n1 n2 d0 d1 d2 j5 j6 j7 j8) (fun _ _ => rfl) (fun _ h => h) (fun w' hm => hm) (fun c => match c with | 0 => L1 | _ => L2) ?_ ?_
  · intro c k hk
    match c with
    | 0 =>
      obtain rfl := Option.some.inj hk.symm
      exact ⟨rfl, ⟨_, relL_vals _, p5⟩, p1, p2⟩
    | 1 =>
      obtain rfl := Option.some.inj hk.symm
      exact ⟨rfl, ⟨_, relL_vals _, q5⟩, q1, q2⟩
    | c + 2 => simp [coH, getO] at hk
  · refine ⟨⟨_, rfl, rfl, rfl, rfl, ⟨0, rfl, Nat.le_refl _, fun _ => p3, p4⟩, ⟨0, rfl, Nat.le_refl _, fun _ => q3, q4⟩, rfl, rfl, rfl, rfl, trivial⟩, ⟨_, rfl, rfl, rfl, rfl, trivial⟩, ⟨_, rfl, rfl, rfl, rfl, rfl, rfl, trivial⟩, rfl, trivial⟩
end configNear
end Go.Proofs.YtdmgmkifjboojaaGreatDoor
