/-
  What the laws of these data stand on: contracts of functions, and plain laws.
-/
import Derived.Test.YtdmgmkifjboojaaGreatDoorNXa
import Derived.Test.YtdmgmkifjboojaaGreatDoorNXb
import Derived.Test.YtdmgmkifjboojaaGreatDoorNXc
import Derived.Test.YtdmgmkifjboojaaGreatDoorNXd
import Derived.Test.YtdmgmkifjboojaaGreatDoorNBa
set_option linter.unusedVariables false
set_option linter.unusedSimpArgs false
set_option linter.unnecessarySimpa false
set_option maxRecDepth 100000
set_option linter.unusedVariables false
set_option linter.unusedSimpArgs false
namespace Go.Proofs.YtdmgmkifjboojaaGreatDoor
open Go.SX
set_option maxHeartbeats 16000000 in
theorem near_tnfn (I : World → Prop) (n : ByteArray) (l : List Up) (la : List An) (m : Up) (an : An) (f : Up → Nat × List Value) (H : NearH I n l la m an f) (b0 b1 b2 : Option Addr) (n0 n1 n2 d0 d1 d2 : Nat) (j5 j6 j7 j8 : Int) (h1 : undB n m.name = true) (h2 : (bestU n l).name ≠ ⟨#[]⟩) (h3 : undB n an.name = false) (h4 : bestA n la ≠ ⟨#[]⟩) :
    Con Tryz.prog I 6 (fun s => [.agg [.v (.slice b0 n0 d0), .v (.slice b1 n1 d1), .v (.slice b2 n2 d2), .sl (s 0) 0 0 l.length, .sl (s 1) 0 0 la.length, .v (.int .i64 j5), .v (.int .i64 j6), .v (.int .i64 j7), .v (.int .i64 j8)], .agg [.v (.string m.name), .v (.slice m.ad m.m m.cp), .v (.bool m.fwd)], .agg [.v (.string an.name), .v (.int .i64 an.tag), .v (.int .i64 an.alg), .v (.int .i64 an.kind), .v (.string an.dig)], .v (.string n)]) (fun _ => coH l la 0 0) (fun _ : Unit => True) (fun _ _ => .v (.bool true)) (fun _ _ => coH l la 0 0) (fun _ => False) := by
  obtain ⟨hI, hn, hl, hla, hs, hsa, hm, han, hf⟩ := H
  have hUe : undB n (bestU n l).name = true ∨ (bestU n l).name = ⟨#[]⟩ := by
    by_cases e : (bestU n l).name = ⟨#[]⟩
    · exact .inr e
    · exact .inl (bestU_und n l e)
  have hAe : bestA n la = ⟨#[]⟩ ∨ (0 < (ownA (bestA n la) la).length ∧ undB n (bestA n la) = true) := by
    by_cases e : bestA n la = ⟨#[]⟩
    · exact .inl e
    · exact .inr (ownA_pos n la e)
  have hUz : (bestU n l).name.size < 1073741824 := by
    rcases bestU_mem n l with h | h
    · rw [h]; decide
    · exact hs _ h
  have hAz : (bestA n la).size < 1073741824 := by
    rcases bestA_mem n la with h | ⟨a, h5, h6, _⟩
    · rw [h]; decide
    · rw [← h6]; exact hsa _ h5
  have c1 := upstream_con I n hn l la 0 0 (by omega) hs f hf.left (.slice b0 n0 d0) (.slice b1 n1 d1) (.slice b2 n2 d2) (.int .i64 j5) (.int .i64 j6) (.int .i64 j7) (.int .i64 j8)
  have c2 := anchor_con I n hn l la 0 0 (by omega) hsa (.slice b0 n0 d0) (.slice b1 n1 d1) (.slice b2 n2 d2) (.int .i64 j5) (.int .i64 j6) (.int .i64 j7) (.int .i64 j8) _ rfl
  have c3 := upstream_row I n hn (l ++ [m]) (la ++ [an]) 1 1 (by rw [List.length_append, List.length_singleton]; omega) (fun u hu => by rcases List.mem_append.1 hu with hu | hu; exact hs u hu; simp at hu; subst hu; exact hm) f hf (.slice b0 n0 d0) (.slice b1 n1 d1) (.slice b2 n2 d2) (.int .i64 j5) (.int .i64 j6) (.int .i64 j7) (.int .i64 j8)
  have c4 := anchor_row I n hn (l ++ [m]) (la ++ [an]) 1 1 (by rw [List.length_append, List.length_singleton]; omega) (fun u hu => by rcases List.mem_append.1 hu with hu | hu; exact hsa u hu; simp at hu; subst hu; exact han) (.slice b0 n0 d0) (.slice b1 n1 d1) (.slice b2 n2 d2) (.int .i64 j5) (.int .i64 j6) (.int .i64 j7) (.int .i64 j8) _ rfl
  have e1 : (upsC (l ++ [m])).map AV.v = (upsC l).map .v ++ [.v (.string m.name), .v (.slice m.ad m.m m.cp), .v (.bool m.fwd)] := by simp [upsC, upC]
  have e2 : (ansC (la ++ [an])).map AV.v = (ansC la).map .v ++ [.v (.string an.name), .v (.int .i64 an.tag), .v (.int .i64 an.alg), .v (.int .i64 an.kind), .v (.string an.dig)] := by simp [ansC, anC]
  have hU : (bestU n l).name = ⟨#[]⟩ ∨ (bestU n l).name ≠ ⟨#[]⟩ := by by_cases e : (bestU n l).name = ⟨#[]⟩; exact .inl e; exact .inr e
  unfold roH at c3 c4
  rw [e1, e2] at c3 c4
  simp only [List.length_append, List.length_singleton] at c3 c4
  generalize bestU n (l ++ [m]) = V at c3
  obtain ⟨k1, k2⟩ := near_own n la an h3
  rw [k1, k2] at c4
  have hUn : undB n (bestU n l).name = true := bestU_und n l h2
  have q1 := fun w => nunder n (bestU n l).name (by omega) (by omega) w
  rw [hUn] at q1
  have hUd : decide ((bestU n l).name = ⟨#[]⟩) = false := decide_eq_false h2
  rw [hUd] at c1
  obtain ⟨hp, hAn⟩ := ownA_pos n la h4
  have q2 := fun w => nunder n (bestA n la) (by omega) (by omega) w
  rw [hAn] at q2
  have hAd : decide (bestA n la = ⟨#[]⟩) = false := decide_eq_false h4
  rw [hAd] at c2 c4
  have q3 := fun w => nunder n m.name (by omega) (by omega) w
  rw [h1] at q3
  have q4 := fun w => nunder n an.name (by omega) (by omega) w
  rw [h3] at q4
  have ex := fun w (hw : I w) => examples_ret I hI hw
  generalize (ownA (bestA n la) la) = oa at *
  have hUU : (!decide ((bestU n l).name = (bestU n l).name)) = false := by simp
  have haa : (!decide (bestA n la = bestA n la)) = false := by simp
  generalize (f (bestU n l)).1 = fm at *
  generalize (f (bestU n l)).2 = fu at *
  generalize (bestU n l).fwd = fw at *
  generalize (bestU n l).name = U at *
  generalize bestA n la = a at *
  generalize (f V).1 = gm at *
  generalize (f V).2 = gu at *
  obtain ⟨mn, ma, mm, mc, mf⟩ := m
  obtain ⟨nn, nt, na, nk, nd⟩ := an
  dsimp only at *
  have hsu : subL ((upsC l).map .v) (0 * 3) (l.length * 3) = some ((upsC l).map .v) := by
    have := subL_all ((upsC l).map .v)
    rw [List.length_map, show (upsC l).length = l.length * 3 from flatMap_len upC 3 (fun _ => rfl) l] at this
    exact this
  have hsn : subL ((ansC la).map .v) (0 * 5) (la.length * 5) = some ((ansC la).map .v) := by
    have := subL_all ((ansC la).map .v)
    rw [List.length_map, show (ansC la).length = la.length * 5 from flatMap_len anC 5 (fun _ => rfl) la] at this
    exact this
  have hou : ((upsC l).map AV.v).all one = true := by
    simp only [List.all_map, List.all_eq_true]
    intro q hq
    obtain ⟨u, _, hq⟩ := List.mem_flatMap.1 hq
    simp [upC] at hq
    rcases hq with rfl | rfl | rfl <;> rfl
  have hon : ((ansC la).map AV.v).all one = true := by
    simp only [List.all_map, List.all_eq_true]
    intro q hq
    obtain ⟨u, _, hq⟩ := List.mem_flatMap.1 hq
    simp [anC] at hq
    rcases hq with rfl | rfl | rfl | rfl | rfl <;> rfl
  have hlu : ((upsC l).map AV.v).length = l.length * 3 := by rw [List.length_map]; exact flatMap_len upC 3 (fun _ => rfl) l
  have hln : ((ansC la).map AV.v).length = la.length * 5 := by rw [List.length_map]; exact flatMap_len anC 5 (fun _ => rfl) la
  refine Con.of (TTok _ _) Tryz.func6 (by kernel_rfl) rfl (by simp [coH, refsInC, refsInL_vals]) rfl (fun σ => rfl) (fun σ => by simp [coH, mapR, renK, renL_vals]) (fun _ _ _ => rfl) (fun _ σ _ => by simp [coH, mapR, renK, renL_vals]) (fun _ _ => CEnd.of (by simp [coH, keepS, keep1, allOwn, CK.owned]) rfl (by simp [coH, refsInC, refsInL_vals])) ?_
  unfold coH at c1 c2 ⊢
  unfold coC at c1
  unfold anCC at c2
  repeat' ((conv => whnf); first | (with_reducible first | refine TR.seq ?_ | refine TR.regionL ?_ | refine TR.drawn (TTok _ _) mixed ?_ | refine TR.block ?_ | refine TR.ret ?_ | refine TR.exit ?_ | refine TR.skip ?_ | refine TR.condB rfl ?_ | refine TRL.nil ?_ | refine Br.cond_t ?_ | refine Br.cond_f ?_ | refine Br.yes (by first | decide | assumption | (apply decide_eq_true; omega)) ?_ | refine Br.non (by first | decide | assumption | (apply decide_eq_false; omega)) ?_ | refine Br.cond_ff ?_ | refine Br.eqT (by omega) ?_ | refine Br.eqF (by omega) ?_ | refine Br.neT (by omega) ?_ | refine Br.neF (by omega) ?_ | refine Ld.mk' _ rfl ?_ | refine Need.mk (by first | decide | omega | kernel_rfl) ?_ | refine Nm.i64 (by omega) ?_ | refine Nm.u64 (by omega) ?_ | refine Nm.u8 (by omega) ?_ | refine Nm.keep ?_ | refine Need.mk (by dsimp only; omega) ?_ | refine x_ret (f := 15) rfl rfl (fun w hw => ex w hw) ?_ | refine x_ret (f := 22) rfl rfl (fun w _ => q3 w) ?_ | refine x_ret (f := 22) rfl rfl (fun w _ => q4 w) ?_ | refine x_ret (f := 22) rfl rfl (fun w _ => q1 w) ?_ | refine x_ret (f := 22) rfl rfl (fun w _ => q2 w) ?_) | refine x_appN (TTok _ _) (d := 38) 3 48 rfl rfl rfl rfl rfl rfl rfl (Nat.zero_lt_succ 2) rfl rfl rfl rfl rfl rfl rfl hlu hou (by unfold maxLen; omega) (by omega) ?_ | refine x_appN (TTok _ _) (d := 45) 5 56 rfl rfl rfl rfl rfl rfl rfl (Nat.zero_lt_succ 4) rfl rfl rfl rfl rfl rfl rfl hln hon (by unfold maxLen; omega) (by omega) ?_ | refine x_app (TTok _ _) (c := 38) 48 rfl rfl rfl rfl rfl rfl rfl rfl rfl rfl (Nat.zero_lt_succ 2) rfl rfl rfl rfl rfl rfl rfl rfl rfl hlu (by unfold maxLen; omega) (by omega) ?_ | refine x_app (TTok _ _) (c := 45) 56 rfl rfl rfl rfl rfl rfl rfl rfl rfl rfl (Nat.zero_lt_succ 4) rfl rfl rfl rfl rfl rfl rfl rfl rfl hln (by unfold maxLen; omega) (by omega) ?_ | (refine TRL.con [0, 1] [0, 1, 25] c1 rfl rfl rfl rfl ⟨rfl, rfl, trivial⟩ rfl rfl (fun p1 _ => ⟨⟨rfl, trivial⟩, ?_⟩) (fun _ h => h.elim)) | (refine TRL.con [0, 1] [0, 1, 31] c2 rfl rfl rfl rfl ⟨rfl, rfl, trivial⟩ rfl rfl (fun p2 _ => ⟨⟨rfl, trivial⟩, ?_⟩) (fun _ h => h.elim)) | (refine TRL.con [38, 45] [38, 45, 53] c3 rfl rfl rfl rfl ⟨rfl, rfl, trivial⟩ rfl rfl (fun p3 _ => ⟨⟨rfl, trivial⟩, ?_⟩) (fun _ h => h.elim)) | (refine TRL.con [38, 45] [38, 45, 59] c4 rfl rfl rfl rfl ⟨rfl, rfl, trivial⟩ rfl rfl (fun p4 _ => ⟨⟨rfl, trivial⟩, ?_⟩) (fun _ h => h.elim)) | refine Br.non rfl ?_ | refine Br.yes rfl ?_ | refine Br.non hUU ?_ | refine Br.non haa ?_ | refine Br.non hUd ?_ | refine Br.yes hUd ?_ | refine TRL.step (TTok _ _) ?_ | (refine x_exq (TTok _ _) ?_; (conv => whnf); fail_if_success (guard_target =ₛ False)))
  all_goals (conv => whnf)
  all_goals first | exact ⟨(), trivial, rfl, rfl, rfl, trivial⟩ | trace_state
set_option maxHeartbeats 16000000 in
theorem near_tnfe (I : World → Prop) (n : ByteArray) (l : List Up) (la : List An) (m : Up) (an : An) (f : Up → Nat × List Value) (H : NearH I n l la m an f) (b0 b1 b2 : Option Addr) (n0 n1 n2 d0 d1 d2 : Nat) (j5 j6 j7 j8 : Int) (h1 : undB n m.name = true) (h2 : (bestU n l).name ≠ ⟨#[]⟩) (h3 : undB n an.name = false) (h4 : bestA n la = ⟨#[]⟩) :
    Con Tryz.prog I 6 (fun s => [.agg [.v (.slice b0 n0 d0), .v (.slice b1 n1 d1), .v (.slice b2 n2 d2), .sl (s 0) 0 0 l.length, .sl (s 1) 0 0 la.length, .v (.int .i64 j5), .v (.int .i64 j6), .v (.int .i64 j7), .v (.int .i64 j8)], .agg [.v (.string m.name), .v (.slice m.ad m.m m.cp), .v (.bool m.fwd)], .agg [.v (.string an.name), .v (.int .i64 an.tag), .v (.int .i64 an.alg), .v (.int .i64 an.kind), .v (.string an.dig)], .v (.string n)]) (fun _ => coH l la 0 0) (fun _ : Unit => True) (fun _ _ => .v (.bool true)) (fun _ _ => coH l la 0 0) (fun _ => False) := by
  obtain ⟨hI, hn, hl, hla, hs, hsa, hm, han, hf⟩ := H
  have hUe : undB n (bestU n l).name = true ∨ (bestU n l).name = ⟨#[]⟩ := by
    by_cases e : (bestU n l).name = ⟨#[]⟩
    · exact .inr e
    · exact .inl (bestU_und n l e)
  have hAe : bestA n la = ⟨#[]⟩ ∨ (0 < (ownA (bestA n la) la).length ∧ undB n (bestA n la) = true) := by
    by_cases e : bestA n la = ⟨#[]⟩
    · exact .inl e
    · exact .inr (ownA_pos n la e)
  have hUz : (bestU n l).name.size < 1073741824 := by
    rcases bestU_mem n l with h | h
    · rw [h]; decide
    · exact hs _ h
  have hAz : (bestA n la).size < 1073741824 := by
    rcases bestA_mem n la with h | ⟨a, h5, h6, _⟩
    · rw [h]; decide
    · rw [← h6]; exact hsa _ h5
  have c1 := upstream_con I n hn l la 0 0 (by omega) hs f hf.left (.slice b0 n0 d0) (.slice b1 n1 d1) (.slice b2 n2 d2) (.int .i64 j5) (.int .i64 j6) (.int .i64 j7) (.int .i64 j8)
  have c2 := anchor_con I n hn l la 0 0 (by omega) hsa (.slice b0 n0 d0) (.slice b1 n1 d1) (.slice b2 n2 d2) (.int .i64 j5) (.int .i64 j6) (.int .i64 j7) (.int .i64 j8) _ rfl
  have c3 := upstream_row I n hn (l ++ [m]) (la ++ [an]) 1 1 (by rw [List.length_append, List.length_singleton]; omega) (fun u hu => by rcases List.mem_append.1 hu with hu | hu; exact hs u hu; simp at hu; subst hu; exact hm) f hf (.slice b0 n0 d0) (.slice b1 n1 d1) (.slice b2 n2 d2) (.int .i64 j5) (.int .i64 j6) (.int .i64 j7) (.int .i64 j8)
  have c4 := anchor_row I n hn (l ++ [m]) (la ++ [an]) 1 1 (by rw [List.length_append, List.length_singleton]; omega) (fun u hu => by rcases List.mem_append.1 hu with hu | hu; exact hsa u hu; simp at hu; subst hu; exact han) (.slice b0 n0 d0) (.slice b1 n1 d1) (.slice b2 n2 d2) (.int .i64 j5) (.int .i64 j6) (.int .i64 j7) (.int .i64 j8) _ rfl
  have e1 : (upsC (l ++ [m])).map AV.v = (upsC l).map .v ++ [.v (.string m.name), .v (.slice m.ad m.m m.cp), .v (.bool m.fwd)] := by simp [upsC, upC]
  have e2 : (ansC (la ++ [an])).map AV.v = (ansC la).map .v ++ [.v (.string an.name), .v (.int .i64 an.tag), .v (.int .i64 an.alg), .v (.int .i64 an.kind), .v (.string an.dig)] := by simp [ansC, anC]
  have hU : (bestU n l).name = ⟨#[]⟩ ∨ (bestU n l).name ≠ ⟨#[]⟩ := by by_cases e : (bestU n l).name = ⟨#[]⟩; exact .inl e; exact .inr e
  unfold roH at c3 c4
  rw [e1, e2] at c3 c4
  simp only [List.length_append, List.length_singleton] at c3 c4
  generalize bestU n (l ++ [m]) = V at c3
  obtain ⟨k1, k2⟩ := near_own n la an h3
  rw [k1, k2] at c4
  have hUn : undB n (bestU n l).name = true := bestU_und n l h2
  have q1 := fun w => nunder n (bestU n l).name (by omega) (by omega) w
  rw [hUn] at q1
  have hUd : decide ((bestU n l).name = ⟨#[]⟩) = false := decide_eq_false h2
  rw [hUd] at c1
  have q2 : True := trivial
  have hAd : decide (bestA n la = ⟨#[]⟩) = true := decide_eq_true h4
  rw [hAd] at c2 c4
  have q3 := fun w => nunder n m.name (by omega) (by omega) w
  rw [h1] at q3
  have q4 := fun w => nunder n an.name (by omega) (by omega) w
  rw [h3] at q4
  have ex := fun w (hw : I w) => examples_ret I hI hw
  generalize (ownA (bestA n la) la) = oa at *
  have hUU : (!decide ((bestU n l).name = (bestU n l).name)) = false := by simp
  have haa : (!decide (bestA n la = bestA n la)) = false := by simp
  generalize (f (bestU n l)).1 = fm at *
  generalize (f (bestU n l)).2 = fu at *
  generalize (bestU n l).fwd = fw at *
  generalize (bestU n l).name = U at *
  generalize bestA n la = a at *
  generalize (f V).1 = gm at *
  generalize (f V).2 = gu at *
  obtain ⟨mn, ma, mm, mc, mf⟩ := m
  obtain ⟨nn, nt, na, nk, nd⟩ := an
  dsimp only at *
  have hsu : subL ((upsC l).map .v) (0 * 3) (l.length * 3) = some ((upsC l).map .v) := by
    have := subL_all ((upsC l).map .v)
    rw [List.length_map, show (upsC l).length = l.length * 3 from flatMap_len upC 3 (fun _ => rfl) l] at this
    exact this
  have hsn : subL ((ansC la).map .v) (0 * 5) (la.length * 5) = some ((ansC la).map .v) := by
    have := subL_all ((ansC la).map .v)
    rw [List.length_map, show (ansC la).length = la.length * 5 from flatMap_len anC 5 (fun _ => rfl) la] at this
    exact this
  have hou : ((upsC l).map AV.v).all one = true := by
    simp only [List.all_map, List.all_eq_true]
    intro q hq
    obtain ⟨u, _, hq⟩ := List.mem_flatMap.1 hq
    simp [upC] at hq
    rcases hq with rfl | rfl | rfl <;> rfl
  have hon : ((ansC la).map AV.v).all one = true := by
    simp only [List.all_map, List.all_eq_true]
    intro q hq
    obtain ⟨u, _, hq⟩ := List.mem_flatMap.1 hq
    simp [anC] at hq
    rcases hq with rfl | rfl | rfl | rfl | rfl <;> rfl
  have hlu : ((upsC l).map AV.v).length = l.length * 3 := by rw [List.length_map]; exact flatMap_len upC 3 (fun _ => rfl) l
  have hln : ((ansC la).map AV.v).length = la.length * 5 := by rw [List.length_map]; exact flatMap_len anC 5 (fun _ => rfl) la
  refine Con.of (TTok _ _) Tryz.func6 (by kernel_rfl) rfl (by simp [coH, refsInC, refsInL_vals]) rfl (fun σ => rfl) (fun σ => by simp [coH, mapR, renK, renL_vals]) (fun _ _ _ => rfl) (fun _ σ _ => by simp [coH, mapR, renK, renL_vals]) (fun _ _ => CEnd.of (by simp [coH, keepS, keep1, allOwn, CK.owned]) rfl (by simp [coH, refsInC, refsInL_vals])) ?_
  unfold coH at c1 c2 ⊢
  unfold coC at c1
  unfold anCC at c2
  repeat' ((conv => whnf); first | (with_reducible first | refine TR.seq ?_ | refine TR.regionL ?_ | refine TR.drawn (TTok _ _) mixed ?_ | refine TR.block ?_ | refine TR.ret ?_ | refine TR.exit ?_ | refine TR.skip ?_ | refine TR.condB rfl ?_ | refine TRL.nil ?_ | refine Br.cond_t ?_ | refine Br.cond_f ?_ | refine Br.yes (by first | decide | assumption | (apply decide_eq_true; omega)) ?_ | refine Br.non (by first | decide | assumption | (apply decide_eq_false; omega)) ?_ | refine Br.cond_ff ?_ | refine Br.eqT (by omega) ?_ | refine Br.eqF (by omega) ?_ | refine Br.neT (by omega) ?_ | refine Br.neF (by omega) ?_ | refine Ld.mk' _ rfl ?_ | refine Need.mk (by first | decide | omega | kernel_rfl) ?_ | refine Nm.i64 (by omega) ?_ | refine Nm.u64 (by omega) ?_ | refine Nm.u8 (by omega) ?_ | refine Nm.keep ?_ | refine Need.mk (by dsimp only; omega) ?_ | refine x_ret (f := 15) rfl rfl (fun w hw => ex w hw) ?_ | refine x_ret (f := 22) rfl rfl (fun w _ => q3 w) ?_ | refine x_ret (f := 22) rfl rfl (fun w _ => q4 w) ?_ | refine x_ret (f := 22) rfl rfl (fun w _ => q1 w) ?_) | refine x_appN (TTok _ _) (d := 38) 3 48 rfl rfl rfl rfl rfl rfl rfl (Nat.zero_lt_succ 2) rfl rfl rfl rfl rfl rfl rfl hlu hou (by unfold maxLen; omega) (by omega) ?_ | refine x_appN (TTok _ _) (d := 45) 5 56 rfl rfl rfl rfl rfl rfl rfl (Nat.zero_lt_succ 4) rfl rfl rfl rfl rfl rfl rfl hln hon (by unfold maxLen; omega) (by omega) ?_ | refine x_app (TTok _ _) (c := 38) 48 rfl rfl rfl rfl rfl rfl rfl rfl rfl rfl (Nat.zero_lt_succ 2) rfl rfl rfl rfl rfl rfl rfl rfl rfl hlu (by unfold maxLen; omega) (by omega) ?_ | refine x_app (TTok _ _) (c := 45) 56 rfl rfl rfl rfl rfl rfl rfl rfl rfl rfl (Nat.zero_lt_succ 4) rfl rfl rfl rfl rfl rfl rfl rfl rfl hln (by unfold maxLen; omega) (by omega) ?_ | (refine TRL.con [0, 1] [0, 1, 25] c1 rfl rfl rfl rfl ⟨rfl, rfl, trivial⟩ rfl rfl (fun p1 _ => ⟨⟨rfl, trivial⟩, ?_⟩) (fun _ h => h.elim)) | (refine TRL.con [0, 1] [0, 1, 31] c2 rfl rfl rfl rfl ⟨rfl, rfl, trivial⟩ rfl rfl (fun p2 _ => ⟨⟨rfl, trivial⟩, ?_⟩) (fun _ h => h.elim)) | (refine TRL.con [38, 45] [38, 45, 53] c3 rfl rfl rfl rfl ⟨rfl, rfl, trivial⟩ rfl rfl (fun p3 _ => ⟨⟨rfl, trivial⟩, ?_⟩) (fun _ h => h.elim)) | (refine TRL.con [38, 45] [38, 45, 59] c4 rfl rfl rfl rfl ⟨rfl, rfl, trivial⟩ rfl rfl (fun p4 _ => ⟨⟨rfl, trivial⟩, ?_⟩) (fun _ h => h.elim)) | refine Br.non rfl ?_ | refine Br.yes rfl ?_ | refine Br.non hUU ?_ | refine Br.non haa ?_ | refine Br.non hUd ?_ | refine Br.yes hUd ?_ | refine TRL.step (TTok _ _) ?_ | (refine x_exq (TTok _ _) ?_; (conv => whnf); fail_if_success (guard_target =ₛ False)))
  all_goals (conv => whnf)
  all_goals first | exact ⟨(), trivial, rfl, rfl, rfl, trivial⟩ | trace_state
set_option maxHeartbeats 16000000 in
theorem near_tntn (I : World → Prop) (n : ByteArray) (l : List Up) (la : List An) (m : Up) (an : An) (f : Up → Nat × List Value) (H : NearH I n l la m an f) (b0 b1 b2 : Option Addr) (n0 n1 n2 d0 d1 d2 : Nat) (j5 j6 j7 j8 : Int) (h1 : undB n m.name = true) (h2 : (bestU n l).name ≠ ⟨#[]⟩) (h3 : undB n an.name = true) (h4 : bestA n la ≠ ⟨#[]⟩) :
    Con Tryz.prog I 6 (fun s => [.agg [.v (.slice b0 n0 d0), .v (.slice b1 n1 d1), .v (.slice b2 n2 d2), .sl (s 0) 0 0 l.length, .sl (s 1) 0 0 la.length, .v (.int .i64 j5), .v (.int .i64 j6), .v (.int .i64 j7), .v (.int .i64 j8)], .agg [.v (.string m.name), .v (.slice m.ad m.m m.cp), .v (.bool m.fwd)], .agg [.v (.string an.name), .v (.int .i64 an.tag), .v (.int .i64 an.alg), .v (.int .i64 an.kind), .v (.string an.dig)], .v (.string n)]) (fun _ => coH l la 0 0) (fun _ : Unit => True) (fun _ _ => .v (.bool true)) (fun _ _ => coH l la 0 0) (fun _ => False) := by
  obtain ⟨hI, hn, hl, hla, hs, hsa, hm, han, hf⟩ := H
  have hUe : undB n (bestU n l).name = true ∨ (bestU n l).name = ⟨#[]⟩ := by
    by_cases e : (bestU n l).name = ⟨#[]⟩
    · exact .inr e
    · exact .inl (bestU_und n l e)
  have hAe : bestA n la = ⟨#[]⟩ ∨ (0 < (ownA (bestA n la) la).length ∧ undB n (bestA n la) = true) := by
    by_cases e : bestA n la = ⟨#[]⟩
    · exact .inl e
    · exact .inr (ownA_pos n la e)
  have hUz : (bestU n l).name.size < 1073741824 := by
    rcases bestU_mem n l with h | h
    · rw [h]; decide
    · exact hs _ h
  have hAz : (bestA n la).size < 1073741824 := by
    rcases bestA_mem n la with h | ⟨a, h5, h6, _⟩
    · rw [h]; decide
    · rw [← h6]; exact hsa _ h5
  have c1 := upstream_con I n hn l la 0 0 (by omega) hs f hf.left (.slice b0 n0 d0) (.slice b1 n1 d1) (.slice b2 n2 d2) (.int .i64 j5) (.int .i64 j6) (.int .i64 j7) (.int .i64 j8)
  have c2 := anchor_con I n hn l la 0 0 (by omega) hsa (.slice b0 n0 d0) (.slice b1 n1 d1) (.slice b2 n2 d2) (.int .i64 j5) (.int .i64 j6) (.int .i64 j7) (.int .i64 j8) _ rfl
  have c3 := upstream_row I n hn (l ++ [m]) (la ++ [an]) 1 1 (by rw [List.length_append, List.length_singleton]; omega) (fun u hu => by rcases List.mem_append.1 hu with hu | hu; exact hs u hu; simp at hu; subst hu; exact hm) f hf (.slice b0 n0 d0) (.slice b1 n1 d1) (.slice b2 n2 d2) (.int .i64 j5) (.int .i64 j6) (.int .i64 j7) (.int .i64 j8)
  have c4 := anchor_row I n hn (l ++ [m]) (la ++ [an]) 1 1 (by rw [List.length_append, List.length_singleton]; omega) (fun u hu => by rcases List.mem_append.1 hu with hu | hu; exact hsa u hu; simp at hu; subst hu; exact han) (.slice b0 n0 d0) (.slice b1 n1 d1) (.slice b2 n2 d2) (.int .i64 j5) (.int .i64 j6) (.int .i64 j7) (.int .i64 j8) _ rfl
  have e1 : (upsC (l ++ [m])).map AV.v = (upsC l).map .v ++ [.v (.string m.name), .v (.slice m.ad m.m m.cp), .v (.bool m.fwd)] := by simp [upsC, upC]
  have e2 : (ansC (la ++ [an])).map AV.v = (ansC la).map .v ++ [.v (.string an.name), .v (.int .i64 an.tag), .v (.int .i64 an.alg), .v (.int .i64 an.kind), .v (.string an.dig)] := by simp [ansC, anC]
  have hU : (bestU n l).name = ⟨#[]⟩ ∨ (bestU n l).name ≠ ⟨#[]⟩ := by by_cases e : (bestU n l).name = ⟨#[]⟩; exact .inl e; exact .inr e
  unfold roH at c3 c4
  rw [e1, e2] at c3 c4
  simp only [List.length_append, List.length_singleton] at c3 c4
  generalize bestU n (l ++ [m]) = V at c3
  generalize bestA n (la ++ [an]) = B2 at c4
  generalize ownA B2 (la ++ [an]) = ob at c4
  have hUn : undB n (bestU n l).name = true := bestU_und n l h2
  have q1 := fun w => nunder n (bestU n l).name (by omega) (by omega) w
  rw [hUn] at q1
  have hUd : decide ((bestU n l).name = ⟨#[]⟩) = false := decide_eq_false h2
  rw [hUd] at c1
  obtain ⟨hp, hAn⟩ := ownA_pos n la h4
  have q2 := fun w => nunder n (bestA n la) (by omega) (by omega) w
  rw [hAn] at q2
  have hAd : decide (bestA n la = ⟨#[]⟩) = false := decide_eq_false h4
  rw [hAd] at c2
  have q3 := fun w => nunder n m.name (by omega) (by omega) w
  rw [h1] at q3
  have q4 := fun w => nunder n an.name (by omega) (by omega) w
  rw [h3] at q4
  have ex := fun w (hw : I w) => examples_ret I hI hw
  generalize (ownA (bestA n la) la) = oa at *
  have hUU : (!decide ((bestU n l).name = (bestU n l).name)) = false := by simp
  have haa : (!decide (bestA n la = bestA n la)) = false := by simp
  generalize (f (bestU n l)).1 = fm at *
  generalize (f (bestU n l)).2 = fu at *
  generalize (bestU n l).fwd = fw at *
  generalize (bestU n l).name = U at *
  generalize bestA n la = a at *
  generalize (f V).1 = gm at *
  generalize (f V).2 = gu at *
  obtain ⟨mn, ma, mm, mc, mf⟩ := m
  obtain ⟨nn, nt, na, nk, nd⟩ := an
  dsimp only at *
  have hsu : subL ((upsC l).map .v) (0 * 3) (l.length * 3) = some ((upsC l).map .v) := by
    have := subL_all ((upsC l).map .v)
    rw [List.length_map, show (upsC l).length = l.length * 3 from flatMap_len upC 3 (fun _ => rfl) l] at this
    exact this
  have hsn : subL ((ansC la).map .v) (0 * 5) (la.length * 5) = some ((ansC la).map .v) := by
    have := subL_all ((ansC la).map .v)
    rw [List.length_map, show (ansC la).length = la.length * 5 from flatMap_len anC 5 (fun _ => rfl) la] at this
    exact this
  have hou : ((upsC l).map AV.v).all one = true := by
    simp only [List.all_map, List.all_eq_true]
    intro q hq
    obtain ⟨u, _, hq⟩ := List.mem_flatMap.1 hq
    simp [upC] at hq
    rcases hq with rfl | rfl | rfl <;> rfl
  have hon : ((ansC la).map AV.v).all one = true := by
    simp only [List.all_map, List.all_eq_true]
    intro q hq
    obtain ⟨u, _, hq⟩ := List.mem_flatMap.1 hq
    simp [anC] at hq
    rcases hq with rfl | rfl | rfl | rfl | rfl <;> rfl
  have hlu : ((upsC l).map AV.v).length = l.length * 3 := by rw [List.length_map]; exact flatMap_len upC 3 (fun _ => rfl) l
  have hln : ((ansC la).map AV.v).length = la.length * 5 := by rw [List.length_map]; exact flatMap_len anC 5 (fun _ => rfl) la
  refine Con.of (TTok _ _) Tryz.func6 (by kernel_rfl) rfl (by simp [coH, refsInC, refsInL_vals]) rfl (fun σ => rfl) (fun σ => by simp [coH, mapR, renK, renL_vals]) (fun _ _ _ => rfl) (fun _ σ _ => by simp [coH, mapR, renK, renL_vals]) (fun _ _ => CEnd.of (by simp [coH, keepS, keep1, allOwn, CK.owned]) rfl (by simp [coH, refsInC, refsInL_vals])) ?_
  unfold coH at c1 c2 ⊢
  unfold coC at c1
  unfold anCC at c2
  repeat' ((conv => whnf); first | (with_reducible first | refine TR.seq ?_ | refine TR.regionL ?_ | refine TR.drawn (TTok _ _) mixed ?_ | refine TR.block ?_ | refine TR.ret ?_ | refine TR.exit ?_ | refine TR.skip ?_ | refine TR.condB rfl ?_ | refine TRL.nil ?_ | refine Br.cond_t ?_ | refine Br.cond_f ?_ | refine Br.yes (by first | decide | assumption | (apply decide_eq_true; omega)) ?_ | refine Br.non (by first | decide | assumption | (apply decide_eq_false; omega)) ?_ | refine Br.cond_ff ?_ | refine Br.eqT (by omega) ?_ | refine Br.eqF (by omega) ?_ | refine Br.neT (by omega) ?_ | refine Br.neF (by omega) ?_ | refine Ld.mk' _ rfl ?_ | refine Need.mk (by first | decide | omega | kernel_rfl) ?_ | refine Nm.i64 (by omega) ?_ | refine Nm.u64 (by omega) ?_ | refine Nm.u8 (by omega) ?_ | refine Nm.keep ?_ | refine Need.mk (by dsimp only; omega) ?_ | refine x_ret (f := 15) rfl rfl (fun w hw => ex w hw) ?_ | refine x_ret (f := 22) rfl rfl (fun w _ => q3 w) ?_ | refine x_ret (f := 22) rfl rfl (fun w _ => q4 w) ?_ | refine x_ret (f := 22) rfl rfl (fun w _ => q1 w) ?_ | refine x_ret (f := 22) rfl rfl (fun w _ => q2 w) ?_) | refine x_appN (TTok _ _) (d := 38) 3 48 rfl rfl rfl rfl rfl rfl rfl (Nat.zero_lt_succ 2) rfl rfl rfl rfl rfl rfl rfl hlu hou (by unfold maxLen; omega) (by omega) ?_ | refine x_appN (TTok _ _) (d := 45) 5 56 rfl rfl rfl rfl rfl rfl rfl (Nat.zero_lt_succ 4) rfl rfl rfl rfl rfl rfl rfl hln hon (by unfold maxLen; omega) (by omega) ?_ | refine x_app (TTok _ _) (c := 38) 48 rfl rfl rfl rfl rfl rfl rfl rfl rfl rfl (Nat.zero_lt_succ 2) rfl rfl rfl rfl rfl rfl rfl rfl rfl hlu (by unfold maxLen; omega) (by omega) ?_ | refine x_app (TTok _ _) (c := 45) 56 rfl rfl rfl rfl rfl rfl rfl rfl rfl rfl (Nat.zero_lt_succ 4) rfl rfl rfl rfl rfl rfl rfl rfl rfl hln (by unfold maxLen; omega) (by omega) ?_ | (refine TRL.con [0, 1] [0, 1, 25] c1 rfl rfl rfl rfl ⟨rfl, rfl, trivial⟩ rfl rfl (fun p1 _ => ⟨⟨rfl, trivial⟩, ?_⟩) (fun _ h => h.elim)) | (refine TRL.con [0, 1] [0, 1, 31] c2 rfl rfl rfl rfl ⟨rfl, rfl, trivial⟩ rfl rfl (fun p2 _ => ⟨⟨rfl, trivial⟩, ?_⟩) (fun _ h => h.elim)) | (refine TRL.con [38, 45] [38, 45, 53] c3 rfl rfl rfl rfl ⟨rfl, rfl, trivial⟩ rfl rfl (fun p3 _ => ⟨⟨rfl, trivial⟩, ?_⟩) (fun _ h => h.elim)) | (refine TRL.con [38, 45] [38, 45, 59] c4 rfl rfl rfl rfl ⟨rfl, rfl, trivial⟩ rfl rfl (fun p4 _ => ⟨⟨rfl, trivial⟩, ?_⟩) (fun _ h => h.elim)) | refine Br.non rfl ?_ | refine Br.yes rfl ?_ | refine Br.non hUU ?_ | refine Br.non haa ?_ | refine Br.non hUd ?_ | refine Br.yes hUd ?_ | refine TRL.step (TTok _ _) ?_ | (refine x_exq (TTok _ _) ?_; (conv => whnf); fail_if_success (guard_target =ₛ False)))
  all_goals (conv => whnf)
  all_goals first | exact ⟨(), trivial, rfl, rfl, rfl, trivial⟩ | trace_state
set_option maxHeartbeats 16000000 in
theorem near_tnte (I : World → Prop) (n : ByteArray) (l : List Up) (la : List An) (m : Up) (an : An) (f : Up → Nat × List Value) (H : NearH I n l la m an f) (b0 b1 b2 : Option Addr) (n0 n1 n2 d0 d1 d2 : Nat) (j5 j6 j7 j8 : Int) (h1 : undB n m.name = true) (h2 : (bestU n l).name ≠ ⟨#[]⟩) (h3 : undB n an.name = true) (h4 : bestA n la = ⟨#[]⟩) :
    Con Tryz.prog I 6 (fun s => [.agg [.v (.slice b0 n0 d0), .v (.slice b1 n1 d1), .v (.slice b2 n2 d2), .sl (s 0) 0 0 l.length, .sl (s 1) 0 0 la.length, .v (.int .i64 j5), .v (.int .i64 j6), .v (.int .i64 j7), .v (.int .i64 j8)], .agg [.v (.string m.name), .v (.slice m.ad m.m m.cp), .v (.bool m.fwd)], .agg [.v (.string an.name), .v (.int .i64 an.tag), .v (.int .i64 an.alg), .v (.int .i64 an.kind), .v (.string an.dig)], .v (.string n)]) (fun _ => coH l la 0 0) (fun _ : Unit => True) (fun _ _ => .v (.bool true)) (fun _ _ => coH l la 0 0) (fun _ => False) := by
  obtain ⟨hI, hn, hl, hla, hs, hsa, hm, han, hf⟩ := H
  have hUe : undB n (bestU n l).name = true ∨ (bestU n l).name = ⟨#[]⟩ := by
    by_cases e : (bestU n l).name = ⟨#[]⟩
    · exact .inr e
    · exact .inl (bestU_und n l e)
  have hAe : bestA n la = ⟨#[]⟩ ∨ (0 < (ownA (bestA n la) la).length ∧ undB n (bestA n la) = true) := by
    by_cases e : bestA n la = ⟨#[]⟩
    · exact .inl e
    · exact .inr (ownA_pos n la e)
  have hUz : (bestU n l).name.size < 1073741824 := by
    rcases bestU_mem n l with h | h
    · rw [h]; decide
    · exact hs _ h
  have hAz : (bestA n la).size < 1073741824 := by
    rcases bestA_mem n la with h | ⟨a, h5, h6, _⟩
    · rw [h]; decide
    · rw [← h6]; exact hsa _ h5
  have c1 := upstream_con I n hn l la 0 0 (by omega) hs f hf.left (.slice b0 n0 d0) (.slice b1 n1 d1) (.slice b2 n2 d2) (.int .i64 j5) (.int .i64 j6) (.int .i64 j7) (.int .i64 j8)
  have c2 := anchor_con I n hn l la 0 0 (by omega) hsa (.slice b0 n0 d0) (.slice b1 n1 d1) (.slice b2 n2 d2) (.int .i64 j5) (.int .i64 j6) (.int .i64 j7) (.int .i64 j8) _ rfl
  have c3 := upstream_row I n hn (l ++ [m]) (la ++ [an]) 1 1 (by rw [List.length_append, List.length_singleton]; omega) (fun u hu => by rcases List.mem_append.1 hu with hu | hu; exact hs u hu; simp at hu; subst hu; exact hm) f hf (.slice b0 n0 d0) (.slice b1 n1 d1) (.slice b2 n2 d2) (.int .i64 j5) (.int .i64 j6) (.int .i64 j7) (.int .i64 j8)
  have c4 := anchor_row I n hn (l ++ [m]) (la ++ [an]) 1 1 (by rw [List.length_append, List.length_singleton]; omega) (fun u hu => by rcases List.mem_append.1 hu with hu | hu; exact hsa u hu; simp at hu; subst hu; exact han) (.slice b0 n0 d0) (.slice b1 n1 d1) (.slice b2 n2 d2) (.int .i64 j5) (.int .i64 j6) (.int .i64 j7) (.int .i64 j8) _ rfl
  have e1 : (upsC (l ++ [m])).map AV.v = (upsC l).map .v ++ [.v (.string m.name), .v (.slice m.ad m.m m.cp), .v (.bool m.fwd)] := by simp [upsC, upC]
  have e2 : (ansC (la ++ [an])).map AV.v = (ansC la).map .v ++ [.v (.string an.name), .v (.int .i64 an.tag), .v (.int .i64 an.alg), .v (.int .i64 an.kind), .v (.string an.dig)] := by simp [ansC, anC]
  have hU : (bestU n l).name = ⟨#[]⟩ ∨ (bestU n l).name ≠ ⟨#[]⟩ := by by_cases e : (bestU n l).name = ⟨#[]⟩; exact .inl e; exact .inr e
  unfold roH at c3 c4
  rw [e1, e2] at c3 c4
  simp only [List.length_append, List.length_singleton] at c3 c4
  generalize bestU n (l ++ [m]) = V at c3
  generalize bestA n (la ++ [an]) = B2 at c4
  generalize ownA B2 (la ++ [an]) = ob at c4
  have hUn : undB n (bestU n l).name = true := bestU_und n l h2
  have q1 := fun w => nunder n (bestU n l).name (by omega) (by omega) w
  rw [hUn] at q1
  have hUd : decide ((bestU n l).name = ⟨#[]⟩) = false := decide_eq_false h2
  rw [hUd] at c1
  have q2 : True := trivial
  have hAd : decide (bestA n la = ⟨#[]⟩) = true := decide_eq_true h4
  rw [hAd] at c2
  have q3 := fun w => nunder n m.name (by omega) (by omega) w
  rw [h1] at q3
  have q4 := fun w => nunder n an.name (by omega) (by omega) w
  rw [h3] at q4
  have ex := fun w (hw : I w) => examples_ret I hI hw
  generalize (ownA (bestA n la) la) = oa at *
  have hUU : (!decide ((bestU n l).name = (bestU n l).name)) = false := by simp
  have haa : (!decide (bestA n la = bestA n la)) = false := by simp
  generalize (f (bestU n l)).1 = fm at *
  generalize (f (bestU n l)).2 = fu at *
  generalize (bestU n l).fwd = fw at *
  generalize (bestU n l).name = U at *
  generalize bestA n la = a at *
  generalize (f V).1 = gm at *
  generalize (f V).2 = gu at *
  obtain ⟨mn, ma, mm, mc, mf⟩ := m
  obtain ⟨nn, nt, na, nk, nd⟩ := an
  dsimp only at *
  have hsu : subL ((upsC l).map .v) (0 * 3) (l.length * 3) = some ((upsC l).map .v) := by
    have := subL_all ((upsC l).map .v)
    rw [List.length_map, show (upsC l).length = l.length * 3 from flatMap_len upC 3 (fun _ => rfl) l] at this
    exact this
  have hsn : subL ((ansC la).map .v) (0 * 5) (la.length * 5) = some ((ansC la).map .v) := by
    have := subL_all ((ansC la).map .v)
    rw [List.length_map, show (ansC la).length = la.length * 5 from flatMap_len anC 5 (fun _ => rfl) la] at this
    exact this
  have hou : ((upsC l).map AV.v).all one = true := by
    simp only [List.all_map, List.all_eq_true]
    intro q hq
    obtain ⟨u, _, hq⟩ := List.mem_flatMap.1 hq
    simp [upC] at hq
    rcases hq with rfl | rfl | rfl <;> rfl
  have hon : ((ansC la).map AV.v).all one = true := by
    simp only [List.all_map, List.all_eq_true]
    intro q hq
    obtain ⟨u, _, hq⟩ := List.mem_flatMap.1 hq
    simp [anC] at hq
    rcases hq with rfl | rfl | rfl | rfl | rfl <;> rfl
  have hlu : ((upsC l).map AV.v).length = l.length * 3 := by rw [List.length_map]; exact flatMap_len upC 3 (fun _ => rfl) l
  have hln : ((ansC la).map AV.v).length = la.length * 5 := by rw [List.length_map]; exact flatMap_len anC 5 (fun _ => rfl) la
  refine Con.of (TTok _ _) Tryz.func6 (by kernel_rfl) rfl (by simp [coH, refsInC, refsInL_vals]) rfl (fun σ => rfl) (fun σ => by simp [coH, mapR, renK, renL_vals]) (fun _ _ _ => rfl) (fun _ σ _ => by simp [coH, mapR, renK, renL_vals]) (fun _ _ => CEnd.of (by simp [coH, keepS, keep1, allOwn, CK.owned]) rfl (by simp [coH, refsInC, refsInL_vals])) ?_
  unfold coH at c1 c2 ⊢
  unfold coC at c1
  unfold anCC at c2
  repeat' ((conv => whnf); first | (with_reducible first | refine TR.seq ?_ | refine TR.regionL ?_ | refine TR.drawn (TTok _ _) mixed ?_ | refine TR.block ?_ | refine TR.ret ?_ | refine TR.exit ?_ | refine TR.skip ?_ | refine TR.condB rfl ?_ | refine TRL.nil ?_ | refine Br.cond_t ?_ | refine Br.cond_f ?_ | refine Br.yes (by first | decide | assumption | (apply decide_eq_true; omega)) ?_ | refine Br.non (by first | decide | assumption | (apply decide_eq_false; omega)) ?_ | refine Br.cond_ff ?_ | refine Br.eqT (by omega) ?_ | refine Br.eqF (by omega) ?_ | refine Br.neT (by omega) ?_ | refine Br.neF (by omega) ?_ | refine Ld.mk' _ rfl ?_ | refine Need.mk (by first | decide | omega | kernel_rfl) ?_ | refine Nm.i64 (by omega) ?_ | refine Nm.u64 (by omega) ?_ | refine Nm.u8 (by omega) ?_ | refine Nm.keep ?_ | refine Need.mk (by dsimp only; omega) ?_ | refine x_ret (f := 15) rfl rfl (fun w hw => ex w hw) ?_ | refine x_ret (f := 22) rfl rfl (fun w _ => q3 w) ?_ | refine x_ret (f := 22) rfl rfl (fun w _ => q4 w) ?_ | refine x_ret (f := 22) rfl rfl (fun w _ => q1 w) ?_) | refine x_appN (TTok _ _) (d := 38) 3 48 rfl rfl rfl rfl rfl rfl rfl (Nat.zero_lt_succ 2) rfl rfl rfl rfl rfl rfl rfl hlu hou (by unfold maxLen; omega) (by omega) ?_ | refine x_appN (TTok _ _) (d := 45) 5 56 rfl rfl rfl rfl rfl rfl rfl (Nat.zero_lt_succ 4) rfl rfl rfl rfl rfl rfl rfl hln hon (by unfold maxLen; omega) (by omega) ?_ | refine x_app (TTok _ _) (c := 38) 48 rfl rfl rfl rfl rfl rfl rfl rfl rfl rfl (Nat.zero_lt_succ 2) rfl rfl rfl rfl rfl rfl rfl rfl rfl hlu (by unfold maxLen; omega) (by omega) ?_ | refine x_app (TTok _ _) (c := 45) 56 rfl rfl rfl rfl rfl rfl rfl rfl rfl rfl (Nat.zero_lt_succ 4) rfl rfl rfl rfl rfl rfl rfl rfl rfl hln (by unfold maxLen; omega) (by omega) ?_ | (refine TRL.con [0, 1] [0, 1, 25] c1 rfl rfl rfl rfl ⟨rfl, rfl, trivial⟩ rfl rfl (fun p1 _ => ⟨⟨rfl, trivial⟩, ?_⟩) (fun _ h => h.elim)) | (refine TRL.con [0, 1] [0, 1, 31] c2 rfl rfl rfl rfl ⟨rfl, rfl, trivial⟩ rfl rfl (fun p2 _ => ⟨⟨rfl, trivial⟩, ?_⟩) (fun _ h => h.elim)) | (refine TRL.con [38, 45] [38, 45, 53] c3 rfl rfl rfl rfl ⟨rfl, rfl, trivial⟩ rfl rfl (fun p3 _ => ⟨⟨rfl, trivial⟩, ?_⟩) (fun _ h => h.elim)) | (refine TRL.con [38, 45] [38, 45, 59] c4 rfl rfl rfl rfl ⟨rfl, rfl, trivial⟩ rfl rfl (fun p4 _ => ⟨⟨rfl, trivial⟩, ?_⟩) (fun _ h => h.elim)) | refine Br.non rfl ?_ | refine Br.yes rfl ?_ | refine Br.non hUU ?_ | refine Br.non haa ?_ | refine Br.non hUd ?_ | refine Br.yes hUd ?_ | refine TRL.step (TTok _ _) ?_ | (refine x_exq (TTok _ _) ?_; (conv => whnf); fail_if_success (guard_target =ₛ False)))
  all_goals (conv => whnf)
  all_goals first | exact ⟨(), trivial, rfl, rfl, rfl, trivial⟩ | trace_state
end Go.Proofs.YtdmgmkifjboojaaGreatDoor
