/-
  What the laws of these data stand on: contracts of functions, and plain laws.
-/
import Derived.Test.YtbladfkakmdigaaGreatDoorRXa
import Derived.Test.YtbladfkakmdigaaGreatDoorRXb
import Derived.Test.YtbladfkakmdigaaGreatDoorRXc
import Derived.Test.YtbladfkakmdigaaGreatDoorRXd
import Derived.Test.YtbladfkakmdigaaGreatDoorRBa
import Derived.Test.YtbladfkakmdigaaGreatDoorRFa
import Derived.Test.YtbladfkakmdigaaGreatDoorRPa
import Derived.Test.YtbladfkakmdigaaGreatDoorRQa
import Derived.Test.YtbladfkakmdigaaGreatDoorRSa
set_option linter.unusedVariables false
set_option linter.unusedSimpArgs false
set_option linter.unnecessarySimpa false
set_option maxRecDepth 100000
set_option linter.unusedVariables false
set_option linter.unusedSimpArgs false
namespace Go.Proofs.YtbladfkakmdigaaGreatDoor
open Go.SX
def rootN : ByteArray := ⟨#[0]⟩
theorem lbN_zero {s : ByteArray} (h : bAt s 0 = 0) : LbN s 0 := by
  refine ⟨fun k hk => by omega, fun hx => ?_⟩
  obtain ⟨_, h1, _⟩ := hx
  exact h1 h
theorem rgt_root : rgt rootN = true := by
  rw [rgt_of (lbN_zero (s := rootN) rfl)]
  exact decide_eq_true ⟨by decide, by decide, rfl, rfl⟩
theorem nmP_zero {s : ByteArray} (h : bAt s 0 = 0) : nmP s = 0 := by
  unfold nmP
  rw [lbN_uniq (rgN_ok s) (lbN_zero h)]
  rfl
theorem bAt_head {s : ByteArray} {x : Int} {t : List Int} (h : sInts s = x :: t) : bAt s 0 = x := by
  have hz : 0 < s.size := by rw [← sInts_length, h]; simp
  have := sInts_get s 0 hz
  rw [h] at this
  simpa using this.symm
theorem name_root {s : ByteArray} {t : List Int} (h : sInts s = 0 :: t) : ∃ r, nameO s = some (rootN, r) ∧ sInts r = t := by
  have hb := bAt_head h
  have hp := nmP_zero hb
  have hz : s.size = t.length + 1 := by rw [← sInts_length, h]; simp
  obtain ⟨b, r, h1, h2, h3⟩ := tk_of (p := [0]) (q := t) (by simpa using h)
  have hbr : b = rootN := sInts_inj (by rw [h2]; rfl)
  subst hbr
  refine ⟨r, ?_, h3⟩
  unfold tkO at h1
  rw [if_pos (by simp; omega)] at h1
  unfold nameO
  rw [hp, if_pos ⟨by omega, hb, by omega⟩]
  exact h1
theorem num2_of {s : ByteArray} {x y : Int} {t : List Int} (h : sInts s = x :: y :: t) : ∃ r, numO 2 s = some (x * 256 + y, r) ∧ sInts r = t := by
  obtain ⟨b, r, h1, h2, h3⟩ := tk_of (p := [x, y]) (q := t) (by simpa using h)
  refine ⟨r, ?_, h3⟩
  unfold numO
  rw [show (2 : Nat) = [x, y].length from rfl, h1]
  simp [h2, numL]
theorem wins_named {T : List Int} (hT : Inc T) (hr : ∀ z, z ∈ T → 0 ≤ z ∧ z < 65536) (hl : T.length ≤ 40) (o : List Int) (ho : ∀ n, n ∈ o → 0 ≤ n ∧ n ≤ 255) :
    ∃ V : List Int, wins o T 256 = o ++ V ∧ V.length ≤ 1360 ∧ sInts (strOfNums (o ++ V)) = o ++ V ∧ ∀ s f, sInts s = V → s.size < f → typesO f s (-1) [] = some T := by
  obtain ⟨K, hK⟩ : ∃ K, K = 256 := ⟨_, rfl⟩
  have h40 := wins_short hT hr
  have hb := fun n hn => wins_byte ho T K (by omega) n hn
  have hty := fun (s : ByteArray) (f : Nat) (h1 : sInts s = wins [] T 256) (h2 : s.size < f) => typesO_wins hT hr h1 h2
  rw [← hK] at h40 hty ⊢
  have hsp := wins_split o T K
  rw [hsp] at hb
  exact ⟨wins [] T K, hsp, by omega, sInts_strN _ hb, hty⟩
theorem rises_ns {T : List Int} (hT : Inc T) (hr : ∀ z, z ∈ T → 0 ≤ z ∧ z < 65536) (hl : T.length ≤ 40) : ∃ d : ByteArray, tyV ([] ++ sInts rootN) (false || !rgt rootN) T = (d, 0) ∧ d.size ≤ 2000 ∧ nsW d = some (rootN, T) := by
  have e0 : ([] : List Int) ++ sInts rootN = [0] := rfl
  obtain ⟨V, hV, hVl, hsd, hty⟩ := wins_named hT hr hl [0] (fun n hn => by simp only [List.mem_singleton] at hn; omega)
  have hz : (strOfNums ([0] ++ V)).size ≤ 2000 := by
    rw [sz_nums]; simp only [List.length_append, List.length_singleton]; omega
  have htv := fun d h1 h2 h3 h4 => tyV_again (o := [0]) (l := T) (wr := (false || !rgt rootN)) (d := d) h1 h2 hT h3 h4
  rw [hV] at htv
  refine ⟨strOfNums ([0] ++ V), ?_, hz, ?_⟩
  · rw [e0]
    exact htv _ hsd.symm (by rw [rgt_root]; rfl) hr hz
  · obtain ⟨r, h1, h2⟩ := name_root hsd
    have h3 := hty r (r.size + 1) h2 (Nat.lt_succ_self _)
    unfold nsW
    rw [if_pos hz]
    unfold nsO
    rw [h1]
    simp only [Option.bind_some]
    rw [h3]
    rfl
def nB : ByteArray := ⟨#[110]⟩
theorem rises_n3 {T : List Int} (hT : Inc T) (hr : ∀ z, z ∈ T → 0 ≤ z ∧ z < 65536) (hl : T.length ≤ 40) : ∃ d : ByteArray, tyV ((((([] ++ be1 1) ++ be1 0) ++ be2 0) ++ be1 (⟨#[]⟩ : ByteArray).size ++ sInts ⟨#[]⟩) ++ be1 nB.size ++ sInts nB) ((((((((false || !fit 1 256) || !fit 0 256) || !fit 0 65536) || !fit (⟨#[]⟩ : ByteArray).size 256) || decide (((⟨#[]⟩ : ByteArray).size : Int) < 0)) || !fit nB.size 256)) || decide ((nB.size : Int) < 1)) T = (d, 0) ∧ d.size ≤ 2000 ∧ n3W d = some (1, 0, 0, ⟨#[]⟩, nB, T) := by
  have e0 : (((([] ++ be1 1) ++ be1 0) ++ be2 0) ++ be1 (⟨#[]⟩ : ByteArray).size ++ sInts ⟨#[]⟩) ++ be1 nB.size ++ sInts nB = [1, 0, 0, 0, 0, 1, 110] := by kernel_rfl
  have ew : ((((((((false || !fit 1 256) || !fit 0 256) || !fit 0 65536) || !fit (⟨#[]⟩ : ByteArray).size 256) || decide (((⟨#[]⟩ : ByteArray).size : Int) < 0)) || !fit nB.size 256)) || decide ((nB.size : Int) < 1)) = false := by kernel_rfl
  rw [e0, ew]
  obtain ⟨V, hV, hVl, hsd, hty⟩ := wins_named hT hr hl [1, 0, 0, 0, 0, 1, 110] (fun n hn => by simp only [List.mem_cons, List.not_mem_nil, or_false] at hn; omega)
  have hz : (strOfNums ([1, 0, 0, 0, 0, 1, 110] ++ V)).size ≤ 2000 := by
    rw [sz_nums]; simp only [List.length_append, List.length_cons, List.length_nil]; omega
  have htv := fun d h1 h3 h4 => tyV_again (o := [1, 0, 0, 0, 0, 1, 110]) (l := T) (wr := false) (d := d) h1 rfl hT h3 h4
  rw [hV] at htv
  refine ⟨strOfNums ([1, 0, 0, 0, 0, 1, 110] ++ V), htv _ hsd.symm hr hz, hz, ?_⟩
  obtain ⟨s1, a1, b1⟩ := num1_of (x := 1) (t := 0 :: 0 :: 0 :: 0 :: 1 :: 110 :: V) hsd
  obtain ⟨s2, a2, b2⟩ := num1_of b1
  obtain ⟨s3, a3, b3⟩ := num2_of b2
  obtain ⟨s4, a4, b4⟩ := num1_of b3
  obtain ⟨e5, s5, a5, c5, b5⟩ := tk_of (p := []) (q := 1 :: 110 :: V) (by simpa using b4)
  obtain ⟨s6, a6, b6⟩ := num1_of b5
  obtain ⟨e7, s7, a7, c7, b7⟩ := tk_of (p := [110]) (q := V) (by simpa using b6)
  have h5 : e5 = ⟨#[]⟩ := sInts_inj (by rw [c5]; rfl)
  have h7 : e7 = nB := sInts_inj (by rw [c7]; rfl)
  subst h5 h7
  have h3 := hty s7 (s7.size + 1) b7 (Nat.lt_succ_self _)
  unfold n3W
  rw [if_pos hz]
  unfold n3O
  rw [a1]
  simp only [Option.bind_some]
  rw [a2]
  simp only [Option.bind_some]
  rw [a3]
  simp only [Option.bind_some]
  rw [a4]
  simp only [Option.bind_some]
  rw [show (0 : Int).toNat = ([] : List Int).length from rfl, a5]
  simp only [Option.bind_some]
  rw [a6]
  simp only [Option.bind_some]
  rw [show (1 : Int).toNat = [(110 : Int)].length from rfl, a7]
  simp only [Option.bind_some]
  rw [h3]
  have hne : decide (nB = ⟨#[]⟩) = false := by decide
  rw [hne]
  rfl
theorem tyV_bad {o : List Int} {wr : Bool} {l : List Int} (h : tbD l wr l.length = true) : tyV o wr l = (⟨#[]⟩, 6) := by
  unfold tyV
  rw [h]
  simp [dnV]
end Go.Proofs.YtbladfkakmdigaaGreatDoor
set_option maxRecDepth 100000
set_option linter.unusedVariables false
set_option linter.unusedSimpArgs false
namespace Go.Proofs.YtbladfkakmdigaaGreatDoor
open Go.SX

set_option maxHeartbeats 32000000 in
theorem rises_A {u2 v2 u3 v3} (l : List Int) (hl : l.length ≤ 9223372036854775807) (hR : ∀ z, z ∈ l → -9223372036854775808 ≤ z ∧ z ≤ 9223372036854775807) (hA : l.length ≤ 40) :
    Con Tryz.prog (IC u2 v2 u3 v3) 10 (fun s => [.sl (s 0) 0 0 l.length]) (riH l) (fun _ : Unit => True) (fun _ _ => .v (.bool true)) (fun _ => riH l) (fun _ => False) := by
  refine Con.of (TTok _ _) Tryz.func10 (by kernel_rfl) rfl (riH_cl _) rfl (fun σ => rfl) (riH_nat _) (fun _ _ _ => rfl) (fun _ σ _ => riH_nat _ σ) (fun _ _ => CEnd.of rfl rfl (riH_cl _)) ?_
  obtain ⟨q1, q2, q3⟩ := rise_ok l l.length
  have c0 := Con.inI (I := IC u2 v2 u3 v3) (rise_con l l.length (by omega) hl (by omega) hR)
  unfold riH riC at c0
  generalize rise l l.length = T at q1 q2 q3 c0
  have hT40 : T.length ≤ 40 := by omega
  obtain ⟨d1, e1, z1, f1⟩ := rises_ns q1 q2 hT40
  obtain ⟨d2, e2, z2, f2⟩ := rises_n3 q1 q2 hT40
  have c1 := fun v => Con.inI (I := IC u2 v2 u3 v3) (ofns_con rootN T v (by decide) (by omega))
  have c3 := fun v => Con.inI (I := IC u2 v2 u3 v3) (ofn3_con 1 0 0 ⟨#[]⟩ nB T v (by decide) (by decide) (by omega))
  rw [e1] at c1
  rw [e2] at c3
  unfold rwH at c1 c3
  have c2 := Con.inI (I := IC u2 v2 u3 v3) (ns_some d1 (by omega) _ f1)
  have c4 := Con.inI (I := IC u2 v2 u3 v3) (n3_some d2 (by omega) _ f2)
  have c5 := fun v w => Con.inI (I := IC u2 v2 u3 v3) (numbers_con T v w (by omega))
  unfold riH
  by_cases h2 : T.length < 2
  · skip
    repeat' ((conv => whnf); first | (with_reducible first | refine TR.seq ?_ | refine TR.regionL ?_ | refine TR.drawn (TTok _ _) mixed ?_ | refine TR.block ?_ | refine TR.ret ?_ | refine TR.exit ?_ | refine TR.skip ?_ | refine TR.condB rfl ?_ | refine TRL.nil ?_ | refine Br.cond_t ?_ | refine Br.cond_f ?_ | refine Br.yes (by first | decide | assumption | (apply decide_eq_true; omega)) ?_ | refine Br.non (by first | decide | assumption | (apply decide_eq_false; omega)) ?_ | refine Br.cond_ff ?_ | refine Br.eqT (by omega) ?_ | refine Br.eqF (by omega) ?_ | refine Br.neT (by omega) ?_ | refine Br.neF (by omega) ?_ | refine Ld.mk' _ rfl ?_ | refine Need.mk (by first | decide | omega | kernel_rfl) ?_ | refine Nm.i64 (by omega) ?_ | refine Nm.u64 (by omega) ?_ | refine Nm.u8 (by omega) ?_ | refine Nm.keep ?_ | refine Need.mk (by dsimp only; omega) ?_ | refine x_ret (f := 14) rfl rfl (fun w hw => examples_ret hw) ?_) | (refine TRL.con [0] [0, 25] c0 rfl rfl rfl rfl ⟨rfl, trivial⟩ rfl rfl (fun v _ => ⟨⟨rfl, trivial⟩, ?_⟩) (fun _ h => h.elim)) | (refine TRL.con [25] [25] (c1 _) rfl rfl rfl rfl ⟨rfl, trivial⟩ rfl rfl (fun v _ => ⟨trivial, ?_⟩) (fun _ h => h.elim)) | (refine TRL.con [] [34] c2 rfl rfl rfl rfl trivial rfl rfl (fun v _ => ⟨⟨rfl, trivial⟩, ?_⟩) (fun _ h => h.elim); dsimp only [nsR, n3R, nsA, n3A]) | (refine TRL.con [25] [25] (c3 _) rfl rfl rfl rfl ⟨rfl, trivial⟩ rfl rfl (fun v _ => ⟨trivial, ?_⟩) (fun _ h => h.elim)) | (refine TRL.con [] [45] c4 rfl rfl rfl rfl trivial rfl rfl (fun v _ => ⟨⟨rfl, trivial⟩, ?_⟩) (fun _ h => h.elim); dsimp only [nsR, n3R, nsA, n3A]) | (refine TRL.con [34, 25] [34, 25] (c5 _ _) rfl rfl rfl rfl ⟨rfl, rfl, trivial⟩ rfl rfl (fun v _ => ⟨trivial, ?_⟩) (fun _ h => h.elim)) | (refine TRL.con [45, 25] [45, 25] (c5 _ _) rfl rfl rfl rfl ⟨rfl, rfl, trivial⟩ rfl rfl (fun v _ => ⟨trivial, ?_⟩) (fun _ h => h.elim)) | refine TRL.step (TTok _ _) ?_ | (refine x_exq (TTok _ _) ?_; (conv => whnf); fail_if_success (guard_target =ₛ False)))
    all_goals (conv => whnf)
    all_goals first | exact ⟨(), trivial, rfl, rfl, trivial⟩ | trace_state
  · have cb := fun v => Con.inI (I := IC u2 v2 u3 v3) (ofns_con rootN T.reverse v (by decide) (by simp; omega))
    rw [tyV_bad (tbD_back q1 (by omega) _)] at cb
    unfold rwH at cb
    rw [List.length_reverse] at cb
    repeat' ((conv => whnf); first | refine TR.nil_slot 15 50 3 1 rfl rfl ?_ | (with_reducible first | refine TR.seq ?_ | refine TR.regionL ?_ | refine TR.drawn (TTok _ _) mixed ?_ | refine TR.block ?_ | refine TR.ret ?_ | refine TR.exit ?_ | refine TR.skip ?_ | refine TR.condB rfl ?_ | refine TRL.nil ?_ | refine Br.cond_t ?_ | refine Br.cond_f ?_ | refine Br.yes (by first | decide | assumption | (apply decide_eq_true; omega)) ?_ | refine Br.non (by first | decide | assumption | (apply decide_eq_false; omega)) ?_ | refine Br.cond_ff ?_ | refine Br.eqT (by omega) ?_ | refine Br.eqF (by omega) ?_ | refine Br.neT (by omega) ?_ | refine Br.neF (by omega) ?_ | refine Ld.mk' _ rfl ?_ | refine Need.mk (by first | decide | omega | kernel_rfl) ?_ | refine Nm.i64 (by omega) ?_ | refine Nm.u64 (by omega) ?_ | refine Nm.u8 (by omega) ?_ | refine Nm.keep ?_ | refine Need.mk (by dsimp only; omega) ?_ | refine x_ret (f := 14) rfl rfl (fun w hw => examples_ret hw) ?_) | (refine TRL.con [0] [0, 25] c0 rfl rfl rfl rfl ⟨rfl, trivial⟩ rfl rfl (fun v _ => ⟨⟨rfl, trivial⟩, ?_⟩) (fun _ h => h.elim)) | (refine TRL.con [25] [25] (c1 _) rfl rfl rfl rfl ⟨rfl, trivial⟩ rfl rfl (fun v _ => ⟨trivial, ?_⟩) (fun _ h => h.elim)) | (refine TRL.con [] [34] c2 rfl rfl rfl rfl trivial rfl rfl (fun v _ => ⟨⟨rfl, trivial⟩, ?_⟩) (fun _ h => h.elim); dsimp only [nsR, n3R, nsA, n3A]) | (refine TRL.con [25] [25] (c3 _) rfl rfl rfl rfl ⟨rfl, trivial⟩ rfl rfl (fun v _ => ⟨trivial, ?_⟩) (fun _ h => h.elim)) | (refine TRL.con [] [45] c4 rfl rfl rfl rfl trivial rfl rfl (fun v _ => ⟨⟨rfl, trivial⟩, ?_⟩) (fun _ h => h.elim); dsimp only [nsR, n3R, nsA, n3A]) | (refine TRL.con [34, 25] [34, 25] (c5 _ _) rfl rfl rfl rfl ⟨rfl, rfl, trivial⟩ rfl rfl (fun v _ => ⟨trivial, ?_⟩) (fun _ h => h.elim)) | (refine TRL.con [45, 25] [45, 25] (c5 _ _) rfl rfl rfl rfl ⟨rfl, rfl, trivial⟩ rfl rfl (fun v _ => ⟨trivial, ?_⟩) (fun _ h => h.elim)) | refine TRL.step (TTok _ _) ?_ | (refine x_exq (TTok _ _) ?_; (conv => whnf); fail_if_success (guard_target =ₛ False)))
    refine TR.loopH (fun x : Nat × Nat => [(16, .v (.int .i64 ((T.length : Int) - 1 - x.1))), (15, .sl 50 x.2 0 x.1)]) (fun x => [(50, ⟨.row, 3, 1, x.2, its (T.reverse.take x.1)⟩)]) (fun x => x.1 ≤ T.length) (fun x => T.length - x.1) (0, 0) (Nat.zero_le _) ?_ ?_
    · repeat' ((conv => whnf); first | exact trivial | exact Fgt.nil | exact Fgt.mk rfl rfl rfl | exact Fgt.mk rfl (by simp only [noRefC, nr_app, nr_map, nr_its, nr_byt', noRefL, noRef, Bool.and_self] <;> rfl) rfl | refine And.intro rfl ?_ | refine And.intro ?_ ?_)
      all_goals simp
    · rintro ⟨k, v⟩ hk
      dsimp only at hk ⊢
      by_cases hkl : k < T.length
      · have hld := ld_its (l := T) (k := T.length - 1 - k) (by omega)
        have ek : (((T.length - 1 - k : Nat) : Int)).toNat = ((T.length : Int) - 1 - k).toNat := by omega
        rw [ek] at hld
        have hrv : its (T.reverse.take k) ++ [AV.v (.int .i64 (zAt T (T.length - 1 - k)))] = its (T.reverse.take (k + 1)) := by
          rw [List.take_add_one, its_app, List.getElem?_reverse hkl, zAt_get (show T.length - 1 - k < T.length by omega)]
          rfl
        have hrl : (T.reverse.take k).length = k := by rw [List.length_take, List.length_reverse]; omega
        repeat' ((conv => whnf); first | (with_reducible first | refine TR.seq ?_ | refine TR.regionL ?_ | refine TR.drawn (TTok _ _) mixed ?_ | refine TR.block ?_ | refine TR.ret ?_ | refine TR.exit ?_ | refine TR.skip ?_ | refine TR.condB rfl ?_ | refine TRL.nil ?_ | refine Br.cond_t ?_ | refine Br.cond_f ?_ | refine Br.yes (by first | decide | assumption | (apply decide_eq_true; omega)) ?_ | refine Br.non (by first | decide | assumption | (apply decide_eq_false; omega)) ?_ | refine Br.cond_ff ?_ | refine Br.eqT (by omega) ?_ | refine Br.eqF (by omega) ?_ | refine Br.neT (by omega) ?_ | refine Br.neF (by omega) ?_ | refine Ld.mk' _ rfl ?_ | refine Need.mk (by first | decide | omega | kernel_rfl) ?_ | refine Nm.i64 (by omega) ?_ | refine Nm.u64 (by omega) ?_ | refine Nm.u8 (by omega) ?_ | refine Nm.keep ?_ | refine Need.mk (by dsimp only; omega) ?_) | refine Ld.mk' _ hld ?_ | refine x_app (TTok _ _) (c := 50) 8 rfl rfl rfl rfl rfl rfl rfl rfl rfl rfl (Nat.zero_lt_succ 0) rfl rfl rfl rfl rfl rfl rfl rfl rfl (by simp [its] <;> omega) (by unfold maxLen; omega) (by omega) ?_ | refine TRL.step (TTok _ _) ?_ | (refine x_exq (TTok _ _) ?_; (conv => whnf); fail_if_success (guard_target =ₛ False)))
        all_goals (conv => whnf)
        refine ⟨(k + 1, v + 1), by dsimp only; omega, by dsimp only; omega, ?_⟩
        dsimp only
        rw [← hrv, show (T.length : Int) - 1 - ((k + 1 : Nat) : Int) = (T.length : Int) - 1 - k - 1 by omega]
        repeat' ((conv => whnf); first | exact trivial | exact Fgt.nil | exact Fgt.mk rfl rfl rfl | exact Fgt.mk rfl (by simp only [noRefC, nr_app, nr_map, nr_its, nr_byt', noRefL, noRef, Bool.and_self] <;> rfl) rfl | refine And.intro rfl ?_ | refine And.intro ?_ ?_)
        all_goals trace_state
      · obtain rfl : k = T.length := by omega
        rw [List.take_of_length_le (by rw [List.length_reverse]; exact Nat.le_refl _)]
        repeat' ((conv => whnf); first | (with_reducible first | refine TR.seq ?_ | refine TR.regionL ?_ | refine TR.drawn (TTok _ _) mixed ?_ | refine TR.block ?_ | refine TR.ret ?_ | refine TR.exit ?_ | refine TR.skip ?_ | refine TR.condB rfl ?_ | refine TRL.nil ?_ | refine Br.cond_t ?_ | refine Br.cond_f ?_ | refine Br.yes (by first | decide | assumption | (apply decide_eq_true; omega)) ?_ | refine Br.non (by first | decide | assumption | (apply decide_eq_false; omega)) ?_ | refine Br.cond_ff ?_ | refine Br.eqT (by omega) ?_ | refine Br.eqF (by omega) ?_ | refine Br.neT (by omega) ?_ | refine Br.neF (by omega) ?_ | refine Ld.mk' _ rfl ?_ | refine Need.mk (by first | decide | omega | kernel_rfl) ?_ | refine Nm.i64 (by omega) ?_ | refine Nm.u64 (by omega) ?_ | refine Nm.u8 (by omega) ?_ | refine Nm.keep ?_ | refine Need.mk (by dsimp only; omega) ?_) | (refine TRL.con [50] [50] (cb _) rfl rfl rfl rfl ⟨rfl, trivial⟩ rfl rfl (fun v _ => ⟨trivial, ?_⟩) (fun _ h => h.elim)) | refine TRL.step (TTok _ _) ?_ | (refine x_exq (TTok _ _) ?_; (conv => whnf); fail_if_success (guard_target =ₛ False)))
        all_goals (conv => whnf)
        all_goals first | exact ⟨(), trivial, rfl, rfl, trivial⟩ | trace_state

set_option maxHeartbeats 32000000 in
theorem rises_B {u2 v2 u3 v3} (l : List Int) (hl : l.length ≤ 9223372036854775807) (hR : ∀ z, z ∈ l → -9223372036854775808 ≤ z ∧ z ≤ 9223372036854775807) (hA : 40 < l.length) :
    Con Tryz.prog (IC u2 v2 u3 v3) 10 (fun s => [.sl (s 0) 0 0 l.length]) (riH l) (fun _ : Unit => True) (fun _ _ => .v (.bool true)) (fun _ => riH l) (fun _ => False) := by
  refine Con.of (TTok _ _) Tryz.func10 (by kernel_rfl) rfl (riH_cl _) rfl (fun σ => rfl) (riH_nat _) (fun _ _ _ => rfl) (fun _ σ _ => riH_nat _ σ) (fun _ _ => CEnd.of rfl rfl (riH_cl _)) ?_
  obtain ⟨q1, q2, q3⟩ := rise_ok l 40
  have c0 := Con.inI (I := IC u2 v2 u3 v3) (rise_con l 40 (by omega) hl (by omega) hR)
  unfold riH riC at c0
  generalize rise l 40 = T at q1 q2 q3 c0
  have hT40 : T.length ≤ 40 := by omega
  obtain ⟨d1, e1, z1, f1⟩ := rises_ns q1 q2 hT40
  obtain ⟨d2, e2, z2, f2⟩ := rises_n3 q1 q2 hT40
  have c1 := fun v => Con.inI (I := IC u2 v2 u3 v3) (ofns_con rootN T v (by decide) (by omega))
  have c3 := fun v => Con.inI (I := IC u2 v2 u3 v3) (ofn3_con 1 0 0 ⟨#[]⟩ nB T v (by decide) (by decide) (by omega))
  rw [e1] at c1
  rw [e2] at c3
  unfold rwH at c1 c3
  have c2 := Con.inI (I := IC u2 v2 u3 v3) (ns_some d1 (by omega) _ f1)
  have c4 := Con.inI (I := IC u2 v2 u3 v3) (n3_some d2 (by omega) _ f2)
  have c5 := fun v w => Con.inI (I := IC u2 v2 u3 v3) (numbers_con T v w (by omega))
  unfold riH
  by_cases h2 : T.length < 2
  · skip
    repeat' ((conv => whnf); first | (with_reducible first | refine TR.seq ?_ | refine TR.regionL ?_ | refine TR.drawn (TTok _ _) mixed ?_ | refine TR.block ?_ | refine TR.ret ?_ | refine TR.exit ?_ | refine TR.skip ?_ | refine TR.condB rfl ?_ | refine TRL.nil ?_ | refine Br.cond_t ?_ | refine Br.cond_f ?_ | refine Br.yes (by first | decide | assumption | (apply decide_eq_true; omega)) ?_ | refine Br.non (by first | decide | assumption | (apply decide_eq_false; omega)) ?_ | refine Br.cond_ff ?_ | refine Br.eqT (by omega) ?_ | refine Br.eqF (by omega) ?_ | refine Br.neT (by omega) ?_ | refine Br.neF (by omega) ?_ | refine Ld.mk' _ rfl ?_ | refine Need.mk (by first | decide | omega | kernel_rfl) ?_ | refine Nm.i64 (by omega) ?_ | refine Nm.u64 (by omega) ?_ | refine Nm.u8 (by omega) ?_ | refine Nm.keep ?_ | refine Need.mk (by dsimp only; omega) ?_ | refine x_ret (f := 14) rfl rfl (fun w hw => examples_ret hw) ?_) | (refine TRL.con [0] [0, 25] c0 rfl rfl rfl rfl ⟨rfl, trivial⟩ rfl rfl (fun v _ => ⟨⟨rfl, trivial⟩, ?_⟩) (fun _ h => h.elim)) | (refine TRL.con [25] [25] (c1 _) rfl rfl rfl rfl ⟨rfl, trivial⟩ rfl rfl (fun v _ => ⟨trivial, ?_⟩) (fun _ h => h.elim)) | (refine TRL.con [] [34] c2 rfl rfl rfl rfl trivial rfl rfl (fun v _ => ⟨⟨rfl, trivial⟩, ?_⟩) (fun _ h => h.elim); dsimp only [nsR, n3R, nsA, n3A]) | (refine TRL.con [25] [25] (c3 _) rfl rfl rfl rfl ⟨rfl, trivial⟩ rfl rfl (fun v _ => ⟨trivial, ?_⟩) (fun _ h => h.elim)) | (refine TRL.con [] [45] c4 rfl rfl rfl rfl trivial rfl rfl (fun v _ => ⟨⟨rfl, trivial⟩, ?_⟩) (fun _ h => h.elim); dsimp only [nsR, n3R, nsA, n3A]) | (refine TRL.con [34, 25] [34, 25] (c5 _ _) rfl rfl rfl rfl ⟨rfl, rfl, trivial⟩ rfl rfl (fun v _ => ⟨trivial, ?_⟩) (fun _ h => h.elim)) | (refine TRL.con [45, 25] [45, 25] (c5 _ _) rfl rfl rfl rfl ⟨rfl, rfl, trivial⟩ rfl rfl (fun v _ => ⟨trivial, ?_⟩) (fun _ h => h.elim)) | refine TRL.step (TTok _ _) ?_ | (refine x_exq (TTok _ _) ?_; (conv => whnf); fail_if_success (guard_target =ₛ False)))
    all_goals (conv => whnf)
    all_goals first | exact ⟨(), trivial, rfl, rfl, trivial⟩ | trace_state
  · have cb := fun v => Con.inI (I := IC u2 v2 u3 v3) (ofns_con rootN T.reverse v (by decide) (by simp; omega))
    rw [tyV_bad (tbD_back q1 (by omega) _)] at cb
    unfold rwH at cb
    rw [List.length_reverse] at cb
    repeat' ((conv => whnf); first | refine TR.nil_slot 15 50 3 1 rfl rfl ?_ | (with_reducible first | refine TR.seq ?_ | refine TR.regionL ?_ | refine TR.drawn (TTok _ _) mixed ?_ | refine TR.block ?_ | refine TR.ret ?_ | refine TR.exit ?_ | refine TR.skip ?_ | refine TR.condB rfl ?_ | refine TRL.nil ?_ | refine Br.cond_t ?_ | refine Br.cond_f ?_ | refine Br.yes (by first | decide | assumption | (apply decide_eq_true; omega)) ?_ | refine Br.non (by first | decide | assumption | (apply decide_eq_false; omega)) ?_ | refine Br.cond_ff ?_ | refine Br.eqT (by omega) ?_ | refine Br.eqF (by omega) ?_ | refine Br.neT (by omega) ?_ | refine Br.neF (by omega) ?_ | refine Ld.mk' _ rfl ?_ | refine Need.mk (by first | decide | omega | kernel_rfl) ?_ | refine Nm.i64 (by omega) ?_ | refine Nm.u64 (by omega) ?_ | refine Nm.u8 (by omega) ?_ | refine Nm.keep ?_ | refine Need.mk (by dsimp only; omega) ?_ | refine x_ret (f := 14) rfl rfl (fun w hw => examples_ret hw) ?_) | (refine TRL.con [0] [0, 25] c0 rfl rfl rfl rfl ⟨rfl, trivial⟩ rfl rfl (fun v _ => ⟨⟨rfl, trivial⟩, ?_⟩) (fun _ h => h.elim)) | (refine TRL.con [25] [25] (c1 _) rfl rfl rfl rfl ⟨rfl, trivial⟩ rfl rfl (fun v _ => ⟨trivial, ?_⟩) (fun _ h => h.elim)) | (refine TRL.con [] [34] c2 rfl rfl rfl rfl trivial rfl rfl (fun v _ => ⟨⟨rfl, trivial⟩, ?_⟩) (fun _ h => h.elim); dsimp only [nsR, n3R, nsA, n3A]) | (refine TRL.con [25] [25] (c3 _) rfl rfl rfl rfl ⟨rfl, trivial⟩ rfl rfl (fun v _ => ⟨trivial, ?_⟩) (fun _ h => h.elim)) | (refine TRL.con [] [45] c4 rfl rfl rfl rfl trivial rfl rfl (fun v _ => ⟨⟨rfl, trivial⟩, ?_⟩) (fun _ h => h.elim); dsimp only [nsR, n3R, nsA, n3A]) | (refine TRL.con [34, 25] [34, 25] (c5 _ _) rfl rfl rfl rfl ⟨rfl, rfl, trivial⟩ rfl rfl (fun v _ => ⟨trivial, ?_⟩) (fun _ h => h.elim)) | (refine TRL.con [45, 25] [45, 25] (c5 _ _) rfl rfl rfl rfl ⟨rfl, rfl, trivial⟩ rfl rfl (fun v _ => ⟨trivial, ?_⟩) (fun _ h => h.elim)) | refine TRL.step (TTok _ _) ?_ | (refine x_exq (TTok _ _) ?_; (conv => whnf); fail_if_success (guard_target =ₛ False)))
    refine TR.loopH (fun x : Nat × Nat => [(16, .v (.int .i64 ((T.length : Int) - 1 - x.1))), (15, .sl 50 x.2 0 x.1)]) (fun x => [(50, ⟨.row, 3, 1, x.2, its (T.reverse.take x.1)⟩)]) (fun x => x.1 ≤ T.length) (fun x => T.length - x.1) (0, 0) (Nat.zero_le _) ?_ ?_
    · repeat' ((conv => whnf); first | exact trivial | exact Fgt.nil | exact Fgt.mk rfl rfl rfl | exact Fgt.mk rfl (by simp only [noRefC, nr_app, nr_map, nr_its, nr_byt', noRefL, noRef, Bool.and_self] <;> rfl) rfl | refine And.intro rfl ?_ | refine And.intro ?_ ?_)
      all_goals simp
    · rintro ⟨k, v⟩ hk
      dsimp only at hk ⊢
      by_cases hkl : k < T.length
      · have hld := ld_its (l := T) (k := T.length - 1 - k) (by omega)
        have ek : (((T.length - 1 - k : Nat) : Int)).toNat = ((T.length : Int) - 1 - k).toNat := by omega
        rw [ek] at hld
        have hrv : its (T.reverse.take k) ++ [AV.v (.int .i64 (zAt T (T.length - 1 - k)))] = its (T.reverse.take (k + 1)) := by
          rw [List.take_add_one, its_app, List.getElem?_reverse hkl, zAt_get (show T.length - 1 - k < T.length by omega)]
          rfl
        have hrl : (T.reverse.take k).length = k := by rw [List.length_take, List.length_reverse]; omega
        repeat' ((conv => whnf); first | (with_reducible first | refine TR.seq ?_ | refine TR.regionL ?_ | refine TR.drawn (TTok _ _) mixed ?_ | refine TR.block ?_ | refine TR.ret ?_ | refine TR.exit ?_ | refine TR.skip ?_ | refine TR.condB rfl ?_ | refine TRL.nil ?_ | refine Br.cond_t ?_ | refine Br.cond_f ?_ | refine Br.yes (by first | decide | assumption | (apply decide_eq_true; omega)) ?_ | refine Br.non (by first | decide | assumption | (apply decide_eq_false; omega)) ?_ | refine Br.cond_ff ?_ | refine Br.eqT (by omega) ?_ | refine Br.eqF (by omega) ?_ | refine Br.neT (by omega) ?_ | refine Br.neF (by omega) ?_ | refine Ld.mk' _ rfl ?_ | refine Need.mk (by first | decide | omega | kernel_rfl) ?_ | refine Nm.i64 (by omega) ?_ | refine Nm.u64 (by omega) ?_ | refine Nm.u8 (by omega) ?_ | refine Nm.keep ?_ | refine Need.mk (by dsimp only; omega) ?_) | refine Ld.mk' _ hld ?_ | refine x_app (TTok _ _) (c := 50) 8 rfl rfl rfl rfl rfl rfl rfl rfl rfl rfl (Nat.zero_lt_succ 0) rfl rfl rfl rfl rfl rfl rfl rfl rfl (by simp [its] <;> omega) (by unfold maxLen; omega) (by omega) ?_ | refine TRL.step (TTok _ _) ?_ | (refine x_exq (TTok _ _) ?_; (conv => whnf); fail_if_success (guard_target =ₛ False)))
        all_goals (conv => whnf)
        refine ⟨(k + 1, v + 1), by dsimp only; omega, by dsimp only; omega, ?_⟩
        dsimp only
        rw [← hrv, show (T.length : Int) - 1 - ((k + 1 : Nat) : Int) = (T.length : Int) - 1 - k - 1 by omega]
        repeat' ((conv => whnf); first | exact trivial | exact Fgt.nil | exact Fgt.mk rfl rfl rfl | exact Fgt.mk rfl (by simp only [noRefC, nr_app, nr_map, nr_its, nr_byt', noRefL, noRef, Bool.and_self] <;> rfl) rfl | refine And.intro rfl ?_ | refine And.intro ?_ ?_)
        all_goals trace_state
      · obtain rfl : k = T.length := by omega
        rw [List.take_of_length_le (by rw [List.length_reverse]; exact Nat.le_refl _)]
        repeat' ((conv => whnf); first | (with_reducible first | refine TR.seq ?_ | refine TR.regionL ?_ | refine TR.drawn (TTok _ _) mixed ?_ | refine TR.block ?_ | refine TR.ret ?_ | refine TR.exit ?_ | refine TR.skip ?_ | refine TR.condB rfl ?_ | refine TRL.nil ?_ | refine Br.cond_t ?_ | refine Br.cond_f ?_ | refine Br.yes (by first | decide | assumption | (apply decide_eq_true; omega)) ?_ | refine Br.non (by first | decide | assumption | (apply decide_eq_false; omega)) ?_ | refine Br.cond_ff ?_ | refine Br.eqT (by omega) ?_ | refine Br.eqF (by omega) ?_ | refine Br.neT (by omega) ?_ | refine Br.neF (by omega) ?_ | refine Ld.mk' _ rfl ?_ | refine Need.mk (by first | decide | omega | kernel_rfl) ?_ | refine Nm.i64 (by omega) ?_ | refine Nm.u64 (by omega) ?_ | refine Nm.u8 (by omega) ?_ | refine Nm.keep ?_ | refine Need.mk (by dsimp only; omega) ?_) | (refine TRL.con [50] [50] (cb _) rfl rfl rfl rfl ⟨rfl, trivial⟩ rfl rfl (fun v _ => ⟨trivial, ?_⟩) (fun _ h => h.elim)) | refine TRL.step (TTok _ _) ?_ | (refine x_exq (TTok _ _) ?_; (conv => whnf); fail_if_success (guard_target =ₛ False)))
        all_goals (conv => whnf)
        all_goals first | exact ⟨(), trivial, rfl, rfl, trivial⟩ | trace_state
theorem rises_con {u2 v2 u3 v3} (l : List Int) (hl : l.length ≤ 9223372036854775807) (hR : ∀ z, z ∈ l → -9223372036854775808 ≤ z ∧ z ≤ 9223372036854775807) :
    Con Tryz.prog (IC u2 v2 u3 v3) 10 (fun s => [.sl (s 0) 0 0 l.length]) (riH l) (fun _ : Unit => True) (fun _ _ => .v (.bool true)) (fun _ => riH l) (fun _ => False) := by
  by_cases h : l.length ≤ 40
  · exact rises_A l hl hR h
  · exact rises_B l hl hR (by omega)
end Go.Proofs.YtbladfkakmdigaaGreatDoor
set_option maxRecDepth 100000
set_option linter.unusedVariables false
namespace Go.Proofs.YtbladfkakmdigaaGreatDoor
open Go.SX
theorem list_of {α : Type} {P : Nat → α → Prop} : ∀ m, (∀ i, i < m → ∃ x, P i x) → ∃ l : List α, l.length = m ∧ ∀ i x, l[i]? = some x → P i x
  | 0, _ => ⟨[], rfl, fun i x h => by simp at h⟩
  | m + 1, h => by
    obtain ⟨l, h1, h2⟩ := list_of m fun i hi => h i (by omega)
    obtain ⟨x, hx⟩ := h m (by omega)
    refine ⟨l ++ [x], by simp [h1], fun i y hy => ?_⟩
    rcases Nat.lt_or_ge i l.length with h3 | h3
    · rw [List.getElem?_append_left h3] at hy
      exact h2 i y hy
    · rw [List.getElem?_append_right h3] at hy
      cases hd : i - l.length with
      | zero =>
        rw [hd] at hy
        simp at hy
        subst hy
        have : i = m := by omega
        subst this
        exact hx
      | succ k =>
        rw [hd] at hy
        simp at hy
theorem ro_ints {W : World} {v : Value} {l : List Int} (h : FSl W v (l.map (Value.int .i64))) (h0 : 0 < W.heap.size) :
    ∃ L : SX.Loc, (∀ b, L.dom b ↔ b = L.blk) ∧ L.blk < W.heap.size ∧ slOk L 1 0 l.length v ∧ (∃ a m d, v = .slice a m d) ∧ (⟨.ro, 3, 1, 0, its l⟩ : Chunk).mem W L (l.map (Value.int .i64)) := by
  have := ro_loc h h0 3 (its l)
  simpa using this
theorem heap_pos {u2 v2 u3 v3} {W : World} (h : IC u2 v2 u3 v3 W) : 0 < W.heap.size := by
  have h1 := h.b
  unfold Lib.TabIs World.var? at h1
  rcases Nat.eq_zero_or_pos W.heap.size with h0 | h0
  · exfalso
    have hg : Tryz.prog.globalNamed "internal/strconv.uint64pow10" = some 2 := by kernel_rfl
    rw [hg] at h1
    simp [Array.size_eq_zero_iff.1 h0] at h1
  · exact h0
end Go.Proofs.YtbladfkakmdigaaGreatDoor
set_option maxRecDepth 100000
set_option linter.unusedVariables false
namespace Go.Proofs.YtbladfkakmdigaaGreatDoor
open Go.SX
namespace dataRises
theorem bounds_i64 {m : Int} (h : (Lit.int .i64 m).wf = true) : -9223372036854775808 ≤ m ∧ m ≤ 9223372036854775807 := by
  simp [Lit.wf, IntKind.min, IntKind.max, IntKind.signed, IntKind.bits] at h
  omega
theorem fit_intsR {W : World} {B n : Nat} {cs : List Value} (h : Fit TT W B (n + 2) 60 cs) : ∃ (sv : Value) (l : List Int), cs = [sv] ∧ l.length ≤ B ∧ FSl W sv (l.map (Value.int .i64)) ∧ ∀ z, z ∈ l → -9223372036854775808 ≤ z ∧ z ≤ 9223372036854775807 := by
  rcases h with rfl | ⟨a, m, cap, rfl, hmc, hB, ⟨_, hsp⟩, hc⟩
  · exact ⟨_, [], rfl, Nat.zero_le _, .inl ⟨rfl, rfl⟩, fun z hz => by simp at hz⟩
  · obtain ⟨l, h1, h2⟩ := list_of (P := fun i (z : Int) => W.cell? (a.add i) = some (.int .i64 z) ∧ -9223372036854775808 ≤ z ∧ z ≤ 9223372036854775807) m fun i hi => by
      obtain ⟨xs, g1, g2, g3⟩ := hc i hi
      obtain ⟨z, rfl, hz⟩ := g3
      have := g2 0 (by decide)
      refine ⟨z, ?_, bounds_i64 hz⟩
      rw [show ((a.add (i * 1)).add 0) = a.add i by rw [Nat.mul_one]; rfl] at this
      simpa using this
    subst h1
    refine ⟨_, l, rfl, hB, .inr ⟨a, cap, by simp, by simpa using hmc, fun hcap => hsp _ rfl hcap (by decide), fun j q hq => ?_⟩, fun z hz => ?_⟩
    · rw [List.getElem?_map] at hq
      cases hz : l[j]? with
      | none => rw [hz] at hq; cases hq
      | some z =>
        rw [hz] at hq
        cases hq
        exact (h2 j z hz).1
    · obtain ⟨j, hj⟩ := List.mem_iff_getElem?.1 hz
      exact (h2 j z hj).2
def inv (W : World) : Prop := ∃ u2 v2 u3 v3, IC u2 v2 u3 v3 W
theorem inv_of {W : World} (h : laidMet Tryz.prog Rows.dataRisesRow.laid W) (_ : W.ShapedOpen Tryz.prog) : inv W :=
  ic_of h (List.mem_of_getElem? (i := 2) (by kernel_rfl)) (List.mem_of_getElem? (i := 1) (by kernel_rfl)) (List.mem_of_getElem? (i := 5) rfl) (List.mem_of_getElem? (i := 4) rfl)
theorem returns (W : World) (args : Array Value) (hI : inv W) (hF : FitAll TT W maxLen Tryz.f10.params.toList args.toList) : Ret Tryz.prog 10 args.toList W (.bool true) := by
  obtain ⟨u2, v2, u3, v3, hI⟩ := hI
  rw [show Tryz.f10.params.toList = [60] by kernel_rfl] at hF
  generalize args.toList = l at hF
  obtain ⟨a, l, rfl, ha, hF⟩ := fitAll_cons hF
  obtain rfl := fitAll_nil hF
  obtain ⟨cs, hf, rfl⟩ := ha
  obtain ⟨sv, ll, rfl, hl, hfa, hR⟩ := fit_intsR hf
  obtain ⟨L1, p1, p2, p3, p4, p5⟩ := ro_ints hfa (heap_pos hI)
  refine Con.retF (rises_con ll (by have : maxLen = 9223372036854775807 := rfl; omega) hR) (fun _ _ => rfl) (fun _ h => h) (fun w' hm => hI.mod hm) (fun _ => L1) ?_ ?_
  · intro c k hk
    match c with
    | 0 =>
      obtain rfl := Option.some.inj hk.symm
      exact ⟨rfl, ⟨_, by rw [its_vals]; exact relL_vals _, p5⟩, p1, p2⟩
    | c + 1 => simp [riH, getO] at hk
  · exact ⟨⟨0, rfl, Nat.le_refl _, fun _ => p3, p4⟩, trivial⟩
end dataRises
end Go.Proofs.YtbladfkakmdigaaGreatDoor
