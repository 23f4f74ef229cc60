/-
  What the laws of these data stand on: contracts of functions, and plain laws.
-/
import Derived.Lib.Strings
import Derived.Laws.BytesArg
import Derived.RangeFuncLeaves
import Derived.RangeFuncSeq
import Derived.Lib.AppendStr
import Derived.Recover
import Derived.Laws.StructEq
import Derived.Laws.Entries
import Derived.Laws.Cells
import Derived.Laws.Strings
import Derived.Lib.Bytealg
import Derived.Lib.Join
import Derived.Laws.Externs
import Derived.ProofKit
import Derived.OpenShut
import Derived.OpenVars
import Derived.Deep.DeepHandedRow
import Derived.Lib.LaidTab
import Derived.Deep.LoopGhost
import Derived.Lib.ConvBytes
import Derived.LoopN
import Derived.Scope
import Derived.Calls
import Derived.Tactics
import Derived.Laws.World
import Derived.Laws.Rows
import Derived.Laws.AppendOwn
import Derived.Laws.MakeOwn
import Derived.Orders
import Derived.OrdersIn
import Derived.TacticsIn
import Derived.LoopNIn
import Derived.Sort.LoopGhostIn
import Derived.Below
import Derived.KernelRfl
import Derived.Lib.Builder
import Derived.Lib.UnsafeStr
import Derived.MapKept
import Derived.WideKeyRuns
import Derived.Test.YtdmgmkifjboojaaGreatDoorFXa
import Derived.Test.YtdmgmkifjboojaaGreatDoorFXb
import Derived.Test.YtdmgmkifjboojaaGreatDoorFXc
set_option linter.unusedVariables false
set_option linter.unusedSimpArgs false
set_option linter.unnecessarySimpa false
set_option linter.unusedSimpArgs false
set_option linter.unusedVariables false
namespace Go.SX
def FSl (w : World) (v : Value) (us : List Value) : Prop :=
  (v = .slice none 0 0 ∧ us = []) ∨ ∃ a cap, v = .slice (some a) us.length cap ∧ us.length ≤ cap ∧ (cap ≠ 0 → a.spot = none ∧ a.block < w.heap.size) ∧ ∀ j q, us[j]? = some q → w.cell? (a.add j) = some q
def FSlE (w : World) (v : Value) (n esz : Nat) (us : List Value) : Prop :=
  us.length = n * esz ∧ ((v = .slice none 0 0 ∧ n = 0) ∨ ∃ a cap, v = .slice (some a) n cap ∧ n ≤ cap ∧ (cap ≠ 0 → a.spot = none ∧ a.block < w.heap.size) ∧ ∀ j q, us[j]? = some q → w.cell? (a.add j) = some q)
theorem ro_locE {w : World} {v : Value} {n esz : Nat} {us : List Value} (h : FSlE w v n esz us) (h0 : 0 < w.heap.size) (ty : TypeId) (cells : List AV) :
    ∃ L : Loc, (∀ b, L.dom b ↔ b = L.blk) ∧ L.blk < w.heap.size ∧ slOk L esz 0 n v ∧ (∃ a m d, v = .slice a m d) ∧ (⟨.ro, ty, esz, 0, cells⟩ : Chunk).mem w L us := by
  obtain ⟨hl, h⟩ := h
  have nil : n = 0 → us = [] := fun e => List.eq_nil_of_length_eq_zero (by rw [hl, e, Nat.zero_mul])
  rcases h with ⟨rfl, rfl⟩ | ⟨a, cap, rfl, h1, h2, h3⟩
  · exact ⟨⟨0, 0, none, 0, fun b => b = 0⟩, fun b => Iff.rfl, h0, ⟨by simp, none, rfl, fun h => (h rfl).elim, fun _ => rfl⟩, ⟨_, _, _, rfl⟩, ⟨fun h => (h rfl).elim, fun _ => nil rfl⟩⟩
  · by_cases hc : cap = 0
    · subst hc
      have hn : n = 0 := by omega
      have hu : us = [] := nil hn
      subst hu
      subst hn
      exact ⟨⟨0, 0, some a, 0, fun b => b = 0⟩, fun b => Iff.rfl, h0, ⟨by simp, some a, rfl, fun h => (h rfl).elim, fun _ => rfl⟩, ⟨_, _, _, rfl⟩, ⟨fun h => (h rfl).elim, fun _ => rfl⟩⟩
    · obtain ⟨g1, g2⟩ := h2 hc
      obtain ⟨b, o, s⟩ := a
      dsimp only at g1 g2
      subst g1
      refine ⟨⟨b, o, some ⟨b, o, none⟩, cap, fun x => x = b⟩, fun x => Iff.rfl, g2, ⟨by simpa using h1, _, rfl, fun _ => ?_, fun _ => rfl⟩, ⟨_, _, _, rfl⟩, ⟨fun _ => ⟨rfl, fun i u hu => ?_⟩, fun h => (hc h).elim⟩⟩
      · simp [Addr.add]
      · have := h3 i u hu
        rw [add_none] at this
        exact this
theorem Con.retF {P : Program} {I : World → Prop} {f : FuncId} {A : (Nat → Nat) → List AV} {H : (Nat → Nat) → List (Option Chunk)} {α : Type} {Q : α → Prop} {R : α → (Nat → Nat) → AV} {C : α → (Nat → Nat) → List (Option Chunk)} {B : List PanicEntry → Prop} (h : Con P I f A H Q R C B) {args : List Value} {v : Value} (hv : ∀ p, Q p → val (R p id) = some v) (hB : ∀ ch, ¬ B ch) {w : World} (hI : ∀ w', Mod w w' (fun _ => False) → I w') (ρ : Nat → Loc)
    (hH : ∀ c k, getO (H id) c = some k → k.kind = .ro ∧ (∃ xs, relL (St.vs ⟨[], H id⟩) (St.ez ⟨[], H id⟩) ρ k.cells xs ∧ k.mem w (ρ c) xs) ∧ (∀ b, (ρ c).dom b ↔ b = (ρ c).blk) ∧ (ρ c).blk < w.heap.size)
    (hA : relL (St.vs ⟨[], H id⟩) (St.ez ⟨[], H id⟩) ρ (A id) args) : Ret P f args w v := by
  have hno : ∀ c k, getO (H id) c = some k → k.owned = false := fun c k hk => by
    have := (hH c k hk).1
    simp [Chunk.owned, this, CK.owned]
  have hO' : partO (H id) ρ = fun _ => False := funext fun b => propext ⟨fun ⟨c, k, h1, h2, _⟩ => (by rw [hno c k h1] at h2; cases h2), fun h => h.elim⟩
  have hrun := h.run w ρ args (by rw [hO']; exact hI) ⟨fun c k hk => (hH c k hk).2.1, fun c k b hk hb => ?_, fun c k b hk ho _ => (by rw [hno c k hk] at ho; cases ho), fun c k b hk hb => by simp [Chunk.blk, (hH c k hk).1] at hb, fun c k hk => ?_, fun c d k l b hk hl ho _ _ => (by rw [hno c k hk] at ho; cases ho), Mod.refl _ _⟩ hA
  · refine ⟨h.has, hrun.mono ?_⟩
    rintro e w' (⟨u, p, ρ', rfl, h1, h2, h3, _⟩ | ⟨ch, rfl, hb, _⟩)
    · have hm := h3.mod
      rw [hO'] at hm
      exact ⟨by rw [val_rel (hv p h1) h2], hm⟩
    · exact (hB ch hb).elim
  · obtain ⟨_, _, h1, h2⟩ := hH c k hk
    rw [h1] at hb
    rw [hb]
    exact h2
  · obtain ⟨h0, _, h1, _⟩ := hH c k hk
    intro w1 w2 xs hw hm
    unfold Chunk.mem at hm ⊢
    rw [h0] at hm ⊢
    refine ⟨fun hc => ⟨(hm.1 hc).1, fun i u hu => ?_⟩, hm.2⟩
    have := (hm.1 hc).2 i u hu
    simp only [World.cell?] at this ⊢
    rw [hw _ ((h1 _).2 rfl)]
    exact this
end Go.SX
set_option linter.unusedSimpArgs false
set_option linter.unusedVariables false
namespace Go.SX
def swN (c d x : Nat) : Nat := match Nat.beq x c with
  | true => d
  | false => match Nat.beq x d with
    | true => c
    | false => x
theorem swN_eq (c d x : Nat) : swN c d x = if x = c then d else if x = d then c else x := by
  unfold swN
  by_cases h : x = c
  · subst h; simp
  · have : Nat.beq x c = false := by
      cases e : Nat.beq x c with
      | false => rfl
      | true => exact (h (Nat.eq_of_beq_eq_true e)).elim
    rw [this, if_neg h]
    by_cases g : x = d
    · subst g; simp
    · have : Nat.beq x d = false := by
        cases e : Nat.beq x d with
        | false => rfl
        | true => exact (g (Nat.eq_of_beq_eq_true e)).elim
      rw [this, if_neg g]
theorem swN_sw (c d x : Nat) : swN c d (swN c d x) = x := by
  simp only [swN_eq]
  repeat' split
  all_goals omega
mutual
def swA (c d : Nat) : AV → AV
  | .v x => .v x
  | .ref n k o => .ref (swN c d n) k o
  | .sl n k lo m => .sl (swN c d n) k lo m
  | .agg l => .agg (swL c d l)
  | .fn f l => .fn f (swL c d l)
  | .ifc t a => .ifc t (swA c d a)
  | .tup l => .tup (swL c d l)
  | .dead => .dead
  | .mp n k => .mp (swN c d n) k
def swL (c d : Nat) : List AV → List AV
  | [] => []
  | a :: l => swA c d a :: swL c d l
end
theorem swL_vals (c d : Nat) : ∀ us : List Value, swL c d (us.map .v) = us.map .v
  | [] => rfl
  | u :: us => by simp only [List.map_cons, swL, swA, swL_vals c d us]
section
variable {vs vs' : Nat → Option Nat} {ez ez' : Nat → Nat} {ρ ρ' : Nat → Loc} {c d : Nat}
mutual
theorem rel_sw (h : ∀ x, vs' (swN c d x) = vs x ∧ ez' (swN c d x) = ez x ∧ ρ' (swN c d x) = ρ x) : ∀ (a : AV) (u : Value), rel vs' ez' ρ' (swA c d a) u ↔ rel vs ez ρ a u
  | .v x, u => by simp [swA, rel]
  | .dead, u => by simp [swA, rel]
  | .ref n k off, u => by
    obtain ⟨h1, h2, h3⟩ := h n
    simp only [swA, rel, h1, h3]
  | .sl n k lo m, u => by
    obtain ⟨h1, h2, h3⟩ := h n
    simp only [swA, rel, h1, h2, h3]
  | .mp n k, u => by
    obtain ⟨h1, h2, h3⟩ := h n
    simp only [swA, rel, h1, h3]
  | .agg l, u => by simp only [swA, rel, relL_sw h l]
  | .fn f l, u => by simp only [swA, rel, relL_sw h l]
  | .ifc t a, u => by simp only [swA, rel, rel_sw h a]
  | .tup l, u => by simp only [swA, rel, relL_sw h l]
theorem relL_sw (h : ∀ x, vs' (swN c d x) = vs x ∧ ez' (swN c d x) = ez x ∧ ρ' (swN c d x) = ρ x) : ∀ (l : List AV) (us : List Value), relL vs' ez' ρ' (swL c d l) us ↔ relL vs ez ρ l us
  | [], us => by cases us <;> simp [swL, relL]
  | a :: l, [] => by simp [swL, relL]
  | a :: l, u :: us => by simp only [swL, relL, rel_sw h a, relL_sw h l]
end
end
def swK (c d : Nat) (k : Chunk) : Chunk := ⟨k.kind, k.ty, k.esz, k.ver, swL c d k.cells⟩
def mapK (c d : Nat) : List (Option Chunk) → List (Option Chunk)
  | [] => []
  | some k :: l => some (swK c d k) :: mapK c d l
  | none :: l => none :: mapK c d l
theorem getO_mapK (c d : Nat) : ∀ (l : List (Option Chunk)) (x : Nat), getO (mapK c d l) x = (getO l x).map (swK c d)
  | [], x => by simp [mapK, getO_nil]
  | some k :: l, 0 => rfl
  | none :: l, 0 => rfl
  | some k :: l, x + 1 => getO_mapK c d l x
  | none :: l, x + 1 => getO_mapK c d l x
def mvS (c d : Nat) (k : Chunk) (s : St) : St := ⟨swL c d s.fr, mapK c d (unO (setO s.ch d k) c)⟩
theorem Le.mv {X : Ctx} {s : St} (c d : Nat) (k : Chunk) (hcd : c ≠ d) (hc : getO s.ch c = some k) (hd : getO s.ch d = none) (nc : X.n ≤ c) (nd : X.n ≤ d) : Le X s (mvS c d k s) := by
  intro E a w ρ hr
  have hg : ∀ x, getO (mvS c d k s).ch x = (getO s.ch (swN c d x)).map (swK c d) := by
    intro x
    show getO (mapK c d (unO (setO s.ch d k) c)) x = _
    rw [getO_mapK, swN_eq]
    by_cases e1 : x = c
    · subst e1
      rw [unO_same, if_pos rfl, hd]
    · rw [unO_ne _ _ _ e1, if_neg e1]
      by_cases e2 : x = d
      · subst e2
        rw [getO_set_same, if_pos rfl, hc]
      · rw [getO_set_ne _ _ _ _ e2, if_neg e2]
  have hg2 : ∀ x, getO (mvS c d k s).ch (swN c d x) = (getO s.ch x).map (swK c d) := fun x => by rw [hg, swN_sw]
  have hvs : ∀ x, (mvS c d k s).vs (swN c d x) = s.vs x ∧ (mvS c d k s).ez (swN c d x) = s.ez x ∧ ρ (swN c d (swN c d x)) = ρ x := by
    intro x
    refine ⟨?_, ?_, by rw [swN_sw]⟩
    · simp only [St.vs, hg2]
      cases getO s.ch x <;> rfl
    · simp only [St.ez, hg2]
      cases getO s.ch x <;> rfl
  have hb : ∀ x, getO (mvS c d k s).ch x = (getO s.ch (swN c d x)).map (swK c d) := hg
  obtain ⟨g1, g2, g3, g4⟩ := hr
  obtain ⟨q1, q2, q3, q4, q5, q6, q7⟩ := g3
  have un : ∀ {x q}, getO (mvS c d k s).ch x = some q → ∃ q0, getO s.ch (swN c d x) = some q0 ∧ q = swK c d q0 := by
    intro x q h
    rw [hb] at h
    cases e : getO s.ch (swN c d x) with
    | none => rw [e] at h; cases h
    | some q0 => rw [e] at h; exact ⟨q0, rfl, (Option.some.inj h).symm⟩
  refine ⟨fun x => ρ (swN c d x), (relL_sw hvs _ _).2 g1, g2, ⟨fun x q hq => ?_, fun x q b hq => ?_, fun x q b hq ho => ?_, fun x q b hq => ?_, fun x q hq => ?_, fun x y q r b hq hr' ho h1 h2 => ?_, q7⟩, fun x v hv => ?_⟩
  · obtain ⟨q0, h1, rfl⟩ := un hq
    obtain ⟨xs, h2, h3⟩ := q1 _ _ h1
    exact ⟨xs, (relL_sw hvs _ _).2 h2, h3⟩
  · obtain ⟨q0, h1, rfl⟩ := un hq
    exact q2 _ _ b h1
  · obtain ⟨q0, h1, rfl⟩ := un hq
    exact q3 _ _ b h1 ho
  · obtain ⟨q0, h1, rfl⟩ := un hq
    exact fun hb' => q4 _ q0 b h1 hb'
  · obtain ⟨q0, h1, rfl⟩ := un hq
    exact fun w1 w2 xs hw hm => q5 _ q0 h1 w1 w2 xs hw hm
  · obtain ⟨q0, e1, rfl⟩ := un hq
    obtain ⟨r0, e2, rfl⟩ := un hr'
    have := q6 _ _ _ _ b e1 e2 ho h1 h2
    rw [← swN_sw c d x, ← swN_sw c d y, this]
  · have hx := E.b.lt x v hv
    have e : swN c d x = x := by rw [swN_eq, if_neg (by omega), if_neg (by omega)]
    obtain ⟨cur, u1, u2, u3⟩ := g4 x v hv
    have hh := hvs x
    rw [e] at hh
    refine ⟨cur, by rw [hh.1]; exact u1, u2, fun h => ?_⟩
    rw [hh.2.1]
    show ρ (swN c d x) = _ ∧ _
    rw [e]
    exact u3 h
theorem TR.mv {X : Ctx} {cd : Code} {K : Exit → St → Prop} {st : St} (c d : Nat) {k : Chunk} (hcd : Nat.beq c d = false) (hc : getO st.ch c = some k) (hd : getO st.ch d = none) (nc : X.n ≤ c) (nd : X.n ≤ d) (h : TR X cd K (mvS c d k st)) : TR X cd K st :=
  h.le (Le.mv c d k (fun e => by subst e; simp at hcd) hc hd nc nd)
end Go.SX
namespace Go.SX
def slotSl : List AV → Nat → Nat → Bool
  | [], _, _ => false
  | .sl c _ _ _ :: _, 0, d => Nat.beq c d
  | _ :: _, 0, _ => false
  | _ :: l, i + 1, d => slotSl l i d
section
variable {X : Ctx} {o : Oper} {st : St} {k : Actn → Prop}
end
end Go.SX
set_option linter.unusedVariables false
namespace Go.SX
theorem x_load_exA {X : Ctx} {o : Oper} {st : St} {k : Actn → Prop} (hT : X.ok) {t : TypeId} {x : Operand} {b off : Nat} {y : Ty} {us : List Value} (ho : o.op = .load t x) (hx : evA st.fr x = .v (.pointer (some ⟨b, off, none⟩))) (hy : getO X.T t = some y) (hz : aggd y = true) (hl : us.length = y.size)
    (hF : ∀ w, X.I w → ∀ i u, us[i]? = some u → w.cell? ⟨b, off + i, none⟩ = some u) (h : k (aP o st.fr [x] (.agg (us.map .v)))) : ActN X o st k := by
  refine ⟨_, LS.pure rfl rfl fun st' E a w ρ hf hr => ?_, ⟨rds_fits st.fr st.ch [x], by simp [aP]⟩, h⟩
  have h1 := hr.ev x
  rw [fits_ev hf (fr := st.fr) (x := x) (rds_mem (by simp)), hx] at h1
  simp only [rel] at h1
  have hload := (hT t y hy).run_load (w := w) ⟨b, off, none⟩ us hl (fun e => by rw [hz] at e; cases e) (fun i u hu => by
    rw [add_none]
    exact hF w (E.inv w hr.heap.mod) i u hu)
  rw [hz] at hload
  refine ⟨.agg us.toArray, by simp [execOp, ho, h1, Instr.loadAt, Instr.sureAddr, hload], ?_⟩
  simp only [aP, rel]
  exact ⟨us.toArray, rfl, by simpa using relL_vals us⟩
end Go.SX
namespace Go.SX
theorem joined_of1 {P : Program} {f : FuncId} {fn : Func} {s : ChangeSpec} {c : OpenClaim}
    (a1 : c.wf (OpenSpec.ofChange s) = true) (a2 : laidOutB P = true) (a3 : mapsRowed P = true) (a4 : fn.params.all (P.readableRec ·) = true) (a5 : namedTie P c.named s.vars = true)
    (a6 : ((c.stops == []) && (P.stops == []) && (c.knobs == []) && (P.stopKnobs == [])) = true)
    (h2 : (c.inPlace == P.inPlace f) = true) (h3 : (c.unfollowed == P.unfollowed f) = true) (h4 : (c.recurses == P.recurses f) = true) (h5 : (c.named == P.varsNamed f) = true)
    (b1 : (c.maps == (fn.params.toList ++ s.plain.varTypes P).any (P.mapsRec ·)) = true) (b2 : (c.ifaces == (fn.params.toList ++ s.plain.varTypes P).any (P.ifacesRec ·)) = true) (b3 : (c.mapsOut == P.mapsAmong fn.resultTypes.toList) = true)
    (b4 : (c.loops == (fn.params.toList ++ s.plain.varTypes P).any (P.loopsFrom ·)) = true) (b5 : (c.wideKeys == (fn.params.toList ++ s.plain.varTypes P ++ fn.resultTypes.toList).any (P.wideKeysFrom ·)) = true)
    (b6 : s.vars.all (P.varReadable ·) = true) (b7 : fn.resultTypes.all (fun t => P.readableRec t && decide (t < P.types.size)) = true) (b8 : (c.ifacesOut == fn.resultTypes.toList.any (P.ifacesRec ·)) = true) (b9 : (c.loopsOut == fn.resultTypes.toList.any (P.loopsFrom ·)) = true) (b10 : (c.plainKeys == P.plainKeys) = true) (b11 : c.shortTexts.isNone = true)
    (d1 : P.stopsHeard = true) (d2 : P.mayEnter = true) (d3 : (c.lifted == P.liftsFinal) = true) (d4 : (P.make == some c.make) = true) (d5 : (c.kinds == (if c.domain.isEmpty then [] else fn.params.toList.map fun t => match P.underlying t with | some (.int k) => some k | _ => none)) = true) (d6 : (c.pinned == c.pinnedBy) = true)
    (d7 : (c.veiled == (fn.params.toList ++ s.plain.varTypes P ++ fn.resultTypes.toList).any (P.veiledRec ·)) = true) (d8 : c.veiledFits P fn.params.toList (fn.params.toList ++ s.plain.varTypes P ++ fn.resultTypes.toList) = true) :
    joinedFacts P f fn s c = true := by
  unfold joinedFacts
  simp only [Bool.and_eq_true] at a6 ⊢
  simp only [a1, a2, a3, a4, a5, a6, h2, h3, h4, h5, b1, b2, b3, b4, b5, b6, b7, b8, b9, b10, b11, d1, d2, d3, d4, d6, d7, d8, and_self, true_and, and_true]
  exact d5
end Go.SX
