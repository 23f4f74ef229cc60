/-
  What the laws of these data stand on: contracts of functions, and plain laws.
-/
import Derived.ProofKit
import Derived.OpenShut
import Derived.OpenVars
import Derived.Deep.DeepHandedRow
import Derived.Lib.LaidTab
import Derived.Calls
import Derived.Tactics
import Derived.Laws.World
import Derived.Laws.Rows
import Derived.Laws.AppendOwn
import Derived.Laws.MakeOwn
import Derived.Orders
import Derived.OrdersIn
import Derived.Scope
import Derived.TacticsIn
import Derived.LoopNIn
import Derived.Sort.LoopGhostIn
import Derived.Below
import Derived.KernelRfl
import Derived.Laws.BytesArg
import Derived.Laws.Strings
import Derived.Lib.Bytealg
import Derived.Lib.Join
import Derived.Laws.Externs
import Derived.Laws.Entries
import Derived.Laws.Cells
import Derived.Lib.Strings
import Derived.Laws.StructEq
import Derived.LoopN
import Derived.Lib.ConvBytes
import Derived.Lib.AppendStr
import Derived.Deep.LoopGhost
import Derived.Lib.Builder
import Derived.Lib.UnsafeStr
import Derived.RangeFuncLeaves
import Derived.RangeFuncSeq
import Derived.Recover
import Derived.MapKept
import Derived.WideKeyRuns
import Derived.Test.YtdmgmkifjboojaaGreatDoorNXa
import Derived.Test.YtdmgmkifjboojaaGreatDoorNXb
import Derived.Test.YtdmgmkifjboojaaGreatDoorNXc
set_option linter.unusedVariables false
set_option linter.unusedSimpArgs false
set_option linter.unnecessarySimpa false
set_option linter.unusedSimpArgs false
set_option linter.unusedVariables false
namespace Go.SX
open Go.ChangeShapes Go.WideShapes Go.ChangeAt Go.RowKit

theorem laidVars_mem {P : Program} {w : World} : ∀ {l : List (String × DataW Unit)} {ps : List MemPlace}, DataW.LaidVars P w l ps → ∀ n d, (n, d) ∈ l →
    ∃ g t cs fuel p, P.globalNamed n = some g ∧ (P.globals[g]?).map (·.type) = some t ∧ w.var? P n = some cs ∧ DataW.trod (fun _ => ()) P w 0 (fun _ => true) false fuel t cs.toList = some (d, p)
  | [], _, _, n, d, h => by simp at h
  | (m, e) :: r, ps, hl, n, d, h => by
    obtain ⟨g, t, cs, fuel, p, q, h1, h2, h3, h4, h5, _⟩ := hl
    rcases List.mem_cons.1 h with h | h
    · cases h
      exact ⟨g, t, cs, fuel, p, h1, h2, h3, h4⟩
    · exact laidVars_mem h5 n d h
theorem laidMet_of_H {P : Program} {l : List (String × DataW Unit)} {w : World} (h : laidMetH P l w) (hn : (l.filter fun x => x.2.handleName?.isSome) = []) : laidMet P l w := by
  unfold laidMetH at h
  rw [hn] at h
  exact h
theorem trodAll_stays {H : Type} {enc : TypeId × Value → H} {P : Program} (hl : laidOutB P = true) {W W' : World} (hb : Below W.heap.size W W') : ∀ {ts : List TypeId} {vs : List Value} {ds : List (DataW H)} {ps : List MemPlace} (sp : Nat → Bool),
    (∀ t, t ∈ ts → P.readableRec t = true ∧ t < P.types.size) → DataW.TrodAll enc P W 0 (fun _ => true) true ts vs ds ps → (∀ p ∈ ps, p.block < W.heap.size) → (∀ p ∈ ps, sp p.block = true) → DataW.TrodAll enc P W' 0 sp true ts vs ds ps
  | [], [], [], _, _, _, h, _, _ => h
  | t :: ts, v :: vs, d :: ds, _, sp, ht, ⟨p, q, h1, h2, e⟩, hlt, hs => by
    subst e
    refine ⟨p, q, ?_, trodAll_stays hl hb sp (fun t ht' => ht t (List.mem_cons_of_mem _ ht')) h2 (fun x hx => hlt x (List.mem_append_right _ hx)) (fun x hx => hs x (List.mem_append_right _ hx)), rfl⟩
    obtain ⟨r1, r2⟩ := ht t (List.mem_cons_self ..)
    exact WideElems.Trod_stays hl r1 r2 h1 (fun x hx => hb.same (hlt x (List.mem_append_left _ hx))) (fun x hx => hs x (List.mem_append_left _ hx))
theorem trodAll_len {H : Type} {enc : TypeId × Value → H} {P : Program} {W : World} {b : Nat} {sp : Nat → Bool} {hd : Bool} : ∀ {ts : List TypeId} {vs : List Value} {ds : List (DataW H)} {ps : List MemPlace}, DataW.TrodAll enc P W b sp hd ts vs ds ps → ds.length = ts.length ∧ vs.length = ts.length
  | [], [], [], _, _ => ⟨rfl, rfl⟩
  | _ :: _, _ :: _, _ :: _, _, ⟨_, _, _, h2, _⟩ => by
    obtain ⟨a, b⟩ := trodAll_len h2
    exact ⟨by simp [a], by simp [b]⟩

def LawSpec (s : ChangeSpec) (k : Nat) : Prop := s.vars = [] ∧ ∀ (H : Type) (ds : List (DataW H)), ds.length = k → s.fn H ds = { results := [.lit (.bool true)], args := ds }
def rowsB (P : Program) (ts : List TypeId) : Bool := ts.all fun t => P.readableRec t && decide (t < P.types.size)

theorem law_post {H : Type} {enc : TypeId × Value → H} {P : Program} {f : Func} {s : ChangeSpec} {apart fresh handsOn : Bool} {W W' : World} {args : Array Value} {ds gs : List (DataW H)} {before : List MemPlace} {tb : TypeId}
    (hl : laidOutB P = true) (hr : rowsB P f.params.toList = true) (hs : LawSpec s f.params.toList.length) (hres : f.resultTypes = #[tb]) (htb : P.underlying tb = some .bool)
    (hW : DataW.Whole enc P f.params.toList s.vars apart W args.toList ds gs before) (hm : Mod W W' fun _ => False) : s.post enc P f apart fresh handsOn false W args (.bool true) W' := by
  have hb := hm.below
  obtain ⟨hv, hfn⟩ := hs
  have hW' := hW
  obtain ⟨p, q, hA, hV, rfl, hfz, hnd⟩ := hW
  have hV' := hV
  rw [hv] at hV'
  obtain ⟨rfl, rfl⟩ := trodVars_none hV'
  have hlen := (trodAll_len hA).1
  have hspec := hfn H ds hlen
  have hlt : ∀ x ∈ p, x.block < W.heap.size := fun x hx => hW'.lt x (by simpa using hx)
  have hrow : ∀ t, t ∈ f.params.toList → P.readableRec t = true ∧ t < P.types.size := by
    intro t ht
    have := List.all_eq_true.1 hr t ht
    simpa using this
  refine ⟨ds, [], p ++ [], [], p, [], hW', ?_, ?_, ?_, hb.frame _, fun h => by cases h⟩
  · rw [hres, List.append_nil, hspec]
    exact trodAll_mk1 (shut_bool htb true)
  · rw [List.append_nil, hspec]
    exact trodAll_stays hl hb _ hrow hA hlt (fun x hx => by simpa using hlt x hx)
  · rw [hv, List.append_nil, hspec]
    rfl

structure Small {H : Type} (B : Nat) (Sm : DataW H → Prop) : Prop where
  str : ∀ l : List UInt8, l.length ≤ maxLen → Sm (.lit (.string l)) → l.length ≤ B
  sl : ∀ el sp : List (DataW H), el.length ≤ maxLen → Sm (.slice el sp) → el.length ≤ B ∧ ∀ d, d ∈ el → Sm d
  agg : ∀ ps : List (DataW H), Sm (.agg ps) → ∀ d, d ∈ ps → Sm d
theorem Small.all {H : Type} : Small (H := H) maxLen (fun _ => True) := ⟨fun _ h _ => h, fun _ _ h _ => ⟨h, fun _ _ => trivial⟩, fun _ _ _ _ => trivial⟩
def FitS (F : TypeId → List Value → Prop) (T : List (Option Ty)) (cs : List Value) : List (Nat × TypeId) → Prop
  | [] => True
  | (off, t) :: r => (match getO T t with
    | some y => F t ((cs.drop off).take y.size)
    | none => True) ∧ FitS F T cs r
def Fit (T : List (Option Ty)) (W : World) (B : Nat) : Nat → TypeId → List Value → Prop
  | 0, _, _ => True
  | n + 1, t, cs => match getO T t with
    | none => True
    | some y => match y.d with
      | .bool => ∃ b, cs = [.bool b]
      | .int k => ∃ m, cs = [.int k m] ∧ (Lit.int k m).wf = true
      | .str => ∃ s : ByteArray, cs = [.string s] ∧ s.size ≤ B
      | .st fs => cs.length = y.size ∧ FitS (Fit T W B n) T cs fs
      | .sl e => cs = [.slice none 0 0] ∨ ∃ a m cap, cs = [.slice (some a) m cap] ∧ m ≤ cap ∧ m ≤ B ∧ (cap ≤ maxLen ∧ ∀ ye, getO T e = some ye → cap ≠ 0 → ye.size ≠ 0 → a.spot = none ∧ a.block < W.heap.size) ∧ (match getO T e with
        | none => True
        | some ye => ∀ i, i < m → ∃ xs : List Value, xs.length = ye.size ∧ (∀ j, j < ye.size → W.cell? ((a.add (i * ye.size)).add j) = xs[j]?) ∧ Fit T W B n e xs)
      | _ => True
theorem cell_lt' {w : World} {a : Addr} {u : Value} (h : w.cell? a = some u) : a.block < w.heap.size := by
  rcases Nat.lt_or_ge a.block w.heap.size with h1 | h1
  · exact h1
  · simp [World.cell?, Array.getElem?_eq_none h1] at h
theorem cell_spot' {w : World} {a : Addr} {u : Value} (h : w.cell? a = some u) : a.spot = none := by
  obtain ⟨b, o, s⟩ := a
  cases s with
  | none => rfl
  | some s =>
    unfold World.cell? at h
    split at h <;> simp at h
theorem cells?_get {w : World} {a : Addr} {n : Nat} {xs : List Value} (h : w.cells? 0 a n = some xs) : xs.length = n ∧ ∀ j, j < n → w.cell? (a.add j) = xs[j]? := by
  unfold World.cells? at h
  rw [if_pos (Nat.zero_le _)] at h
  refine ⟨by simpa using Lib.mapM_length h, fun j hj => ?_⟩
  obtain ⟨b, h1, h2⟩ := Lib.mapM_at h j j (by simp [hj])
  rw [h1, h2]
theorem TyOk.cellsOf {P : Program} {t : TypeId} {y : Ty} (h : TyOk P t y) : P.cellsOf t = y.size := by
  obtain ⟨_, ⟨i, z, h1, h2, _⟩, _⟩ := h
  simp [Program.cellsOf, h1, h2]
theorem fit_of_trod {H : Type} {enc : TypeId × Value → H} {P : Program} {T : List (Option Ty)} (hT : ∀ t y, getO T t = some y → TyOk P t y) {W : World} {hd : Bool} {B : Nat} {Sm : DataW H → Prop} (hS : Small B Sm) :
    ∀ (d n : Nat) (t : TypeId) (cs : List Value) (x : DataW H × List MemPlace), DataW.trod enc P W 0 (fun _ => true) hd n t cs = some x → Sm x.1 → Fit T W B d t cs
  | 0, _, _, _, _, _, _ => trivial
  | dn + 1, n, t, cs, x, h, hx => by
    unfold Fit
    cases hy : getO T t with
    | none => trivial
    | some y =>
      simp only
      have ok := hT t y hy
      obtain ⟨d, hd1, hd2⟩ := ok.d
      revert hd2
      cases hyd : y.d with
      | bool =>
        intro hd2
        cases d <;> simp [TD.is] at hd2
        obtain ⟨b, h1, _⟩ := DataW.trod_bool hd1 h
        exact ⟨b, h1⟩
      | int k =>
        intro hd2
        cases d <;> simp [TD.is] at hd2
        subst hd2
        obtain ⟨m, h1, _, h2⟩ := DataW.trod_int hd1 h
        exact ⟨m, h1, h2⟩
      | str =>
        intro hd2
        cases d <;> simp [TD.is] at hd2
        obtain ⟨s, h1, hx2, h2⟩ := DataW.trod_string hd1 h
        subst hx2
        have := hS.str _ (by rw [← Lib.size_eq]; exact h2) hx
        exact ⟨s, h1, by rw [Lib.size_eq]; exact this⟩
      | st fs =>
        intro hd2
        cases d <;> simp only [TD.is] at hd2
        rename_i fs'
        obtain ⟨xs, m, hm, hxs, hl, hxl, hf⟩ := DataW.trod_struct hd1 h
        subst hxs
        have hsm := hS.agg _ hx
        refine ⟨by rw [hl, ok.cellsOf], ?_⟩
        have hf' : ∀ f, f ∈ fs'.toList → ∃ z, DataW.trod enc P W 0 (fun _ => true) hd m f.type ((cs.drop f.offset).take (P.cellsOf f.type)) = some z ∧ Sm z.1 := by
          intro f hmem
          obtain ⟨i, hi, rfl⟩ := List.getElem_of_mem hmem
          have h1 : i < fs'.size := by simpa using hi
          have h2 := hf i fs'[i] (by simp [h1])
          have h3 : i < xs.length := by omega
          exact ⟨xs[i], by simpa [List.getElem?_eq_getElem h3] using h2, hsm _ (List.mem_map_of_mem (List.getElem_mem h3))⟩
        clear hd1 h hl hxl hf hyd hsm hx
        generalize fs'.toList = l at hd2 hf'
        subst hd2
        induction l with
        | nil => trivial
        | cons f l ih =>
          refine ⟨?_, ih fun g hg => hf' g (List.mem_cons_of_mem _ hg)⟩
          show (match getO T f.type with | some y => Fit T W B dn f.type ((cs.drop f.offset).take y.size) | none => True)
          cases hg : getO T f.type with
          | none => trivial
          | some yf =>
            simp only
            obtain ⟨z, hz, hz2⟩ := hf' f (List.mem_cons_self ..)
            rw [(hT f.type yf hg).cellsOf] at hz
            exact fit_of_trod hT hS dn m f.type _ z hz hz2
      | sl e =>
        intro hd2
        cases d <;> simp only [TD.is] at hd2
        subst hd2
        rcases DataW.trod_slice hd1 h with ⟨h1, _⟩ | ⟨a, len, cap, elems, rest, m, hm, h1, hxe, _, h3, h4, h5, h6, h6b, _⟩
        · exact .inl h1
        · subst hxe
          obtain ⟨s1, s2⟩ := hS.sl _ _ (by simp; omega) hx
          have hspot : ∀ ye, getO T e = some ye → cap ≠ 0 → ye.size ≠ 0 → a.spot = none ∧ a.block < W.heap.size := by
            intro ye hye hcap hsz
            have get : ∀ (c : List Value), W.cells? 0 a ye.size = some c → a.spot = none ∧ a.block < W.heap.size := by
              intro c hc
              obtain ⟨g1, g2⟩ := cells?_get hc
              have g3 := g2 0 (by omega)
              rw [show a.add 0 = a from rfl] at g3
              cases hx0 : c[0]? with
              | none => rw [List.getElem?_eq_none_iff] at hx0; omega
              | some u => rw [hx0] at g3; exact ⟨cell_spot' g3, cell_lt' g3⟩
            rcases Nat.eq_zero_or_pos len with h0 | h0
            · obtain ⟨r1, r2⟩ := h6b rfl
              have h7 := r2 0 (by omega)
              rw [(hT e ye hye).cellsOf, h0, Nat.add_zero, Nat.zero_mul, show a.add 0 = a from rfl] at h7
              have hlt : 0 < rest.length := by omega
              rw [List.getElem?_eq_getElem hlt] at h7
              cases hc : W.cells? 0 a ye.size with
              | none => rw [hc] at h7; cases h7
              | some c => exact get c hc
            · have h7 := h6 0 h0
              rw [(hT e ye hye).cellsOf, Nat.zero_mul, show a.add 0 = a from rfl] at h7
              have hlt : 0 < elems.length := by omega
              rw [List.getElem?_eq_getElem hlt] at h7
              cases hc : W.cells? 0 a ye.size with
              | none => rw [hc] at h7; cases h7
              | some c => exact get c hc
          refine .inr ⟨a, len, cap, h1, h3, by simpa [h5] using s1, ⟨h4, hspot⟩, ?_⟩
          cases hye : getO T e with
          | none => trivial
          | some ye =>
            simp only
            intro i hi
            have h7 := h6 i hi
            rw [(hT e ye hye).cellsOf] at h7
            have hlt : i < elems.length := by omega
            cases hc : W.cells? 0 (a.add (i * ye.size)) ye.size with
            | none =>
              rw [hc] at h7
              rw [List.getElem?_eq_getElem hlt] at h7
              cases h7
            | some xs =>
              rw [hc] at h7
              obtain ⟨g1, g2⟩ := cells?_get hc
              rw [List.getElem?_eq_getElem hlt] at h7
              exact ⟨xs, g1, g2, fit_of_trod hT hS dn m e xs _ h7 (s2 _ (List.mem_map_of_mem (List.getElem_mem hlt)))⟩
      | _ => intro _; trivial

def FitV (T : List (Option Ty)) (W : World) (B : Nat) (t : TypeId) (v : Value) : Prop := ∃ cs, Fit T W B 8 t cs ∧ v = (match (match getO T t with | some y => aggd y | none => false) with | true => .agg cs.toArray | false => cs.getD 0 undef)
def FitAll (T : List (Option Ty)) (W : World) (B : Nat) : List TypeId → List Value → Prop
  | [], [] => True
  | t :: ts, v :: vs => FitV T W B t v ∧ FitAll T W B ts vs
  | _, _ => False
theorem fitAll_cons {T : List (Option Ty)} {W : World} {B : Nat} {t : TypeId} {ts : List TypeId} {l : List Value} (h : FitAll T W B (t :: ts) l) : ∃ v vs, l = v :: vs ∧ FitV T W B t v ∧ FitAll T W B ts vs := by
  cases l with
  | nil => exact h.elim
  | cons v vs => exact ⟨v, vs, rfl, h.1, h.2⟩
theorem fitAll_nil {T : List (Option Ty)} {W : World} {B : Nat} {l : List Value} (h : FitAll T W B [] l) : l = [] := by
  cases l with
  | nil => rfl
  | cons v vs => exact h.elim
theorem fitV_of {H : Type} {enc : TypeId × Value → H} {P : Program} {T : List (Option Ty)} (hT : ∀ t y, getO T t = some y → TyOk P t y) {W : World} {hd : Bool} {r : Reach} {b : Nat} {t : TypeId} {v : Value} {d : DataW H} {ps : List MemPlace} {y : Ty} (hy : getO T t = some y)
    {B : Nat} {Sm : DataW H → Prop} (hS : Small B Sm) (hsm : Sm d) (hval : Value.okWide P W r b t v) (h : DataW.Trod enc P W 0 (fun _ => true) hd t v d ps) : FitV T W B t v := by
  obtain ⟨n, hn⟩ := h
  refine ⟨v.cells.toList, fit_of_trod hT hS 8 n t _ _ hn hsm, ?_⟩
  have ok := hT t y hy
  obtain ⟨dd, h1, h2⟩ := ok.d
  rw [hy]
  simp only
  unfold Value.okWide at hval
  rw [h1] at hval
  have one : (∀ cs, v ≠ .agg cs) → v = v.cells.toList.getD 0 undef := by
    intro hv
    cases v <;> first | rfl | (exact absurd rfl (hv _))
  have nagg : Cell.okWide P W r b t v → aggd y = false → v = (match aggd y with | true => .agg v.cells.toList.toArray | false => v.cells.toList.getD 0 undef) := by
    intro hc hy2
    rw [hy2]
    refine one fun cs hv => ?_
    subst hv
    unfold Cell.okWide at hc
    rw [h1] at hc
    revert h2 hy2
    unfold aggd
    cases y.d <;> cases dd <;> simp_all [TD.is, Cell.okWide, Cell.ok]
  revert h2
  unfold aggd at nagg ⊢
  cases hyd : y.d <;> cases dd <;> simp only [TD.is] <;> intro h2 <;> first
    | (exact h2.elim)
    | (obtain ⟨cs, rfl, _⟩ := hval; simp [Value.cells])
    | (simp only [hyd] at nagg; exact nagg hval trivial)
theorem fitAll_of {H : Type} {enc : TypeId × Value → H} {P : Program} {T : List (Option Ty)} (hT : ∀ t y, getO T t = some y → TyOk P t y) {W : World} {hd : Bool} {r : Reach} {b : Nat} {B : Nat} {Sm : DataW H → Prop} (hS : Small B Sm) : ∀ (ts : List TypeId) (vs : List Value) (ds : List (DataW H)) (ps : List MemPlace),
    (∀ t, t ∈ ts → ∃ y, getO T t = some y) → (∀ d, d ∈ ds → Sm d) → (∀ (j : Nat) t v, ts[j]? = some t → vs[j]? = some v → Value.okWide P W r b t v) → DataW.TrodAll enc P W 0 (fun _ => true) hd ts vs ds ps → FitAll T W B ts vs
  | [], [], [], _, _, _, _, _ => trivial
  | t :: ts, v :: vs, d :: ds, _, hy, hsm, hval, ⟨p, q, h1, h2, _⟩ => by
    obtain ⟨y, hy1⟩ := hy t (List.mem_cons_self ..)
    exact ⟨fitV_of hT hy1 hS (hsm d (List.mem_cons_self ..)) (hval 0 t v rfl rfl) h1, fitAll_of hT hS ts vs ds q (fun t' ht' => hy t' (List.mem_cons_of_mem _ ht')) (fun d' hd' => hsm d' (List.mem_cons_of_mem _ hd')) (fun j t' v' h3 h4 => hval (j + 1) t' v' (by simpa using h3) (by simpa using h4)) h2⟩
theorem fit_str {T : List (Option Ty)} {W : World} {t : TypeId} {v : Value} {y : Ty} {B : Nat} (hy : getO T t = some y) (hd : y.d = .str) (h : FitV T W B t v) : ∃ s : ByteArray, v = .string s ∧ s.size ≤ B := by
  obtain ⟨cs, hf, rfl⟩ := h
  unfold Fit at hf
  rw [hy] at hf ⊢
  simp only [hd, aggd] at hf ⊢
  obtain ⟨s, rfl, hw⟩ := hf
  exact ⟨s, rfl, hw⟩
end Go.SX
set_option linter.unusedSimpArgs false
set_option linter.unusedVariables false
namespace Go.SX
def FSl (w : World) (v : Value) (us : List Value) : Prop :=
  (v = .slice none 0 0 ∧ us = []) ∨ ∃ a cap, v = .slice (some a) us.length cap ∧ us.length ≤ cap ∧ (cap ≠ 0 → a.spot = none ∧ a.block < w.heap.size) ∧ ∀ j q, us[j]? = some q → w.cell? (a.add j) = some q
def FSlE (w : World) (v : Value) (n esz : Nat) (us : List Value) : Prop :=
  us.length = n * esz ∧ ((v = .slice none 0 0 ∧ n = 0) ∨ ∃ a cap, v = .slice (some a) n cap ∧ n ≤ cap ∧ (cap ≠ 0 → a.spot = none ∧ a.block < w.heap.size) ∧ ∀ j q, us[j]? = some q → w.cell? (a.add j) = some q)
theorem ro_locE {w : World} {v : Value} {n esz : Nat} {us : List Value} (h : FSlE w v n esz us) (h0 : 0 < w.heap.size) (ty : TypeId) (cells : List AV) :
    ∃ L : Loc, (∀ b, L.dom b ↔ b = L.blk) ∧ L.blk < w.heap.size ∧ slOk L esz 0 n v ∧ (∃ a m d, v = .slice a m d) ∧ (⟨.ro, ty, esz, 0, cells⟩ : Chunk).mem w L us := by
  obtain ⟨hl, h⟩ := h
  have nil : n = 0 → us = [] := fun e => List.eq_nil_of_length_eq_zero (by rw [hl, e, Nat.zero_mul])
  rcases h with ⟨rfl, rfl⟩ | ⟨a, cap, rfl, h1, h2, h3⟩
  · exact ⟨⟨0, 0, none, 0, fun b => b = 0⟩, fun b => Iff.rfl, h0, ⟨by simp, none, rfl, fun h => (h rfl).elim, fun _ => rfl⟩, ⟨_, _, _, rfl⟩, ⟨fun h => (h rfl).elim, fun _ => nil rfl⟩⟩
  · by_cases hc : cap = 0
    · subst hc
      have hn : n = 0 := by omega
      have hu : us = [] := nil hn
      subst hu
      subst hn
      exact ⟨⟨0, 0, some a, 0, fun b => b = 0⟩, fun b => Iff.rfl, h0, ⟨by simp, some a, rfl, fun h => (h rfl).elim, fun _ => rfl⟩, ⟨_, _, _, rfl⟩, ⟨fun h => (h rfl).elim, fun _ => rfl⟩⟩
    · obtain ⟨g1, g2⟩ := h2 hc
      obtain ⟨b, o, s⟩ := a
      dsimp only at g1 g2
      subst g1
      refine ⟨⟨b, o, some ⟨b, o, none⟩, cap, fun x => x = b⟩, fun x => Iff.rfl, g2, ⟨by simpa using h1, _, rfl, fun _ => ?_, fun _ => rfl⟩, ⟨_, _, _, rfl⟩, ⟨fun _ => ⟨rfl, fun i u hu => ?_⟩, fun h => (hc h).elim⟩⟩
      · simp [Addr.add]
      · have := h3 i u hu
        rw [add_none] at this
        exact this
theorem Con.retF {P : Program} {I : World → Prop} {f : FuncId} {A : (Nat → Nat) → List AV} {H : (Nat → Nat) → List (Option Chunk)} {α : Type} {Q : α → Prop} {R : α → (Nat → Nat) → AV} {C : α → (Nat → Nat) → List (Option Chunk)} {B : List PanicEntry → Prop} (h : Con P I f A H Q R C B) {args : List Value} {v : Value} (hv : ∀ p, Q p → val (R p id) = some v) (hB : ∀ ch, ¬ B ch) {w : World} (hI : ∀ w', Mod w w' (fun _ => False) → I w') (ρ : Nat → Loc)
    (hH : ∀ c k, getO (H id) c = some k → k.kind = .ro ∧ (∃ xs, relL (St.vs ⟨[], H id⟩) (St.ez ⟨[], H id⟩) ρ k.cells xs ∧ k.mem w (ρ c) xs) ∧ (∀ b, (ρ c).dom b ↔ b = (ρ c).blk) ∧ (ρ c).blk < w.heap.size)
    (hA : relL (St.vs ⟨[], H id⟩) (St.ez ⟨[], H id⟩) ρ (A id) args) : Ret P f args w v := by
  have hno : ∀ c k, getO (H id) c = some k → k.owned = false := fun c k hk => by
    have := (hH c k hk).1
    simp [Chunk.owned, this, CK.owned]
  have hO' : partO (H id) ρ = fun _ => False := funext fun b => propext ⟨fun ⟨c, k, h1, h2, _⟩ => (by rw [hno c k h1] at h2; cases h2), fun h => h.elim⟩
  have hrun := h.run w ρ args (by rw [hO']; exact hI) ⟨fun c k hk => (hH c k hk).2.1, fun c k b hk hb => ?_, fun c k b hk ho _ => (by rw [hno c k hk] at ho; cases ho), fun c k b hk hb => by simp [Chunk.blk, (hH c k hk).1] at hb, fun c k hk => ?_, fun c d k l b hk hl ho _ _ => (by rw [hno c k hk] at ho; cases ho), Mod.refl _ _⟩ hA
  · refine ⟨h.has, hrun.mono ?_⟩
    rintro e w' (⟨u, p, ρ', rfl, h1, h2, h3, _⟩ | ⟨ch, rfl, hb, _⟩)
    · have hm := h3.mod
      rw [hO'] at hm
      exact ⟨by rw [val_rel (hv p h1) h2], hm⟩
    · exact (hB ch hb).elim
  · obtain ⟨_, _, h1, h2⟩ := hH c k hk
    rw [h1] at hb
    rw [hb]
    exact h2
  · obtain ⟨h0, _, h1, _⟩ := hH c k hk
    intro w1 w2 xs hw hm
    unfold Chunk.mem at hm ⊢
    rw [h0] at hm ⊢
    refine ⟨fun hc => ⟨(hm.1 hc).1, fun i u hu => ?_⟩, hm.2⟩
    have := (hm.1 hc).2 i u hu
    simp only [World.cell?] at this ⊢
    rw [hw _ ((h1 _).2 rfl)]
    exact this
end Go.SX
set_option linter.unusedSimpArgs false
set_option linter.unusedVariables false
namespace Go.SX
def swN (c d x : Nat) : Nat := match Nat.beq x c with
  | true => d
  | false => match Nat.beq x d with
    | true => c
    | false => x
theorem swN_eq (c d x : Nat) : swN c d x = if x = c then d else if x = d then c else x := by
  unfold swN
  by_cases h : x = c
  · subst h; simp
  · have : Nat.beq x c = false := by
      cases e : Nat.beq x c with
      | false => rfl
      | true => exact (h (Nat.eq_of_beq_eq_true e)).elim
    rw [this, if_neg h]
    by_cases g : x = d
    · subst g; simp
    · have : Nat.beq x d = false := by
        cases e : Nat.beq x d with
        | false => rfl
        | true => exact (g (Nat.eq_of_beq_eq_true e)).elim
      rw [this, if_neg g]
theorem swN_sw (c d x : Nat) : swN c d (swN c d x) = x := by
  simp only [swN_eq]
  repeat' split
  all_goals omega
mutual
def swA (c d : Nat) : AV → AV
  | .v x => .v x
  | .ref n k o => .ref (swN c d n) k o
  | .sl n k lo m => .sl (swN c d n) k lo m
  | .agg l => .agg (swL c d l)
  | .fn f l => .fn f (swL c d l)
  | .ifc t a => .ifc t (swA c d a)
  | .tup l => .tup (swL c d l)
  | .dead => .dead
  | .mp n k => .mp (swN c d n) k
def swL (c d : Nat) : List AV → List AV
  | [] => []
  | a :: l => swA c d a :: swL c d l
end
theorem swL_vals (c d : Nat) : ∀ us : List Value, swL c d (us.map .v) = us.map .v
  | [] => rfl
  | u :: us => by simp only [List.map_cons, swL, swA, swL_vals c d us]
section
variable {vs vs' : Nat → Option Nat} {ez ez' : Nat → Nat} {ρ ρ' : Nat → Loc} {c d : Nat}
mutual
theorem rel_sw (h : ∀ x, vs' (swN c d x) = vs x ∧ ez' (swN c d x) = ez x ∧ ρ' (swN c d x) = ρ x) : ∀ (a : AV) (u : Value), rel vs' ez' ρ' (swA c d a) u ↔ rel vs ez ρ a u
  | .v x, u => by simp [swA, rel]
  | .dead, u => by simp [swA, rel]
  | .ref n k off, u => by
    obtain ⟨h1, h2, h3⟩ := h n
    simp only [swA, rel, h1, h3]
  | .sl n k lo m, u => by
    obtain ⟨h1, h2, h3⟩ := h n
    simp only [swA, rel, h1, h2, h3]
  | .mp n k, u => by
    obtain ⟨h1, h2, h3⟩ := h n
    simp only [swA, rel, h1, h3]
  | .agg l, u => by simp only [swA, rel, relL_sw h l]
  | .fn f l, u => by simp only [swA, rel, relL_sw h l]
  | .ifc t a, u => by simp only [swA, rel, rel_sw h a]
  | .tup l, u => by simp only [swA, rel, relL_sw h l]
theorem relL_sw (h : ∀ x, vs' (swN c d x) = vs x ∧ ez' (swN c d x) = ez x ∧ ρ' (swN c d x) = ρ x) : ∀ (l : List AV) (us : List Value), relL vs' ez' ρ' (swL c d l) us ↔ relL vs ez ρ l us
  | [], us => by cases us <;> simp [swL, relL]
  | a :: l, [] => by simp [swL, relL]
  | a :: l, u :: us => by simp only [swL, relL, rel_sw h a, relL_sw h l]
end
end
def swK (c d : Nat) (k : Chunk) : Chunk := ⟨k.kind, k.ty, k.esz, k.ver, swL c d k.cells⟩
def mapK (c d : Nat) : List (Option Chunk) → List (Option Chunk)
  | [] => []
  | some k :: l => some (swK c d k) :: mapK c d l
  | none :: l => none :: mapK c d l
theorem getO_mapK (c d : Nat) : ∀ (l : List (Option Chunk)) (x : Nat), getO (mapK c d l) x = (getO l x).map (swK c d)
  | [], x => by simp [mapK, getO_nil]
  | some k :: l, 0 => rfl
  | none :: l, 0 => rfl
  | some k :: l, x + 1 => getO_mapK c d l x
  | none :: l, x + 1 => getO_mapK c d l x
def mvS (c d : Nat) (k : Chunk) (s : St) : St := ⟨swL c d s.fr, mapK c d (unO (setO s.ch d k) c)⟩
theorem Le.mv {X : Ctx} {s : St} (c d : Nat) (k : Chunk) (hcd : c ≠ d) (hc : getO s.ch c = some k) (hd : getO s.ch d = none) (nc : X.n ≤ c) (nd : X.n ≤ d) : Le X s (mvS c d k s) := by
  intro E a w ρ hr
  have hg : ∀ x, getO (mvS c d k s).ch x = (getO s.ch (swN c d x)).map (swK c d) := by
    intro x
    show getO (mapK c d (unO (setO s.ch d k) c)) x = _
    rw [getO_mapK, swN_eq]
    by_cases e1 : x = c
    · subst e1
      rw [unO_same, if_pos rfl, hd]
    · rw [unO_ne _ _ _ e1, if_neg e1]
      by_cases e2 : x = d
      · subst e2
        rw [getO_set_same, if_pos rfl, hc]
      · rw [getO_set_ne _ _ _ _ e2, if_neg e2]
  have hg2 : ∀ x, getO (mvS c d k s).ch (swN c d x) = (getO s.ch x).map (swK c d) := fun x => by rw [hg, swN_sw]
  have hvs : ∀ x, (mvS c d k s).vs (swN c d x) = s.vs x ∧ (mvS c d k s).ez (swN c d x) = s.ez x ∧ ρ (swN c d (swN c d x)) = ρ x := by
    intro x
    refine ⟨?_, ?_, by rw [swN_sw]⟩
    · simp only [St.vs, hg2]
      cases getO s.ch x <;> rfl
    · simp only [St.ez, hg2]
      cases getO s.ch x <;> rfl
  have hb : ∀ x, getO (mvS c d k s).ch x = (getO s.ch (swN c d x)).map (swK c d) := hg
  obtain ⟨g1, g2, g3, g4⟩ := hr
  obtain ⟨q1, q2, q3, q4, q5, q6, q7⟩ := g3
  have un : ∀ {x q}, getO (mvS c d k s).ch x = some q → ∃ q0, getO s.ch (swN c d x) = some q0 ∧ q = swK c d q0 := by
    intro x q h
    rw [hb] at h
    cases e : getO s.ch (swN c d x) with
    | none => rw [e] at h; cases h
    | some q0 => rw [e] at h; exact ⟨q0, rfl, (Option.some.inj h).symm⟩
  refine ⟨fun x => ρ (swN c d x), (relL_sw hvs _ _).2 g1, g2, ⟨fun x q hq => ?_, fun x q b hq => ?_, fun x q b hq ho => ?_, fun x q b hq => ?_, fun x q hq => ?_, fun x y q r b hq hr' ho h1 h2 => ?_, q7⟩, fun x v hv => ?_⟩
  · obtain ⟨q0, h1, rfl⟩ := un hq
    obtain ⟨xs, h2, h3⟩ := q1 _ _ h1
    exact ⟨xs, (relL_sw hvs _ _).2 h2, h3⟩
  · obtain ⟨q0, h1, rfl⟩ := un hq
    exact q2 _ _ b h1
  · obtain ⟨q0, h1, rfl⟩ := un hq
    exact q3 _ _ b h1 ho
  · obtain ⟨q0, h1, rfl⟩ := un hq
    exact fun hb' => q4 _ q0 b h1 hb'
  · obtain ⟨q0, h1, rfl⟩ := un hq
    exact fun w1 w2 xs hw hm => q5 _ q0 h1 w1 w2 xs hw hm
  · obtain ⟨q0, e1, rfl⟩ := un hq
    obtain ⟨r0, e2, rfl⟩ := un hr'
    have := q6 _ _ _ _ b e1 e2 ho h1 h2
    rw [← swN_sw c d x, ← swN_sw c d y, this]
  · have hx := E.b.lt x v hv
    have e : swN c d x = x := by rw [swN_eq, if_neg (by omega), if_neg (by omega)]
    obtain ⟨cur, u1, u2, u3⟩ := g4 x v hv
    have hh := hvs x
    rw [e] at hh
    refine ⟨cur, by rw [hh.1]; exact u1, u2, fun h => ?_⟩
    rw [hh.2.1]
    show ρ (swN c d x) = _ ∧ _
    rw [e]
    exact u3 h
theorem TR.mv {X : Ctx} {cd : Code} {K : Exit → St → Prop} {st : St} (c d : Nat) {k : Chunk} (hcd : Nat.beq c d = false) (hc : getO st.ch c = some k) (hd : getO st.ch d = none) (nc : X.n ≤ c) (nd : X.n ≤ d) (h : TR X cd K (mvS c d k st)) : TR X cd K st :=
  h.le (Le.mv c d k (fun e => by subst e; simp at hcd) hc hd nc nd)
end Go.SX
namespace Go.SX
def slotSl : List AV → Nat → Nat → Bool
  | [], _, _ => false
  | .sl c _ _ _ :: _, 0, d => Nat.beq c d
  | _ :: _, 0, _ => false
  | _ :: l, i + 1, d => slotSl l i d
section
variable {X : Ctx} {o : Oper} {st : St} {k : Actn → Prop}
end
end Go.SX
set_option linter.unusedSimpArgs false
set_option linter.unusedVariables false
namespace Go.SX
theorem subL_all : ∀ l : List AV, subL l 0 l.length = some l
  | [] => rfl
  | x :: l => by simp only [List.length_cons, subL, subL_all l]
section
variable {X : Ctx} {o : Oper} {st : St} {k : Actn → Prop}
theorem x_appN (hT : X.ok) {t e : TypeId} {s x : Operand} {d d2 kd m : Nat} {dk : Chunk} {y ye : Ty} (esz eb : Nat) (ho : o.op = .call { callee := .builtin .append, args := [s, x].toArray, argTypes := [t, t].toArray })
    (hs : evA st.fr s = .v (.slice none 0 0)) (hc : getO st.ch d = none) (hy : getO X.T t = some y) (hyd : y.d = .sl e) (hye : getO X.T e = some ye) (hsz : ye.size = esz) (h0 : 0 < esz) (hz : ye.zero.length = ye.size) (heb : ye.bytes = eb)
    (hx : evA st.fr x = .sl d2 kd 0 m) (hd : getO st.ch d2 = some dk) (hdk : dk.kind matches .own | .buf | .row | .ro) (hdv : kd = dk.ver) (hde : dk.esz = esz) (hl : dk.cells.length = m * esz) (h1 : dk.cells.all one = true)
    (h63 : m ≤ maxLen) (hby : m * eb ≤ 140737488355328)
    (h : k ⟨rds st.fr [s, x], [(d, none), (d2, some dk)], o.dst, .sl d 0 0 m, [(d, ⟨.row, e, esz, 0, dk.cells⟩)]⟩) : ActN X o st k := by
  have hsub : subL dk.cells (0 * dk.esz) (m * dk.esz) = some dk.cells := by
    have := subL_all dk.cells
    rw [Nat.zero_mul, hde, ← hl]
    exact this
  have hsrc := Src.sl (X := X) (fr := st.fr) (x := x) hx hdv hdk hsub h1
  rw [hde, ← hsz] at hsrc
  refine x_append_nil (c0 := 0) (d := d) (m := m) (l := dk.cells) hT ho hs hc hy hyd hye (by rw [hsz]; exact h0) hz hsrc ?_ h63 (by rw [heb]; exact hby) (by rw [hsz]; exact h)
  intro i q hq
  simp at hq
  obtain ⟨rfl, rfl⟩ := hq
  exact hd
end
end Go.SX
namespace Go.SX
theorem joined_of1 {P : Program} {f : FuncId} {fn : Func} {s : ChangeSpec} {c : OpenClaim}
    (a1 : c.wf (OpenSpec.ofChange s) = true) (a2 : laidOutB P = true) (a3 : mapsRowed P = true) (a4 : fn.params.all (P.readableRec ·) = true) (a5 : namedTie P c.named s.vars = true)
    (a6 : ((c.stops == []) && (P.stops == []) && (c.knobs == []) && (P.stopKnobs == [])) = true)
    (h2 : (c.inPlace == P.inPlace f) = true) (h3 : (c.unfollowed == P.unfollowed f) = true) (h4 : (c.recurses == P.recurses f) = true) (h5 : (c.named == P.varsNamed f) = true)
    (b1 : (c.maps == (fn.params.toList ++ s.plain.varTypes P).any (P.mapsRec ·)) = true) (b2 : (c.ifaces == (fn.params.toList ++ s.plain.varTypes P).any (P.ifacesRec ·)) = true) (b3 : (c.mapsOut == P.mapsAmong fn.resultTypes.toList) = true)
    (b4 : (c.loops == (fn.params.toList ++ s.plain.varTypes P).any (P.loopsFrom ·)) = true) (b5 : (c.wideKeys == (fn.params.toList ++ s.plain.varTypes P ++ fn.resultTypes.toList).any (P.wideKeysFrom ·)) = true)
    (b6 : s.vars.all (P.varReadable ·) = true) (b7 : fn.resultTypes.all (fun t => P.readableRec t && decide (t < P.types.size)) = true) (b8 : (c.ifacesOut == fn.resultTypes.toList.any (P.ifacesRec ·)) = true) (b9 : (c.loopsOut == fn.resultTypes.toList.any (P.loopsFrom ·)) = true) (b10 : (c.plainKeys == P.plainKeys) = true) (b11 : c.shortTexts.isNone = true)
    (d1 : P.stopsHeard = true) (d2 : P.mayEnter = true) (d3 : (c.lifted == P.liftsFinal) = true) (d4 : (P.make == some c.make) = true) (d5 : (c.kinds == (if c.domain.isEmpty then [] else fn.params.toList.map fun t => match P.underlying t with | some (.int k) => some k | _ => none)) = true) (d6 : (c.pinned == c.pinnedBy) = true)
    (d7 : (c.veiled == (fn.params.toList ++ s.plain.varTypes P ++ fn.resultTypes.toList).any (P.veiledRec ·)) = true) (d8 : c.veiledFits P fn.params.toList (fn.params.toList ++ s.plain.varTypes P ++ fn.resultTypes.toList) = true) :
    joinedFacts P f fn s c = true := by
  unfold joinedFacts
  simp only [Bool.and_eq_true] at a6 ⊢
  simp only [a1, a2, a3, a4, a5, a6, h2, h3, h4, h5, b1, b2, b3, b4, b5, b6, b7, b8, b9, b10, b11, d1, d2, d3, d4, d6, d7, d8, and_self, true_and, and_true]
  exact d5
end Go.SX
