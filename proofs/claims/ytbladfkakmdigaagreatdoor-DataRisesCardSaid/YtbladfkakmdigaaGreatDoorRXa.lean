/-
  What the laws of these data stand on: contracts of functions, and plain laws.
-/
import Derived.Calls
import Derived.Tactics
import Derived.Laws.World
import Derived.Laws.Rows
import Derived.Laws.AppendOwn
import Derived.Laws.MakeOwn
import Derived.Orders
import Derived.OrdersIn
import Derived.Scope
import Derived.TacticsIn
import Derived.LoopNIn
import Derived.Sort.LoopGhostIn
import Derived.Below
import Derived.KernelRfl
import Derived.Laws.BytesArg
import Derived.Laws.Entries
import Derived.Laws.Cells
import Derived.Laws.Strings
import Derived.Lib.ConvBytes
import Derived.Lib.AppendStr
import Derived.Deep.LoopGhost
set_option linter.unusedVariables false
set_option linter.unusedSimpArgs false
set_option linter.unnecessarySimpa false
namespace Go.SX

inductive AV where
  | v (x : Value)
  | ref (c k off : Nat)
  | sl (c k lo n : Nat)
  | agg (l : List AV)
  | fn (f : Fn) (cap : List AV)
  | ifc (t : TypeId) (a : AV)
  | tup (l : List AV)
  | dead
  | mp (c k : Nat)

structure Loc where
  blk : Nat
  off : Nat
  base : Option Addr
  cap : Nat
  dom : Nat → Prop

inductive CK where
  | own | buf | row | ro | fact (F : World → Prop) | tab (F : Nat → (Nat → Prop) → World → Prop) | gone | map

structure Chunk where
  kind : CK
  ty : TypeId
  esz : Nat
  ver : Nat
  cells : List AV

def CK.owned : CK → Bool
  | .own | .buf | .row | .tab _ | .map => true
  | _ => false
def CK.celled : CK → Bool
  | .own | .buf | .row => true
  | _ => false
theorem CK.celled_owned {c : CK} (h : c.celled = true) : c.owned = true := by cases c <;> first | rfl | cases h

structure St where
  fr : List AV
  ch : List (Option Chunk)

def getO {α : Type} : List (Option α) → Nat → Option α
  | [], _ => none
  | x :: _, 0 => x
  | _ :: l, n + 1 => getO l n
def setO {α : Type} : List (Option α) → Nat → α → List (Option α)
  | [], 0, a => [some a]
  | [], n + 1, a => none :: setO [] n a
  | _ :: l, 0, a => some a :: l
  | x :: l, n + 1, a => x :: setO l n a
theorem getO_set_same {α : Type} (l : List (Option α)) (n : Nat) (a : α) : getO (setO l n a) n = some a := by
  induction n generalizing l with
  | zero => cases l <;> rfl
  | succ n ih => cases l <;> exact ih _
theorem getO_set_ne {α : Type} (l : List (Option α)) (n m : Nat) (a : α) (h : m ≠ n) : getO (setO l n a) m = getO l m := by
  induction n generalizing l m with
  | zero =>
    cases m with
    | zero => exact (h rfl).elim
    | succ m => cases l <;> simp [setO, getO]
  | succ n ih =>
    cases m with
    | zero => cases l <;> rfl
    | succ m =>
      cases l with
      | nil => simp only [setO, getO]; rw [ih _ _ (by omega)]; cases m <;> rfl
      | cons x l => simp only [setO, getO]; exact ih _ _ (by omega)

def getF : List AV → Nat → AV
  | [], _ => .dead
  | x :: _, 0 => x
  | _ :: l, n + 1 => getF l n
def setF : List AV → Nat → AV → List AV
  | [], _, _ => []
  | _ :: l, 0, a => a :: l
  | x :: l, n + 1, a => x :: setF l n a

def St.vs (st : St) (c : Nat) : Option Nat := (getO st.ch c).map (·.ver)

def slOk (L : Loc) (esz lo n : Nat) (u : Value) : Prop :=
  lo + n ≤ L.cap ∧ ∃ a, u = .slice a n (L.cap - lo) ∧ (n ≠ 0 → a = L.base.map (·.add (lo * esz))) ∧ (lo = 0 → a = L.base)

mutual
def rel (vs : Nat → Option Nat) (ez : Nat → Nat) (ρ : Nat → Loc) : AV → Value → Prop
  | .v x, u => u = x
  | .ref c k off, u => ∃ cur, vs c = some cur ∧ k ≤ cur ∧ (k = cur → u = .pointer (some ⟨(ρ c).blk, (ρ c).off + off, none⟩)) ∧ ∃ p, u = .pointer (some p)
  | .sl c k lo n, u => ∃ cur, vs c = some cur ∧ k ≤ cur ∧ (k = cur → slOk (ρ c) (ez c) lo n u) ∧ ∃ a m d, u = .slice a m d
  | .agg l, u => ∃ xs, u = .agg xs ∧ relL vs ez ρ l xs.toList
  | .fn f l, u => ∃ xs, u = .func f #[] xs ∧ relL vs ez ρ l xs.toList
  | .ifc t a, u => ∃ x, u = .iface t x ∧ rel vs ez ρ a x
  | .tup l, u => ∃ xs, u = .tuple xs ∧ relL vs ez ρ l xs.toList
  | .dead, _ => True
  | .mp c k, u => ∃ cur, vs c = some cur ∧ k ≤ cur ∧ (k = cur → u = .map (some (ρ c).blk)) ∧ ∃ b, u = .map (some b)
def relL (vs : Nat → Option Nat) (ez : Nat → Nat) (ρ : Nat → Loc) : List AV → List Value → Prop
  | [], [] => True
  | a :: l, x :: xs => rel vs ez ρ a x ∧ relL vs ez ρ l xs
  | _, _ => False
end

def St.ez (st : St) (c : Nat) : Nat := ((getO st.ch c).map (·.esz)).getD 0

def Up (vs vs' : Nat → Option Nat) (ez ez' : Nat → Nat) (ρ ρ' : Nat → Loc) : Prop :=
  ∀ c cur, vs c = some cur → ∃ cur', vs' c = some cur' ∧ cur ≤ cur' ∧ (cur = cur' → ρ' c = ρ c ∧ ez' c = ez c)

theorem Up.refl (vs ez ρ) : Up vs vs ez ez ρ ρ := fun _ cur h => ⟨cur, h, Nat.le_refl _, fun _ => ⟨rfl, rfl⟩⟩

section
variable {vs vs' : Nat → Option Nat} {ez ez' : Nat → Nat} {ρ ρ' : Nat → Loc}
mutual
theorem rel_up (hu : Up vs vs' ez ez' ρ ρ') : ∀ (a : AV) (u : Value), rel vs ez ρ a u → rel vs' ez' ρ' a u
  | .v _, _, h => by simpa [rel] using h
  | .ref c k off, u, h => by
    simp only [rel] at h ⊢
    obtain ⟨cur, h1, h2, h3, h4⟩ := h
    obtain ⟨cur', g1, g2, g3⟩ := hu c cur h1
    refine ⟨cur', g1, Nat.le_trans h2 g2, fun e => ?_, h4⟩
    have e2 : k = cur := by omega
    rw [(g3 (by omega)).1]
    exact h3 e2
  | .sl c k lo n, u, h => by
    simp only [rel] at h ⊢
    obtain ⟨cur, h1, h2, h3, h4⟩ := h
    obtain ⟨cur', g1, g2, g3⟩ := hu c cur h1
    refine ⟨cur', g1, Nat.le_trans h2 g2, fun e => ?_, h4⟩
    have e2 : k = cur := by omega
    rw [(g3 (by omega)).1, (g3 (by omega)).2]
    exact h3 e2
  | .agg l, u, h => by
    simp only [rel] at h ⊢
    obtain ⟨xs, h1, h2⟩ := h
    exact ⟨xs, h1, relL_up hu l _ h2⟩
  | .fn f l, u, h => by
    simp only [rel] at h ⊢
    obtain ⟨xs, h1, h2⟩ := h
    exact ⟨xs, h1, relL_up hu l _ h2⟩
  | .ifc t a, u, h => by
    simp only [rel] at h ⊢
    obtain ⟨x, h1, h2⟩ := h
    exact ⟨x, h1, rel_up hu a _ h2⟩
  | .tup l, u, h => by
    simp only [rel] at h ⊢
    obtain ⟨xs, h1, h2⟩ := h
    exact ⟨xs, h1, relL_up hu l _ h2⟩
  | .dead, _, _ => by simp [rel]
  | .mp c k, u, h => by
    simp only [rel] at h ⊢
    obtain ⟨cur, h1, h2, h3, h4⟩ := h
    obtain ⟨cur', g1, g2, g3⟩ := hu c cur h1
    refine ⟨cur', g1, Nat.le_trans h2 g2, fun e => ?_, h4⟩
    have e2 : k = cur := by omega
    rw [(g3 (by omega)).1]
    exact h3 e2
theorem relL_up (hu : Up vs vs' ez ez' ρ ρ') : ∀ (l : List AV) (xs : List Value), relL vs ez ρ l xs → relL vs' ez' ρ' l xs
  | [], [], _ => by simp [relL]
  | [], _ :: _, h => by simp [relL] at h
  | _ :: _, [], h => by simp [relL] at h
  | a :: l, x :: xs, h => by
    simp only [relL] at h ⊢
    exact ⟨rel_up hu a x h.1, relL_up hu l xs h.2⟩
end
end

theorem relL_len {vs ez ρ} : ∀ (l : List AV) (xs : List Value), relL vs ez ρ l xs → l.length = xs.length
  | [], [], _ => rfl
  | [], _ :: _, h => by simp [relL] at h
  | _ :: _, [], h => by simp [relL] at h
  | a :: l, x :: xs, h => by
    simp only [relL] at h
    simp [relL_len l xs h.2]
theorem relL_get {vs ez ρ} : ∀ (l : List AV) (xs : List Value) (i : Nat), relL vs ez ρ l xs → rel vs ez ρ (getF l i) (xs.getD i undef)
  | [], [], _, _ => by simp [getF, rel]
  | [], _ :: _, _, h => by simp [relL] at h
  | _ :: _, [], _, h => by simp [relL] at h
  | a :: l, x :: xs, 0, h => by
    simp only [relL] at h
    simpa [getF] using h.1
  | a :: l, x :: xs, i + 1, h => by
    simp only [relL] at h
    simpa [getF] using relL_get l xs i h.2
theorem relL_set {vs ez ρ} : ∀ (l : List AV) (xs : List Value) (i : Nat) (a : AV) (u : Value), relL vs ez ρ l xs → rel vs ez ρ a u → relL vs ez ρ (setF l i a) (xs.set i u)
  | [], [], _, _, _, _, _ => by simp [setF, relL]
  | [], _ :: _, _, _, _, h, _ => by simp [relL] at h
  | _ :: _, [], _, _, _, h, _ => by simp [relL] at h
  | a :: l, x :: xs, 0, _, _, h, hr => by
    simp only [relL] at h
    simpa [setF, relL] using ⟨hr, h.2⟩
  | a :: l, x :: xs, i + 1, b, u, h, hr => by
    simp only [relL] at h
    simpa [setF, relL] using ⟨h.1, relL_set l xs i b u h.2 hr⟩
theorem relL_append {vs ez ρ} : ∀ (l : List AV) (xs : List Value) (l' : List AV) (xs' : List Value), relL vs ez ρ l xs → relL vs ez ρ l' xs' → relL vs ez ρ (l ++ l') (xs ++ xs')
  | [], [], _, _, _, h => by simpa using h
  | [], _ :: _, _, _, h, _ => by simp [relL] at h
  | _ :: _, [], _, _, h, _ => by simp [relL] at h
  | a :: l, x :: xs, l', xs', h, h' => by
    simp only [relL] at h
    simpa [relL] using ⟨h.1, relL_append l xs l' xs' h.2 h'⟩
theorem relL_take {vs ez ρ} : ∀ (l : List AV) (xs : List Value) (n : Nat), relL vs ez ρ l xs → relL vs ez ρ (l.take n) (xs.take n)
  | [], [], n, _ => by cases n <;> simp [relL]
  | [], _ :: _, _, h => by simp [relL] at h
  | _ :: _, [], _, h => by simp [relL] at h
  | a :: l, x :: xs, 0, h => by simp [relL]
  | a :: l, x :: xs, n + 1, h => by
    simp only [relL] at h
    simpa [relL] using ⟨h.1, relL_take l xs n h.2⟩
theorem relL_drop {vs ez ρ} : ∀ (l : List AV) (xs : List Value) (n : Nat), relL vs ez ρ l xs → relL vs ez ρ (l.drop n) (xs.drop n)
  | [], [], n, _ => by cases n <;> simp [relL]
  | [], _ :: _, _, h => by simp [relL] at h
  | _ :: _, [], _, h => by simp [relL] at h
  | a :: l, x :: xs, 0, h => by simpa using h
  | a :: l, x :: xs, n + 1, h => by
    simp only [relL] at h
    simpa using relL_drop l xs n h.2
theorem relL_vals {vs ez ρ} : ∀ (xs : List Value), relL vs ez ρ (xs.map .v) xs
  | [] => by simp [relL]
  | x :: xs => by simp only [List.map_cons, relL, rel]; exact ⟨trivial, relL_vals xs⟩
theorem relL_of_vals {vs ez ρ} : ∀ (xs ys : List Value), relL vs ez ρ (xs.map .v) ys → ys = xs
  | [], [], _ => rfl
  | [], _ :: _, h => by simp [relL] at h
  | _ :: _, [], h => by simp [relL] at h
  | x :: xs, y :: ys, h => by
    simp only [List.map_cons, relL, rel] at h
    rw [h.1, relL_of_vals xs ys h.2]

def OwnB (w : World) (b : Nat) (ty : TypeId) (xs : List Value) : Prop :=
  ∃ rest fr, w.heap[b]? = some (.cells (xs ++ rest).toArray ty fr) ∧ (fr.2 ≤ fr.1 ∨ xs.length ≤ fr.1)
theorem OwnB.lt {w b ty xs} (h : OwnB w b ty xs) : b < w.heap.size := by
  obtain ⟨rest, fr, h, _⟩ := h
  rcases Nat.lt_or_ge b w.heap.size with h1 | h1
  · exact h1
  · simp [Array.getElem?_eq_none h1] at h
theorem OwnB.same {w w' : World} {b ty xs} (h : OwnB w b ty xs) (e : w'.heap[b]? = w.heap[b]?) : OwnB w' b ty xs := by
  obtain ⟨rest, fr, h, h2⟩ := h
  exact ⟨rest, fr, e.trans h, h2⟩
theorem OwnB.cell {w b ty xs} (h : OwnB w b ty xs) (i : Nat) (u : Value) (hu : xs[i]? = some u) : w.cell? ⟨b, i, none⟩ = some u := by
  obtain ⟨rest, fr, h, _⟩ := h
  rw [cell_of_row w b i _ ty fr h]
  have hi : i < xs.length := by
    rcases Nat.lt_or_ge i xs.length with h1 | h1
    · exact h1
    · simp [List.getElem?_eq_none h1] at hu
  simp [List.getElem?_append_left hi, hu]
theorem OwnB.free {w b ty xs} (h : OwnB w b ty xs) (i : Nat) (hi : i < xs.length) : w.frozen? ⟨b, i, none⟩ = false := by
  obtain ⟨rest, fr, h, h2⟩ := h
  simp only [World.frozen?, h]
  rcases h2 with h2 | h2
  · simp; omega
  · simp; omega
theorem OwnB.set {w b ty xs} (h : OwnB w b ty xs) (i : Nat) (u : Value) (hi : i < xs.length) : OwnB (w.setCell ⟨b, i, none⟩ u) b ty (xs.set i u) := by
  obtain ⟨rest, fr, h, h2⟩ := h
  refine ⟨rest, fr, ?_, by simpa using h2⟩
  simp only [World.setCell, Array.getElem?_modify, if_true, h, Option.map_some]
  simp [List.set_append_left, hi]
theorem OwnB.alloc (w : World) (ty : TypeId) (xs rest : List Value) : OwnB (w.alloc (.cells (xs ++ rest).toArray ty)) w.heap.size ty xs :=
  ⟨rest, (0, 0), heap_alloc_new w _, by simp⟩

def mapCells : List MapEntry → List Value
  | [] => []
  | e :: es => e.key :: e.val :: goInt e.born :: mapCells es
def MapB (w : World) (b : Nat) (xs : List Value) : Prop :=
  ∃ (es : Array MapEntry) (clock : Nat), w.heap[b]? = some (.map es clock) ∧ xs = goInt clock :: mapCells es.toList

def StabT (F : Nat → (Nat → Prop) → World → Prop) : Prop := ∀ b D w w', (∀ c, D c → w'.heap[c]? = w.heap[c]?) → F b D w → F b D w'
def Chunk.mem (w : World) (L : Loc) (k : Chunk) (xs : List Value) : Prop :=
  match k.kind with
  | .own => L.off = 0 ∧ L.base = some ⟨L.blk, 0, none⟩ ∧ OwnB w L.blk k.ty xs ∧ xs.length = L.cap * k.esz
  | .buf => L.off = 0 ∧ L.base = some ⟨L.blk, 0, none⟩ ∧ OwnB w L.blk k.ty xs ∧ xs.length ≤ L.cap * k.esz
  | .row => L.off = 0 ∧ (L.base = none ∨ L.base = some ⟨L.blk, 0, none⟩) ∧ ∃ n, w.ownsRow 0 k.ty k.esz (.slice L.base n L.cap) n xs
  | .ro => (L.cap ≠ 0 → L.base = some ⟨L.blk, L.off, none⟩ ∧ ∀ i u, xs[i]? = some u → w.cell? ⟨L.blk, L.off + i, none⟩ = some u) ∧ (L.cap = 0 → xs = [])
  | .fact F => F w
  | .tab F => (F L.blk L.dom w ∧ L.off = 0) ∧ StabT F
  | .gone => True
  | .map => MapB w L.blk xs
def Chunk.owned (k : Chunk) : Bool := k.kind.owned
def Chunk.celled (k : Chunk) : Bool := k.kind.celled
theorem Chunk.celled_owned {k : Chunk} (h : k.celled = true) : k.owned = true := CK.celled_owned h
def Chunk.blk (L : Loc) (k : Chunk) : Option Nat :=
  match k.kind with
  | .own | .buf | .map => some L.blk
  | .row => L.base.map (·.block)
  | _ => none

structure Mod (w w' : World) (O : Nat → Prop) : Prop where
  os : w'.os = w.os
  tape : w'.tape = w.tape
  output : w'.output = w.output
  size : w.heap.size ≤ w'.heap.size
  block : ∀ b, b < w.heap.size → ¬ O b → w'.heap[b]? = w.heap[b]?
theorem Mod.refl (w : World) (O : Nat → Prop) : Mod w w O := ⟨rfl, rfl, rfl, Nat.le_refl _, fun _ _ _ => rfl⟩
theorem Mod.trans {a b c : World} {O O' : Nat → Prop} (h : Mod a b O) (k : Mod b c O') (ho : ∀ x, O' x → O x ∨ a.heap.size ≤ x) : Mod a c O :=
  ⟨k.os.trans h.os, k.tape.trans h.tape, k.output.trans h.output, Nat.le_trans h.size k.size, fun i hi hn => by
    rw [k.block i (Nat.lt_of_lt_of_le hi h.size) (fun hx => by rcases ho i hx with h1 | h1 <;> first | exact hn h1 | omega)]
    exact h.block i hi hn⟩
theorem Mod.mono {w w' : World} {O O' : Nat → Prop} (h : Mod w w' O) (ho : ∀ x, O x → O' x) : Mod w w' O' :=
  ⟨h.os, h.tape, h.output, h.size, fun b hb hn => h.block b hb fun hx => hn (ho b hx)⟩
theorem Mod.below {w w' : World} (h : Mod w w' fun _ => False) : RowKit.Below w.heap.size w w' :=
  ⟨h.os, h.tape, h.output, h.size, fun k hk => h.block k hk id⟩
theorem Mod.of_below {w w' : World} (h : RowKit.Below w.heap.size w w') (O : Nat → Prop) : Mod w w' O :=
  ⟨h.os, h.tape, h.output, h.size, fun k hk _ => h.block k hk⟩
theorem Mod.alloc (w : World) (o : Obj) (O : Nat → Prop) : Mod w (w.alloc o) O :=
  ⟨rfl, rfl, rfl, by simp, fun b hb _ => heap_alloc_old w o b hb⟩
theorem Mod.drew (w : World) (O : Nat → Prop) : Mod w w.drew O := ⟨rfl, rfl, rfl, Nat.le_refl _, fun _ _ _ => rfl⟩
theorem Mod.setCell (w : World) (a : Addr) (u : Value) (O : Nat → Prop) (h : O a.block) : Mod w (w.setCell a u) O :=
  ⟨rfl, rfl, rfl, by simp, fun b _ hn => heap_setCell_other w a b u (fun e => hn (e ▸ h))⟩

def Chunk.stays (k : Chunk) (L : Loc) : Prop :=
  ∀ (w1 w2 : World) xs, (∀ b, L.dom b → w2.heap[b]? = w1.heap[b]?) → k.mem w1 L xs → k.mem w2 L xs

structure Heap (w0 : World) (O : Nat → Prop) (st : St) (w : World) (ρ : Nat → Loc) : Prop where
  ok : ∀ c k, getO st.ch c = some k → ∃ xs, relL st.vs st.ez ρ k.cells xs ∧ k.mem w (ρ c) xs
  lt : ∀ c k b, getO st.ch c = some k → (ρ c).dom b → b < w.heap.size
  own : ∀ c k b, getO st.ch c = some k → k.owned = true → (ρ c).dom b → O b ∨ w0.heap.size ≤ b
  blk : ∀ c k b, getO st.ch c = some k → k.blk (ρ c) = some b → (ρ c).dom b
  stay : ∀ c k, getO st.ch c = some k → k.stays (ρ c)
  sep : ∀ c d k l b, getO st.ch c = some k → getO st.ch d = some l → k.owned = true → (ρ c).dom b → (ρ d).dom b → c = d
  mod : Mod w0 w O

theorem Heap.step {w0 O st w ρ} (h : Heap w0 O st w ρ) (T : Nat → Prop) (st' : St) (w' : World) (ρ' : Nat → Loc)
    (hmod : Mod w w' fun b => ∃ c k, T c ∧ getO st.ch c = some k ∧ k.owned = true ∧ (ρ c).dom b)
    (hsame : ∀ c, ¬ T c → getO st'.ch c = getO st.ch c ∧ ρ' c = ρ c)
    (hup : Up st.vs st'.vs st.ez st'.ez ρ ρ')
    (hok : ∀ c k, T c → getO st'.ch c = some k → ∃ xs, relL st'.vs st'.ez ρ' k.cells xs ∧ k.mem w' (ρ' c) xs)
    (hlt : ∀ c k b, T c → getO st'.ch c = some k → (ρ' c).dom b → b < w'.heap.size)
    (hown : ∀ c k b, T c → getO st'.ch c = some k → k.owned = true → (ρ' c).dom b → O b ∨ w0.heap.size ≤ b)
    (hblk : ∀ c k b, T c → getO st'.ch c = some k → k.blk (ρ' c) = some b → (ρ' c).dom b)
    (hstay : ∀ c k, T c → getO st'.ch c = some k → k.stays (ρ' c))
    (hsep : ∀ c d k l b, T c → getO st'.ch c = some k → getO st'.ch d = some l → (k.owned = true ∨ l.owned = true) → (ρ' c).dom b → (ρ' d).dom b → c = d) :
    Heap w0 O st' w' ρ' := by
  have keep : ∀ c k, ¬ T c → getO st'.ch c = some k → getO st.ch c = some k ∧ ρ' c = ρ c ∧ ∀ b, (ρ c).dom b → w'.heap[b]? = w.heap[b]? := by
    intro c k hc hk
    obtain ⟨h1, h2⟩ := hsame c hc
    rw [h1] at hk
    refine ⟨hk, h2, fun b hb => hmod.block b (h.lt c k b hk hb) ?_⟩
    rintro ⟨d, l, hd, hl, ho, hdb⟩
    exact hc (h.sep d c l k b hl hk ho hdb hb ▸ hd)
  refine ⟨fun c k hk => ?_, fun c k b hk hb => ?_, fun c k b hk ho hb => ?_, fun c k b hk hb => ?_, fun c k hk => ?_, fun c d k l b hk hl ho hb hd => ?_, ?_⟩
  · by_cases hc : T c
    · exact hok c k hc hk
    · obtain ⟨h1, h2, h3⟩ := keep c k hc hk
      obtain ⟨xs, hx, hm⟩ := h.ok c k h1
      rw [h2]
      exact ⟨xs, relL_up hup _ _ hx, h.stay c k h1 w w' xs h3 hm⟩
  · by_cases hc : T c
    · exact hlt c k b hc hk hb
    · obtain ⟨h1, h2, h3⟩ := keep c k hc hk
      exact Nat.lt_of_lt_of_le (h.lt c k b h1 (h2 ▸ hb)) hmod.size
  · by_cases hc : T c
    · exact hown c k b hc hk ho hb
    · obtain ⟨h1, h2, h3⟩ := keep c k hc hk
      exact h.own c k b h1 ho (h2 ▸ hb)
  · by_cases hc : T c
    · exact hblk c k b hc hk hb
    · obtain ⟨h1, h2, h3⟩ := keep c k hc hk
      rw [h2] at hb ⊢
      exact h.blk c k b h1 hb
  · by_cases hc : T c
    · exact hstay c k hc hk
    · obtain ⟨h1, h2, h3⟩ := keep c k hc hk
      rw [h2]
      exact h.stay c k h1
  · by_cases hc : T c
    · exact hsep c d k l b hc hk hl (.inl ho) hb hd
    · by_cases hd' : T d
      · exact (hsep d c l k b hd' hl hk (.inr ho) hd hb).symm
      · obtain ⟨h1, h2, h3⟩ := keep c k hc hk
        obtain ⟨g1, g2, g3⟩ := keep d l hd' hl
        exact h.sep c d k l b h1 g1 ho (h2 ▸ hb) (g2 ▸ hd)
  · exact h.mod.trans hmod fun b ⟨c, k, _, hk, ho, hb⟩ => h.own c k b hk ho hb

end Go.SX
namespace Go.SX

inductive TD where
  | bool | int (k : IntKind) | str | ptr (e : TypeId) | sl (e : TypeId) | arr (n : Nat) (e : TypeId) | st (fs : List (Nat × TypeId)) | ifc | fn | oth | mp (k e : TypeId)
structure Ty where
  d : TD
  size : Nat
  bytes : Nat
  zero : List Value
  eq : Bool

def TD.is : TD → TypeDesc → Prop
  | .bool, .bool => True
  | .int k, .int k' => k = k'
  | .str, .string => True
  | .ptr e, .pointer e' => e = e'
  | .sl e, .slice e' => e = e'
  | .arr n e, .array n' e' => n = n' ∧ e = e'
  | .st fs, .struct fs' => fs'.toList.map (fun f => (f.offset, f.type)) = fs
  | .ifc, .interface _ => True
  | .fn, .func _ _ _ => True
  | .oth, .struct _ => False
  | .oth, .array _ _ => False
  | .oth, _ => True
  | .mp k e, .map k' e' => k = k' ∧ e = e'
  | _, _ => False
def aggd (y : Ty) : Bool := match y.d with | .st _ | .arr _ _ => true | _ => false
def mkVal (y : Ty) (us : List Value) : Value := if aggd y = true then .agg us.toArray else us.getD 0 undef
structure TyOk (P : Program) (t : TypeId) (y : Ty) : Prop where
  d : ∃ d, P.underlying t = some d ∧ y.d.is d
  i : ∃ i z, P.info? t = some i ∧ i.size = y.size ∧ i.bytes = y.bytes ∧ i.zero = some z ∧ z.cells.toList = y.zero ∧ z = mkVal y y.zero
  e : y.eq = true → P.stoodInHeld t = false ∧ P.eqGuardType P.depth t = false ∧ ∀ fs, P.underlying t = some (.struct fs) → ∀ f, f ∈ fs.toList → f.name ≠ "_"

structure Base (n : Nat) where
  vs : Nat → Option Nat
  ez : Nat → Nat
  ρ : Nat → Loc
  lt : ∀ c v, vs c = some v → c < n
def Base.no (n : Nat) : Base n := ⟨fun _ => none, fun _ => 0, fun _ => ⟨0, 0, none, 0, fun _ => False⟩, fun _ _ h => by cases h⟩
structure Ctx where
  P : Program
  T : List (Option Ty)
  n : Nat
  I : World → Prop
structure Env (X : Ctx) where
  w0 : World
  O : Nat → Prop
  b : Base X.n
  inv : ∀ w, Mod w0 w O → X.I w
  ds : List Deferred
  rd : Option Nat
def Ctx.ok (X : Ctx) : Prop := ∀ t y, getO X.T t = some y → TyOk X.P t y

structure Rel (X : Ctx) (E : Env X) (st : St) (a : Act) (w : World) (ρ : Nat → Loc) : Prop where
  fr : relL st.vs st.ez ρ st.fr a.tmps.toList
  df : a.defers = E.ds
  heap : Heap E.w0 E.O st w ρ
  gh : Up E.b.vs st.vs E.b.ez st.ez E.b.ρ ρ
theorem Up.trans {v1 v2 v3 : Nat → Option Nat} {e1 e2 e3 : Nat → Nat} {r1 r2 r3 : Nat → Loc} (h : Up v1 v2 e1 e2 r1 r2) (k : Up v2 v3 e2 e3 r2 r3) : Up v1 v3 e1 e3 r1 r3 := by
  intro c cur hc
  obtain ⟨c2, h1, h2, h3⟩ := h c cur hc
  obtain ⟨c3, k1, k2, k3⟩ := k c c2 h1
  refine ⟨c3, k1, Nat.le_trans h2 k2, fun e => ?_⟩
  obtain ⟨p1, p2⟩ := h3 (by omega)
  obtain ⟨q1, q2⟩ := k3 (by omega)
  exact ⟨q1.trans p1, q2.trans p2⟩

def wideR (r : Option Nat) : Fence := { Fence.wide with round := r }
theorem callsIn_wideR {r : Option Nat} {n : Nat} {P : Program} {f : FuncId} {args : Array Value} {w : World} {R : Ending → World → Prop} : CallsIn (wideR r) n P f args w R ↔ Calls P f args w R :=
  (show CallsIn (wideR r) n P f args w R ↔ CallsIn Fence.wide n P f args w R from Iff.rfl).trans callsIn_wide
theorem rowsIn_wideR {r : Option Nat} {n : Nat} {P : Program} {row : String} {args : Array Value} {w : World} {R : Value → World → Prop} (h : Rows P row args w R) : RowsIn (wideR r) n P row args w R :=
  fun c cs _ => let ⟨v, w', q, s⟩ := h c cs; ⟨v, w', q, (show StepsIn (Machine.fenced P Fence.wide) P _ _ from stepsIn_wide.2 s)⟩
theorem wp_of_wide {P : Program} {c : Code} {Q : Exit → Act → World → Prop} {a : Act} {w : World} (h : c.wpIn (wideR none) 0 P Q a w) : c.wp P Q a w := (wpIn_wide (n := 0)).1 h
theorem upon_in {r : Option Nat} {P : Program} {o : Oper} {a : Act} {K : Act → World → Prop} {Q : Exit → Act → World → Prop} {res : Result Next} (h : o.upon P a K Q res) : o.uponIn (wideR r) 0 P a K Q res := by
  unfold Oper.upon at h
  unfold Oper.uponIn
  split at h
  · exact h
  · exact h
  · exact h
  · exact ⟨fun e => absurd e (by simp [wideR, Fence.wide]), callsIn_wideR.2 h⟩
  · exact ⟨fun e => absurd e (by simp [wideR, Fence.wide]), rowsIn_wideR h⟩
  · exact h
  · exact h.elim
theorem semAt_ok {r : Option Nat} {P : Program} {ρ : Operand → Value} {o : Oper} {w w' : World} {x : Next} (h : (execOp ρ o).run P w = .ok x w') (hx : ∀ d, x ≠ .defer d) : Oper.semAt r ρ o = execOp ρ o := by
  cases r with
  | none => exact Oper.semAt_none _ _
  | some l =>
    refine Oper.semAt_some l ρ o fun c hc => ?_
    simp only [execOp, hc, Sem.run_bind, Sem.run_pure] at h
    cases hr : (resolve ρ c o.type).run P w with
    | ok d w1 =>
      rw [hr] at h
      simp only [Result.andThen_ok, Result.ok.injEq] at h
      exact hx d h.1.symm
    | halt e w1 =>
      rw [hr] at h
      cases h
theorem opIn {r : Option Nat} {P : Program} {o : Oper} {a : Act} {w w' : World} {K : Act → World → Prop} {Q : Exit → Act → World → Prop} {x : Next} (h : (execOp a.eval o).run P w = .ok x w') (hx : ∀ d, x ≠ .defer d) (hu : o.upon P a K Q (.ok x w')) : o.wpIn (wideR r) 0 P a w K Q :=
  ⟨fun _ _ => trivial, by rw [semAt_ok h hx, h]; exact upon_in hu⟩
section
variable {F : Fence} {n : Nat} {P : Program} {b : Frame} {a : Act} {k : List Item} {cs : List Frame} {w : World} {Q : Exit → Act → World → Prop}
theorem stepR_scope {c : Code} : step P (lone (b.atR a (.code (.scope c) :: k)) cs w) = .next (lone (b.atR a (.code c :: .inScope c :: k)) cs w) :=
  step_lone_go (by simp [stepG, stepG.exec, Frame.atR])
theorem stepR_inScope {c : Code} : step P (lone (b.atR a (.inScope c :: k)) cs w) = .next (lone (b.atR a k) cs w) :=
  step_lone_go (by simp [stepG, stepG.exec, Frame.atR])
theorem wpIn_scope_straight {c : Code} (h : c.wpIn F n P (Exit.noGoto Q) a w) : (Code.scope c).wpIn F n P Q a w := by
  intro b k cs hro hb hr
  have h0 : (lone (b.atR a (.code (.scope c) :: k)) cs w).fenced P F := fenced_calm hb hr rfl
  obtain ⟨e, a₁, w₁, hq, harr⟩ := h b (.inScope c :: k) cs hro hb hr
  cases e with
  | normal => exact ⟨.normal, a₁, w₁, hq, .head h0 stepR_scope (StepsIn.trans harr (.one (fenced_calm hb hr rfl) stepR_inScope))⟩
  | exit id =>
    have hx : exitTo id (.inScope c :: k) = exitTo id k := by simp [exitTo]
    exact ⟨_, a₁, w₁, hq, fun k' hk => .head h0 stepR_scope (harr.1 k' (by rw [hx]; exact hk)),
      fun hr' hk => let ⟨k₁, h1, h2⟩ := harr.2 hr' (by rw [hx]; exact hk); ⟨k₁, h1, .head h0 stepR_scope h2⟩⟩
  | goto l => exact hq.elim
  | ret => exact ⟨_, a₁, w₁, hq, .of_steps (.one h0 stepR_scope) harr⟩
  | panic ch => exact ⟨_, a₁, w₁, hq, .of_steps (.one h0 stepR_scope) harr⟩
  | outgrown => exact ⟨_, a₁, w₁, hq, .of_steps (.one h0 stepR_scope) harr⟩
end
structure TR (X : Ctx) (c : Code) (K : Exit → St → Prop) (st : St) : Prop where
  out : ∀ E a w ρ, Rel X E st a w ρ → c.wpIn (wideR E.rd) 0 X.P (fun e a' w' => ∃ st' ρ', K e st' ∧ Rel X E st' a' w' ρ') a w

def seqK (X : Ctx) (c : Code) (K : Exit → St → Prop) : Exit → St → Prop
  | .normal, s => TR X c K s
  | e, s => K e s
def blockK (id : Nat) (K : Exit → St → Prop) : Exit → St → Prop
  | .exit i, s => match Nat.beq i id with | true => K .normal s | false => K (.exit i) s
  | e, s => K e s

def evA (fr : List AV) : Operand → AV
  | .tmp t => getF fr t
  | .const x => .v x
  | .global g => .v (.pointer (some ⟨g, 0, none⟩))
  | .func f => .v (.func (.func f) #[] #[])

section
variable {X : Ctx} {K : Exit → St → Prop} {st : St}

theorem Rel.ev {E a w ρ} (h : Rel X E st a w ρ) (x : Operand) : rel st.vs st.ez ρ (evA st.fr x) (a.eval x) := by
  cases x with
  | tmp t =>
    have := relL_get st.fr a.tmps.toList t h.fr
    simpa [evA, Act.eval, Array.getD_eq_getD_getElem?] using this
  | const x => simp [evA, Act.eval, rel]
  | global g => simp [evA, Act.eval, rel]
  | func f => simp [evA, Act.eval, rel]
theorem Rel.ev_v {E a w ρ} (h : Rel X E st a w ρ) {x : Operand} {u : Value} (e : evA st.fr x = .v u) : a.eval x = u := by
  have := h.ev x
  rw [e] at this
  simpa [rel] using this

theorem TR.mono {c : Code} {K' : Exit → St → Prop} (h : TR X c K st) (hk : ∀ e s, K e s → K' e s) : TR X c K' st :=
  ⟨fun E a w ρ hr => wpIn_mono (h.out E a w ρ hr) fun _ _ _ ⟨s, ρ', h1, h2⟩ => ⟨s, ρ', hk _ _ h1, h2⟩⟩
theorem TR.skip (h : K .normal st) : TR X .skip K st := ⟨fun _ _ _ ρ hr => wpIn_skip ⟨st, ρ, h, hr⟩⟩
theorem TR.label {l : Nat} (h : K .normal st) : TR X (.label l) K st := ⟨fun _ _ _ ρ hr => wpIn_label ⟨st, ρ, h, hr⟩⟩
theorem TR.exit {id : Nat} (h : K (.exit id) st) : TR X (.exit id) K st := ⟨fun _ _ _ ρ hr => wpIn_exit ⟨st, ρ, h, hr⟩⟩
theorem TR.ret (h : K .ret st) : TR X .ret K st := ⟨fun _ _ _ ρ hr => wpIn_ret ⟨st, ρ, h, hr⟩⟩
theorem TR.seq {c d : Code} (h : TR X c (seqK X d K) st) : TR X (.seq c d) K st := by
  refine ⟨fun E a w ρ hr => wpIn_seq (wpIn_mono (h.out E a w ρ hr) ?_)⟩
  rintro e a' w' ⟨s, ρ', h1, h2⟩
  cases e with
  | normal => exact (show TR X d K s from h1).out E a' w' ρ' h2
  | _ => exact ⟨s, ρ', h1, h2⟩
theorem TR.block {id : Nat} {c : Code} (h : TR X c (blockK id K) st) : TR X (.block id c) K st := by
  refine ⟨fun E a w ρ hr => wpIn_block (wpIn_mono (h.out E a w ρ hr) ?_)⟩
  rintro e a' w' ⟨s, ρ', h1, h2⟩
  cases e with
  | exit i =>
    simp only [Exit.inBlock]
    by_cases hi : i = id
    · subst hi
      simp only [blockK, Nat.beq_refl] at h1
      rw [if_pos rfl]
      exact ⟨s, ρ', h1, h2⟩
    · rw [if_neg hi]
      have hb : Nat.beq i id = false := by
        cases hx : Nat.beq i id
        · rfl
        · exact (hi (Nat.eq_of_beq_eq_true hx)).elim
      simp only [blockK, hb] at h1
      exact ⟨s, ρ', h1, h2⟩
  | _ => exact ⟨s, ρ', h1, h2⟩
theorem TR.cond {c : Operand} {x y : Code} {t : Bool} (hc : evA st.fr c = .v (.bool t)) (h1 : t = true → TR X x K st) (h2 : t = false → TR X y K st) : TR X (.cond c x y) K st := by
  refine ⟨fun E a w ρ hr => ?_⟩
  refine wpIn_cond_split (hr.ev_v hc) (fun ht => (h1 ht).out E a w ρ hr) (fun ht => (h2 ht).out E a w ρ hr)
theorem TR.cond_true {c : Operand} {x y : Code} (hc : evA st.fr c = .v (.bool true)) (h1 : TR X x K st) : TR X (.cond c x y) K st :=
  TR.cond hc (fun _ => h1) (fun h => by cases h)
theorem TR.cond_false {c : Operand} {x y : Code} (hc : evA st.fr c = .v (.bool false)) (h1 : TR X y K st) : TR X (.cond c x y) K st :=
  TR.cond hc (fun h => by cases h) (fun _ => h1)
end


structure Actn where
  sin : List (Nat × AV)
  cin : List (Nat × Option Chunk)
  dst : Option Nat
  res : AV
  cout : List (Nat × Chunk)

def setAll (l : List (Option Chunk)) : List (Nat × Chunk) → List (Option Chunk)
  | [] => l
  | (i, k) :: r => setAll (setO l i k) r
def Actn.app (A : Actn) (st : St) : St :=
  { fr := match A.dst with | some d => setF st.fr d A.res | none => st.fr, ch := setAll st.ch A.cout }
structure Actn.Fits (A : Actn) (st : St) : Prop where
  s : ∀ i x, (i, x) ∈ A.sin → getF st.fr i = x
  c : ∀ i k, (i, k) ∈ A.cin → getO st.ch i = k

structure LS (X : Ctx) (o : Oper) (A : Actn) : Prop where
  dst : A.dst = o.dst
  run : ∀ st E a w ρ, A.Fits st → Rel X E st a w ρ → ∀ (K : Act → World → Prop) (Q : Exit → Act → World → Prop), (∀ a' w' ρ', Rel X E (A.app st) a' w' ρ' → K a' w') → o.wpIn (wideR E.rd) 0 X.P a w K Q

structure ActN (X : Ctx) (o : Oper) (st : St) (k : Actn → Prop) : Prop where
  out : ∃ A, LS X o A ∧ A.Fits st ∧ k A

theorem relL_put {vs ez ρ} {fr : List AV} {a : Act} {d : Option Nat} {r : AV} {u : Value} (h : relL vs ez ρ fr a.tmps.toList) (hr : rel vs ez ρ r u) :
    relL vs ez ρ (match d with | some d => setF fr d r | none => fr) (a.put d u).tmps.toList := by
  cases d with
  | none => exact h
  | some d =>
    simp only [Act.put, Array.toList_setIfInBounds]
    exact relL_set _ _ _ _ _ h hr
theorem put_defers (a : Act) (d : Option Nat) (u : Value) : (a.put d u).defers = a.defers := by cases d <;> rfl

theorem LS.pure {X : Ctx} {o : Oper} {A : Actn} (hd : A.dst = o.dst) (hc : A.cout = [])
    (h : ∀ st E a w ρ, A.Fits st → Rel X E st a w ρ → ∃ v, (execOp a.eval o).run X.P w = .ok (.value v) w ∧ rel st.vs st.ez ρ A.res v) : LS X o A := by
  refine ⟨hd, fun st E a w ρ hf hr K Q hk => ?_⟩
  obtain ⟨v, h1, h2⟩ := h st E a w ρ hf hr
  refine opIn h1 (fun d h => by cases h) ?_
  rw [Oper.upon_value]
  have hch : (A.app st).ch = st.ch := by simp [Actn.app, hc, setAll]
  have hst : (A.app st).vs = st.vs ∧ (A.app st).ez = st.ez := by simp [St.vs, St.ez, hch, funext_iff]
  refine hk _ _ ρ ⟨?_, by rw [put_defers]; exact hr.df, ?_, by rw [hst.1, hst.2]; exact hr.gh⟩
  · rw [hst.1, hst.2, ← hd]
    exact relL_put hr.fr h2
  · obtain ⟨g1, g2, g3, g4, g5, g6, g7⟩ := hr.heap
    exact ⟨fun c k hk => by rw [hch] at hk; rw [hst.1, hst.2]; exact g1 c k hk, fun c k b hk => by rw [hch] at hk; exact g2 c k b hk, fun c k b hk => by rw [hch] at hk; exact g3 c k b hk,
      fun c k b hk => by rw [hch] at hk; exact g4 c k b hk, fun c k hk => by rw [hch] at hk; exact g5 c k hk, fun c d k l b hk hl => by rw [hch] at hk hl; exact g6 c d k l b hk hl, g7⟩

theorem LS.mem {X : Ctx} {o : Oper} {A : Actn} (hd : A.dst = o.dst)
    (h : ∀ st E a w ρ, A.Fits st → Rel X E st a w ρ → ∃ v w' ρ', ((execOp a.eval o).run X.P w = .ok (.value v) w' ∨ ((execOp a.eval o).run X.P w = .ok .skip w' ∧ o.dst = none)) ∧
      Up st.vs (A.app st).vs st.ez (A.app st).ez ρ ρ' ∧ Heap E.w0 E.O (A.app st) w' ρ' ∧ rel (A.app st).vs (A.app st).ez ρ' A.res v) : LS X o A := by
  refine ⟨hd, fun st E a w ρ hf hr K Q hk => ?_⟩
  obtain ⟨v, w', ρ', h1, h2, h3, h4⟩ := h st E a w ρ hf hr
  rcases h1 with h1 | ⟨h1, hn⟩
  · refine opIn h1 (fun d h => by cases h) ?_
    rw [Oper.upon_value]
    refine hk _ _ ρ' ⟨?_, by rw [put_defers]; exact hr.df, h3, hr.gh.trans h2⟩
    rw [← hd]
    exact relL_put (relL_up h2 _ _ hr.fr) h4
  · refine opIn h1 (fun d h => by cases h) ?_
    rw [Oper.upon_skip]
    refine hk _ _ ρ' ⟨?_, by rw [put_defers]; exact hr.df, h3, hr.gh.trans h2⟩
    rw [hn] at hd ⊢
    have : (A.app st).fr = st.fr := by simp [Actn.app, hd]
    rw [this]
    exact relL_up h2 _ _ hr.fr

theorem LS.call {X : Ctx} {o : Oper} {A : Actn} (hd : A.dst = o.dst)
    (h : ∀ st E a w ρ, A.Fits st → Rel X E st a w ρ → ∃ f args, (execOp a.eval o).run X.P w = .ok (.enter f args) w ∧
      Calls X.P f args w fun e w' => ∃ v ρ', e = .returned v ∧ Up st.vs (A.app st).vs st.ez (A.app st).ez ρ ρ' ∧ Heap E.w0 E.O (A.app st) w' ρ' ∧ rel (A.app st).vs (A.app st).ez ρ' A.res v) : LS X o A := by
  refine ⟨hd, fun st E a w ρ hf hr K Q hk => ?_⟩
  obtain ⟨f, args, h1, h2⟩ := h st E a w ρ hf hr
  refine opIn h1 (fun d h => by cases h) ?_
  rw [Oper.upon_enter]
  refine h2.mono ?_
  rintro e w' ⟨v, ρ', rfl, h2, h3, h4⟩
  refine hk _ _ ρ' ⟨?_, by rw [put_defers]; exact hr.df, h3, hr.gh.trans h2⟩
  rw [← hd]
  exact relL_put (relL_up h2 _ _ hr.fr) h4


section
variable {R : Type}

def setFK : List AV → Nat → AV → (List AV → R) → R
  | [], _, _, k => k []
  | _ :: l, 0, a, k => k (a :: l)
  | x :: l, n + 1, a, k => setFK l n a fun r => k (x :: r)
theorem setFK_eq : ∀ (l : List AV) (n : Nat) (a : AV) (k : List AV → R), setFK l n a k = k (setF l n a)
  | [], _, _, _ => rfl
  | _ :: _, 0, _, _ => rfl
  | x :: l, n + 1, a, k => by simp only [setFK, setF]; exact setFK_eq l n a _
def setOK {α : Type} : List (Option α) → Nat → α → (List (Option α) → R) → R
  | [], 0, a, k => k [some a]
  | [], n + 1, a, k => setOK [] n a fun r => k (none :: r)
  | _ :: l, 0, a, k => k (some a :: l)
  | x :: l, n + 1, a, k => setOK l n a fun r => k (x :: r)
theorem setOK_eq {α : Type} : ∀ (n : Nat) (l : List (Option α)) (a : α) (k : List (Option α) → R), setOK l n a k = k (setO l n a)
  | 0, [], _, _ => rfl
  | n + 1, [], a, k => by simp only [setOK, setO]; exact setOK_eq n [] a _
  | 0, _ :: _, _, _ => rfl
  | n + 1, x :: l, a, k => by simp only [setOK, setO]; exact setOK_eq n l a _
def setAllK : List (Nat × Chunk) → List (Option Chunk) → (List (Option Chunk) → R) → R
  | [], l, k => k l
  | (i, c) :: r, l, k => setOK l i c fun l' => setAllK r l' k
theorem setAllK_eq : ∀ (r : List (Nat × Chunk)) (l : List (Option Chunk)) (k : List (Option Chunk) → R), setAllK r l k = k (setAll l r)
  | [], _, _ => rfl
  | (i, c) :: r, l, k => by simp only [setAllK, setAll]; rw [setOK_eq]; exact setAllK_eq r _ k
def appK (A : Actn) (st : St) (k : St → R) : R :=
  match A, st with
  | ⟨_, _, some d, res, cout⟩, ⟨fr, ch⟩ => setFK fr d res fun fr => setAllK cout ch fun ch => k ⟨fr, ch⟩
  | ⟨_, _, none, _, cout⟩, ⟨fr, ch⟩ => setAllK cout ch fun ch => k ⟨fr, ch⟩
theorem appK_eq (A : Actn) (st : St) (k : St → R) : appK A st k = k (A.app st) := by
  obtain ⟨sin, cin, dst, res, cout⟩ := A
  obtain ⟨fr, ch⟩ := st
  cases dst <;> simp only [appK, Actn.app, setFK_eq, setAllK_eq]
end

end Go.SX
namespace Go.SX


structure Nm {α : Type} (e : α) (f : α → Prop) : Prop where
  out : ∃ n, e = n ∧ f n
theorem Nm.mk' {α : Type} {e : α} {f : α → Prop} (n : α) (h : e = n) (k : f n) : Nm e f := ⟨n, h, k⟩
theorem Nm.keep {α : Type} {e : α} {f : α → Prop} (k : f e) : Nm e f := ⟨e, rfl, k⟩
theorem Nm.self {α : Type} {e : α} {f : α → Prop} (h : Nm e f) : f e := by obtain ⟨n, rfl, h⟩ := h; exact h
structure Need (p q : Prop) : Prop where
  need : p
  next : q
theorem Need.mk' {p q : Prop} (h : p) (k : p → q) : Need p q := ⟨h, k h⟩
structure Br (t : Bool) (f : Bool → Prop) : Prop where
  pos : t = true → f true
  neg : t = false → f false
theorem Br.dec {p : Prop} [Decidable p] {f : Bool → Prop} (h1 : p → f true) (h2 : ¬ p → f false) : Br (decide p) f :=
  ⟨fun h => h1 (of_decide_eq_true h), fun h => h2 (of_decide_eq_false h)⟩
theorem Br.eq {m n : Int} {f : Bool → Prop} (h1 : m = n → f true) (h2 : m ≠ n → f false) : Br (m == n) f :=
  ⟨fun h => h1 (by simpa using h), fun h => h2 (by simpa using h)⟩
theorem Br.ne {m n : Int} {f : Bool → Prop} (h1 : m ≠ n → f true) (h2 : m = n → f false) : Br (m != n) f :=
  ⟨fun h => h1 (by simpa using h), fun h => h2 (by simpa using h)⟩
theorem Br.not {b : Bool} {f : Bool → Prop} (h1 : b = false → f true) (h2 : b = true → f false) : Br (!b) f :=
  ⟨fun h => h1 (by simpa using h), (fun h => h2 (by simpa using h))⟩
theorem Br.tt {f : Bool → Prop} (h : f true) : Br true f := ⟨fun _ => h, (fun h => by cases h)⟩
theorem Br.ff {f : Bool → Prop} (h : f false) : Br false f := ⟨(fun h => by cases h), fun _ => h⟩
theorem Br.self {t : Bool} {f : Bool → Prop} (h : Br t f) : f t := by cases t with
  | true => exact h.pos rfl
  | false => exact h.neg rfl
structure Ld (o : Option (List AV)) (f : List AV → Prop) : Prop where
  out : ∃ l, o = some l ∧ f l
theorem Ld.mk' {o : Option (List AV)} {f : List AV → Prop} (l : List AV) (h : o = some l) (k : f l) : Ld o f := ⟨l, h, k⟩


def subL : List AV → Nat → Nat → Option (List AV)
  | _, 0, 0 => some []
  | [], _, _ => none
  | x :: l, 0, n + 1 => match subL l 0 n with
    | some r => some (x :: r)
    | none => none
  | _ :: l, o + 1, n => subL l o n
def putL : List AV → Nat → List AV → Option (List AV)
  | l, 0, [] => some l
  | [], _, _ => none
  | _ :: l, 0, y :: ys => match putL l 0 ys with
    | some r => some (y :: r)
    | none => none
  | x :: l, o + 1, ys => match putL l o ys with
    | some r => some (x :: r)
    | none => none
def celA : AV → List AV
  | .agg l => l
  | .v x => x.cells.toList.map .v
  | a => [a]

theorem subL_spec : ∀ (l : List AV) (o n : Nat) (r : List AV), subL l o n = some r → r = (l.drop o).take n ∧ o + n ≤ l.length
  | [], 0, 0, r, h => by simp [subL] at h; subst h; simp
  | [], 0, n + 1, r, h => by simp [subL] at h
  | [], o + 1, n, r, h => by simp [subL] at h
  | x :: l, 0, 0, r, h => by simp [subL] at h; subst h; simp
  | x :: l, 0, n + 1, r, h => by
    simp only [subL] at h
    cases hs : subL l 0 n with
    | none => simp [hs] at h
    | some r' =>
      simp only [hs, Option.some.injEq] at h
      obtain ⟨h1, h2⟩ := subL_spec l 0 n r' hs
      subst h
      constructor
      · simp at h1; simp [h1]
      · simp at h2 ⊢; omega
  | x :: l, o + 1, n, r, h => by
    have h' : subL l o n = some r := by cases n <;> simpa [subL] using h
    obtain ⟨h1, h2⟩ := subL_spec l o n r h'
    exact ⟨by simpa using h1, by simp; omega⟩
theorem putL_spec : ∀ (l : List AV) (o : Nat) (ys r : List AV), putL l o ys = some r → r = l.take o ++ ys ++ l.drop (o + ys.length) ∧ o + ys.length ≤ l.length
  | l, 0, [], r, h => by
    have : l = r := by cases l <;> simpa [putL] using h
    subst this; simp
  | [], 0, y :: ys, r, h => by simp [putL] at h
  | [], o + 1, ys, r, h => by simp [putL] at h
  | x :: l, 0, y :: ys, r, h => by
    simp only [putL] at h
    cases hs : putL l 0 ys with
    | none => simp [hs] at h
    | some r' =>
      simp only [hs, Option.some.injEq] at h
      obtain ⟨h1, h2⟩ := putL_spec l 0 ys r' hs
      subst h
      constructor
      · simp at h1; simp [h1]
      · simp at h2 ⊢; omega
  | x :: l, o + 1, ys, r, h => by
    simp only [putL] at h
    cases hs : putL l o ys with
    | none => simp [hs] at h
    | some r' =>
      simp only [hs, Option.some.injEq] at h
      obtain ⟨h1, h2⟩ := putL_spec l o ys r' hs
      subst h
      constructor
      · have e : o + 1 + ys.length = (o + ys.length) + 1 := by omega
        simp [h1, e]
      · simp at h2 ⊢; omega

theorem rel_cel {vs ez ρ} : ∀ (a : AV) (u : Value), rel vs ez ρ a u → a ≠ .dead → relL vs ez ρ (celA a) u.cells.toList
  | .v x, u, h, _ => by
    simp only [rel] at h
    subst h
    exact relL_vals _
  | .agg l, u, h, _ => by
    simp only [rel] at h
    obtain ⟨xs, rfl, h⟩ := h
    exact h
  | .ref c k off, u, h, _ => by
    have h' := h
    simp only [rel] at h'
    obtain ⟨_, _, _, _, p, rfl⟩ := h'
    simp only [celA, Value.cells, relL]
    exact ⟨h, trivial⟩
  | .sl c k lo n, u, h, _ => by
    have h' := h
    simp only [rel] at h'
    obtain ⟨_, _, _, _, p, m, d, rfl⟩ := h'
    simp only [celA, Value.cells, relL]
    exact ⟨h, trivial⟩
  | .fn f l, u, h, _ => by
    have h' := h
    simp only [rel] at h'
    obtain ⟨p, rfl, _⟩ := h'
    simp only [celA, Value.cells, relL]
    exact ⟨h, trivial⟩
  | .ifc t a, u, h, _ => by
    have h' := h
    simp only [rel] at h'
    obtain ⟨p, rfl, _⟩ := h'
    simp only [celA, Value.cells, relL]
    exact ⟨h, trivial⟩
  | .tup l, u, h, _ => by
    have h' := h
    simp only [rel] at h'
    obtain ⟨p, rfl, _⟩ := h'
    simp only [celA, Value.cells, relL]
    exact ⟨h, trivial⟩
  | .dead, _, _, hn => (hn rfl).elim
  | .mp c k, u, h, _ => by
    have h' := h
    simp only [rel] at h'
    obtain ⟨_, _, _, _, p, rfl⟩ := h'
    simp only [celA, Value.cells, relL]
    exact ⟨h, trivial⟩

def one : AV → Bool
  | .v x => x.oneCell'
  | .ref .. | .sl .. | .fn .. | .ifc .. | .mp .. => true
  | _ => false
theorem rel_one {vs ez ρ} : ∀ (a : AV) (u : Value), rel vs ez ρ a u → one a = true → u.oneCell' = true
  | .v x, u, h, h1 => by simp only [rel] at h; subst h; simpa [one] using h1
  | .ref c k off, u, h, _ => by simp only [rel] at h; obtain ⟨_, _, _, _, p, rfl⟩ := h; rfl
  | .sl c k lo n, u, h, _ => by simp only [rel] at h; obtain ⟨_, _, _, _, p, m, d, rfl⟩ := h; rfl
  | .fn f l, u, h, _ => by simp only [rel] at h; obtain ⟨p, rfl, _⟩ := h; rfl
  | .ifc t a, u, h, _ => by simp only [rel] at h; obtain ⟨p, rfl, _⟩ := h; rfl
  | .agg l, _, _, h1 => by simp [one] at h1
  | .tup l, _, _, h1 => by simp [one] at h1
  | .dead, _, _, h1 => by simp [one] at h1
  | .mp c k, u, h, _ => by simp only [rel] at h; obtain ⟨_, _, _, _, p, rfl⟩ := h; rfl

structure NA (R : Type) where
  no : R
  br : Bool → (Bool → R) → R
  int : Int → (Int → R) → R
  nat : Nat → (Nat → R) → R
  cat : ByteArray → ByteArray → (ByteArray → R) → R
  ext : ByteArray → Nat → Nat → (ByteArray → R) → R
  seq : ByteArray → ByteArray → (Bool → R) → R
  byt : List Int → (ByteArray → R) → R
  need : (p : Prop) → [Decidable p] → R → R
  ld : Option (List AV) → (List AV → R) → R
  sh : BinOp → IntKind → Int → Int → (Value → R) → R
  act : Oper → St → (Actn → R) → R
  ix : Nat → List (Option Chunk) → (Nat → R) → R
structure NA.Ok {R : Type} (M : NA R) (H : R → Prop) (X : Ctx) : Prop where
  no : ¬ H M.no
  br : ∀ {t f}, H (M.br t f) → H (f t)
  int : ∀ {e f}, H (M.int e f) → H (f e)
  nat : ∀ {e f}, H (M.nat e f) → H (f e)
  cat : ∀ {a b f}, H (M.cat a b f) → H (f (a ++ b))
  ext : ∀ {a l h f}, H (M.ext a l h f) → H (f (a.extract l h))
  seq : ∀ {a b f}, H (M.seq a b f) → H (f (decide (a = b)))
  byt : ∀ {ns f}, H (M.byt ns f) → H (f (strOfNums ns))
  need : ∀ {p : Prop} {i : Decidable p} {r}, H (@NA.need R M p i r) → p ∧ H r
  ld : ∀ {o f}, H (M.ld o f) → ∃ l, o = some l ∧ H (f l)
  sh : ∀ {op kd a b f}, H (M.sh op kd a b f) → 0 ≤ b ∧ ((op = .shl ∧ H (f (.int kd (kd.wrap (a * 2 ^ (min b.toNat kd.bits)))))) ∨ (op = .shr ∧ H (f (.int kd (a.fdiv (2 ^ (min b.toNat kd.bits)))))))
  act : ∀ {o st k}, H (M.act o st k) → ActN X o st fun A => H (k A)
  ix : ∀ {d ch k}, H (M.ix d ch k) → ∃ n, H (k n)
end Go.SX
namespace Go.SX

section
variable {P : Program} {t : TypeId} {y : Ty} {w : World}
theorem TyOk.run_size (h : TyOk P t y) : (sizeOf t).run P w = .ok y.size w := by
  obtain ⟨_, ⟨i, z, h1, h2, h3, h4, h5⟩, _⟩ := h
  simp [sizeOf, typeInfo, h1, h2]
theorem TyOk.run_zero (h : TyOk P t y) : ∃ z, (zeroValue t).run P w = .ok z w ∧ z.cells.toList = y.zero := by
  obtain ⟨_, ⟨i, z, h1, h2, h3, h4, h5⟩, _⟩ := h
  exact ⟨z, by simp [zeroValue, typeInfo, h1, h4], h5.1⟩
theorem TyOk.run_zeroV (h : TyOk P t y) : (zeroValue t).run P w = .ok (mkVal y y.zero) w := by
  obtain ⟨_, ⟨i, z, h1, h2, h3, h4, h5⟩, _⟩ := h
  rw [← h5.2]
  simp [zeroValue, typeInfo, h1, h4]
theorem TyOk.run_agg (h : TyOk P t y) : (isAgg t).run P w = .ok (aggd y) w := by
  obtain ⟨⟨d, h1, h2⟩, _⟩ := h
  unfold isAgg aggd
  simp only [Sem.run_bind, run_underlying h1, Result.andThen_ok]
  revert h2
  cases y.d <;> cases d <;> simp [TD.is]

theorem TyOk.run_load (h : TyOk P t y) (a : Addr) (xs : List Value) (hl : xs.length = y.size) (hz : aggd y = false → y.size = 1)
    (hc : ∀ i u, xs[i]? = some u → w.cell? (a.add i) = some u) : (loadVar t a).run P w = .ok (if aggd y = true then .agg xs.toArray else xs.getD 0 undef) w := by
  unfold loadVar
  simp only [Sem.run_bind, h.run_agg, Result.andThen_ok]
  cases hy : aggd y with
  | true =>
    simp only [if_true]
    simp only [Sem.run_bind, h.run_size, Result.andThen_ok]
    rw [← hl, run_loadCells_list w a xs hc]
    simp
  | false =>
    have hz' := hz hy
    rw [hz'] at hl
    match xs, hl with
    | [x], _ =>
      have := hc 0 x rfl
      have ha : a.add 0 = a := by simp [Addr.add]
      rw [ha] at this
      simp [this]
end

structure Writable (b : Nat) (W : World → List Value → Prop) : Prop where
  get : ∀ w xs i u, W w xs → xs[i]? = some u → w.cell? ⟨b, i, none⟩ = some u
  free : ∀ w xs i, W w xs → i < xs.length → w.frozen? ⟨b, i, none⟩ = false
  set : ∀ w xs i u, W w xs → i < xs.length → W (w.setCell ⟨b, i, none⟩ u) (xs.set i u)
theorem add_none (b o i : Nat) : (⟨b, o, none⟩ : Addr).add i = ⟨b, o + i, none⟩ := by
  unfold Addr.add; split <;> simp_all

theorem run_storeCells_w (P : Program) {b : Nat} {W : World → List Value → Prop} (hW : Writable b W) (o : Nat) : ∀ (vs : List Value) (i : Nat) (w : World) (xs : List Value),
    W w xs → o + i + vs.length ≤ xs.length → (∀ u ∈ vs, u.oneCell' = true) →
    ∃ w', (storeCells ⟨b, o, none⟩ vs i).run P w = .ok () w' ∧ W w' (xs.take (o + i) ++ vs ++ xs.drop (o + i + vs.length)) ∧ Mod w w' (· = b)
  | [], i, w, xs, h, _, _ => ⟨w, by simp [storeCells], by simpa using h, Mod.refl _ _⟩
  | v :: vs, i, w, xs, h, hl, h1 => by
    have hlt : o + i < xs.length := by simp at hl; omega
    have hc := hW.get w xs (o + i) _ h (List.getElem?_eq_getElem hlt)
    have hf := hW.free w xs (o + i) h hlt
    have hs := hW.set w xs (o + i) v h hlt
    obtain ⟨w', r1, r2, r3⟩ := run_storeCells_w P hW o vs (i + 1) (w.setCell ⟨b, o + i, none⟩ v) _ hs (by simp at hl ⊢; omega) (fun u hu => h1 u (List.mem_cons_of_mem _ hu))
    refine ⟨w', ?_, ?_, ?_⟩
    · simp only [storeCells, add_none, Sem.run_bind]
      rw [run_store P w _ v _ (h1 v (List.mem_cons_self ..))]
      simp only [hc, hf, Bool.false_eq_true, if_false, Result.andThen_ok]
      exact r1
    · have e1 : (xs.set (o + i) v).take (o + (i + 1)) = xs.take (o + i) ++ [v] := by
        rw [show o + (i + 1) = (o + i) + 1 by omega, List.take_add_one]
        simp [hlt, List.take_set_of_le]
      have e2 : (xs.set (o + i) v).drop (o + (i + 1) + vs.length) = xs.drop (o + i + (v :: vs).length) := by
        rw [List.drop_set_of_lt (by omega)]
        congr 1
        simp; omega
      rw [e1, e2] at r2
      simpa using r2
    · refine Mod.trans (Mod.setCell w ⟨b, o + i, none⟩ v (· = b) rfl) r3 fun x hx => .inl hx
end Go.SX
namespace Go.SX

def rdA (fr : List AV) : Operand → List (Nat × AV)
  | .tmp t => [(t, getF fr t)]
  | _ => []
def rds (fr : List AV) : List Operand → List (Nat × AV)
  | [] => []
  | x :: r => rdA fr x ++ rds fr r

theorem fits_ev {A : Actn} {st : St} {fr : List AV} {x : Operand} (h : A.Fits st) (hs : ∀ p, p ∈ rdA fr x → p ∈ A.sin) : evA st.fr x = evA fr x := by
  cases x with
  | tmp t => exact (h.s t _ (hs (t, getF fr t) (by simp [rdA])))
  | _ => rfl
theorem rds_mem {fr : List AV} {x : Operand} : ∀ {xs : List Operand}, x ∈ xs → ∀ p, p ∈ rdA fr x → p ∈ rds fr xs
  | y :: r, h, p, hp => by
    rcases List.mem_cons.1 h with rfl | h
    · exact List.mem_append_left _ hp
    · exact List.mem_append_right _ (rds_mem h p hp)
theorem rds_fits (fr : List AV) (ch : List (Option Chunk)) : ∀ (xs : List Operand) i x, (i, x) ∈ rds fr xs → getF fr i = x
  | [], _, _, h => by simp [rds] at h
  | y :: r, i, x, h => by
    rcases List.mem_append.1 h with h | h
    · cases y with
      | tmp t => simp [rdA] at h; rw [h.1, h.2]
      | _ => simp [rdA] at h
    · exact rds_fits fr ch r i x h

def aP (o : Oper) (fr : List AV) (xs : List Operand) (r : AV) : Actn := ⟨rds fr xs, [], o.dst, r, []⟩
def aR (o : Oper) (fr : List AV) (xs : List Operand) (c : Nat) (ck : Chunk) (r : AV) : Actn := ⟨rds fr xs, [(c, some ck)], o.dst, r, []⟩

theorem ActN.p {X : Ctx} {o : Oper} {st : St} {xs : List Operand} {r : AV} {k : Actn → Prop}
    (h : ∀ vs ez ρ (a : Act) w, (∀ x, x ∈ xs → rel vs ez ρ (evA st.fr x) (a.eval x)) → ∃ v, (execOp a.eval o).run X.P w = .ok (.value v) w ∧ rel vs ez ρ r v) (hk : k (aP o st.fr xs r)) : ActN X o st k := by
  refine ⟨_, LS.pure rfl rfl fun st' E a w ρ hf hr => h st'.vs st'.ez ρ a w fun x hx => ?_, ⟨rds_fits st.fr st.ch xs, by simp [aP]⟩, hk⟩
  rw [← fits_ev hf (fr := st.fr) (x := x) (rds_mem hx)]
  exact hr.ev x
theorem ActN.r {X : Ctx} {o : Oper} {st : St} {xs : List Operand} {c : Nat} {ck : Chunk} {r : AV} {k : Actn → Prop} (hc : getO st.ch c = some ck)
    (h : ∀ vs ez ρ (a : Act) w ys, (∀ x, x ∈ xs → rel vs ez ρ (evA st.fr x) (a.eval x)) → vs c = some ck.ver → ez c = ck.esz → relL vs ez ρ ck.cells ys → ck.mem w (ρ c) ys →
      ∃ v, (execOp a.eval o).run X.P w = .ok (.value v) w ∧ rel vs ez ρ r v) (hk : k (aR o st.fr xs c ck r)) : ActN X o st k := by
  refine ⟨_, LS.pure rfl rfl fun st' E a w ρ hf hr => ?_, ⟨rds_fits st.fr st.ch xs, by simp [aR, hc]⟩, hk⟩
  have hc' : getO st'.ch c = some ck := hf.c c (some ck) (by simp [aR])
  obtain ⟨ys, h1, h2⟩ := hr.heap.ok c ck hc'
  refine h st'.vs st'.ez ρ a w ys (fun x hx => ?_) (by simp [St.vs, hc']) (by simp [St.ez, hc']) h1 h2
  rw [← fits_ev hf (fr := st.fr) (x := x) (rds_mem hx)]
  exact hr.ev x

section
variable {X : Ctx} {o : Oper} {st : St} {k : Actn → Prop}

theorem x_move {x : Operand} (ho : o.op = .move x ∨ o.op = .assign x) (h : k (aP o st.fr [x] (evA st.fr x))) : ActN X o st k := by
  refine ActN.p (fun vs ez ρ a w hx => ⟨a.eval x, ?_, hx x (by simp)⟩) h
  rcases ho with ho | ho <;> simp [execOp, ho]

theorem x_pick {c x y : Operand} {b p q : Bool} (ho : o.op = .pick c x y) (hc : evA st.fr c = .v (.bool b)) (hx : evA st.fr x = .v (.bool p)) (hy : evA st.fr y = .v (.bool q))
    (h : k (aP o st.fr [c, x, y] (.v (.bool (cond b p q))))) : ActN X o st k := by
  refine ActN.p (fun vs ez ρ a w hr => ?_) h
  have h1 := hr c (by simp); have h2 := hr x (by simp); have h3 := hr y (by simp)
  rw [hc] at h1; rw [hx] at h2; rw [hy] at h3
  simp only [rel] at h1 h2 h3
  refine ⟨.bool (cond b p q), ?_, by simp [rel]⟩
  cases b <;> simp [execOp, ho, h1, asBool, h2, h3]
theorem x_pick_t {c x y : Operand} (ho : o.op = .pick c x y) (hc : evA st.fr c = .v (.bool true)) (h : k (aP o st.fr [c, x] (evA st.fr x))) : ActN X o st k := by
  refine ActN.p (fun vs ez ρ a w hr => ?_) h
  have h1 := hr c (by simp); have h2 := hr x (by simp)
  rw [hc] at h1
  simp only [rel] at h1
  exact ⟨a.eval x, by simp [execOp, ho, h1, asBool], h2⟩
theorem x_pick_f {c x y : Operand} (ho : o.op = .pick c x y) (hc : evA st.fr c = .v (.bool false)) (h : k (aP o st.fr [c, y] (evA st.fr y))) : ActN X o st k := by
  refine ActN.p (fun vs ez ρ a w hr => ?_) h
  have h1 := hr c (by simp); have h2 := hr y (by simp)
  rw [hc] at h1
  simp only [rel] at h1
  exact ⟨a.eval y, by simp [execOp, ho, h1, asBool], h2⟩

theorem x_bin {op : BinOp} {t ty : TypeId} {x y : Operand} {u v r : Value} (ho : o.op = .binOp op t x y ty) (hx : evA st.fr x = .v u) (hy : evA st.fr y = .v v)
    (hr : ∀ w, (do eqGuard op t x y u v; binOp op t u v : Sem Value).run X.P w = .ok r w) (h : k (aP o st.fr [x, y] (.v r))) : ActN X o st k := by
  refine ActN.p (fun vs ez ρ a w hh => ?_) h
  have h1 := hh x (by simp); have h2 := hh y (by simp)
  rw [hx] at h1; rw [hy] at h2
  simp only [rel] at h1 h2
  refine ⟨r, ?_, by simp [rel]⟩
  have := hr w
  simp only [Sem.run_bind] at this
  simp only [execOp, ho, h1, h2, Sem.run_bind, this, Result.andThen_ok, Sem.run_pure]

def xint {R : Type} (M : NA R) (op : BinOp) (kd : IntKind) (a b : Int) (f : Value → R) : R :=
  match op with
  | .add => M.int (kd.wrap (a + b)) fun n => f (.int kd n)
  | .sub => M.int (kd.wrap (a - b)) fun n => f (.int kd n)
  | .mul => M.int (kd.wrap (a * b)) fun n => f (.int kd n)
  | .quo => M.need (b ≠ 0) (M.int (kd.wrap (a.tdiv b)) fun n => f (.int kd n))
  | .rem => M.need (b ≠ 0) (M.int (a.tmod b) fun n => f (.int kd n))
  | .and => M.int (kd.wrap (BitVec.ofInt kd.bits a &&& BitVec.ofInt kd.bits b).toNat) fun n => f (.int kd n)
  | .or => M.int (kd.wrap (BitVec.ofInt kd.bits a ||| BitVec.ofInt kd.bits b).toNat) fun n => f (.int kd n)
  | .xor => M.int (kd.wrap (BitVec.ofInt kd.bits a ^^^ BitVec.ofInt kd.bits b).toNat) fun n => f (.int kd n)
  | .andNot => M.int (kd.wrap (BitVec.ofInt kd.bits a &&& ~~~ BitVec.ofInt kd.bits b).toNat) fun n => f (.int kd n)
  | .eql => f (.bool (a == b))
  | .neq => f (.bool (a != b))
  | .lss => f (.bool (decide (a < b)))
  | .leq => f (.bool (decide (a ≤ b)))
  | .gtr => f (.bool (decide (a > b)))
  | .geq => f (.bool (decide (a ≥ b)))
  | _ => M.no
theorem xint_run {R : Type} {M : NA R} {H : R → Prop} {X : Ctx} (hM : M.Ok H X) {P : Program} {op : BinOp} {t : TypeId} {x y : Operand} {kd : IntKind} {a b : Int} {f : Value → R} (h : H (xint M op kd a b f)) :
    ∃ r, H (f r) ∧ ∀ w, (do eqGuard op t x y (.int kd a) (.int kd b); binOp op t (.int kd a) (.int kd b) : Sem Value).run P w = .ok r w := by
  unfold xint at h
  split at h
  · exact ⟨_, hM.int h, fun w => by simp [eqGuard, binOp, Op.intArith]⟩
  · exact ⟨_, hM.int h, fun w => by simp [eqGuard, binOp, Op.intArith]⟩
  · exact ⟨_, hM.int h, fun w => by simp [eqGuard, binOp, Op.intArith]⟩
  · exact ⟨_, hM.int (hM.need h).2, fun w => by simp [eqGuard, binOp, Op.intDiv, (hM.need h).1]⟩
  · exact ⟨_, hM.int (hM.need h).2, fun w => by simp [eqGuard, binOp, Op.intDiv, (hM.need h).1]⟩
  · exact ⟨_, hM.int h, fun w => by simp [eqGuard, binOp, Op.intBits]⟩
  · exact ⟨_, hM.int h, fun w => by simp [eqGuard, binOp, Op.intBits]⟩
  · exact ⟨_, hM.int h, fun w => by simp [eqGuard, binOp, Op.intBits]⟩
  · exact ⟨_, hM.int h, fun w => by simp [eqGuard, binOp, Op.intBits]⟩
  · exact ⟨_, h, fun w => by simp [eqGuard, binOp, Op.intCmp]⟩
  · exact ⟨_, h, fun w => by simp [eqGuard, binOp, Op.intCmp]⟩
  · exact ⟨_, h, fun w => by simp [eqGuard, binOp, Op.intCmp]⟩
  · exact ⟨_, h, fun w => by simp [eqGuard, binOp, Op.intCmp]⟩
  · exact ⟨_, h, fun w => by simp [eqGuard, binOp, Op.intCmp]⟩
  · exact ⟨_, h, fun w => by simp [eqGuard, binOp, Op.intCmp]⟩
  · exact (hM.no h).elim

structure Sh (op : BinOp) (kd : IntKind) (a b : Int) (f : Value → Prop) : Prop where
  out : 0 ≤ b ∧ ((op = .shl ∧ f (.int kd (kd.wrap (a * 2 ^ (min b.toNat kd.bits))))) ∨ (op = .shr ∧ f (.int kd (a.fdiv (2 ^ (min b.toNat kd.bits))))))
theorem sh_run {R : Type} {M : NA R} {H : R → Prop} {X : Ctx} (hM : M.Ok H X) {P : Program} {op : BinOp} {t : TypeId} {x y : Operand} {kd kd' : IntKind} {a b : Int} {f : Value → R} (h : H (M.sh op kd a b f)) :
    ∃ r, H (f r) ∧ ∀ w, (do eqGuard op t x y (.int kd a) (.int kd' b); binOp op t (.int kd a) (.int kd' b) : Sem Value).run P w = .ok r w := by
  obtain ⟨h0, ⟨rfl, h'⟩ | ⟨rfl, h'⟩⟩ := hM.sh h
  · exact ⟨_, h', fun w => by simp [eqGuard, binOp, Op.shift, show ¬ b < 0 by omega]⟩
  · exact ⟨_, h', fun w => by simp [eqGuard, binOp, Op.shift, show ¬ b < 0 by omega]⟩

def xstr {R : Type} (M : NA R) (op : BinOp) (a b : ByteArray) (f : Value → R) : R :=
  match op with
  | .add => M.need (((a.size + b.size : Nat) : Int) ≤ 9223372036854775807) (M.cat a b fun s => f (.string s))
  | .eql => M.seq a b fun t => f (.bool t)
  | .neq => M.seq a b fun t => f (.bool (!t))
  | .lss => f (.bool (Op.bytesLess a.data.toList b.data.toList))
  | .leq => M.seq a b fun t => f (.bool (Op.bytesLess a.data.toList b.data.toList || t))
  | .gtr => M.seq a b fun t => f (.bool (!(Op.bytesLess a.data.toList b.data.toList || t)))
  | .geq => f (.bool (!(Op.bytesLess a.data.toList b.data.toList)))
  | _ => M.no
theorem beq_bytes (a b : ByteArray) : (a.toList == b.toList) = decide (a = b) := by
  rw [ByteArray.toList_eq, ByteArray.toList_eq]
  by_cases h : a = b
  · subst h; simp
  · have : a.data.toList ≠ b.data.toList := fun e => h (ByteArray.ext (Array.ext' e))
    rw [decide_eq_false h]
    exact beq_false_of_ne this
theorem xstr_run {R : Type} {M : NA R} {H : R → Prop} {X : Ctx} (hM : M.Ok H X) {P : Program} {op : BinOp} {t : TypeId} {x y : Operand} {a b : ByteArray} {f : Value → R} (h : H (xstr M op a b f)) :
    ∃ r, H (f r) ∧ ∀ w, (do eqGuard op t x y (.string a) (.string b); binOp op t (.string a) (.string b) : Sem Value).run P w = .ok r w := by
  unfold xstr at h
  split at h
  · refine ⟨_, hM.cat (hM.need h).2, fun w => ?_⟩
    have := (hM.need h).1
    have e : ¬ (((a.size + b.size : Nat) : Int) > IntKind.i64.max) := by simp only [IntKind.max, IntKind.signed, IntKind.bits]; simp; omega
    simp only [eqGuard, binOp, Op.stringOp, e, if_false]
    simp
  · exact ⟨_, hM.seq h, fun w => by simp [eqGuard, binOp, Op.stringOp, beq_bytes]⟩
  · exact ⟨_, hM.seq h, fun w => by simp [eqGuard, binOp, Op.stringOp, beq_bytes]⟩
  · exact ⟨_, h, fun w => by simp [eqGuard, binOp, Op.stringOp, ByteArray.toList_eq]⟩
  · exact ⟨_, hM.seq h, fun w => by simp [eqGuard, binOp, Op.stringOp, beq_bytes]; simp [ByteArray.toList_eq]⟩
  · exact ⟨_, hM.seq h, fun w => by simp [eqGuard, binOp, Op.stringOp, beq_bytes]; simp [ByteArray.toList_eq]⟩
  · exact ⟨_, h, fun w => by simp [eqGuard, binOp, Op.stringOp, ByteArray.toList_eq]⟩
  · exact (hM.no h).elim
end

def propNA (X : Ctx) : NA Prop where
  no := False
  br := Br
  int := Nm
  nat e f := f e
  cat a b := Nm (a ++ b)
  ext a l h := Nm (a.extract l h)
  seq a b f := f (decide (a = b))
  byt ns := Nm (strOfNums ns)
  need p _ r := Need p r
  ld := Ld
  sh := Sh
  act := ActN X
  ix d _ k := k d
theorem propNA_ok (X : Ctx) : (propNA X).Ok (fun p => p) X where
  no h := h
  br h := h.self
  int h := h.self
  nat h := h
  cat h := h.self
  ext h := h.self
  seq h := h
  byt h := h.self
  need h := ⟨h.need, h.next⟩
  ld h := h.out
  sh h := h.out
  act h := h
  ix h := ⟨_, h⟩
end Go.SX
namespace Go.SX

section
variable {X : Ctx} {o : Oper} {st : St} {k : Actn → Prop}

theorem x_nil_ref {x : Operand} {c kv off : Nat} (ho : o.op = .nilCheck x) (hx : evA st.fr x = .ref c kv off) (h : k (aP o st.fr [x] (.ref c kv off))) : ActN X o st k := by
  refine ActN.p (fun vs ez ρ a w hr => ?_) h
  have h1 := hr x (by simp)
  rw [hx] at h1
  have h2 := h1
  simp only [rel] at h2
  obtain ⟨_, _, _, _, p, hp⟩ := h2
  exact ⟨a.eval x, by simp [execOp, ho, hp], h1⟩
theorem x_nil_ptr {x : Operand} {p : Addr} (ho : o.op = .nilCheck x) (hx : evA st.fr x = .v (.pointer (some p))) (h : k (aP o st.fr [x] (.v (.pointer (some p))))) : ActN X o st k := by
  refine ActN.p (fun vs ez ρ a w hr => ?_) h
  have h1 := hr x (by simp)
  rw [hx] at h1
  simp only [rel] at h1
  exact ⟨.pointer (some p), by simp [execOp, ho, h1], by simp [rel]⟩
theorem x_nil_fn {x : Operand} {f : Nat} {l : List AV} (ho : o.op = .nilCheck x) (hx : evA st.fr x = .fn (.func f) l) (h : k (aP o st.fr [x] (.fn (.func f) l))) : ActN X o st k := by
  refine ActN.p (fun vs ez ρ a w hr => ?_) h
  have h1 := hr x (by simp)
  rw [hx] at h1
  have h2 := h1
  simp only [rel] at h2
  obtain ⟨xs, hp, _⟩ := h2
  exact ⟨a.eval x, by simp [execOp, ho, hp], h1⟩

def fieldOf (T : List (Option Ty)) (s : TypeId) (f : Nat) : Option (Nat × Ty) :=
  match getO T s with
  | some ys => match ys.d with
    | .st fs => match fs[f]? with
      | some (off, ft) => match getO T ft with
        | some yf => some (off, yf)
        | none => none
      | none => none
    | _ => none
  | none => none
theorem fieldOf_spec (hT : X.ok) {s f off : Nat} {yf : Ty} (h : fieldOf X.T s f = some (off, yf)) :
    ∃ fields fld, X.P.underlying s = some (.struct fields) ∧ fields[f]? = some fld ∧ fld.offset = off ∧ TyOk X.P fld.type yf := by
  unfold fieldOf at h
  cases hs : getO X.T s with
  | none => simp [hs] at h
  | some ys =>
    simp only [hs] at h
    cases hd : ys.d <;> simp only [hd] at h <;> try (cases h; done)
    rename_i fs
    cases hf : fs[f]? with
    | none => simp [hf] at h
    | some p =>
      obtain ⟨off', ft⟩ := p
      simp only [hf] at h
      cases hy : getO X.T ft with
      | none => simp [hy] at h
      | some y =>
        simp only [hy, Option.some.injEq, Prod.mk.injEq] at h
        obtain ⟨rfl, rfl⟩ := h
        obtain ⟨⟨d, h1, h2⟩, _⟩ := hT s ys hs
        rw [hd] at h2
        cases d <;> simp only [TD.is] at h2
        rename_i fields
        subst h2
        simp only [List.getElem?_map, Option.map_eq_some_iff, Prod.mk.injEq] at hf
        obtain ⟨fld, g1, g2, g3⟩ := hf
        refine ⟨fields, fld, h1, by simpa using g1, g2, ?_⟩
        rw [g3]
        exact hT ft y hy
theorem run_fieldAt (hT : X.ok) {s f off : Nat} {yf : Ty} (h : fieldOf X.T s f = some (off, yf)) (hz : yf.size ≠ 0) (p : Addr) (w : World) :
    (Instr.fieldAt s (.pointer (some p)) f).run X.P w = .ok (.pointer (some (p.add off))) w := by
  obtain ⟨fields, fld, h1, h2, h3, h4⟩ := fieldOf_spec hT h
  simp [Instr.fieldAt, run_underlying h1, h2, Instr.sureAddr, fieldPlace, h4.run_size, hz, h3]

theorem x_fa_ref (hT : X.ok) {x : Operand} {s f off c kv o1 : Nat} {yf : Ty} (ho : o.op = .fieldAddr s x f) (hx : evA st.fr x = .ref c kv o1) (hf : fieldOf X.T s f = some (off, yf)) (hz : yf.size ≠ 0)
    (h : k (aP o st.fr [x] (.ref c kv (o1 + off)))) : ActN X o st k := by
  refine ActN.p (fun vs ez ρ a w hr => ?_) h
  have h1 := hr x (by simp)
  rw [hx] at h1
  simp only [rel] at h1
  obtain ⟨cur, g1, g2, g3, p, hp⟩ := h1
  refine ⟨.pointer (some (p.add off)), by simp [execOp, ho, hp, run_fieldAt hT hf hz], ?_⟩
  simp only [rel]
  refine ⟨cur, g1, g2, fun e => ?_, _, rfl⟩
  have := g3 e
  rw [hp] at this
  cases this
  rw [add_none, Nat.add_assoc]
theorem x_fa_ptr (hT : X.ok) {x : Operand} {s f off b o1 : Nat} {yf : Ty} (ho : o.op = .fieldAddr s x f) (hx : evA st.fr x = .v (.pointer (some ⟨b, o1, none⟩))) (hf : fieldOf X.T s f = some (off, yf)) (hz : yf.size ≠ 0)
    (h : k (aP o st.fr [x] (.v (.pointer (some ⟨b, o1 + off, none⟩))))) : ActN X o st k := by
  refine ActN.p (fun vs ez ρ a w hr => ?_) h
  have h1 := hr x (by simp)
  rw [hx] at h1
  simp only [rel] at h1
  exact ⟨.pointer (some ⟨b, o1 + off, none⟩), by simp [execOp, ho, h1, run_fieldAt hT hf hz, add_none], by simp [rel]⟩

theorem run_part {P : Program} {t : TypeId} {y : Ty} (h : TyOk P t y) (xs : List Value) (off : Nat) (w : World) (l : List Value) (hl : l = (xs.drop off).take y.size) (hlen : l.length = y.size) (hz : aggd y = false → y.size = 1) :
    (part t xs.toArray off).run P w = .ok (if aggd y = true then .agg l.toArray else l.getD 0 undef) w := by
  unfold part
  simp only [Sem.run_bind, h.run_agg, Result.andThen_ok]
  cases hy : aggd y with
  | true =>
    simp only [if_true, Sem.run_bind, h.run_size, Result.andThen_ok, Sem.run_pure]
    simp [hl]
  | false =>
    have hz' := hz hy
    rw [hz'] at hl hlen
    match l, hlen with
    | [x], _ =>
      have h1 : (xs.drop off)[0]? = some x := by
        have := congrArg (·[0]?) hl
        simpa using this.symm
      simp only [List.getElem?_drop, Nat.add_zero] at h1
      simp [h1]
theorem relL_sub {vs ez ρ} {l r : List AV} {xs : List Value} {o n : Nat} (h : relL vs ez ρ l xs) (hs : subL l o n = some r) : relL vs ez ρ r ((xs.drop o).take n) ∧ ((xs.drop o).take n).length = n := by
  obtain ⟨h1, h2⟩ := subL_spec l o n r hs
  subst h1
  have h3 := relL_take _ _ n (relL_drop _ _ o h)
  have h4 := relL_len _ _ h
  exact ⟨h3, by simp; omega⟩
def mkA (y : Ty) (l : List AV) : AV := match aggd y with | true => .agg l | false => getF l 0
theorem rel_mkA {vs ez ρ} {y : Ty} {l : List AV} {xs : List Value} (h : relL vs ez ρ l xs) : rel vs ez ρ (mkA y l) (if aggd y = true then .agg xs.toArray else xs.getD 0 undef) := by
  unfold mkA
  cases aggd y with
  | true => simp only [rel, if_true]; exact ⟨_, rfl, by simpa using h⟩
  | false => simpa using relL_get l xs 0 h

theorem x_field (hT : X.ok) {x : Operand} {s f off : Nat} {yf : Ty} {l r : List AV} (ho : o.op = .field s x f) (hx : evA st.fr x = .agg l) (hf : fieldOf X.T s f = some (off, yf)) (hz : aggd yf = false → yf.size = 1)
    (hs : subL l off yf.size = some r) (h : k (aP o st.fr [x] (mkA yf r))) : ActN X o st k := by
  obtain ⟨fields, fld, h1, h2, h3, h4⟩ := fieldOf_spec hT hf
  refine ActN.p (fun vs ez ρ a w hr => ?_) h
  have g1 := hr x (by simp)
  rw [hx] at g1
  simp only [rel] at g1
  obtain ⟨xs, g1, g2⟩ := g1
  obtain ⟨g3, g4⟩ := relL_sub g2 hs
  have hp := run_part h4 xs.toList off w _ rfl g4 hz
  refine ⟨_, ?_, rel_mkA g3⟩
  simp only [execOp, ho, g1, Instr.field, Sem.run_bind, run_underlying h1, Result.andThen_ok, h2, asAgg, Sem.run_pure, h3]
  rw [show xs = xs.toList.toArray by simp, hp]
  rfl
theorem x_field_v (hT : X.ok) {x : Operand} {s f off : Nat} {yf : Ty} {l : Array Value} {r : List AV} (ho : o.op = .field s x f) (hx : evA st.fr x = .v (.agg l)) (hf : fieldOf X.T s f = some (off, yf)) (hz : aggd yf = false → yf.size = 1)
    (hs : subL (l.toList.map .v) off yf.size = some r) (h : k (aP o st.fr [x] (mkA yf r))) : ActN X o st k := by
  obtain ⟨fields, fld, h1, h2, h3, h4⟩ := fieldOf_spec hT hf
  refine ActN.p (fun vs ez ρ a w hr => ?_) h
  have g1 := hr x (by simp)
  rw [hx] at g1
  simp only [rel] at g1
  obtain ⟨g3, g4⟩ := relL_sub (relL_vals l.toList) hs
  have hp := run_part h4 l.toList off w _ rfl g4 hz
  refine ⟨_, ?_, rel_mkA g3⟩
  simp only [execOp, ho, g1, Instr.field, Sem.run_bind, run_underlying h1, Result.andThen_ok, h2, asAgg, Sem.run_pure, h3]
  rw [show l = l.toList.toArray by simp, hp]
  rfl

theorem mem_cells {w : World} {L : Loc} {ck : Chunk} {ys : List Value} (h : ck.mem w L ys) (hk : ck.kind matches .own | .buf | .row | .ro) (i : Nat) (u : Value) (hu : ys[i]? = some u) : w.cell? ⟨L.blk, L.off + i, none⟩ = some u := by
  unfold Chunk.mem at h
  cases hkk : ck.kind <;> simp only [hkk] at h hk
  · rw [h.1, Nat.zero_add]; exact h.2.2.1.cell i u hu
  · rw [h.1, Nat.zero_add]; exact h.2.2.1.cell i u hu
  · obtain ⟨h0, h1, n, h2⟩ := h
    rcases h1 with h1 | h1
    · rw [h1] at h2
      obtain ⟨h3, h4 | ⟨g, cap, cur, h4, _⟩⟩ := h2
      · have : ys = [] := List.eq_nil_of_length_eq_zero (by simpa [h4.2] using h3)
        subst this; simp at hu
      · cases h4
    · rw [h1] at h2
      have := h2.cells (g := L.blk) rfl i u hu
      rw [add_none] at this
      rw [h0]; exact this
  · by_cases hc : L.cap = 0
    · rw [h.2 hc] at hu; simp at hu
    · exact (h.1 hc).2 i u hu
  all_goals cases hk

theorem x_load (hT : X.ok) {t : TypeId} {x : Operand} {c kv off : Nat} {ck : Chunk} {y : Ty} {l : List AV} (ho : o.op = .load t x) (hx : evA st.fr x = .ref c kv off) (hc : getO st.ch c = some ck)
    (hv : kv = ck.ver) (hk : ck.kind matches .own | .buf | .row | .ro) (hy : getO X.T t = some y) (hz : aggd y = false → y.size = 1) (hl : subL ck.cells off y.size = some l)
    (h : k (aR o st.fr [x] c ck (mkA y l))) : ActN X o st k := by
  refine ActN.r hc (fun vs ez ρ a w ys hr hvs hez hcs hm => ?_) h
  have g1 := hr x (by simp)
  rw [hx] at g1
  simp only [rel] at g1
  obtain ⟨cur, g1, g2, g3, _⟩ := g1
  rw [hvs] at g1
  cases g1
  have hp := g3 hv
  obtain ⟨g4, g5⟩ := relL_sub hcs hl
  refine ⟨_, ?_, rel_mkA g4⟩
  have hload := (hT t y hy).run_load (w := w) ⟨(ρ c).blk, (ρ c).off + off, none⟩ _ g5 hz (fun i u hu => by
    rw [add_none, Nat.add_assoc]
    rw [List.getElem?_take] at hu
    split at hu
    · rw [List.getElem?_drop] at hu
      exact mem_cells hm hk _ u hu
    · cases hu)
  simp [execOp, ho, hp, Instr.loadAt, Instr.sureAddr, hload]

theorem x_load_ext {t : TypeId} {x : Operand} {p : Addr} {u : Value} (ho : o.op = .load t x) (hx : evA st.fr x = .v (.pointer (some p)))
    (hl : ∀ w, X.I w → (loadVar t p).run X.P w = .ok u w) (h : k (aP o st.fr [x] (.v u))) : ActN X o st k := by
  refine ⟨_, LS.pure rfl rfl fun st' E a w ρ hf hr => ?_, ⟨rds_fits st.fr st.ch [x], by simp [aP]⟩, h⟩
  have h1 := hr.ev x
  rw [fits_ev hf (fr := st.fr) (x := x) (rds_mem (by simp)), hx] at h1
  simp only [rel] at h1
  exact ⟨u, by simp [execOp, ho, h1, Instr.loadAt, Instr.sureAddr, hl w (E.inv w hr.heap.mod)], by simp [aP, rel]⟩

end
end Go.SX
set_option linter.unusedSimpArgs false
set_option linter.unusedVariables false
namespace Go.SX

theorem ownsRow_heap {w : World} {e : TypeId} {size b : Nat} {n cap : Nat} {xs : List Value} (h : w.ownsRow 0 e size (.slice (some ⟨b, 0, none⟩) n cap) n xs) :
    ∃ rest, w.heap[b]? = some (.cells (xs ++ rest).toArray e (0, 0)) ∧ n ≤ cap ∧ cap ≤ maxLen ∧ (xs ++ rest).length = cap * size := by
  obtain ⟨h1, ⟨h2, _⟩ | ⟨g, cap', cur, h2, _, h3, h4, h5, h6, h7⟩⟩ := h
  · cases h2
  · cases h2
    refine ⟨cur.toList.drop (n * size), ?_, h4, h5, ?_⟩
    · rw [← h7, List.take_append_drop]; simpa using h3
    · rw [← h7, List.take_append_drop]; simpa using h6
theorem ownsRow_of_heap {w : World} {e : TypeId} {size b : Nat} {n cap : Nat} {xs rest : List Value} (hx : xs.length = n * size) (h : w.heap[b]? = some (.cells (xs ++ rest).toArray e (0, 0)))
    (h1 : n ≤ cap) (h2 : cap ≤ maxLen) (h3 : (xs ++ rest).length = cap * size) : w.ownsRow 0 e size (.slice (some ⟨b, 0, none⟩) n cap) n xs :=
  ⟨hx, .inr ⟨b, cap, _, rfl, Nat.zero_le _, h, h1, h2, by simpa using h3, by simp [← hx]⟩⟩

theorem mem_writable {ck : Chunk} {L : Loc} (hk : ck.celled = true) : Writable L.blk (fun w xs => ck.mem w L xs) := by
  refine ⟨fun w xs i u h hu => ?_, fun w xs i h hi => ?_, fun w xs i u h hi => ?_⟩
  · have h0 : L.off = 0 := by
      unfold Chunk.mem at h
      unfold Chunk.celled CK.celled at hk
      cases hkk : ck.kind <;> simp only [hkk] at h hk <;> first | exact h.1 | cases hk
    have := mem_cells h (by unfold Chunk.celled CK.celled at hk; cases hkk : ck.kind <;> simp only [hkk] at hk ⊢ <;> cases hk) i u hu
    rwa [h0, Nat.zero_add] at this
  · unfold Chunk.mem at h
    unfold Chunk.celled CK.celled at hk
    cases hkk : ck.kind <;> simp only [hkk] at h hk <;> try (cases hk; done)
    · exact h.2.2.1.free i hi
    · exact h.2.2.1.free i hi
    · obtain ⟨h0, h1, n, h2⟩ := h
      rcases h1 with h1 | h1
      · rw [h1] at h2
        obtain ⟨h3, h4 | ⟨g, cap, cur, h4, _⟩⟩ := h2
        · rw [h3, h4.2] at hi; simp at hi
        · cases h4
      · rw [h1] at h2
        obtain ⟨rest, h3, _⟩ := ownsRow_heap h2
        simp [World.frozen?, h3]
  · unfold Chunk.mem at h ⊢
    unfold Chunk.celled CK.celled at hk
    cases hkk : ck.kind <;> simp only [hkk] at h hk ⊢ <;> try (cases hk; done)
    · exact ⟨h.1, h.2.1, h.2.2.1.set i u hi, by simpa using h.2.2.2⟩
    · exact ⟨h.1, h.2.1, h.2.2.1.set i u hi, by simpa using h.2.2.2⟩
    · obtain ⟨h0, h1, n, h2⟩ := h
      rcases h1 with h1 | h1
      · rw [h1] at h2
        obtain ⟨h3, h4 | ⟨g, cap, cur, h4, _⟩⟩ := h2
        · rw [h3, h4.2] at hi; simp at hi
        · cases h4
      · refine ⟨h0, .inr h1, n, ?_⟩
        rw [h1] at h2 ⊢
        obtain ⟨rest, h3, h4, h5, h6⟩ := ownsRow_heap h2
        refine ownsRow_of_heap (rest := rest) (by simpa using h2.1) ?_ h4 h5 (by simpa using h6)
        simp only [World.setCell, Array.getElem?_modify, if_true, h3, Option.map_some]
        simp [List.set_append_left, hi]

theorem mem_off {w : World} {ck : Chunk} {L : Loc} {xs : List Value} (hk : ck.celled = true) (h : ck.mem w L xs) : L.off = 0 := by
  unfold Chunk.mem at h
  unfold Chunk.celled CK.celled at hk
  cases hkk : ck.kind <;> simp only [hkk] at h hk <;> first | exact h.1 | cases hk
theorem mem_blk {w : World} {ck : Chunk} {L : Loc} {xs : List Value} (hk : ck.celled = true) (h : ck.mem w L xs) (hx : 0 < xs.length) : ck.blk L = some L.blk := by
  unfold Chunk.mem at h
  unfold Chunk.celled CK.celled at hk
  unfold Chunk.blk
  cases hkk : ck.kind <;> simp only [hkk] at h hk ⊢ <;> try (cases hk; done)
  obtain ⟨h0, h1, n, h2⟩ := h
  rcases h1 with h1 | h1
  · rw [h1] at h2
    obtain ⟨h3, h4 | ⟨g, cap, cur, h4, _⟩⟩ := h2
    · rw [h3, h4.2] at hx; simp at hx
    · cases h4
  · simp [h1]

theorem Up.of_eq {st st' : St} {ρ : Nat → Loc} (h : ∀ c, (getO st'.ch c).map (fun k => (k.ver, k.esz)) = (getO st.ch c).map (fun k => (k.ver, k.esz))) : Up st.vs st'.vs st.ez st'.ez ρ ρ := by
  intro c cur hc
  have := h c
  unfold St.vs at hc ⊢
  unfold St.ez
  cases h1 : getO st.ch c with
  | none => simp [h1] at hc
  | some k =>
    rw [h1] at this
    cases h2 : getO st'.ch c with
    | none => simp [h2] at this
    | some k' =>
      simp [h2] at this
      simp [h1] at hc
      exact ⟨cur, by simp [this.1, hc], Nat.le_refl _, fun _ => ⟨rfl, by simp [this.2]⟩⟩

section
variable {X : Ctx} {o : Oper} {st : St} {k : Actn → Prop}

def aW (o : Oper) (fr : List AV) (xs : List Operand) (c : Nat) (ck ck' : Chunk) (r : AV) : Actn := ⟨rds fr xs, [(c, some ck)], o.dst, r, [(c, ck')]⟩

theorem x_store (hT : X.ok) {t : TypeId} {x z : Operand} {c kv off : Nat} {ck : Chunk} {y : Ty} {l : List AV} (ho : o.op = .store t x z) (hd : o.dst = none) (hx : evA st.fr x = .ref c kv off) (hc : getO st.ch c = some ck)
    (hv : kv = ck.ver) (hk : ck.celled = true) (hy : getO X.T t = some y) (hne : (celA (evA st.fr z)).length = y.size) (h1 : (celA (evA st.fr z)).all one = true) (h0 : y.size ≠ 0) (hl : putL ck.cells off (celA (evA st.fr z)) = some l)
    (h : k (aW o st.fr [x, z] c ck { ck with cells := l } .dead)) : ActN X o st k := by
  have hnd : evA st.fr z ≠ .dead := by
    intro e
    rw [e] at h1
    simp [celA, one] at h1
  refine ⟨_, LS.mem rfl fun st' E a w ρ hf hr => ?_, ⟨rds_fits st.fr st.ch [x, z], by simp [aW, hc]⟩, h⟩
  have hc' : getO st'.ch c = some ck := hf.c c (some ck) (by simp [aW])
  have g1 := hr.ev x
  have gz := hr.ev z
  rw [fits_ev hf (fr := st.fr) (x := x) (rds_mem (by simp)), hx] at g1
  rw [fits_ev hf (fr := st.fr) (x := z) (rds_mem (by simp))] at gz
  simp only [rel] at g1
  obtain ⟨cur, g1, g2, g3, _⟩ := g1
  have hcur : cur = ck.ver := by simp [St.vs, hc'] at g1; exact g1.symm
  subst hcur
  have hp := g3 hv
  have gc := rel_cel _ _ gz hnd
  have glen := relL_len _ _ gc
  obtain ⟨ys, gy1, gy2⟩ := hr.heap.ok c ck hc'
  have gylen := relL_len _ _ gy1
  obtain ⟨hl1, hl2⟩ := putL_spec _ _ _ _ hl
  have hoff := mem_off hk gy2
  have hone : ∀ u ∈ (a.eval z).cells.toList, u.oneCell' = true := by
    have : ∀ (l : List AV) (xs : List Value), relL st'.vs st'.ez ρ l xs → l.all one = true → ∀ u ∈ xs, u.oneCell' = true := by
      intro l
      induction l with
      | nil => intro xs h _ u hu; cases xs <;> simp_all [relL]
      | cons b l ih =>
        intro xs h h1 u hu
        cases xs with
        | nil => simp at hu
        | cons v xs =>
          simp only [relL] at h
          simp only [List.all_cons, Bool.and_eq_true] at h1
          rcases List.mem_cons.1 hu with rfl | hu
          · exact rel_one _ _ h.1 h1.1
          · exact ih xs h.2 h1.2 u hu
    exact this _ _ gc h1
  obtain ⟨w', r1, r2, r3⟩ := run_storeCells_w X.P (mem_writable (L := ρ c) hk) off (a.eval z).cells.toList 0 w ys gy2 (by omega) hone
  have hch : ((aW o st.fr [x, z] c ck { ck with cells := l } .dead).app st').ch = setO st'.ch c { ck with cells := l } := by simp [aW, Actn.app, setAll]
  have hup : Up st'.vs ((aW o st.fr [x, z] c ck { ck with cells := l } .dead).app st').vs st'.ez ((aW o st.fr [x, z] c ck { ck with cells := l } .dead).app st').ez ρ ρ := by
    refine Up.of_eq fun d => ?_
    rw [hch]
    by_cases e : d = c
    · subst e; rw [getO_set_same, hc']; rfl
    · rw [getO_set_ne _ _ _ _ e]
  refine ⟨undef, w', ρ, .inr ⟨?_, hd⟩, hup, ?_, by simp [aW, rel]⟩
  · have hs : (a.eval z).cells.size = y.size := by rw [← hne, glen]; simp
    simp [execOp, ho, hp, Instr.storeAt, Instr.sureAddr, storeVar, (hT t y hy).run_size, hs, hoff, r1]
  · have hblk := mem_blk hk gy2 (by omega)
    refine hr.heap.step (· = c) _ w' ρ (r3.mono ?_) ?_ hup ?_ ?_ ?_ ?_ ?_ ?_
    · rintro b rfl
      exact ⟨c, ck, rfl, hc', Chunk.celled_owned hk, hr.heap.blk c ck _ hc' hblk⟩
    · intro d hd
      rw [hch]
      exact ⟨getO_set_ne _ _ _ _ hd, rfl⟩
    · rintro d k' rfl hk'
      rw [hch, getO_set_same] at hk'
      cases hk'
      refine ⟨_, relL_up hup _ _ ?_, r2⟩
      show relL _ _ _ l _
      rw [hl1]
      have e : off + 0 = off := rfl
      rw [show off + 0 + (a.eval z).cells.toList.length = off + (celA (evA st.fr z)).length by omega, Nat.add_zero]
      exact relL_append _ _ _ _ (relL_append _ _ _ _ (relL_take _ _ _ gy1) gc) (relL_drop _ _ _ gy1)
    · rintro d k' b rfl hk' hb
      rw [hch, getO_set_same] at hk'
      exact Nat.lt_of_lt_of_le (hr.heap.lt d ck b hc' hb) r3.size
    · rintro d k' b rfl hk' ho' hb
      exact hr.heap.own d ck b hc' (Chunk.celled_owned hk) hb
    · rintro d k' b rfl hk' hb
      rw [hch, getO_set_same] at hk'
      cases hk'
      exact hr.heap.blk d ck b hc' (by simpa [Chunk.blk] using hb)
    · rintro d k' rfl hk'
      rw [hch, getO_set_same] at hk'
      cases hk'
      exact hr.heap.stay d ck hc'
    · rintro d e k' l' b rfl hk' hl' ho' hb hb'
      by_cases he : e = d
      · exact he.symm
      · rw [hch, getO_set_ne _ _ _ _ he] at hl'
        exact hr.heap.sep d e ck l' b hc' hl' (Chunk.celled_owned hk) hb hb'
end
end Go.SX
set_option linter.unusedSimpArgs false
set_option linter.unusedVariables false
namespace Go.SX

def upd (ρ : Nat → Loc) (d : Nat) (L : Loc) : Nat → Loc := fun c => if c = d then L else ρ c
theorem upd_same (ρ : Nat → Loc) (d : Nat) (L : Loc) : upd ρ d L d = L := by simp [upd]
theorem upd_ne (ρ : Nat → Loc) (d c : Nat) (L : Loc) (h : c ≠ d) : upd ρ d L c = ρ c := by simp [upd, h]

section
variable {X : Ctx} {o : Oper} {st : St} {k : Actn → Prop}

def aN (o : Oper) (fr : List AV) (xs : List Operand) (d : Nat) (ck : Chunk) (r : AV) : Actn := ⟨rds fr xs, [(d, none)], o.dst, r, [(d, ck)]⟩

theorem heap_new {w0 : World} {O : Nat → Prop} {st : St} {w w' : World} {ρ : Nat → Loc} (h : Heap w0 O st w ρ) {d : Nat} {ck : Chunk} {L : Loc} {ys : List Value} {fr : List AV} (hd : getO st.ch d = none)
    (hm : Mod w w' fun _ => False) (hdom : ∀ b, L.dom b → w.heap.size ≤ b ∧ b < w'.heap.size) (hblk : ∀ b, ck.blk L = some b → L.dom b) (hst : ck.stays L)
    (hc : relL st.vs st.ez ρ ck.cells ys) (hmem : ck.mem w' L ys) :
    Up st.vs (St.mk fr (setO st.ch d ck)).vs st.ez (St.mk fr (setO st.ch d ck)).ez ρ (upd ρ d L) ∧ Heap w0 O ⟨fr, setO st.ch d ck⟩ w' (upd ρ d L) := by
  have hup : Up st.vs (St.mk fr (setO st.ch d ck)).vs st.ez (St.mk fr (setO st.ch d ck)).ez ρ (upd ρ d L) := by
    intro c cur hcur
    have hne : c ≠ d := by
      rintro rfl
      simp [St.vs, hd] at hcur
    refine ⟨cur, ?_, Nat.le_refl _, fun _ => ⟨upd_ne _ _ _ _ hne, ?_⟩⟩
    · simp only [St.vs, getO_set_ne _ _ _ _ hne]; exact hcur
    · simp only [St.ez, getO_set_ne _ _ _ _ hne]
  refine ⟨hup, h.step (· = d) _ w' _ (hm.mono fun _ hf => hf.elim) ?_ hup ?_ ?_ ?_ ?_ ?_ ?_⟩
  · intro c hc
    exact ⟨getO_set_ne _ _ _ _ hc, upd_ne _ _ _ _ hc⟩
  · rintro c k rfl hk
    rw [getO_set_same] at hk
    cases hk
    rw [upd_same]
    exact ⟨ys, relL_up hup _ _ hc, hmem⟩
  · rintro c k b rfl hk hb
    rw [upd_same] at hb
    exact (hdom b hb).2
  · rintro c k b rfl hk _ hb
    rw [upd_same] at hb
    exact .inr (Nat.le_trans h.mod.size (hdom b hb).1)
  · rintro c k b rfl hk hb
    rw [getO_set_same] at hk
    cases hk
    rw [upd_same] at hb ⊢
    exact hblk b hb
  · rintro c k rfl hk
    rw [getO_set_same] at hk
    cases hk
    rw [upd_same]
    exact hst
  · rintro c e k l b rfl hk hl _ hb hb'
    rw [upd_same] at hb
    by_cases he : e = c
    · exact he.symm
    · rw [getO_set_ne _ _ _ _ he] at hl
      rw [upd_ne _ _ _ _ he] at hb'
      have := h.lt e l b hl hb'
      have := (hdom b hb).1
      omega

theorem ActN.new {xs : List Operand} {d : Nat} {ck : Chunk} {r : AV} (hd : getO st.ch d = none)
    (h : ∀ vs ez ρ (a : Act) w, (∀ x, x ∈ xs → rel vs ez ρ (evA st.fr x) (a.eval x)) →
      ∃ v w' L ys, (execOp a.eval o).run X.P w = .ok (.value v) w' ∧ (Mod w w' fun _ => False) ∧ (∀ b, L.dom b → w.heap.size ≤ b ∧ b < w'.heap.size) ∧ (∀ b, ck.blk L = some b → L.dom b) ∧ ck.stays L ∧
        relL vs ez ρ ck.cells ys ∧ ck.mem w' L ys ∧ ∀ vs' ez' ρ', vs' d = some ck.ver → ez' d = ck.esz → ρ' d = L → rel vs' ez' ρ' r v)
    (hk : k (aN o st.fr xs d ck r)) : ActN X o st k := by
  refine ⟨_, LS.mem rfl fun st' E a w ρ hf hr => ?_, ⟨rds_fits st.fr st.ch xs, by simp [aN, hd]⟩, hk⟩
  have hd' : getO st'.ch d = none := hf.c d none (by simp [aN])
  obtain ⟨v, w', L, ys, g1, g2, g3, g4, g5, g6, g7, g8⟩ := h st'.vs st'.ez ρ a w (fun x hx => by
    rw [← fits_ev hf (fr := st.fr) (x := x) (rds_mem hx)]
    exact hr.ev x)
  have hch : (aN o st.fr xs d ck r).app st' = ⟨((aN o st.fr xs d ck r).app st').fr, setO st'.ch d ck⟩ := by simp [aN, Actn.app, setAll]
  obtain ⟨q1, q2⟩ := heap_new hr.heap (fr := ((aN o st.fr xs d ck r).app st').fr) hd' g2 g3 g4 g5 g6 g7
  refine ⟨v, w', upd ρ d L, .inl g1, by rw [hch]; exact q1, by rw [hch]; exact q2, ?_⟩
  rw [hch]
  refine g8 _ _ _ ?_ ?_ (upd_same _ _ _)
  · simp [St.vs, getO_set_same]
  · simp [St.ez, getO_set_same]

def newLoc (b cap : Nat) : Loc := ⟨b, 0, some ⟨b, 0, none⟩, cap, (· = b)⟩
theorem stays_own {ty : TypeId} {esz ver : Nat} {cells : List AV} {b cap : Nat} : (Chunk.mk .own ty esz ver cells).stays (newLoc b cap) := by
  intro w1 w2 xs h hm
  simp only [Chunk.mem, newLoc] at hm ⊢
  exact ⟨hm.1, hm.2.1, hm.2.2.1.same (h b rfl), hm.2.2.2⟩
theorem stays_buf {ty : TypeId} {esz ver : Nat} {cells : List AV} {b cap : Nat} : (Chunk.mk .buf ty esz ver cells).stays (newLoc b cap) := by
  intro w1 w2 xs h hm
  simp only [Chunk.mem, newLoc] at hm ⊢
  exact ⟨hm.1, hm.2.1, hm.2.2.1.same (h b rfl), hm.2.2.2⟩
theorem stays_row {ty : TypeId} {esz ver : Nat} {cells : List AV} {b cap : Nat} : (Chunk.mk .row ty esz ver cells).stays (newLoc b cap) := by
  intro w1 w2 xs h hm
  simp only [Chunk.mem, newLoc] at hm ⊢
  obtain ⟨h1, h2, n, h3⟩ := hm
  refine ⟨h1, h2, n, ?_⟩
  obtain ⟨rest, g1, g2, g3, g4⟩ := ownsRow_heap h3
  exact ownsRow_of_heap h3.1 ((h b rfl).trans g1) g2 g3 g4

theorem new_own (w : World) (ty : TypeId) (vals : Array Value) (esz cap ver : Nat) (cells : List AV) (hl : vals.size = cap * esz) :
    let L := newLoc w.heap.size cap
    (Mod w (w.alloc (.cells vals ty)) fun _ => False) ∧ (∀ b, L.dom b → w.heap.size ≤ b ∧ b < (w.alloc (.cells vals ty)).heap.size) ∧ (∀ b, (Chunk.mk .own ty esz ver cells).blk L = some b → L.dom b) ∧
      (Chunk.mk .own ty esz ver cells).stays L ∧ (Chunk.mk .own ty esz ver cells).mem (w.alloc (.cells vals ty)) L vals.toList := by
  refine ⟨Mod.alloc _ _ _, fun b hb => ?_, fun b hb => ?_, stays_own, rfl, rfl, ?_, by simpa [newLoc] using hl⟩
  · cases hb; simp
  · simp [Chunk.blk, newLoc] at hb ⊢; exact hb.symm
  · simpa [newLoc] using OwnB.alloc w ty vals.toList []

def ezc (T : List (Option Ty)) (y : Ty) : Nat × Nat :=
  match y.d with
  | .arr n e => match getO T e with
    | some ye => (ye.size, n)
    | none => (y.size, 1)
  | _ => (y.size, 1)

theorem x_alloc (hT : X.ok) {t d : TypeId} {y : Ty} (ho : o.op = .alloc t) (hy : getO X.T t = some y) (hc : getO st.ch d = none) (he : y.size = (ezc X.T y).2 * (ezc X.T y).1) (hz : y.zero.length = y.size)
    (h : k (aN o st.fr [] d ⟨.own, t, (ezc X.T y).1, 0, y.zero.map .v⟩ (.ref d 0 0))) : ActN X o st k := by
  refine ActN.new hc (fun vs ez ρ a w hr => ?_) h
  obtain ⟨z, hz1, hz2⟩ := (hT t y hy).run_zero (w := w)
  obtain ⟨q1, q2, q3, q4, q5⟩ := new_own w t z.cells (ezc X.T y).1 (ezc X.T y).2 0 (y.zero.map .v) (by rw [← he, ← hz, ← hz2]; simp)
  refine ⟨.pointer (some ⟨w.heap.size, 0, none⟩), w.alloc (.cells z.cells t), newLoc w.heap.size (ezc X.T y).2, z.cells.toList, ?_, q1, q2, q3, q4, ?_, q5, ?_⟩
  · simp [execOp, ho, Instr.alloc, hz1, newVar, newRow]
  · rw [hz2]; exact relL_vals _
  · intro vs' ez' ρ' g1 g2 g3
    simp only [rel]
    exact ⟨0, g1, Nat.le_refl _, fun _ => by rw [g3]; rfl, _, rfl⟩

theorem x_box (hT : X.ok) {t d : TypeId} {x : Operand} {y : Ty} (ho : o.op = .box t x) (hy : getO X.T t = some y) (hc : getO st.ch d = none) (he : y.size = (ezc X.T y).2 * (ezc X.T y).1) (hl : (celA (evA st.fr x)).length = y.size)
    (hn : ∀ h : evA st.fr x = .dead, False)
    (h : k (aN o st.fr [x] d ⟨.own, t, (ezc X.T y).1, 0, celA (evA st.fr x)⟩ (.ref d 0 0))) : ActN X o st k := by
  refine ActN.new hc (fun vs ez ρ a w hr => ?_) h
  have g := rel_cel _ _ (hr x (by simp)) hn
  have gl := relL_len _ _ g
  obtain ⟨q1, q2, q3, q4, q5⟩ := new_own w t (a.eval x).cells (ezc X.T y).1 (ezc X.T y).2 0 (celA (evA st.fr x)) (by rw [← he, ← hl, gl]; simp)
  refine ⟨.pointer (some ⟨w.heap.size, 0, none⟩), w.alloc (.cells (a.eval x).cells t), newLoc w.heap.size (ezc X.T y).2, (a.eval x).cells.toList, ?_, q1, q2, q3, q4, g, q5, ?_⟩
  · simp [execOp, ho, Instr.box, newVar, newRow]
  · intro vs' ez' ρ' g1 g2 g3
    simp only [rel]
    exact ⟨0, g1, Nat.le_refl _, fun _ => by rw [g3]; rfl, _, rfl⟩

theorem new_row (w : World) (ty : TypeId) (vals : Array Value) (esz n ver : Nat) (cells : List AV) (hl : vals.size = n * esz) (hn : n ≤ maxLen) :
    let L := newLoc w.heap.size n
    (Mod w (w.alloc (.cells vals ty)) fun _ => False) ∧ (∀ b, L.dom b → w.heap.size ≤ b ∧ b < (w.alloc (.cells vals ty)).heap.size) ∧ (∀ b, (Chunk.mk .row ty esz ver cells).blk L = some b → L.dom b) ∧
      (Chunk.mk .row ty esz ver cells).stays L ∧ (Chunk.mk .row ty esz ver cells).mem (w.alloc (.cells vals ty)) L vals.toList := by
  refine ⟨Mod.alloc _ _ _, fun b hb => ?_, fun b hb => ?_, stays_row, rfl, .inr rfl, n, ?_⟩
  · cases hb; simp
  · simp [Chunk.blk, newLoc] at hb ⊢; exact hb.symm
  · exact ownsRow_of_heap (rest := []) (by simpa using hl) (by simpa using heap_alloc_new w _) (Nat.le_refl _) hn (by simpa [newLoc] using hl)

def fillA (place : Nat → Option (Nat × Nat)) : List AV → List (Nat × AV) → Option (List AV)
  | cells, [] => some cells
  | cells, (i, a) :: r => match place i with
    | some (off, size) => match Nat.beq (celA a).length size with
      | true => match putL cells off (celA a) with
        | some cells' => fillA place cells' r
        | none => none
      | false => none
    | none => none
def noDead : List (Nat × AV) → Bool
  | [] => true
  | (_, .dead) :: _ => false
  | _ :: r => noDead r
theorem fold_put (vs : List Value) : ∀ (off : Nat) (cells : Array Value), off + vs.length ≤ cells.size →
    (vs.zipIdx.foldl (fun cs (c, j) => cs.setIfInBounds (off + j) c) cells).toList = cells.toList.take off ++ vs ++ cells.toList.drop (off + vs.length) := by
  have key : ∀ (vs : List Value) (n off : Nat) (cells : Array Value), off + n + vs.length ≤ cells.size →
      ((vs.zipIdx n).foldl (fun cs (c, j) => cs.setIfInBounds (off + j) c) cells).toList = cells.toList.take (off + n) ++ vs ++ cells.toList.drop (off + n + vs.length) := by
    intro vs
    induction vs with
    | nil => intro n off cells h; simp
    | cons v vs ih =>
      intro n off cells h
      simp only [List.zipIdx_cons, List.foldl_cons]
      rw [ih (n + 1) off _ (by simp at h ⊢; omega)]
      have hlt : off + n < cells.toList.length := by simp at h ⊢; omega
      simp only [Array.toList_setIfInBounds]
      have e1 : (cells.toList.set (off + n) v).take (off + (n + 1)) = cells.toList.take (off + n) ++ [v] := by
        rw [show off + (n + 1) = (off + n) + 1 by omega, List.take_add_one]
        have h2 : off + n < cells.size := by simpa using hlt
        simp [List.take_set_of_le, h2]
      have e2 : (cells.toList.set (off + n) v).drop (off + (n + 1) + vs.length) = cells.toList.drop (off + n + (v :: vs).length) := by
        rw [List.drop_set_of_lt (by omega)]
        congr 1
        simp; omega
      rw [e1, e2]
      simp
  intro off cells h
  have := key vs 0 off cells (by simpa using h)
  simpa using this
def relP (vs : Nat → Option Nat) (ez : Nat → Nat) (ρ : Nat → Loc) : List (Nat × AV) → List (Nat × Value) → Prop
  | [], [] => True
  | p :: l, q :: r => (p.1 = q.1 ∧ rel vs ez ρ p.2 q.2) ∧ relP vs ez ρ l r
  | _, _ => False
theorem fill_rel {vs ez ρ} {place : Nat → Option (Nat × Nat)} : ∀ (parts : List (Nat × AV)) (vals : List (Nat × Value)) (cells r : List AV) (cs : Array Value), relL vs ez ρ cells cs.toList → noDead parts = true →
    relP vs ez ρ parts vals → fillA place cells parts = some r → ∃ cs', Instr.fill place cs vals = some cs' ∧ relL vs ez ρ r cs'.toList := by
  intro parts
  induction parts with
  | nil =>
    intro vals cells r cs hc _ hp hf
    cases vals with
    | cons q vals => simp [relP] at hp
    | nil =>
    simp only [fillA, Option.some.injEq] at hf
    subst hf
    exact ⟨cs, rfl, hc⟩
  | cons p parts ih =>
    intro vals cells r cs hc hn hp hf
    obtain ⟨i, av⟩ := p
    cases vals with
    | nil => simp [relP] at hp
    | cons q vals =>
      obtain ⟨j, u⟩ := q
      simp only [relP] at hp
      obtain ⟨h1, h2⟩ := hp
      obtain ⟨rfl, hu⟩ := h1
      have hnd : av ≠ .dead := by rintro rfl; simp [noDead] at hn
      have hn' : noDead parts = true := by cases av <;> simp_all [noDead]
      simp only [fillA] at hf
      cases hpl : place i with
      | none => simp [hpl] at hf
      | some os =>
        obtain ⟨off, size⟩ := os
        simp only [hpl] at hf
        cases hb : Nat.beq (celA av).length size with
        | false => simp [hb] at hf
        | true =>
          simp only [hb] at hf
          cases hput : putL cells off (celA av) with
          | none => simp [hput] at hf
          | some cells' =>
            simp only [hput] at hf
            have gu := rel_cel _ _ hu hnd
            have gl := relL_len _ _ gu
            have gc := relL_len _ _ hc
            obtain ⟨p1, p2⟩ := putL_spec _ _ _ _ hput
            have hsz : (celA av).length = size := Nat.eq_of_beq_eq_true hb
            have e1 : u.cells.size = size := by rw [← hsz, gl]; simp
            have e2 : ¬ (off + u.cells.size > cs.size) := by
              have : cells.length = cs.size := by simpa using gc
              rw [e1, ← hsz]; omega
            have hfold := fold_put u.cells.toList off cs (by simp; omega)
            obtain ⟨cs', g1, g2⟩ := ih vals cells' r (u.cells.toList.zipIdx.foldl (fun cs (c, j) => cs.setIfInBounds (off + j) c) cs) (by
              rw [hfold, p1]
              have : off + u.cells.toList.length = off + (celA av).length := by rw [gl]
              rw [this]
              exact relL_append _ _ _ _ (relL_append _ _ _ _ (relL_take _ _ _ hc) gu) (relL_drop _ _ _ hc)) hn' h2 hf
            refine ⟨cs', ?_, g2⟩
            simp only [Instr.fill, hpl]
            rw [if_neg (by simp [e1]; omega)]
            rw [← g1]
            congr 1
            have e3 : u.cells.toList.zipIdx = u.cells.zipIdx.toList := by simp
            rw [e3, Array.foldl_toList]
end
end Go.SX
set_option linter.unusedSimpArgs false
set_option linter.unusedVariables false
namespace Go.SX

theorem run_mapM_pure {α β : Type} {P : Program} {w : World} (f : α → Sem β) (g : α → β) : ∀ (l : List α), (∀ x ∈ l, (f x).run P w = .ok (g x) w) → (l.mapM f).run P w = .ok (l.map g) w
  | [], _ => by simp
  | x :: l, h => by
    simp only [List.mapM_cons, Sem.run_bind, h x (List.mem_cons_self ..), Result.andThen_ok, run_mapM_pure f g l (fun y hy => h y (List.mem_cons_of_mem _ hy)), Sem.run_pure, List.map_cons]

def placeS (T : List (Option Ty)) (fs : List (Nat × TypeId)) (i : Nat) : Option (Nat × Nat) :=
  match fs[i]? with
  | some (off, ft) => match getO T ft with
    | some y => some (off, y.size)
    | none => none
  | none => none

section
variable {X : Ctx} {o : Oper} {st : St} {k : Actn → Prop}

def evP (fr : List AV) (ps : List (Nat × Operand)) : List (Nat × AV) := ps.map fun p => (p.1, evA fr p.2)
theorem relP_ev {vs ez ρ} {fr : List AV} {a : Act} : ∀ (ps : List (Nat × Operand)), (∀ x, x ∈ ps.map (·.2) → rel vs ez ρ (evA fr x) (a.eval x)) → relP vs ez ρ (evP fr ps) (ps.map fun p => (p.1, a.eval p.2))
  | [], _ => by simp [evP, relP]
  | p :: ps, h => by
    simp only [evP, List.map_cons, relP]
    refine ⟨⟨by simp, h p.2 (by simp)⟩, relP_ev ps fun x hx => h x (by simp at hx ⊢; exact .inr hx)⟩

theorem run_build_st {P : Program} {T : List (Option Ty)} (hT : ∀ t y, getO T t = some y → TyOk P t y) {t : TypeId} {y : Ty} {fs : List (Nat × TypeId)} (hy : getO T t = some y) (hd : y.d = .st fs) (hall : fs.all (fun f => (getO T f.2).isSome) = true)
    {vs ez ρ} {parts : List (Nat × AV)} {vals : Array (Nat × Value)} {r : List AV} {w : World} (hp : relP vs ez ρ parts vals.toList) (hn : noDead parts = true) (hf : fillA (placeS T fs) (y.zero.map .v) parts = some r) :
    ∃ cs, (Instr.build t vals).run P w = .ok (.agg cs) w ∧ relL vs ez ρ r cs.toList := by
  obtain ⟨z, hz1, hz2⟩ := (hT t y hy).run_zero (w := w)
  obtain ⟨⟨d, h1, h2⟩, _⟩ := hT t y hy
  rw [hd] at h2
  cases d <;> simp only [TD.is] at h2
  rename_i fields
  have hm : (fields.mapM fun f => do pure (f.offset, ← sizeOf f.type) : Sem _).run P w = .ok (fields.map fun f => (f.offset, ((getO T f.type).map (·.size)).getD 0)) w := by
    rw [Array.mapM_eq_mapM_toList]
    simp only [Sem.run_map]
    rw [run_mapM_pure _ (fun f => (f.offset, ((getO T f.type).map (·.size)).getD 0)) fields.toList]
    · simp only [Result.andThen_ok]
      congr 1
      apply Array.ext'
      simp
    · intro f hf
      have : (getO T f.type).isSome = true := by
        rw [← h2] at hall
        rw [List.all_eq_true] at hall
        exact hall (f.offset, f.type) (List.mem_map.2 ⟨f, hf, rfl⟩)
      obtain ⟨yf, hyf⟩ := Option.isSome_iff_exists.1 this
      simp [(hT _ yf hyf).run_size, hyf]
  obtain ⟨cs, g1, g2⟩ := fill_rel parts vals.toList (y.zero.map .v) r z.cells (by rw [hz2]; exact relL_vals _) hn hp hf
  refine ⟨cs, ?_, g2⟩
  have hpl : (fun i => (fields.map fun f => (f.offset, ((getO T f.type).map (·.size)).getD 0))[i]?) = placeS T fs := by
    funext i
    unfold placeS
    rw [← h2]
    simp only [Array.getElem?_map, List.getElem?_map, Array.getElem?_toList]
    cases hfi : fields[i]? with
    | none => simp
    | some f =>
      have : (getO T f.type).isSome = true := by
        rw [← h2] at hall
        rw [List.all_eq_true] at hall
        exact hall (f.offset, f.type) (List.mem_map.2 ⟨f, by simpa using Array.mem_of_getElem? hfi, rfl⟩)
      obtain ⟨yf, hyf⟩ := Option.isSome_iff_exists.1 this
      simp [hyf]
  simp only [Instr.build, Sem.run_bind, hz1, Result.andThen_ok, run_underlying h1, hm, hpl, g1, Sem.run_pure]

theorem x_build_st (hT : X.ok) {t : TypeId} {ps : List (Nat × Operand)} {y : Ty} {fs : List (Nat × TypeId)} {r : List AV} (ho : o.op = .build t ps.toArray) (hy : getO X.T t = some y) (hd : y.d = .st fs) (hall : fs.all (fun f => (getO X.T f.2).isSome) = true)
    (hn : noDead (evP st.fr ps) = true) (hf : fillA (placeS X.T fs) (y.zero.map .v) (evP st.fr ps) = some r) (h : k (aP o st.fr (ps.map (·.2)) (.agg r))) : ActN X o st k := by
  refine ActN.p (fun vs ez ρ a w hr => ?_) h
  have hp := relP_ev (fr := st.fr) ps hr
  obtain ⟨cs, g1, g2⟩ := run_build_st (P := X.P) hT hy hd hall (vals := (ps.map fun p => (p.1, a.eval p.2)).toArray) (w := w) (by simpa using hp) hn hf
  refine ⟨.agg cs, ?_, by simp only [rel]; exact ⟨cs, rfl, g2⟩⟩
  simp only [execOp, ho, Sem.run_bind]
  have e : (ps.toArray.map fun x => (x.1, a.eval x.2)) = (ps.map fun p => (p.1, a.eval p.2)).toArray := by simp
  rw [show (ps.toArray.map fun (i, x) => (i, a.eval x)) = (ps.map fun p => (p.1, a.eval p.2)).toArray from e, g1]
  rfl

theorem x_build_arr (hT : X.ok) {t e : TypeId} {n : Nat} {ps : List (Nat × Operand)} {y ye : Ty} {r : List AV} (ho : o.op = .build t ps.toArray) (hy : getO X.T t = some y) (hd : y.d = .arr n e) (hye : getO X.T e = some ye)
    (hn : noDead (evP st.fr ps) = true) (hf : fillA (fun i => some (i * ye.size, ye.size)) (y.zero.map .v) (evP st.fr ps) = some r) (h : k (aP o st.fr (ps.map (·.2)) (.agg r))) : ActN X o st k := by
  refine ActN.p (fun vs ez ρ a w hr => ?_) h
  have hp := relP_ev (fr := st.fr) ps hr
  obtain ⟨z, hz1, hz2⟩ := (hT t y hy).run_zero (w := w)
  obtain ⟨⟨d, h1, h2⟩, _⟩ := hT t y hy
  rw [hd] at h2
  cases d <;> simp only [TD.is] at h2
  obtain ⟨rfl, rfl⟩ := h2
  obtain ⟨cs, g1, g2⟩ := fill_rel (evP st.fr ps) (ps.map fun p => (p.1, a.eval p.2)) (y.zero.map .v) r z.cells (by rw [hz2]; exact relL_vals _) hn hp hf
  refine ⟨.agg cs, ?_, by simp only [rel]; exact ⟨cs, rfl, g2⟩⟩
  simp only [execOp, ho, Sem.run_bind]
  have e : (ps.toArray.map fun x => (x.1, a.eval x.2)) = (ps.map fun p => (p.1, a.eval p.2)).toArray := by simp
  rw [show (ps.toArray.map fun (i, x) => (i, a.eval x)) = (ps.map fun p => (p.1, a.eval p.2)).toArray from e]
  simp only [Instr.build, Sem.run_bind, hz1, Result.andThen_ok, run_underlying h1, (hT _ ye hye).run_size, g1, Sem.run_pure]

theorem x_buildSlice (hT : X.ok) {t e d : TypeId} {n : Nat} {ps : List (Nat × Operand)} {y ye : Ty} {r : List AV} (ho : o.op = .buildSlice t n ps.toArray) (hy : getO X.T t = some y) (hyd : y.d = .sl e) (hye : getO X.T e = some ye)
    (hc : getO st.ch d = none) (hz : ye.zero.length = ye.size) (hsz : n * ye.size ≤ 16777216) (h0 : 0 < ye.size) (hn : noDead (evP st.fr ps) = true)
    (hf : fillA (fun i => some (i * ye.size, ye.size)) (((List.range (n * ye.size)).map fun i => .v (ye.zero.getD (i % ye.size) undef))) (evP st.fr ps) = some r)
    (h : k (aN o st.fr (ps.map (·.2)) d ⟨.row, e, ye.size, 0, r⟩ (.sl d 0 0 n))) : ActN X o st k := by
  refine ActN.new hc (fun vs ez ρ a w hr => ?_) h
  have hp := relP_ev (fr := st.fr) ps hr
  obtain ⟨z, hz1, hz2⟩ := (hT e ye hye).run_zero (w := w)
  obtain ⟨⟨dd, h1, h2⟩, _⟩ := hT t y hy
  rw [hyd] at h2
  cases dd <;> simp only [TD.is] at h2
  subst h2
  have hzc : z.cells.size = ye.size := by rw [← hz, ← hz2]; simp
  let z0 : Array Value := (Array.range (n * ye.size)).map (fun i => z.cells[i % z.cells.size]!)
  have hz0 : z0.toList = (List.range (n * ye.size)).map fun i => ye.zero.getD (i % ye.size) undef := by
    simp only [z0, Array.toList_map, Array.toList_range]
    refine List.map_congr_left fun i _ => ?_
    rw [hzc]
    have hlt : i % ye.size < z.cells.size := by rw [hzc]; exact Nat.mod_lt _ h0
    rw [getElem!_pos z.cells _ hlt, ← hz2]
    simp [List.getD, hlt]
  obtain ⟨cs, g1, g2⟩ := fill_rel (evP st.fr ps) (ps.map fun p => (p.1, a.eval p.2)) _ r z0 (by rw [hz0]; have q := relL_vals (vs := vs) (ez := ez) (ρ := ρ) ((List.range (n * ye.size)).map fun i => ye.zero.getD (i % ye.size) undef); rw [List.map_map] at q; exact q) hn hp hf
  have hcs : cs.size = n * ye.size := by
    have key : ∀ (parts : List (Nat × Value)) (place : Nat → Option (Nat × Nat)) (c0 c1 : Array Value), Instr.fill place c0 parts = some c1 → c1.size = c0.size := by
      intro parts
      induction parts with
      | nil => intro place c0 c1 h; simp only [Instr.fill, Option.some.injEq] at h; rw [h]
      | cons p parts ih =>
        intro place c0 c1 h
        obtain ⟨i, v⟩ := p
        simp only [Instr.fill] at h
        cases hpl : place i with
        | none => simp [hpl] at h
        | some os =>
          simp only [hpl] at h
          split at h
          · cases h
          · rw [ih _ _ _ h]
            have : ∀ (l : List (Value × Nat)) (c : Array Value), (l.foldl (fun cs (x : Value × Nat) => cs.setIfInBounds (os.1 + x.2) x.1) c).size = c.size := by
              intro l
              induction l with
              | nil => intro c; rfl
              | cons x l ih => intro c; simp only [List.foldl_cons]; rw [ih]; simp
            rw [← Array.foldl_toList]
            exact this _ _
    rw [key _ _ _ _ g1]
    simp [z0]
  obtain ⟨q1, q2, q3, q4, q5⟩ := new_row w e cs ye.size n 0 r hcs (by unfold maxLen; have := Nat.le_mul_of_pos_right n h0; omega)
  refine ⟨.slice (some ⟨w.heap.size, 0, none⟩) n n, w.alloc (.cells cs e), newLoc w.heap.size n, cs.toList, ?_, q1, q2, q3, q4, g2, q5, ?_⟩
  · simp only [execOp, ho, Sem.run_bind]
    have e2 : (ps.toArray.map fun x => (x.1, a.eval x.2)) = (ps.map fun p => (p.1, a.eval p.2)).toArray := by simp
    rw [show (ps.toArray.map fun (i, x) => (i, a.eval x)) = (ps.map fun p => (p.1, a.eval p.2)).toArray from e2]
    have e3 : ¬ (n * ye.size > 2 ^ 24) := by omega
    by_cases hzero : n * ye.size = 0
    · have : z0 = (Array.range (n * ye.size)).map fun i => (#[] : Array Value)[i % (#[] : Array Value).size]! := by simp [z0, hzero]
      simp only [Instr.buildSlice, Sem.run_bind, run_underlying h1, Result.andThen_ok, (hT _ ye hye).run_size, if_neg e3, if_pos hzero, Sem.run_pure]
      rw [show ((Array.range (n * ye.size)).map fun i => (#[] : Array Value)[i % (#[] : Array Value).size]!) = z0 by simp [z0, hzero]]
      simp [g1, newRow]
    · simp only [Instr.buildSlice, Sem.run_bind, run_underlying h1, Result.andThen_ok, (hT _ ye hye).run_size, if_neg e3, if_neg hzero, hz1, Sem.run_pure]
      rw [show ((Array.range (n * ye.size)).map fun i => z.cells[i % z.cells.size]!) = z0 from rfl]
      simp [g1, newRow]
  · intro vs' ez' ρ' p1 p2 p3
    simp only [rel]
    refine ⟨0, p1, Nat.le_refl _, fun _ => ?_, _, _, _, rfl⟩
    rw [p3]
    exact ⟨by simp [newLoc], some ⟨w.heap.size, 0, none⟩, by simp [newLoc], fun _ => by simp [newLoc, Addr.add], fun _ => rfl⟩
end
end Go.SX
set_option linter.unusedSimpArgs false
set_option linter.unusedVariables false
namespace Go.SX

def bAt (s : ByteArray) (i : Int) : Int := ((s.data.toList.getD i.toNat 0).toNat : Int)

theorem mem_base {w : World} {ck : Chunk} {L : Loc} {xs : List Value} (hk : ck.kind matches .own | .buf | .row | .ro) (h : ck.mem w L xs) (hc : L.cap ≠ 0) : L.base = some ⟨L.blk, L.off, none⟩ := by
  unfold Chunk.mem at h
  cases hkk : ck.kind <;> simp only [hkk] at h hk
  · rw [h.2.1, h.1]
  · rw [h.2.1, h.1]
  · obtain ⟨h0, h1, n, h2⟩ := h
    rcases h1 with h1 | h1
    · rw [h1] at h2
      obtain ⟨_, h4 | ⟨g, cap, cur, h4, _⟩⟩ := h2
      · injection h4.1 with _ _ e
        exact (hc e).elim
      · cases h4
    · rw [h1, h0]
  · exact (h.1 hc).1
  all_goals cases hk

section
variable {X : Ctx} {o : Oper} {st : St} {k : Actn → Prop}

theorem x_ia_sl (hT : X.ok) {t e : TypeId} {x i : Operand} {c kv lo n : Nat} {q : Int} {kd : IntKind} {ck : Chunk} {y ye : Ty} (ho : o.op = .indexAddr t x i) (hx : evA st.fr x = .sl c kv lo n) (hi : evA st.fr i = .v (.int kd q))
    (hc : getO st.ch c = some ck) (hv : kv = ck.ver) (hk : ck.kind matches .own | .buf | .row | .ro) (hy : getO X.T t = some y) (hyd : y.d = .sl e) (hye : getO X.T e = some ye) (hes : ye.size = ck.esz) (hb : 0 ≤ q ∧ q < n)
    (h : k (aR o st.fr [x, i] c ck (.ref c kv (lo * ck.esz + q.toNat * ck.esz)))) : ActN X o st k := by
  refine ActN.r hc (fun vs ez ρ a w ys hr hvs hez hcs hm => ?_) h
  have g1 := hr x (by simp)
  have g2 := hr i (by simp)
  rw [hx] at g1
  rw [hi] at g2
  simp only [rel] at g1 g2
  obtain ⟨cur, g3, g4, g5, _⟩ := g1
  rw [hvs] at g3
  cases g3
  obtain ⟨s1, ad, s2, s3, s4⟩ := g5 hv
  obtain ⟨⟨dd, h1, h2⟩, _⟩ := hT t y hy
  rw [hyd] at h2
  cases dd <;> simp only [TD.is] at h2
  subst h2
  have hn0 : n ≠ 0 := by omega
  have hbase := mem_base hk hm (by omega)
  have had := s3 hn0
  rw [hbase] at had
  simp only [Option.map_some, add_none] at had
  refine ⟨.pointer (some ⟨(ρ c).blk, (ρ c).off + (lo * ck.esz + q.toNat * ck.esz), none⟩), ?_, ?_⟩
  · simp only [execOp, ho, s2, g2, Instr.indexAt, asIntOf, Sem.run_bind, Sem.run_pure, Result.andThen_ok, run_underlying h1]
    subst had
    simp only [hb, and_self, if_true, Sem.run_bind, (hT _ ye hye).run_size, Result.andThen_ok, Sem.run_pure, hez, hes, add_none, Nat.add_assoc, run_underlying h1]
  · simp only [rel]
    exact ⟨_, hvs, g4, fun _ => by first | rfl | trivial, _, rfl⟩

theorem x_ia_arr (hT : X.ok) {t e : TypeId} {x i : Operand} {c kv off n : Nat} {q : Int} {kd : IntKind} {y ye : Ty} (ho : o.op = .indexAddr t x i) (hx : evA st.fr x = .ref c kv off) (hi : evA st.fr i = .v (.int kd q))
    (hy : getO X.T t = some y) (hyd : y.d = .arr n e) (hye : getO X.T e = some ye) (hb : 0 ≤ q ∧ q < n)
    (h : k (aP o st.fr [x, i] (.ref c kv (off + q.toNat * ye.size)))) : ActN X o st k := by
  refine ActN.p (fun vs ez ρ a w hr => ?_) h
  have g1 := hr x (by simp)
  have g2 := hr i (by simp)
  rw [hx] at g1
  rw [hi] at g2
  simp only [rel] at g1 g2
  obtain ⟨cur, g3, g4, g5, p, hp⟩ := g1
  obtain ⟨⟨dd, h1, h2⟩, _⟩ := hT t y hy
  rw [hyd] at h2
  cases dd <;> simp only [TD.is] at h2
  obtain ⟨rfl, rfl⟩ := h2
  refine ⟨.pointer (some (p.add (q.toNat * ye.size))), ?_, ?_⟩
  · simp [execOp, ho, hp, g2, Instr.indexAt, asIntOf, run_underlying h1, Instr.sureAddr, hb, (hT _ ye hye).run_size]
  · simp only [rel]
    refine ⟨cur, g3, g4, fun e => ?_, _, rfl⟩
    have := g5 e
    rw [hp] at this
    cases this
    rw [add_none, Nat.add_assoc]

theorem x_ia_ext (hT : X.ok) {t e : TypeId} {x i : Operand} {b o1 n cap : Nat} {q : Int} {kd : IntKind} {y ye : Ty} (ho : o.op = .indexAddr t x i) (hx : evA st.fr x = .v (.slice (some ⟨b, o1, none⟩) n cap)) (hi : evA st.fr i = .v (.int kd q))
    (hy : getO X.T t = some y) (hyd : y.d = .sl e) (hye : getO X.T e = some ye) (hb : 0 ≤ q ∧ q < n)
    (h : k (aP o st.fr [x, i] (.v (.pointer (some ⟨b, o1 + q.toNat * ye.size, none⟩))))) : ActN X o st k := by
  refine ActN.p (fun vs ez ρ a w hr => ?_) h
  have g1 := hr x (by simp)
  have g2 := hr i (by simp)
  rw [hx] at g1
  rw [hi] at g2
  simp only [rel] at g1 g2
  obtain ⟨⟨dd, h1, h2⟩, _⟩ := hT t y hy
  rw [hyd] at h2
  cases dd <;> simp only [TD.is] at h2
  subst h2
  refine ⟨.pointer (some ⟨b, o1 + q.toNat * ye.size, none⟩), ?_, by simp [rel]⟩
  simp only [execOp, ho, g1, g2, Instr.indexAt, asIntOf, Sem.run_bind, Sem.run_pure, Result.andThen_ok, run_underlying h1]
  simp [hb, (hT _ ye hye).run_size, add_none, run_underlying h1]

theorem x_index_str (hT : X.ok) {t : TypeId} {x i : Operand} {s : ByteArray} {q : Int} {kd : IntKind} {y : Ty} (ho : o.op = .index t x i) (hx : evA st.fr x = .v (.string s)) (hi : evA st.fr i = .v (.int kd q))
    (hy : getO X.T t = some y) (hyd : y.d = .str) (hb : 0 ≤ q ∧ q < s.size) (h : k (aP o st.fr [x, i] (.v (.int .u8 (bAt s q))))) : ActN X o st k := by
  refine ActN.p (fun vs ez ρ a w hr => ?_) h
  have g1 := hr x (by simp)
  have g2 := hr i (by simp)
  rw [hx] at g1
  rw [hi] at g2
  simp only [rel] at g1 g2
  obtain ⟨⟨dd, h1, h2⟩, _⟩ := hT t y hy
  rw [hyd] at h2
  cases dd <;> simp only [TD.is] at h2
  have hlt : q.toNat < s.size := by omega
  refine ⟨.int .u8 (bAt s q), ?_, by simp [rel]⟩
  have hb1 : bAt s q = ((s[q.toNat]'hlt).toNat : Int) := by
    unfold bAt
    have : q.toNat < s.data.toList.length := by simpa using hlt
    rw [List.getD, List.getElem?_eq_getElem this]
    simp
    rfl
  have hs : (if 0 ≤ q then s[q.toNat]? else none) = some (s[q.toNat]'hlt) := by
    rw [if_pos hb.1]
    exact getElem?_pos s q.toNat hlt
  simp only [execOp, ho, g1, g2, Instr.index, asIntOf, Sem.run_bind, Sem.run_pure, Result.andThen_ok, run_underlying h1, hs, hb1]

def bnd (fr : List AV) (d : Int) : Option Operand → Option Int
  | none => some d
  | some x => match evA fr x with
    | .v (.int _ n) => some n
    | _ => none
theorem run_sliceBound' {P : Program} {w : World} {u : Value} {kd : IntKind} {q : Int} {y : Nat} {code : BoundsCode} (hu : u = .int kd q) (h : 0 ≤ q ∧ q ≤ y) : (Instr.sliceBound u y code).run P w = .ok q.toNat w := by
  subst hu
  simp [Instr.sliceBound, asIntOf, h]
theorem run_bounds {P : Program} {w : World} {fr : List AV} {vs ez ρ} {a : Act} {isS : Bool} {len cap : Nat} {lo hi : Option Operand} {l h : Int}
    (hr : ∀ x, x ∈ lo.toList ++ hi.toList → rel vs ez ρ (evA fr x) (a.eval x)) (hl : bnd fr 0 lo = some l) (hh : bnd fr len hi = some h) (hb : 0 ≤ l ∧ l ≤ h ∧ h ≤ cap) :
    (Instr.sliceBounds isS len cap (lo.map a.eval) (hi.map a.eval) none).run P w = .ok (l.toNat, h.toNat, cap) w := by
  have key : ∀ (x : Option Operand) (d q : Int), bnd fr d x = some q → (∀ z, z ∈ x.toList → rel vs ez ρ (evA fr z) (a.eval z)) → (x = none ∧ q = d) ∨ ∃ z kd, x = some z ∧ a.eval z = .int kd q := by
    intro x d q hq hz
    cases x with
    | none => simp [bnd] at hq; exact .inl ⟨rfl, hq.symm⟩
    | some z =>
      have h1 := hz z (by simp)
      simp only [bnd] at hq
      split at hq
      · rename_i kd n he
        rw [he] at h1
        simp only [rel] at h1
        cases hq
        exact .inr ⟨z, kd, rfl, h1⟩
      · cases hq
  unfold Instr.sliceBounds
  rcases key lo 0 l hl (fun z hz => hr z (List.mem_append_left _ hz)) with ⟨rfl, rfl⟩ | ⟨zl, kl, rfl, el⟩ <;>
  rcases key hi len h hh (fun z hz => hr z (List.mem_append_right _ hz)) with ⟨rfl, rfl⟩ | ⟨zh, kh, rfl, eh⟩
  · simp
  · simp only [Option.map_none, Option.map_some, Sem.run_bind, Sem.run_pure, Result.andThen_ok, run_sliceBound' eh ⟨by omega, hb.2.2⟩]
    simp
  · have hz : l ≤ ((len : Int)).toNat := by omega
    simp only [Option.map_none, Option.map_some, Sem.run_bind, Sem.run_pure, Result.andThen_ok]
    rw [run_sliceBound' el ⟨hb.1, by omega⟩]
    simp
  · simp only [Option.map_none, Option.map_some, Sem.run_bind, Sem.run_pure, Result.andThen_ok, run_sliceBound' eh ⟨by omega, hb.2.2⟩]
    rw [run_sliceBound' el ⟨hb.1, by omega⟩]
    simp

theorem x_slice_str (hT : X.ok) {t : TypeId} {x : Operand} {lo hi : Option Operand} {s : ByteArray} {l h1 : Int} {y : Ty} (ho : o.op = .slice t x lo hi none) (hx : evA st.fr x = .v (.string s))
    (hy : getO X.T t = some y) (hyd : y.d = .str) (hl : bnd st.fr 0 lo = some l) (hh : bnd st.fr s.size hi = some h1) (hb : 0 ≤ l ∧ l ≤ h1 ∧ h1 ≤ s.size)
    (h : k (aP o st.fr (x :: (lo.toList ++ hi.toList)) (.v (.string (s.extract l.toNat h1.toNat))))) : ActN X o st k := by
  refine ActN.p (fun vs ez ρ a w hr => ?_) h
  have g1 := hr x (by simp)
  rw [hx] at g1
  simp only [rel] at g1
  obtain ⟨⟨dd, q1, q2⟩, _⟩ := hT t y hy
  rw [hyd] at q2
  cases dd <;> simp only [TD.is] at q2
  refine ⟨.string (s.extract l.toNat h1.toNat), ?_, by simp [rel]⟩
  have := run_bounds (P := X.P) (w := w) (isS := false) (fun z hz => hr z (List.mem_cons_of_mem _ hz)) hl hh hb
  simp only [execOp, ho, g1, Instr.sliceAt, Instr.slice, Sem.run_bind, run_underlying q1, Result.andThen_ok, Option.map_none, Option.isSome_none, Bool.false_eq_true, if_false, this, Sem.run_pure]

theorem x_slice_sl (hT : X.ok) {t e : TypeId} {x : Operand} {lo hi : Option Operand} {c kv l0 n : Nat} {ck : Chunk} {l h1 : Int} {y ye : Ty} (ho : o.op = .slice t x lo hi none) (hx : evA st.fr x = .sl c kv l0 n) (hc : getO st.ch c = some ck) (hv : kv = ck.ver)
    (hy : getO X.T t = some y) (hyd : y.d = .sl e) (hye : getO X.T e = some ye) (hes : ye.size = ck.esz) (hl : bnd st.fr 0 lo = some l) (hh : bnd st.fr n hi = some h1) (hb : 0 ≤ l ∧ l ≤ h1 ∧ h1 ≤ n)
    (h : k (aR o st.fr (x :: (lo.toList ++ hi.toList)) c ck (.sl c kv (l0 + l.toNat) (h1.toNat - l.toNat)))) : ActN X o st k := by
  refine ActN.r hc (fun vs ez ρ a w ys hr hvs hez hcs hm => ?_) h
  have g1 := hr x (by simp)
  rw [hx] at g1
  simp only [rel] at g1
  obtain ⟨cur, g3, g4, g5, _⟩ := g1
  rw [hvs] at g3
  cases g3
  obtain ⟨s1, ad, s2, s3, s4⟩ := g5 hv
  obtain ⟨⟨dd, q1, q2⟩, _⟩ := hT t y hy
  rw [hyd] at q2
  cases dd <;> simp only [TD.is] at q2
  subst q2
  have := run_bounds (P := X.P) (w := w) (isS := true) (cap := (ρ c).cap - l0) (fun z hz => hr z (List.mem_cons_of_mem _ hz)) hl hh ⟨hb.1, hb.2.1, by omega⟩
  refine ⟨.slice (if (ρ c).cap - l0 = l.toNat then ad else ad.map (·.add (l.toNat * ye.size))) (h1.toNat - l.toNat) ((ρ c).cap - l0 - l.toNat), ?_, ?_⟩
  · simp only [execOp, ho, s2, Instr.sliceAt, Instr.slice, Sem.run_bind, run_underlying q1, Result.andThen_ok, Option.map_none, this, Sem.run_pure, (hT _ ye hye).run_size]
  · simp only [rel]
    refine ⟨_, hvs, g4, fun _ => ⟨by omega, _, by rw [Nat.sub_sub], fun hn => ?_, fun h0 => ?_⟩, _, _, _, rfl⟩
    · rw [if_neg (by omega), s3 (by omega), hez, hes]
      cases (ρ c).base with
      | none => rfl
      | some ba =>
        simp only [Option.map_some, Option.some.injEq]
        obtain ⟨bb, bo, bs⟩ := ba
        simp only [Addr.add]
        by_cases e1 : l0 * ck.esz = 0
        · by_cases e2 : l.toNat * ck.esz = 0
          · simp [e1, e2, Nat.add_mul]
          · simp [e1, e2, Nat.add_mul]
        · by_cases e2 : l.toNat * ck.esz = 0
          · simp [e1, e2, Nat.add_mul]
          · simp only [if_neg e1, if_neg e2, Nat.add_mul]
            rw [if_neg (by omega)]
            simp [Nat.add_assoc]
    · have e0 : l0 = 0 := by omega
      have e1 : l.toNat = 0 := by omega
      have := s4 e0
      subst this
      rw [e1]
      split
      · rfl
      · cases (ρ c).base <;> simp [Addr.add]
theorem x_slice_arr (hT : X.ok) {t e : TypeId} {x : Operand} {lo hi : Option Operand} {c kv n : Nat} {ck : Chunk} {l h1 : Int} {y ye : Ty} (ho : o.op = .slice t x lo hi none) (hx : evA st.fr x = .ref c kv 0) (hc : getO st.ch c = some ck) (hv : kv = ck.ver) (hk : ck.kind = .own)
    (hy : getO X.T t = some y) (hyd : y.d = .arr n e) (hye : getO X.T e = some ye) (hes : ye.size = ck.esz) (h0 : 0 < ck.esz) (hlen : ck.cells.length = n * ck.esz) (hl : bnd st.fr 0 lo = some l) (hh : bnd st.fr n hi = some h1) (hb : 0 ≤ l ∧ l ≤ h1 ∧ h1 ≤ n)
    (h : k (aR o st.fr (x :: (lo.toList ++ hi.toList)) c ck (.sl c kv l.toNat (h1.toNat - l.toNat)))) : ActN X o st k := by
  refine ActN.r hc (fun vs ez ρ a w ys hr hvs hez hcs hm => ?_) h
  have g1 := hr x (by simp)
  rw [hx] at g1
  simp only [rel] at g1
  obtain ⟨cur, g3, g4, g5, _⟩ := g1
  rw [hvs] at g3
  cases g3
  have hp := g5 hv
  obtain ⟨⟨dd, q1, q2⟩, _⟩ := hT t y hy
  rw [hyd] at q2
  cases dd <;> simp only [TD.is] at q2
  obtain ⟨rfl, rfl⟩ := q2
  unfold Chunk.mem at hm
  simp only [hk] at hm
  obtain ⟨m1, m2, m3, m4⟩ := hm
  have hcap : (ρ c).cap = n := by
    have := relL_len _ _ hcs
    rw [← this, hlen] at m4
    exact (Nat.eq_of_mul_eq_mul_right h0 m4).symm
  have := run_bounds (P := X.P) (w := w) (isS := false) (fun z hz => hr z (List.mem_cons_of_mem _ hz)) hl hh hb
  refine ⟨.slice (some (if n = l.toNat then ⟨(ρ c).blk, (ρ c).off + 0, none⟩ else (⟨(ρ c).blk, (ρ c).off + 0, none⟩ : Addr).add (l.toNat * ye.size))) (h1.toNat - l.toNat) (n - l.toNat), ?_, ?_⟩
  · simp only [execOp, ho, hp, Instr.sliceAt, Instr.sureAddr, Sem.run_bind, run_underlying q1, Result.andThen_ok, Option.map_none, this, Sem.run_pure, (hT _ ye hye).run_size]
  · simp only [rel]
    refine ⟨_, hvs, g4, fun _ => ⟨by omega, _, by rw [hcap], fun hn => ?_, fun h0 => ?_⟩, _, _, _, rfl⟩
    · rw [if_neg (by omega), m2, hez, hes, m1]
      simp
    · rw [m2, m1, h0]
      split <;> simp [Addr.add]
end
end Go.SX
set_option linter.unusedSimpArgs false
set_option linter.unusedVariables false
namespace Go.SX

section
variable {X : Ctx} {o : Oper} {st : St} {k : Actn → Prop}

theorem bcall {P : Program} {a : Act} {o : Oper} {b : Builtin} {args : List Operand} {ts : Array TypeId} {w w' : World} {v : Value} {s : Sem Value} (ho : o.op = .call { callee := .builtin b, args := args.toArray, argTypes := ts })
    (hb : ∀ consts, builtin b ts o.type consts (args.map a.eval).toArray = (do pure (.value (← s)))) (hr : s.run P w = .ok v w') : (execOp a.eval o).run P w = .ok (.value v) w' := by
  have e : (args.toArray.map a.eval) = (args.map a.eval).toArray := by simp
  simp only [execOp, ho, resolve, Sem.run_bind, Sem.run_pure, Result.andThen_ok, invoke, e, hb, hr]

theorem x_len_str (hT : X.ok) {t : TypeId} {x : Operand} {s : ByteArray} {y : Ty} (ho : o.op = .call { callee := .builtin .len, args := [x].toArray, argTypes := [t].toArray }) (hx : evA st.fr x = .v (.string s)) (hy : getO X.T t = some y) (hyd : y.d = .str)
    (h : k (aP o st.fr [x] (.v (.int .i64 s.size)))) : ActN X o st k := by
  refine ActN.p (fun vs ez ρ a w hr => ?_) h
  have g1 := hr x (by simp)
  rw [hx] at g1
  simp only [rel] at g1
  obtain ⟨⟨dd, q1, q2⟩, _⟩ := hT t y hy
  rw [hyd] at q2
  cases dd <;> simp only [TD.is] at q2
  refine ⟨.int .i64 s.size, bcall ho (fun _ => rfl) (s := Builtin.len_ [t].toArray o.type ([x].map a.eval).toArray) ?_, by simp [rel]⟩
  simp [Builtin.len_, run_underlying q1, g1, goInt]
theorem x_len_sl (hT : X.ok) {t e : TypeId} {x : Operand} {c kv lo n : Nat} {ck : Chunk} {y : Ty} (ho : o.op = .call { callee := .builtin .len, args := [x].toArray, argTypes := [t].toArray }) (hx : evA st.fr x = .sl c kv lo n) (hc : getO st.ch c = some ck) (hv : kv = ck.ver) (hy : getO X.T t = some y) (hyd : y.d = .sl e)
    (h : k (aR o st.fr [x] c ck (.v (.int .i64 n)))) : ActN X o st k := by
  refine ActN.r hc (fun vs ez ρ a w ys hr hvs hez hcs hm => ?_) h
  have g1 := hr x (by simp)
  rw [hx] at g1
  simp only [rel] at g1
  obtain ⟨cur, g3, g4, g5, _⟩ := g1
  rw [hvs] at g3
  cases g3
  obtain ⟨s1, ad, s2, _⟩ := g5 hv
  obtain ⟨⟨dd, q1, q2⟩, _⟩ := hT t y hy
  rw [hyd] at q2
  cases dd <;> simp only [TD.is] at q2
  refine ⟨.int .i64 n, bcall ho (fun _ => rfl) (s := Builtin.len_ [t].toArray o.type ([x].map a.eval).toArray) ?_, by simp [rel]⟩
  simp [Builtin.len_, run_underlying q1, s2, goInt]
theorem x_len_ext (hT : X.ok) {t e : TypeId} {x : Operand} {ad : Option Addr} {n cap : Nat} {y : Ty} (ho : o.op = .call { callee := .builtin .len, args := [x].toArray, argTypes := [t].toArray }) (hx : evA st.fr x = .v (.slice ad n cap)) (hy : getO X.T t = some y) (hyd : y.d = .sl e)
    (h : k (aP o st.fr [x] (.v (.int .i64 n)))) : ActN X o st k := by
  refine ActN.p (fun vs ez ρ a w hr => ?_) h
  have g1 := hr x (by simp)
  rw [hx] at g1
  simp only [rel] at g1
  obtain ⟨⟨dd, q1, q2⟩, _⟩ := hT t y hy
  rw [hyd] at q2
  cases dd <;> simp only [TD.is] at q2
  refine ⟨.int .i64 n, bcall ho (fun _ => rfl) (s := Builtin.len_ [t].toArray o.type ([x].map a.eval).toArray) ?_, by simp [rel]⟩
  simp [Builtin.len_, run_underlying q1, g1, goInt]

theorem x_extract {x : Operand} {i : Nat} {l : List AV} {r : AV} (ho : o.op = .extract x i) (hx : evA st.fr x = .tup l) (hr : l[i]? = some r) (h : k (aP o st.fr [x] r)) : ActN X o st k := by
  refine ActN.p (fun vs ez ρ a w hh => ?_) h
  have g1 := hh x (by simp)
  rw [hx] at g1
  simp only [rel] at g1
  obtain ⟨xs, g1, g2⟩ := g1
  have hlen := relL_len _ _ g2
  have hi : i < l.length := by
    rcases Nat.lt_or_ge i l.length with h1 | h1
    · exact h1
    · simp [List.getElem?_eq_none h1] at hr
  have hi' : i < xs.size := by simpa [hlen] using hi
  have g3 := relL_get _ _ i g2
  have e1 : getF l i = r := by
    have : ∀ (l : List AV) (i : Nat) (r : AV), l[i]? = some r → getF l i = r := by
      intro l
      induction l with
      | nil => intro i r h; simp at h
      | cons b l ih =>
        intro i r h
        cases i with
        | zero => simpa [getF] using h
        | succ i => exact ih i r (by simpa using h)
    exact this _ _ _ hr
  rw [e1] at g3
  refine ⟨xs[i], ?_, ?_⟩
  · simp [execOp, ho, g1, Instr.extract, hi']
  · simpa [List.getD, hi'] using g3
theorem x_extract_v {x : Operand} {i : Nat} {l : List Value} {r : Value} (ho : o.op = .extract x i) (hx : evA st.fr x = .v (.tuple l.toArray)) (hr : l[i]? = some r) (h : k (aP o st.fr [x] (.v r))) : ActN X o st k := by
  refine ActN.p (fun vs ez ρ a w hh => ?_) h
  have g1 := hh x (by simp)
  rw [hx] at g1
  simp only [rel] at g1
  exact ⟨r, by simp [execOp, ho, g1, Instr.extract, hr], by simp [rel]⟩

def notIfc (T : List (Option Ty)) (t : TypeId) : Bool :=
  match getO T t with
  | some y => match y.d with
    | .ifc | .oth => false
    | _ => true
  | none => false
theorem x_mkifc_v (hT : X.ok) {t : TypeId} {x : Operand} {u : Value} (ho : o.op = .makeInterface t x) (hx : evA st.fr x = .v u) (ht : notIfc X.T t = true) (h : k (aP o st.fr [x] (.v (.iface t u)))) : ActN X o st k := by
  refine ActN.p (fun vs ez ρ a w hh => ?_) h
  have g1 := hh x (by simp)
  rw [hx] at g1
  simp only [rel] at g1
  unfold notIfc at ht
  cases hy : getO X.T t with
  | none => simp [hy] at ht
  | some y =>
    simp only [hy] at ht
    obtain ⟨⟨dd, q1, q2⟩, _⟩ := hT t y hy
    refine ⟨.iface t u, ?_, by simp [rel]⟩
    simp only [execOp, ho, g1, Instr.makeInterface, Sem.run_bind, run_underlying q1, Result.andThen_ok]
    revert ht q2
    cases y.d <;> cases dd <;> simp [TD.is]
theorem x_mkifc_a (hT : X.ok) {t : TypeId} {x : Operand} (ho : o.op = .makeInterface t x) (ht : notIfc X.T t = true) (h : k (aP o st.fr [x] (.ifc t (evA st.fr x)))) : ActN X o st k := by
  refine ActN.p (fun vs ez ρ a w hh => ?_) h
  have g1 := hh x (by simp)
  unfold notIfc at ht
  cases hy : getO X.T t with
  | none => simp [hy] at ht
  | some y =>
    simp only [hy] at ht
    obtain ⟨⟨dd, q1, q2⟩, _⟩ := hT t y hy
    refine ⟨.iface t (a.eval x), ?_, by simp only [rel]; exact ⟨_, rfl, g1⟩⟩
    simp only [execOp, ho, Instr.makeInterface, Sem.run_bind, run_underlying q1, Result.andThen_ok]
    revert ht q2
    cases y.d <;> cases dd <;> simp [TD.is]

theorem relL_evs {vs ez ρ} {fr : List AV} {a : Act} : ∀ (l : List Operand), (∀ x, x ∈ l → rel vs ez ρ (evA fr x) (a.eval x)) → relL vs ez ρ (l.map (evA fr)) (l.map a.eval)
  | [], _ => by simp [relL]
  | x :: l, h => by
    simp only [List.map_cons, relL]
    exact ⟨h x (by simp), relL_evs l fun y hy => h y (List.mem_cons_of_mem _ hy)⟩
theorem x_mkfunc {f : Fn} {l : List Operand} (ho : o.op = .makeFunc f #[] l.toArray) (h : k (aP o st.fr l (.fn f (l.map (evA st.fr))))) : ActN X o st k := by
  refine ActN.p (fun vs ez ρ a w hh => ?_) h
  refine ⟨.func f #[] (l.map a.eval).toArray, ?_, ?_⟩
  · simp [execOp, ho, Instr.makeFunc]
  · simp only [rel]
    exact ⟨_, rfl, relL_evs l hh⟩

theorem x_not {t : TypeId} {x : Operand} {b : Bool} (ho : o.op = .unOp .not t x) (hx : evA st.fr x = .v (.bool b)) (h : k (aP o st.fr [x] (.v (.bool (!b))))) : ActN X o st k := by
  refine ActN.p (fun vs ez ρ a w hh => ?_) h
  have g1 := hh x (by simp)
  rw [hx] at g1
  simp only [rel] at g1
  exact ⟨.bool (!b), by simp [execOp, ho, g1, Op.unary], by simp [rel]⟩
theorem x_neg {t : TypeId} {x : Operand} {kd : IntKind} {n m : Int} (ho : o.op = .unOp .neg t x) (hx : evA st.fr x = .v (.int kd n)) (hm : kd.wrap (0 - n) = m) (h : k (aP o st.fr [x] (.v (.int kd m)))) : ActN X o st k := by
  refine ActN.p (fun vs ez ρ a w hh => ?_) h
  have g1 := hh x (by simp)
  rw [hx] at g1
  simp only [rel] at g1
  subst hm
  exact ⟨.int kd (kd.wrap (0 - n)), by simp [execOp, ho, g1, Op.unary, Op.intArith], by simp [rel]⟩

theorem x_conv_int (hT : X.ok) {s t : TypeId} {x : Operand} {kd kt : IntKind} {n : Int} {ys y : Ty} (ho : o.op = .convert s t x) (hx : evA st.fr x = .v (.int kd n)) (hys : getO X.T s = some ys) (hy : getO X.T t = some y) (hyd : y.d = .int kt)
    (h : Nm (kt.wrap n) fun m => k (aP o st.fr [x] (.v (.int kt m)))) : ActN X o st k := by
  refine ActN.p (fun vs ez ρ a w hh => ?_) h.self
  have g1 := hh x (by simp)
  rw [hx] at g1
  simp only [rel] at g1
  obtain ⟨⟨dd, q1, q2⟩, _⟩ := hT t y hy
  obtain ⟨⟨ds, q3, _⟩, _⟩ := hT s ys hys
  rw [hyd] at q2
  cases dd <;> simp only [TD.is] at q2
  subst q2
  refine ⟨.int kt (kt.wrap n), ?_, by simp [rel]⟩
  simp only [execOp, ho, g1, convert, Sem.run_bind, run_underlying q1, run_underlying q3, Result.andThen_ok]
  cases ds <;> simp [Conv.intToInt]
theorem x_conv_str (hT : X.ok) {s t : TypeId} {x : Operand} {u : ByteArray} {ys y : Ty} (ho : o.op = .convert s t x) (hx : evA st.fr x = .v (.string u)) (hys : getO X.T s = some ys) (hy : getO X.T t = some y) (hyd : y.d = .str)
    (h : k (aP o st.fr [x] (.v (.string u)))) : ActN X o st k := by
  refine ActN.p (fun vs ez ρ a w hh => ?_) h
  have g1 := hh x (by simp)
  rw [hx] at g1
  simp only [rel] at g1
  obtain ⟨⟨dd, q1, q2⟩, _⟩ := hT t y hy
  obtain ⟨⟨ds, q3, _⟩, _⟩ := hT s ys hys
  rw [hyd] at q2
  cases dd <;> simp only [TD.is] at q2
  refine ⟨.string u, ?_, by simp [rel]⟩
  simp only [execOp, ho, g1, convert, Sem.run_bind, run_underlying q1, run_underlying q3, Result.andThen_ok]
  cases ds <;> simp

def eqR (op : BinOp) (b : Bool) : Bool := match op with | .eql => b | _ => !b
theorem equal_succ (t : TypeId) (x y : Value) : Op.equal t x y = Op.equalIn (9999 + 1) t x y := rfl
theorem run_eqR {P : Program} {w : World} {op : BinOp} {t : TypeId} {u v : Value} {b : Bool} (hop : op = .eql ∨ op = .neq) (h : (Op.equal t u v).run P w = .ok b w)
    (hb : binOp .eql t u v = (do pure (.bool (← Op.equal t u v)))) (hb' : binOp .neq t u v = (do pure (.bool (!(← Op.equal t u v))))) : (binOp op t u v).run P w = .ok (.bool (eqR op b)) w := by
  rcases hop with rfl | rfl
  · rw [hb]; simp [h, eqR]
  · rw [hb']; simp [h, eqR]
theorem x_eq_ptr_nil (hT : X.ok) {t ty e : TypeId} {x z : Operand} {y : Ty} {p : Option Addr} (op : BinOp) (hop : op = .eql ∨ op = .neq) (ho : o.op = .binOp op t x z ty) (hx : evA st.fr x = .v (.pointer p)) (hz : evA st.fr z = .v (.pointer none)) (hy : getO X.T t = some y) (hyd : y.d = .ptr e)
    (h : k (aP o st.fr [x, z] (.v (.bool (eqR op p.isNone))))) : ActN X o st k := by
  refine x_bin ho hx hz (fun w => ?_) h
  obtain ⟨⟨dd, q1, q2⟩, _⟩ := hT t y hy
  rw [hyd] at q2
  cases dd <;> simp only [TD.is] at q2
  have hg : eqGuard op t x z (.pointer p) (.pointer none) = pure () := by rcases hop with rfl | rfl <;> rfl
  rw [hg]
  simp only [Sem.run_bind, Sem.run_pure, Result.andThen_ok]
  refine run_eqR hop ?_ rfl rfl
  rw [equal_succ]
  generalize 9999 = dep
  cases p <;> simp [Op.equalIn, run_underlying q1]
theorem x_eq_ref_nil (hT : X.ok) {t ty e : TypeId} {x z : Operand} {y : Ty} {c kv off : Nat} (op : BinOp) (hop : op = .eql ∨ op = .neq) (ho : o.op = .binOp op t x z ty) (hx : evA st.fr x = .ref c kv off) (hz : evA st.fr z = .v (.pointer none)) (hy : getO X.T t = some y) (hyd : y.d = .ptr e)
    (h : k (aP o st.fr [x, z] (.v (.bool (eqR op false))))) : ActN X o st k := by
  refine ActN.p (fun vs ez ρ a w hh => ?_) h
  have g1 := hh x (by simp)
  have g2 := hh z (by simp)
  rw [hx] at g1
  rw [hz] at g2
  simp only [rel] at g1 g2
  obtain ⟨_, _, _, _, p, hp⟩ := g1
  obtain ⟨⟨dd, q1, q2⟩, _⟩ := hT t y hy
  rw [hyd] at q2
  cases dd <;> simp only [TD.is] at q2
  refine ⟨.bool (eqR op false), ?_, by simp [rel]⟩
  have hg : eqGuard op t x z (.pointer (some p)) (.pointer none) = pure () := by rcases hop with rfl | rfl <;> rfl
  have hrun : (binOp op t (.pointer (some p)) (.pointer none)).run X.P w = .ok (.bool (eqR op false)) w := by
    refine run_eqR hop ?_ rfl rfl
    rw [equal_succ]
    generalize 9999 = dep
    simp [Op.equalIn, run_underlying q1]
  simp only [execOp, ho, hp, g2, hg, Sem.run_bind, Sem.run_pure, Result.andThen_ok, hrun]
def isNilI : Value → Bool | .nilIface => true | _ => false
theorem x_eq_ifc_nil (hT : X.ok) {t ty : TypeId} {x z : Operand} {y : Ty} {u : Value} (op : BinOp) (hop : op = .eql ∨ op = .neq) (ho : o.op = .binOp op t x z ty) (hx : evA st.fr x = .v u) (hz : z = .const .nilIface) (hu : u = .nilIface ∨ ∃ q r, u = .iface q r) (hy : getO X.T t = some y) (hyd : y.d = .ifc)
    (h : k (aP o st.fr [x, z] (.v (.bool (eqR op (isNilI u)))))) : ActN X o st k := by
  refine x_bin (v := .nilIface) ho hx (by rw [hz]; rfl) (fun w => ?_) h
  obtain ⟨⟨dd, q1, q2⟩, _⟩ := hT t y hy
  rw [hyd] at q2
  cases dd <;> simp only [TD.is] at q2
  subst hz
  rcases hu with rfl | ⟨q, r, rfl⟩
  · have hg : (eqGuard op t x (.const .nilIface) .nilIface .nilIface).run X.P w = .ok () w := by rcases hop with rfl | rfl <;> simp [eqGuard]
    simp only [Sem.run_bind, hg, Result.andThen_ok]
    refine run_eqR hop ?_ rfl rfl
    rw [equal_succ]
    generalize 9999 = dep
    simp [Op.equalIn, run_underlying q1, isNilI]
  · have hg : eqGuard op t x (.const .nilIface) (.iface q r) .nilIface = pure () := by rcases hop with rfl | rfl <;> rfl
    rw [hg]
    simp only [Sem.run_bind, Sem.run_pure, Result.andThen_ok]
    refine run_eqR hop ?_ rfl rfl
    rw [equal_succ]
    generalize 9999 = dep
    simp [Op.equalIn, run_underlying q1, isNilI]
theorem x_eq_bool (hT : X.ok) {t ty : TypeId} {x z : Operand} {y : Ty} {p q : Bool} (op : BinOp) (hop : op = .eql ∨ op = .neq) (ho : o.op = .binOp op t x z ty) (hx : evA st.fr x = .v (.bool p)) (hz : evA st.fr z = .v (.bool q)) (hy : getO X.T t = some y) (hyd : y.d = .bool)
    (h : k (aP o st.fr [x, z] (.v (.bool (eqR op (p == q)))))) : ActN X o st k := by
  refine x_bin ho hx hz (fun w => ?_) h
  obtain ⟨⟨dd, q1, q2⟩, _⟩ := hT t y hy
  rw [hyd] at q2
  cases dd <;> simp only [TD.is] at q2
  have hg : eqGuard op t x z (.bool p) (.bool q) = pure () := by rcases hop with rfl | rfl <;> rfl
  rw [hg]
  simp only [Sem.run_bind, Sem.run_pure, Result.andThen_ok]
  refine run_eqR hop ?_ rfl rfl
  rw [equal_succ]
  generalize 9999 = dep
  simp [Op.equalIn, run_underlying q1]
end
end Go.SX
set_option linter.unusedSimpArgs false
set_option linter.unusedVariables false
namespace Go.SX


section
variable {R : Type}
def getFK : List AV → Nat → (AV → R) → R
  | [], _, k => k .dead
  | x :: _, 0, k => k x
  | _ :: l, n + 1, k => getFK l n k
theorem getFK_eq : ∀ (l : List AV) (n : Nat) (k : AV → R), getFK l n k = k (getF l n)
  | [], _, _ => rfl
  | _ :: _, 0, _ => rfl
  | _ :: l, n + 1, k => getFK_eq l n k
def evK (fr : List AV) (x : Operand) (k : AV → R) : R :=
  match x with
  | .tmp t => getFK fr t k
  | .const u => k (.v u)
  | .global g => k (.v (.pointer (some ⟨g, 0, none⟩)))
  | .func f => k (.v (.func (.func f) #[] #[]))
theorem evK_eq (fr : List AV) (x : Operand) (k : AV → R) : evK fr x k = k (evA fr x) := by
  cases x <;> simp [evK, evA, getFK_eq]
def chk (M : NA R) (b : Bool) (p : R) : R := match b with | true => p | false => M.no
theorem chk_eq {M : NA R} {H : R → Prop} {X : Ctx} (hM : M.Ok H X) {b : Bool} {p : R} (h : H (chk M b p)) : b = true ∧ H p := by cases b with
  | true => exact ⟨rfl, h⟩
  | false => exact (hM.no h).elim
def rdK : CK → Bool
  | .own | .buf | .row | .ro => true
  | _ => false
theorem rdK_eq {c : CK} : rdK c = true → (c matches .own | .buf | .row | .ro) := by cases c <;> intro h <;> first | rfl | cases h
def Ver (M : NA R) (kv : Nat) (ck : Chunk) (p : R) : R :=
  match ck.kind with
  | .own | .buf => chk M (Nat.beq kv ck.ver) p
  | _ => M.need (kv = ck.ver) p
theorem Ver_eq {M : NA R} {H : R → Prop} {X : Ctx} (hM : M.Ok H X) {kv : Nat} {ck : Chunk} {p : R} (h : H (Ver M kv ck p)) : kv = ck.ver ∧ H p := by
  unfold Ver at h
  cases hk : ck.kind <;> simp only [hk] at h <;> first | exact hM.need h | (obtain ⟨h1, h2⟩ := chk_eq hM h; exact ⟨Nat.eq_of_beq_eq_true h1, h2⟩)
def mkK (y : Ty) (l : List AV) (k : AV → R) : R :=
  match y.d with
  | .st _ | .arr _ _ => k (.agg l)
  | _ => match l with
    | a :: _ => k a
    | [] => k .dead
theorem mkK_eq (y : Ty) (l : List AV) (k : AV → R) : mkK y l k = k (mkA y l) := by
  unfold mkK mkA aggd
  cases y.d <;> simp <;> cases l <;> simp [getF]
def mapVK : List Value → (List AV → R) → R
  | [], k => k []
  | x :: l, k => mapVK l fun r => k (.v x :: r)
theorem mapVK_eq : ∀ (l : List Value) (k : List AV → R), mapVK l k = k (l.map .v)
  | [], _ => rfl
  | x :: l, k => by simp only [mapVK]; rw [mapVK_eq]; rfl
def celK (a : AV) (k : List AV → R) : R :=
  match a with
  | .agg l => k l
  | .v x => match x with
    | .agg cs => mapVK cs.toList k
    | .tuple cs => k [.v (.tuple cs)]
    | .bool b => k [.v (.bool b)]
    | .int q n => k [.v (.int q n)]
    | .float q n => k [.v (.float q n)]
    | .complex q n m => k [.v (.complex q n m)]
    | .string s => k [.v (.string s)]
    | .pointer p => k [.v (.pointer p)]
    | .slice p n c => k [.v (.slice p n c)]
    | .map r => k [.v (.map r)]
    | .chan r => k [.v (.chan r)]
    | .func f b c => k [.v (.func f b c)]
    | .nilFunc => k [.v .nilFunc]
    | .iface t v => k [.v (.iface t v)]
    | .nilIface => k [.v .nilIface]
  | .dead => k [.dead]
  | .ref c q off => k [.ref c q off]
  | .sl c q lo n => k [.sl c q lo n]
  | .fn f l => k [.fn f l]
  | .ifc t b => k [.ifc t b]
  | .tup l => k [.tup l]
  | .mp c q => k [.mp c q]
theorem celK_eq (a : AV) (k : List AV → R) : celK a k = k (celA a) := by
  cases a with
  | v x => cases x <;> simp [celK, celA, Value.cells, mapVK_eq]
  | _ => rfl
def isDead : AV → Bool | .dead => true | _ => false
def ezcK (T : List (Option Ty)) (y : Ty) (k : Nat → R) : R :=
  match y with
  | ⟨.arr n e, size, _, _, _⟩ => match getO T e with
    | some ⟨_, s2, _, _, _⟩ => k s2
    | none => k size
  | ⟨_, size, _, _, _⟩ => k size
theorem ezcK_eq (T : List (Option Ty)) (y : Ty) (k : Nat → R) : ezcK T y k = k (ezc T y).1 := by
  obtain ⟨d, size, b, z, eq⟩ := y
  cases d <;> simp only [ezcK, ezc]
  rename_i n e
  cases getO T e <;> rfl
def sizeOk (T : List (Option Ty)) (y : Ty) : Bool := Nat.beq y.size ((ezc T y).2 * (ezc T y).1)

end

section
variable {R : Type} (M : NA R) (T : List (Option Ty)) (o : Oper) (st : St) (k : Actn → R)

def xMove (x : Operand) : R := evK st.fr x fun a => k (aP o st.fr [x] a)
def xPick (c x y : Operand) : R := evK st.fr c fun a => evK st.fr x fun b => evK st.fr y fun d =>
  match a with
  | .v (.bool p) => match b, d with
    | .v (.bool q), .v (.bool r) => k (aP o st.fr [c, x, y] (.v (.bool (cond p q r))))
    | _, _ => match p with
      | true => k (aP o st.fr [c, x] b)
      | false => k (aP o st.fr [c, y] d)
  | _ => M.no
def eqlike : BinOp → Bool | .eql | .neq => true | _ => false
def shlike : BinOp → Bool | .shl | .shr => true | _ => false
def ikn : IntKind → Nat | .i8 => 0 | .i16 => 1 | .i32 => 2 | .i64 => 3 | .u8 => 4 | .u16 => 5 | .u32 => 6 | .u64 => 7
theorem ikn_inj {a b : IntKind} (h : Nat.beq (ikn a) (ikn b) = true) : a = b := by cases a <;> cases b <;> first | rfl | (simp [ikn] at h)
def isNilPtr : Operand → Bool | .const (.pointer none) => true | _ => false
def isNilIfc : Operand → Bool | .const .nilIface => true | _ => false
theorem isNilIfc_eq {x : Operand} (h : isNilIfc x = true) : x = .const .nilIface := by
  unfold isNilIfc at h; split at h <;> first | rfl | cases h
def tyIs (T : List (Option Ty)) (t : TypeId) (f : TD → Bool) : Bool := match getO T t with | some y => f y.d | none => false
theorem tyIs_eq {T : List (Option Ty)} {t : TypeId} {f : TD → Bool} (h : tyIs T t f = true) : ∃ y, getO T t = some y ∧ f y.d = true := by
  unfold tyIs at h
  cases hy : getO T t with
  | none => simp [hy] at h
  | some y => exact ⟨y, rfl, by simpa [hy] using h⟩
def isPtrD : TD → Bool | .ptr _ => true | _ => false
def isIfcD : TD → Bool | .ifc => true | _ => false
def isBoolD : TD → Bool | .bool => true | _ => false
def isStrD : TD → Bool | .str => true | _ => false
def isSlD : TD → Bool | .sl _ => true | _ => false
def xBin (op : BinOp) (t : TypeId) (x y : Operand) (ty : TypeId) : R := evK st.fr x fun a => evK st.fr y fun b =>
  match a with
  | .v (.int p m) => match b with
    | .v (.int q n) => match shlike op with
      | true => M.sh op p m n fun r => k (aP o st.fr [x, y] (.v r))
      | false => chk M (Nat.beq (ikn p) (ikn q)) (xint M op p m n fun r => k (aP o st.fr [x, y] (.v r)))
    | _ => M.act o st k
  | .v (.string m) => match b with
    | .v (.string n) => xstr M op m n fun r => k (aP o st.fr [x, y] (.v r))
    | _ => M.act o st k
  | .v (.bool m) => match b with
    | .v (.bool n) => chk M (eqlike op && tyIs T t isBoolD) (k (aP o st.fr [x, y] (.v (.bool (eqR op (m == n))))))
    | _ => M.act o st k
  | .v (.pointer p) => match b with
    | .v (.pointer none) => chk M (eqlike op && tyIs T t isPtrD) (k (aP o st.fr [x, y] (.v (.bool (eqR op p.isNone)))))
    | _ => M.act o st k
  | .ref c q off => match b with
    | .v (.pointer none) => chk M (eqlike op && tyIs T t isPtrD) (k (aP o st.fr [x, y] (.v (.bool (eqR op false)))))
    | _ => M.act o st k
  | .v .nilIface => chk M (eqlike op && tyIs T t isIfcD && isNilIfc y) (k (aP o st.fr [x, y] (.v (.bool (eqR op true)))))
  | .v (.iface q r) => match isNilIfc y with
    | true => chk M (eqlike op && tyIs T t isIfcD) (k (aP o st.fr [x, y] (.v (.bool (eqR op false)))))
    | false => M.act o st k
  | _ => M.act o st k
def xUn (op : UnOp) (x : Operand) : R := evK st.fr x fun a =>
  match op, a with
  | .not, .v (.bool b) => k (aP o st.fr [x] (.v (.bool (!b))))
  | .neg, .v (.int kd n) => M.int (kd.wrap (0 - n)) fun m => k (aP o st.fr [x] (.v (.int kd m)))
  | _, _ => M.act o st k
def xConv (s t : TypeId) (x : Operand) : R := evK st.fr x fun a =>
  match getO T s, getO T t with
  | some ys, some y => match a, y.d with
    | .v (.int kd n), .int kt => M.int (kt.wrap n) fun m => k (aP o st.fr [x] (.v (.int kt m)))
    | .v (.string u), .str => k (aP o st.fr [x] (.v (.string u)))
    | _, _ => M.act o st k
  | _, _ => M.act o st k
def xNil (x : Operand) : R := evK st.fr x fun a =>
  match a with
  | .ref c q off => k (aP o st.fr [x] (.ref c q off))
  | .v (.pointer (some p)) => k (aP o st.fr [x] (.v (.pointer (some p))))
  | .fn (.func f) l => k (aP o st.fr [x] (.fn (.func f) l))
  | _ => M.act o st k
def szNe (y : Ty) : Bool := match y.size with | 0 => false | _ => true
def xFa (s : TypeId) (x : Operand) (f : Nat) : R := evK st.fr x fun a =>
  match fieldOf T s f with
  | some (off, yf) => chk M (szNe yf) (match a with
    | .ref c q o1 => k (aP o st.fr [x] (.ref c q (o1 + off)))
    | .v (.pointer (some ⟨b, o1, none⟩)) => k (aP o st.fr [x] (.v (.pointer (some ⟨b, o1 + off, none⟩))))
    | _ => M.act o st k)
  | none => M.no
def xField (s : TypeId) (x : Operand) (f : Nat) : R := evK st.fr x fun a =>
  match fieldOf T s f with
  | some (off, yf) => chk M (aggd yf || Nat.beq yf.size 1) (match a with
    | .agg l => match subL l off yf.size with
      | some r => mkK yf r fun b => k (aP o st.fr [x] b)
      | none => M.no
    | .v (.agg l) => match subL (l.toList.map .v) off yf.size with
      | some r => mkK yf r fun b => k (aP o st.fr [x] b)
      | none => M.no
    | _ => M.act o st k)
  | none => M.no
def xLoad (t : TypeId) (x : Operand) : R := evK st.fr x fun a =>
  match a with
  | .ref c q off => match getO st.ch c, getO T t with
    | some ck, some y => chk M (rdK ck.kind) (chk M (aggd y || Nat.beq y.size 1) (Ver M q ck (M.ld (subL ck.cells off y.size) fun l => mkK y l fun b => k (aR o st.fr [x] c ck b))))
    | _, _ => M.no
  | _ => M.act o st k
def withC {R : Type} (ck : Chunk) (l : List AV) (k : Chunk → R) : R := match ck with | ⟨a, b, c, d, _⟩ => k ⟨a, b, c, d, l⟩
theorem withC_eq {R : Type} (ck : Chunk) (l : List AV) (k : Chunk → R) : withC ck l k = k ⟨ck.kind, ck.ty, ck.esz, ck.ver, l⟩ := rfl
def xStore (t : TypeId) (x z : Operand) : R := evK st.fr x fun a => evK st.fr z fun b =>
  match a with
  | .ref c q off => match getO st.ch c, getO T t, o.dst with
    | some ck, some y, none => chk M (ck.celled && szNe y) (Ver M q ck (celK b fun ys => chk M (Nat.beq ys.length y.size && ys.all one) (M.ld (putL ck.cells off ys) fun l =>
        withC ck l fun ck' => k (aW o st.fr [x, z] c ck ck' .dead))))
    | _, _, _ => M.no
  | _ => M.act o st k
def xAlloc (t : TypeId) : R :=
  match o.dst, getO T t with
  | some d, some y => M.ix d st.ch fun d => match getO st.ch d with
    | none => chk M (sizeOk T y && Nat.beq y.zero.length y.size) (mapVK y.zero fun z => ezcK T y fun es => k (aN o st.fr [] d ⟨.own, t, es, 0, z⟩ (.ref d 0 0)))
    | some _ => M.no
  | _, _ => M.no
def xBox (t : TypeId) (x : Operand) : R := evK st.fr x fun a =>
  match o.dst, getO T t with
  | some d, some y => M.ix d st.ch fun d => match getO st.ch d with
    | none => celK a fun ys => chk M (sizeOk T y && Nat.beq ys.length y.size && !isDead a) (ezcK T y fun es => k (aN o st.fr [x] d ⟨.own, t, es, 0, ys⟩ (.ref d 0 0)))
    | some _ => M.no
  | _, _ => M.no
def evPK (fr : List AV) : List (Nat × Operand) → (List (Nat × AV) → R) → R
  | [], k => k []
  | (i, x) :: r, k => evK fr x fun a => evPK fr r fun l => k ((i, a) :: l)
theorem evPK_eq (fr : List AV) : ∀ (l : List (Nat × Operand)) (k : List (Nat × AV) → R), evPK fr l k = k (evP fr l)
  | [], _ => rfl
  | (i, x) :: r, k => by simp only [evPK, evK_eq]; rw [evPK_eq fr r]; rfl
def xBuild (t : TypeId) (ps : List (Nat × Operand)) : R :=
  match getO T t with
  | some y => match y.d with
    | .st fs => chk M (fs.all fun f => (getO T f.2).isSome) (mapVK y.zero fun z => evPK st.fr ps fun parts => chk M (noDead parts) (match fillA (placeS T fs) z parts with
      | some r => k (aP o st.fr (ps.map (·.2)) (.agg r))
      | none => M.no))
    | .arr n e => match getO T e with
      | some ye => mapVK y.zero fun z => evPK st.fr ps fun parts => chk M (noDead parts) (match fillA (fun i => some (i * ye.size, ye.size)) z parts with
        | some r => k (aP o st.fr (ps.map (·.2)) (.agg r))
        | none => M.no)
      | none => M.no
    | _ => M.no
  | none => M.no
def rangeK : Nat → List Nat → (List Nat → R) → R
  | 0, acc, k => k acc
  | n + 1, acc, k => rangeK n (n :: acc) k
def zeroL (z : List Value) (n : Nat) : List AV := (List.range n).map fun i => .v (z.getD (i % z.length) undef)
def xBuildSlice (t : TypeId) (n : Nat) (ps : List (Nat × Operand)) : R :=
  match getO T t, o.dst with
  | some y, some d => match y.d with
    | .sl e => M.ix d st.ch fun d => match getO T e, getO st.ch d with
      | some ye, none => chk M (Nat.beq ye.zero.length ye.size && Nat.ble (n * ye.size) 16777216 && szNe ye) (evPK st.fr ps fun parts => chk M (noDead parts) (
          match fillA (fun i => some (i * ye.size, ye.size)) ((List.range (n * ye.size)).map fun i => .v (ye.zero.getD (i % ye.size) undef)) parts with
          | some r => k (aN o st.fr (ps.map (·.2)) d ⟨.row, e, ye.size, 0, r⟩ (.sl d 0 0 n))
          | none => M.no))
      | _, _ => M.no
    | _ => M.no
  | _, _ => M.no
def xIa (t : TypeId) (x i : Operand) : R := evK st.fr x fun a => evK st.fr i fun b =>
  match b with
  | .v (.int kd q) => match getO T t with
    | some y => match a with
      | .sl c kv lo n => match y.d, getO st.ch c with
        | .sl e, some ck => match getO T e with
          | some ye => chk M (rdK ck.kind && Nat.beq ye.size ck.esz) (Ver M kv ck (M.need (0 ≤ q ∧ q < n) (k (aR o st.fr [x, i] c ck (.ref c kv (lo * ck.esz + q.toNat * ck.esz))))))
          | none => M.no
        | _, _ => M.no
      | .ref c kv off => match y.d with
        | .arr n e => match getO T e with
          | some ye => M.need (0 ≤ q ∧ q < n) (k (aP o st.fr [x, i] (.ref c kv (off + q.toNat * ye.size))))
          | none => M.no
        | _ => M.no
      | .v (.slice (some ⟨b, o1, none⟩) n _) => match y.d with
        | .sl e => match getO T e with
          | some ye => M.need (0 ≤ q ∧ q < n) (k (aP o st.fr [x, i] (.v (.pointer (some ⟨b, o1 + q.toNat * ye.size, none⟩)))))
          | none => M.no
        | _ => M.no
      | _ => M.act o st k
    | none => M.no
  | _ => M.act o st k
def xIx (t : TypeId) (x i : Operand) : R := evK st.fr x fun a => evK st.fr i fun b =>
  match a, b with
  | .v (.string s), .v (.int kd q) => chk M (tyIs T t isStrD) (M.need (0 ≤ q ∧ q < s.size) (k (aP o st.fr [x, i] (.v (.int .u8 (bAt s q))))))
  | _, _ => M.act o st k
def bndK (fr : List AV) (d : Int) (x : Option Operand) (k : Int → R) : R :=
  match x with
  | none => k d
  | some x => evK fr x fun a => match a with
    | .v (.int _ n) => k n
    | _ => M.no
theorem bndK_eq {R : Type} {M : NA R} {H : R → Prop} {X : Ctx} (hM : M.Ok H X) {fr : List AV} {d : Int} {x : Option Operand} {k : Int → R} (h : H (bndK M fr d x k)) : ∃ q, bnd fr d x = some q ∧ H (k q) := by
  cases x with
  | none => exact ⟨d, rfl, h⟩
  | some x =>
    simp only [bndK, evK_eq] at h
    simp only [bnd]
    split at h
    · rename_i q n he
      try rw [he]
      exact ⟨n, rfl, h⟩
    · exact (hM.no h).elim
def isOwn : CK → Bool | .own => true | _ => false
theorem isOwn_eq {c : CK} (h : isOwn c = true) : c = .own := by cases c <;> simp [isOwn] at h ⊢
def xSlice (t : TypeId) (x : Operand) (lo hi mx : Option Operand) : R :=
  match mx with
  | some _ => M.act o st k
  | none => evK st.fr x fun a => match getO T t with
    | none => M.no
    | some y => match a with
      | .v (.string s) => chk M (isStrD y.d) (bndK M st.fr 0 lo fun l => bndK M st.fr s.size hi fun h => M.need (0 ≤ l ∧ l ≤ h ∧ h ≤ s.size) (M.ext s l.toNat h.toNat fun r => k (aP o st.fr (x :: (lo.toList ++ hi.toList)) (.v (.string r)))))
      | .sl c kv l0 n => match y.d, getO st.ch c with
        | .sl e, some ck => match getO T e with
          | some ye => chk M (Nat.beq ye.size ck.esz) (Ver M kv ck (bndK M st.fr 0 lo fun l => bndK M st.fr n hi fun h => M.need (0 ≤ l ∧ l ≤ h ∧ h ≤ n) (M.nat (l0 + l.toNat) fun l1 => M.nat (h.toNat - l.toNat) fun h1 => k (aR o st.fr (x :: (lo.toList ++ hi.toList)) c ck (.sl c kv l1 h1)))))
          | none => M.no
        | _, _ => M.no
      | .ref c kv off => match off, y.d, getO st.ch c with
        | 0, .arr n e, some ck => match getO T e with
          | some ye => chk M (isOwn ck.kind && Nat.beq ye.size ck.esz && szNe ye && Nat.beq ck.cells.length (n * ck.esz)) (Ver M kv ck (bndK M st.fr 0 lo fun l => bndK M st.fr n hi fun h => M.need (0 ≤ l ∧ l ≤ h ∧ h ≤ n) (M.nat l.toNat fun l1 => M.nat (h.toNat - l.toNat) fun h1 => k (aR o st.fr (x :: (lo.toList ++ hi.toList)) c ck (.sl c kv l1 h1)))))
          | none => M.no
        | _, _, _ => M.act o st k
      | _ => M.act o st k
def xExtract (x : Operand) (i : Nat) : R := evK st.fr x fun a =>
  match a with
  | .tup l => match l[i]? with
    | some r => k (aP o st.fr [x] r)
    | none => M.no
  | .v (.tuple l) => match l.toList[i]? with
    | some r => k (aP o st.fr [x] (.v r))
    | none => M.no
  | _ => M.act o st k
def xMkIfc (t : TypeId) (x : Operand) : R := evK st.fr x fun a => chk M (notIfc T t) (
  match a with
  | .v u => k (aP o st.fr [x] (.v (.iface t u)))
  | a => k (aP o st.fr [x] (.ifc t a)))
def evLK (fr : List AV) : List Operand → (List AV → R) → R
  | [], k => k []
  | x :: r, k => evK fr x fun a => evLK fr r fun l => k (a :: l)
theorem evLK_eq (fr : List AV) : ∀ (l : List Operand) (k : List AV → R), evLK fr l k = k (l.map (evA fr))
  | [], _ => rfl
  | x :: r, k => by simp only [evLK, evK_eq]; rw [evLK_eq fr r]; rfl
def xMkFunc (f : Fn) (l : List Operand) : R := evLK st.fr l fun as => k (aP o st.fr l (.fn f as))
def xLen (t : TypeId) (x : Operand) : R := evK st.fr x fun a =>
  match getO T t with
  | none => M.no
  | some y => match a with
    | .v (.string s) => chk M (isStrD y.d) (k (aP o st.fr [x] (.v (.int .i64 s.size))))
    | .sl c kv lo n => match getO st.ch c with
      | some ck => chk M (isSlD y.d) (Ver M kv ck (k (aR o st.fr [x] c ck (.v (.int .i64 n)))))
      | none => M.no
    | .v (.slice _ n _) => chk M (isSlD y.d) (k (aP o st.fr [x] (.v (.int .i64 n))))
    | _ => M.act o st k

def xop : R :=
  match o.op with
  | .move x | .assign x => xMove o st k x
  | .pick c x y => xPick M o st k c x y
  | .binOp op t x y ty => xBin M T o st k op t x y ty
  | .unOp op _ x => xUn M o st k op x
  | .convert s t x => xConv M T o st k s t x
  | .nilCheck x => xNil M o st k x
  | .fieldAddr s x f => xFa M T o st k s x f
  | .field s x f => xField M T o st k s x f
  | .load t x => xLoad M T o st k t x
  | .store t x z => xStore M T o st k t x z
  | .alloc t => xAlloc M T o st k t
  | .box t x => xBox M T o st k t x
  | .build t ps => xBuild M T o st k t ps.toList
  | .buildSlice t n ps => xBuildSlice M T o st k t n ps.toList
  | .indexAddr t x i => xIa M T o st k t x i
  | .index t x i => xIx M T o st k t x i
  | .slice t x lo hi mx => xSlice M T o st k t x lo hi mx
  | .extract x i => xExtract M o st k x i
  | .makeInterface t x => xMkIfc M T o st k t x
  | .makeFunc f first cap => match first.toList with
    | [] => xMkFunc o st k f cap.toList
    | _ => M.act o st k
  | .call { callee := .builtin .len, args, argTypes } => match args.toList, argTypes.toList with
    | [x], [t] => xLen M T o st k t x
    | _, _ => M.act o st k
  | _ => M.act o st k
end
end Go.SX
set_option linter.unusedSimpArgs false
set_option linter.unusedVariables false
namespace Go.SX

section
variable {R : Type} {M : NA R} {H : R → Prop} {X : Ctx} {o : Oper} {st : St} {k : Actn → R}

theorem xMove_ok (hM : M.Ok H X) {x : Operand} (ho : o.op = .move x ∨ o.op = .assign x) (h : H (xMove o st k x)) : ActN X o st (fun A => H (k A)) := by
  unfold xMove at h; rw [evK_eq] at h; exact x_move ho h
theorem xPick_ok (hM : M.Ok H X) {c x y : Operand} (ho : o.op = .pick c x y) (h : H (xPick M o st k c x y)) : ActN X o st (fun A => H (k A)) := by
  unfold xPick at h
  simp only [evK_eq] at h
  split at h
  · rename_i p hp
    split at h
    · rename_i q r hq hr
      exact x_pick ho hp hq hr h
    · cases p with
      | true => exact x_pick_t ho hp h
      | false => exact x_pick_f ho hp h
  · exact (hM.no h).elim
theorem eqlike_eq {op : BinOp} (h : eqlike op = true) : op = .eql ∨ op = .neq := by cases op <;> simp [eqlike] at h ⊢
theorem xBin_ok (hM : M.Ok H X) (hT : X.ok) {op : BinOp} {t ty : TypeId} {x y : Operand} (ho : o.op = .binOp op t x y ty) (h : H (xBin M X.T o st k op t x y ty)) : ActN X o st (fun A => H (k A)) := by
  unfold xBin at h
  simp only [evK_eq] at h
  split at h
  · rename_i p m hp
    split at h
    · rename_i q n hq
      split at h
      · obtain ⟨r, h1, h2⟩ := sh_run hM (P := X.P) (t := t) (x := x) (y := y) (kd' := q) h
        exact x_bin ho hp hq h2 h1
      · obtain ⟨hk, hx⟩ := chk_eq hM h
        cases ikn_inj hk
        obtain ⟨r, h1, h2⟩ := xint_run hM (P := X.P) (t := t) (x := x) (y := y) hx
        exact x_bin ho hp hq h2 h1
    · exact hM.act h
  · rename_i m hp
    split at h
    · rename_i n hq
      obtain ⟨r, h1, h2⟩ := xstr_run hM (P := X.P) (t := t) (x := x) (y := y) h
      exact x_bin ho hp hq h2 h1
    · exact hM.act h
  · rename_i m hp
    split at h
    · rename_i n hq
      obtain ⟨hk, h⟩ := chk_eq hM h
      simp only [Bool.and_eq_true] at hk
      obtain ⟨ys, e1, e2⟩ := tyIs_eq hk.2
      refine x_eq_bool hT op (eqlike_eq hk.1) ho hp hq e1 ?_ h
      cases hd : ys.d <;> simp [hd, isBoolD] at e2 ⊢
    · exact hM.act h
  · rename_i p hp
    split at h
    · rename_i hq
      obtain ⟨hk, h⟩ := chk_eq hM h
      simp only [Bool.and_eq_true] at hk
      obtain ⟨ys, e1, e2⟩ := tyIs_eq hk.2
      cases hd : ys.d <;> simp [hd, isPtrD] at e2
      exact x_eq_ptr_nil hT op (eqlike_eq hk.1) ho hp hq e1 hd h
    · exact hM.act h
  · rename_i c q off hp
    split at h
    · rename_i hq
      obtain ⟨hk, h⟩ := chk_eq hM h
      simp only [Bool.and_eq_true] at hk
      obtain ⟨ys, e1, e2⟩ := tyIs_eq hk.2
      cases hd : ys.d <;> simp [hd, isPtrD] at e2
      exact x_eq_ref_nil hT op (eqlike_eq hk.1) ho hp hq e1 hd h
    · exact hM.act h
  · rename_i hp
    obtain ⟨hk, h⟩ := chk_eq hM h
    simp only [Bool.and_eq_true] at hk
    obtain ⟨ys, e1, e2⟩ := tyIs_eq hk.1.2
    cases hd : ys.d <;> simp [hd, isIfcD] at e2
    exact x_eq_ifc_nil hT op (eqlike_eq hk.1.1) ho hp (isNilIfc_eq hk.2) (.inl rfl) e1 hd h
  · rename_i q r hp
    split at h
    · rename_i hq
      obtain ⟨hk, h⟩ := chk_eq hM h
      simp only [Bool.and_eq_true] at hk
      obtain ⟨ys, e1, e2⟩ := tyIs_eq hk.2
      cases hd : ys.d <;> simp [hd, isIfcD] at e2
      exact x_eq_ifc_nil hT op (eqlike_eq hk.1) ho hp (isNilIfc_eq hq) (.inr ⟨q, r, rfl⟩) e1 hd h
    · exact hM.act h
  · exact hM.act h
theorem xUn_ok (hM : M.Ok H X) {op : UnOp} {t : TypeId} {x : Operand} (ho : o.op = .unOp op t x) (h : H (xUn M o st k op x)) : ActN X o st (fun A => H (k A)) := by
  unfold xUn at h
  simp only [evK_eq] at h
  split at h
  · rename_i hp; exact x_not ho hp h
  · rename_i hp; exact x_neg ho hp rfl (hM.int h)
  · exact hM.act h
theorem xConv_ok (hM : M.Ok H X) (hT : X.ok) {s t : TypeId} {x : Operand} (ho : o.op = .convert s t x) (h : H (xConv M X.T o st k s t x)) : ActN X o st (fun A => H (k A)) := by
  unfold xConv at h
  simp only [evK_eq] at h
  split at h
  · rename_i ys y h1 h2
    split at h
    · rename_i hp hd; exact x_conv_int hT ho hp h1 h2 hd (Nm.keep (f := fun m => H (k (aP o st.fr [x] (AV.v (Value.int _ m))))) (hM.int h))
    · rename_i hp hd; exact x_conv_str hT ho hp h1 h2 hd h
    · exact hM.act h
  · exact hM.act h
theorem xNil_ok (hM : M.Ok H X) {x : Operand} (ho : o.op = .nilCheck x) (h : H (xNil M o st k x)) : ActN X o st (fun A => H (k A)) := by
  unfold xNil at h
  simp only [evK_eq] at h
  split at h
  · rename_i hp; exact x_nil_ref ho hp h
  · rename_i hp; exact x_nil_ptr ho hp h
  · rename_i hp; exact x_nil_fn ho hp h
  · exact hM.act h
theorem szNe_eq {y : Ty} (h : szNe y = true) : y.size ≠ 0 := by
  unfold szNe at h; split at h <;> simp_all
theorem xFa_ok (hM : M.Ok H X) (hT : X.ok) {s f : Nat} {x : Operand} (ho : o.op = .fieldAddr s x f) (h : H (xFa M X.T o st k s x f)) : ActN X o st (fun A => H (k A)) := by
  unfold xFa at h
  simp only [evK_eq] at h
  split at h
  · rename_i off yf hf
    obtain ⟨hz, h⟩ := chk_eq hM h
    split at h
    · rename_i hp; exact x_fa_ref hT ho hp hf (szNe_eq hz) h
    · rename_i hp; exact x_fa_ptr hT ho hp hf (szNe_eq hz) h
    · exact hM.act h
  · exact (hM.no h).elim
theorem aggz {y : Ty} (h : (aggd y || Nat.beq y.size 1) = true) : aggd y = false → y.size = 1 := by
  intro h0
  rw [h0] at h
  exact Nat.eq_of_beq_eq_true (by simpa using h)
theorem xField_ok (hM : M.Ok H X) (hT : X.ok) {s f : Nat} {x : Operand} (ho : o.op = .field s x f) (h : H (xField M X.T o st k s x f)) : ActN X o st (fun A => H (k A)) := by
  unfold xField at h
  simp only [evK_eq] at h
  split at h
  · rename_i off yf hf
    obtain ⟨hz, h⟩ := chk_eq hM h
    split at h
    · rename_i l hp
      split at h
      · rename_i r hr
        rw [mkK_eq] at h
        exact x_field hT ho hp hf (aggz hz) hr h
      · exact (hM.no h).elim
    · rename_i l hp
      split at h
      · rename_i r hr
        rw [mkK_eq] at h
        exact x_field_v hT ho hp hf (aggz hz) hr h
      · exact (hM.no h).elim
    · exact hM.act h
  · exact (hM.no h).elim
theorem xLoad_ok (hM : M.Ok H X) (hT : X.ok) {t : TypeId} {x : Operand} (ho : o.op = .load t x) (h : H (xLoad M X.T o st k t x)) : ActN X o st (fun A => H (k A)) := by
  unfold xLoad at h
  simp only [evK_eq] at h
  split at h
  · rename_i c q off hp
    split at h
    · rename_i ck y hc hy
      obtain ⟨h1, h⟩ := chk_eq hM h
      obtain ⟨h2, h⟩ := chk_eq hM h
      obtain ⟨h3, h⟩ := Ver_eq hM h
      obtain ⟨l, h4, h⟩ := hM.ld h
      rw [mkK_eq] at h
      exact x_load hT ho hp hc h3 (rdK_eq h1) hy (aggz h2) h4 h
    · exact (hM.no h).elim
  · exact hM.act h
theorem xStore_ok (hM : M.Ok H X) (hT : X.ok) {t : TypeId} {x z : Operand} (ho : o.op = .store t x z) (h : H (xStore M X.T o st k t x z)) : ActN X o st (fun A => H (k A)) := by
  unfold xStore at h
  simp only [evK_eq] at h
  split at h
  · rename_i c q off hp
    split at h
    · rename_i ck y hc hy hd
      obtain ⟨h1, h⟩ := chk_eq hM h
      obtain ⟨h2, h⟩ := Ver_eq hM h
      rw [celK_eq] at h
      obtain ⟨h3, h⟩ := chk_eq hM h
      obtain ⟨l, h4, h⟩ := hM.ld h
      rw [withC_eq] at h
      simp only [Bool.and_eq_true] at h1 h3
      exact x_store hT ho hd hp hc h2 h1.1 hy (Nat.eq_of_beq_eq_true h3.1) h3.2 (szNe_eq h1.2) h4 h
    · exact (hM.no h).elim
  · exact hM.act h
theorem sizeOk_eq {T : List (Option Ty)} {y : Ty} (h : sizeOk T y = true) : y.size = (ezc T y).2 * (ezc T y).1 := Nat.eq_of_beq_eq_true h
theorem xAlloc_ok (hM : M.Ok H X) (hT : X.ok) {t : TypeId} (ho : o.op = .alloc t) (h : H (xAlloc M X.T o st k t)) : ActN X o st (fun A => H (k A)) := by
  unfold xAlloc at h
  split at h
  · rename_i d' y hd hy
    obtain ⟨d, h⟩ := hM.ix h
    split at h
    · rename_i hc
      obtain ⟨h1, h⟩ := chk_eq hM h
      simp only [Bool.and_eq_true] at h1
      rw [mapVK_eq, ezcK_eq] at h
      exact x_alloc hT ho hy hc (sizeOk_eq h1.1) (Nat.eq_of_beq_eq_true h1.2) h
    · exact (hM.no h).elim
  · exact (hM.no h).elim
theorem xBox_ok (hM : M.Ok H X) (hT : X.ok) {t : TypeId} {x : Operand} (ho : o.op = .box t x) (h : H (xBox M X.T o st k t x)) : ActN X o st (fun A => H (k A)) := by
  unfold xBox at h
  simp only [evK_eq] at h
  split at h
  · rename_i d' y hd hy
    obtain ⟨d, h⟩ := hM.ix h
    split at h
    · rename_i hc
      rw [celK_eq] at h
      obtain ⟨h1, h⟩ := chk_eq hM h
      simp only [Bool.and_eq_true] at h1
      rw [ezcK_eq] at h
      exact x_box hT ho hy hc (sizeOk_eq h1.1.1) (Nat.eq_of_beq_eq_true h1.1.2) (fun e => by rw [e] at h1; simp [isDead] at h1) h
    · exact (hM.no h).elim
  · exact (hM.no h).elim
theorem xBuild_ok (hM : M.Ok H X) (hT : X.ok) {t : TypeId} {ps : Array (Nat × Operand)} (ho : o.op = .build t ps) (h : H (xBuild M X.T o st k t ps.toList)) : ActN X o st (fun A => H (k A)) := by
  have ho' : o.op = .build t ps.toList.toArray := by simpa using ho
  unfold xBuild at h
  split at h
  · rename_i y hy
    split at h
    · rename_i fs hd
      obtain ⟨h1, h⟩ := chk_eq hM h
      rw [mapVK_eq, evPK_eq] at h
      obtain ⟨h2, h⟩ := chk_eq hM h
      split at h
      · rename_i r hr; exact x_build_st hT ho' hy hd h1 h2 hr h
      · exact (hM.no h).elim
    · rename_i n e hd
      split at h
      · rename_i ye hye
        rw [mapVK_eq, evPK_eq] at h
        obtain ⟨h2, h⟩ := chk_eq hM h
        split at h
        · rename_i r hr; exact x_build_arr hT ho' hy hd hye h2 hr h
        · exact (hM.no h).elim
      · exact (hM.no h).elim
    · exact (hM.no h).elim
  · exact (hM.no h).elim
theorem xBuildSlice_ok (hM : M.Ok H X) (hT : X.ok) {t : TypeId} {n : Nat} {ps : Array (Nat × Operand)} (ho : o.op = .buildSlice t n ps) (h : H (xBuildSlice M X.T o st k t n ps.toList)) : ActN X o st (fun A => H (k A)) := by
  have ho' : o.op = .buildSlice t n ps.toList.toArray := by simpa using ho
  unfold xBuildSlice at h
  split at h
  · rename_i y d' hy hd
    split at h
    · rename_i e hyd
      obtain ⟨d, h⟩ := hM.ix h
      split at h
      · rename_i ye hye hc
        obtain ⟨h1, h⟩ := chk_eq hM h
        rw [evPK_eq] at h
        obtain ⟨h2, h⟩ := chk_eq hM h
        simp only [Bool.and_eq_true] at h1
        split at h
        · rename_i r hr
          exact x_buildSlice hT ho' hy hyd hye hc (Nat.eq_of_beq_eq_true h1.1.1) (Nat.le_of_ble_eq_true h1.1.2) (Nat.pos_of_ne_zero (szNe_eq h1.2)) h2 hr h
        · exact (hM.no h).elim
      · exact (hM.no h).elim
    · exact (hM.no h).elim
  · exact (hM.no h).elim
theorem xIa_ok (hM : M.Ok H X) (hT : X.ok) {t : TypeId} {x i : Operand} (ho : o.op = .indexAddr t x i) (h : H (xIa M X.T o st k t x i)) : ActN X o st (fun A => H (k A)) := by
  unfold xIa at h
  simp only [evK_eq] at h
  split at h
  · rename_i kd q hi
    split at h
    · rename_i y hy
      split at h
      · rename_i c kv lo n hp
        split at h
        · rename_i e ck hyd hc
          split at h
          · rename_i ye hye
            obtain ⟨h1, h⟩ := chk_eq hM h
            simp only [Bool.and_eq_true] at h1
            obtain ⟨h2, h⟩ := Ver_eq hM h
            exact x_ia_sl hT ho hp hi hc h2 (rdK_eq h1.1) hy hyd hye (Nat.eq_of_beq_eq_true h1.2) (hM.need h).1 (hM.need h).2
          · exact (hM.no h).elim
        · exact (hM.no h).elim
      · rename_i c kv off hp
        split at h
        · rename_i n e hyd
          split at h
          · rename_i ye hye; exact x_ia_arr hT ho hp hi hy hyd hye (hM.need h).1 (hM.need h).2
          · exact (hM.no h).elim
        · exact (hM.no h).elim
      · rename_i b o1 n cap hp
        split at h
        · rename_i e hyd
          split at h
          · rename_i ye hye; exact x_ia_ext hT ho hp hi hy hyd hye (hM.need h).1 (hM.need h).2
          · exact (hM.no h).elim
        · exact (hM.no h).elim
      · exact hM.act h
    · exact (hM.no h).elim
  · exact hM.act h
theorem isStrD_eq {y : Ty} (h : isStrD y.d = true) : y.d = .str := by cases hd : y.d <;> simp [hd, isStrD] at h ⊢
theorem xIx_ok (hM : M.Ok H X) (hT : X.ok) {t : TypeId} {x i : Operand} (ho : o.op = .index t x i) (h : H (xIx M X.T o st k t x i)) : ActN X o st (fun A => H (k A)) := by
  unfold xIx at h
  simp only [evK_eq] at h
  split at h
  · rename_i s kd q hp hi
    obtain ⟨h1, h⟩ := chk_eq hM h
    obtain ⟨y, e1, e2⟩ := tyIs_eq h1
    exact x_index_str hT ho hp hi e1 (isStrD_eq e2) (hM.need h).1 (hM.need h).2
  · exact hM.act h
theorem xSlice_ok (hM : M.Ok H X) (hT : X.ok) {t : TypeId} {x : Operand} {lo hi mx : Option Operand} (ho : o.op = .slice t x lo hi mx) (h : H (xSlice M X.T o st k t x lo hi mx)) : ActN X o st (fun A => H (k A)) := by
  unfold xSlice at h
  simp only [evK_eq] at h
  split at h
  · exact hM.act h
  · split at h
    · exact (hM.no h).elim
    · rename_i y hy
      split at h
      · rename_i s hp
        obtain ⟨h1, h⟩ := chk_eq hM h
        obtain ⟨l, hl, h⟩ := bndK_eq hM h
        obtain ⟨h2, hh, h⟩ := bndK_eq hM h
        exact x_slice_str hT ho hp hy (isStrD_eq h1) hl hh (hM.need h).1 (hM.ext (hM.need h).2)
      · rename_i c kv l0 n hp
        split at h
        · rename_i e ck hyd hc
          split at h
          · rename_i ye hye
            obtain ⟨h1, h⟩ := chk_eq hM h
            obtain ⟨h2, h⟩ := Ver_eq hM h
            obtain ⟨l, hl, h⟩ := bndK_eq hM h
            obtain ⟨h3, hh, h⟩ := bndK_eq hM h
            exact x_slice_sl hT ho hp hc h2 hy hyd hye (Nat.eq_of_beq_eq_true h1) hl hh (hM.need h).1 (hM.nat (hM.nat (hM.need h).2))
          · exact (hM.no h).elim
        · exact (hM.no h).elim
      · rename_i c kv off hp
        split at h
        · rename_i n e ck hyd hc
          split at h
          · rename_i ye hye
            obtain ⟨h1, h⟩ := chk_eq hM h
            simp only [Bool.and_eq_true] at h1
            obtain ⟨h2, h⟩ := Ver_eq hM h
            obtain ⟨l, hl, h⟩ := bndK_eq hM h
            obtain ⟨h3, hh, h⟩ := bndK_eq hM h
            have e1 := Nat.eq_of_beq_eq_true h1.1.1.2
            exact x_slice_arr hT ho hp hc h2 (isOwn_eq h1.1.1.1) hy hyd hye e1 (by rw [← e1]; exact Nat.pos_of_ne_zero (szNe_eq h1.1.2)) (Nat.eq_of_beq_eq_true h1.2) hl hh (hM.need h).1 (hM.nat (hM.nat (hM.need h).2))
          · exact (hM.no h).elim
        · exact hM.act h
      · exact hM.act h
theorem xExtract_ok (hM : M.Ok H X) {x : Operand} {i : Nat} (ho : o.op = .extract x i) (h : H (xExtract M o st k x i)) : ActN X o st (fun A => H (k A)) := by
  unfold xExtract at h
  simp only [evK_eq] at h
  split at h
  · rename_i l hp
    split at h
    · rename_i r hr; exact x_extract ho hp hr h
    · exact (hM.no h).elim
  · rename_i l hp
    split at h
    · rename_i r hr; exact x_extract_v (l := l.toList) ho (by simpa using hp) hr h
    · exact (hM.no h).elim
  · exact hM.act h
theorem xMkIfc_ok (hM : M.Ok H X) (hT : X.ok) {t : TypeId} {x : Operand} (ho : o.op = .makeInterface t x) (h : H (xMkIfc M X.T o st k t x)) : ActN X o st (fun A => H (k A)) := by
  unfold xMkIfc at h
  simp only [evK_eq] at h
  obtain ⟨h1, h⟩ := chk_eq hM h
  split at h
  · rename_i u hp; exact x_mkifc_v hT ho hp h1 h
  · exact x_mkifc_a hT ho h1 h
theorem xMkFunc_ok (hM : M.Ok H X) {f : Fn} {first cap : Array Operand} (ho : o.op = .makeFunc f first cap) (hf : first.toList = []) (h : H (xMkFunc o st k f cap.toList)) : ActN X o st (fun A => H (k A)) := by
  unfold xMkFunc at h
  rw [evLK_eq] at h
  have e : first = #[] := by simpa using hf
  exact x_mkfunc (l := cap.toList) (by rw [ho, e]) h
theorem isSlD_eq {y : Ty} (h : isSlD y.d = true) : ∃ e, y.d = .sl e := by cases hd : y.d <;> simp [hd, isSlD] at h ⊢
theorem xLen_ok (hM : M.Ok H X) (hT : X.ok) {t : TypeId} {x : Operand} (ho : o.op = .call { callee := .builtin .len, args := [x].toArray, argTypes := [t].toArray }) (h : H (xLen M X.T o st k t x)) : ActN X o st (fun A => H (k A)) := by
  unfold xLen at h
  simp only [evK_eq] at h
  split at h
  · exact (hM.no h).elim
  · rename_i y hy
    split at h
    · rename_i s hp
      obtain ⟨h1, h⟩ := chk_eq hM h
      exact x_len_str hT ho hp hy (isStrD_eq h1) h
    · rename_i c kv lo n hp
      split at h
      · rename_i ck hc
        obtain ⟨h1, h⟩ := chk_eq hM h
        obtain ⟨e, h1⟩ := isSlD_eq h1
        obtain ⟨h2, h⟩ := Ver_eq hM h
        exact x_len_sl hT ho hp hc h2 hy h1 h
      · exact (hM.no h).elim
    · rename_i n cap hp
      obtain ⟨h1, h⟩ := chk_eq hM h
      obtain ⟨e, h1⟩ := isSlD_eq h1
      exact x_len_ext hT ho hp hy h1 h
    · exact hM.act h

theorem xop_ok (hM : M.Ok H X) (hT : X.ok) (h : H (xop M X.T o st k)) : ActN X o st (fun A => H (k A)) := by
  unfold xop at h
  split at h
  · rename_i ho; exact xMove_ok hM (.inl ho) h
  · rename_i ho; exact xMove_ok hM (.inr ho) h
  · rename_i ho; exact xPick_ok hM ho h
  · rename_i ho; exact xBin_ok hM hT ho h
  · rename_i ho; exact xUn_ok hM ho h
  · rename_i ho; exact xConv_ok hM hT ho h
  · rename_i ho; exact xNil_ok hM ho h
  · rename_i ho; exact xFa_ok hM hT ho h
  · rename_i ho; exact xField_ok hM hT ho h
  · rename_i ho; exact xLoad_ok hM hT ho h
  · rename_i ho; exact xStore_ok hM hT ho h
  · rename_i ho; exact xAlloc_ok hM hT ho h
  · rename_i ho; exact xBox_ok hM hT ho h
  · rename_i ho; exact xBuild_ok hM hT ho h
  · rename_i ho; exact xBuildSlice_ok hM hT ho h
  · rename_i ho; exact xIa_ok hM hT ho h
  · rename_i ho; exact xIx_ok hM hT ho h
  · rename_i ho; exact xSlice_ok hM hT ho h
  · rename_i ho; exact xExtract_ok hM ho h
  · rename_i ho; exact xMkIfc_ok hM hT ho h
  · rename_i f first cap ho
    split at h
    · rename_i hf; exact xMkFunc_ok hM ho hf h
    · exact hM.act h
  · rename_i args ts ho
    split at h
    · rename_i x t hx ht
      refine xLen_ok hM hT ?_ h
      rw [ho, ← hx, ← ht]
    · exact hM.act h
  · exact hM.act h
end
end Go.SX
set_option linter.unusedSimpArgs false
set_option linter.unusedVariables false
namespace Go.SX

def gval {R : Type} (M : NA R) (all : List Oper) (fr : List AV) (j : Nat) (k : Nat → Bool → R) (e : Nat → Array Value → R) : R :=
  match all[j]? with
  | some oj => match oj.dst with
    | some d => getFK fr d fun a => match a with
      | .v (.bool b) => k d b
      | .v (.tuple l) => e d l
      | _ => M.no
    | none => M.no
  | none => M.no
def isG (i : Nat) : List Oper → Bool
  | [] => false
  | o :: r => match o.guard with
    | some (j, _) => match Nat.beq j i with
      | true => true
      | false => isG i r
    | none => isG i r
def brA {R : Type} (M : NA R) (g : Bool) (A : Actn) (k : Actn → R) : R :=
  match g with
  | true => match A with
    | ⟨sin, cin, dst, .v (.bool t), cout⟩ => M.br t fun b => k ⟨sin, cin, dst, .v (.bool b), cout⟩
    | A => k A
  | false => k A
theorem brA_eq {R : Type} {M : NA R} {H : R → Prop} {X : Ctx} (hM : M.Ok H X) {g : Bool} {A : Actn} {k : Actn → R} (h : H (brA M g A k)) : H (k A) := by
  unfold brA at h
  split at h
  · split at h
    · exact hM.br h
    · exact h
  · exact h
def beqB : Bool → Bool → Bool
  | true, true => true
  | false, false => true
  | _, _ => false
theorem beqB_eq : ∀ {a b : Bool}, beqB a b = true → a = b
  | true, true, _ => rfl
  | false, false, _ => rfl
  | true, false, h => by cases h
  | false, true, h => by cases h
theorem beqB_ne : ∀ {a b : Bool}, beqB a b = false → a ≠ b
  | true, true, h => by cases h
  | false, false, h => by cases h
  | true, false, _ => by simp
  | false, true, _ => by simp

def XS {R : Type} (M : NA R) (T : List (Option Ty)) (all : List Oper) : Nat → List Oper → St → (St → R) → R
  | _, [], st, K => K st
  | i, o :: rest, st, K => match o.guard with
    | none => xop M T o st fun A => brA M (isG i all) A fun A => appK A st fun st' => XS M T all (i + 1) rest st' K
    | some (j, want) => gval M all st.fr j (fun _ b => match beqB b want with
      | true => xop M T o st fun A => brA M (isG i all) A fun A => appK A st fun st' => XS M T all (i + 1) rest st' K
      | false => appK ⟨[], [], o.dst, .v undef, []⟩ st fun st' => XS M T all (i + 1) rest st' K) fun _ _ => appK ⟨[], [], o.dst, .v undef, []⟩ st fun st' => XS M T all (i + 1) rest st' K

section
variable {R : Type} {M : NA R} {H : R → Prop} {X : Ctx} {all : List Oper}

theorem gval_ok (hM : M.Ok H X) {fr : List AV} {j : Nat} {k : Nat → Bool → R} {e : Nat → Array Value → R} (h : H (gval M all fr j k e)) :
    ∃ oj d, all[j]? = some oj ∧ oj.dst = some d ∧ ((∃ b, getF fr d = .v (.bool b) ∧ H (k d b)) ∨ ∃ l, getF fr d = .v (.tuple l) ∧ H (e d l)) := by
  unfold gval at h
  cases hj : all[j]? with
  | none => rw [hj] at h; exact (hM.no h).elim
  | some oj =>
    simp only [hj] at h
    cases hd : oj.dst with
    | none => rw [hd] at h; exact (hM.no h).elim
    | some d =>
      simp only [hd, getFK_eq] at h
      split at h
      · rename_i b hb; exact ⟨oj, d, rfl, hd, .inl ⟨b, hb, h⟩⟩
      · rename_i l hb; exact ⟨oj, d, rfl, hd, .inr ⟨l, hb, h⟩⟩
      · exact (hM.no h).elim
theorem wanted_tup {st : St} {E : Env X} {a : Act} {w : World} {ρ : Nat → Loc} (hr : Rel X E st a w ρ) {o oj : Oper} {j d : Nat} {want : Bool} {l : Array Value} (hg : o.guard = some (j, want)) (hj : all[j]? = some oj) (hd : oj.dst = some d) (hb : getF st.fr d = .v (.tuple l)) :
    Region.wanted o (yielded all.toArray a.tmps) = false := by
  have h1 := relL_get st.fr a.tmps.toList d hr.fr
  rw [hb] at h1
  simp only [rel] at h1
  have h2 : (match a.tmps[d]? with | some (.bool b) => some b | _ => none) = (none : Option Bool) := by
    cases hx : a.tmps[d]? with
    | none => rfl
    | some u =>
      have : u = .tuple l := by simpa [List.getD, hx] using h1
      rw [this]
  simp only [Region.wanted, hg, yielded]
  simp only [List.getElem?_toArray, hj, Option.bind_some, hd]
  cases hx : a.tmps[d]? with
  | none => simp [hx]
  | some u =>
    rw [hx] at h2
    cases u <;> simp_all
theorem wanted_of {st : St} {E : Env X} {a : Act} {w : World} {ρ : Nat → Loc} (hr : Rel X E st a w ρ) {o oj : Oper} {j d : Nat} {want b : Bool} (hg : o.guard = some (j, want)) (hj : all[j]? = some oj) (hd : oj.dst = some d) (hb : getF st.fr d = .v (.bool b)) :
    Region.wanted o (yielded all.toArray a.tmps) = (b == want) := by
  have h1 := relL_get st.fr a.tmps.toList d hr.fr
  rw [hb] at h1
  simp only [rel] at h1
  have hlt : d < a.tmps.size := by
    rcases Nat.lt_or_ge d a.tmps.size with h | h
    · exact h
    · simp [List.getD, Array.getElem?_eq_none h] at h1
      cases h1
  have h2 : a.tmps[d]? = some (.bool b) := by
    rw [Array.getElem?_eq_getElem hlt]
    simpa [List.getD, hlt] using h1
  simp [Region.wanted, hg, yielded, hj, hd, h2]

theorem wpList_run {rdx : Option Nat} {o : Oper} {rest : List Oper} {a : Act} {w : World} {Q : Exit → Act → World → Prop} (hw : Region.wanted o (yielded all.toArray a.tmps) = true) (h : o.wpIn (wideR rdx) 0 X.P a w (wpListIn (wideR rdx) 0 X.P all.toArray Q rest) Q) : wpListIn (wideR rdx) 0 X.P all.toArray Q (o :: rest) a w := by
  unfold wpListIn
  rw [if_pos hw]
  exact h

theorem rel_undef {st : St} {E : Env X} {a : Act} {w : World} {ρ : Nat → Loc} (hr : Rel X E st a w ρ) (o : Oper) (sin : List (Nat × AV)) : Rel X E ((Actn.mk sin [] o.dst (.v undef) []).app st) (a.put o.dst undef) w ρ := by
  have hch : ((Actn.mk sin [] o.dst (.v undef) []).app st).ch = st.ch := rfl
  have hst : ((Actn.mk sin [] o.dst (.v undef) []).app st).vs = st.vs ∧ ((Actn.mk sin [] o.dst (.v undef) []).app st).ez = st.ez := ⟨rfl, rfl⟩
  refine ⟨?_, by rw [put_defers]; exact hr.df, ?_, hr.gh⟩
  · exact relL_put hr.fr (by simp [rel])
  · obtain ⟨g1, g2, g3, g4, g5, g6, g7⟩ := hr.heap
    exact ⟨g1, g2, g3, g4, g5, g6, g7⟩

theorem XS_ok (hM : M.Ok H X) (hT : X.ok) : ∀ (rest : List Oper) (i : Nat) (st : St) (K : St → R), H (XS M X.T all i rest st K) → ∃ stF, H (K stF) ∧ ∀ (Q : Exit → Act → World → Prop) E a w ρ, Rel X E st a w ρ →
    (∀ a' w' ρ', Rel X E stF a' w' ρ' → Q .normal a' w') → wpListIn (wideR E.rd) 0 X.P all.toArray Q rest a w
  | [], _, st, K, h => ⟨st, h, fun Q E a w ρ hr hq => hq a w ρ hr⟩
  | o :: rest, i, st, K, h => by
    have run : H (xop M X.T o st fun A => brA M (isG i all) A fun A => appK A st fun st' => XS M X.T all (i + 1) rest st' K) → ∃ stF, H (K stF) ∧ ∀ (Q : Exit → Act → World → Prop) E a w ρ, Rel X E st a w ρ →
        (∀ a' w' ρ', Rel X E stF a' w' ρ' → Q .normal a' w') → o.wpIn (wideR E.rd) 0 X.P a w (wpListIn (wideR E.rd) 0 X.P all.toArray Q rest) Q := by
      intro h
      obtain ⟨A, h1, h2, h3⟩ := xop_ok hM hT h
      have h4 := brA_eq hM h3
      rw [appK_eq] at h4
      obtain ⟨stF, h5, h6⟩ := XS_ok hM hT rest _ _ K h4
      exact ⟨stF, h5, fun Q E a w ρ hr hq => h1.run st E a w ρ h2 hr _ _ fun a' w' ρ' hr' => h6 Q E a' w' ρ' hr' hq⟩
    simp only [XS] at h
    cases hg : o.guard with
    | none =>
      simp only [hg] at h
      obtain ⟨stF, h5, h6⟩ := run h
      exact ⟨stF, h5, fun Q E a w ρ hr hq => wpList_run (by simp [Region.wanted, hg]) (h6 Q E a w ρ hr hq)⟩
    | some jw =>
      obtain ⟨j, want⟩ := jw
      simp only [hg] at h
      obtain ⟨oj, d, hj, hd, ⟨b, hb, h⟩ | ⟨l, hb, h⟩⟩ := gval_ok hM h
      rotate_left
      · rw [appK_eq] at h
        obtain ⟨stF, h5, h6⟩ := XS_ok hM hT rest _ _ K h
        refine ⟨stF, h5, fun Q E a w ρ hr hq => ?_⟩
        have hw := wanted_tup hr hg hj hd hb
        unfold wpListIn
        rw [if_neg (by rw [hw]; simp)]
        exact ⟨fun _ _ => trivial, h6 Q E _ w ρ (rel_undef hr o []) hq⟩
      cases he : beqB b want with
      | true =>
        simp only [he] at h
        have e := beqB_eq he
        obtain ⟨stF, h5, h6⟩ := run h
        exact ⟨stF, h5, fun Q E a w ρ hr hq => wpList_run (by rw [wanted_of hr hg hj hd hb, e]; simp) (h6 Q E a w ρ hr hq)⟩
      | false =>
        simp only [he] at h
        have e := beqB_ne he
        rw [appK_eq] at h
        obtain ⟨stF, h5, h6⟩ := XS_ok hM hT rest _ _ K h
        refine ⟨stF, h5, fun Q E a w ρ hr hq => ?_⟩
        have hw := wanted_of hr hg hj hd hb
        unfold wpListIn
        rw [if_neg (by rw [hw]; simpa using e)]
        exact ⟨fun _ _ => trivial, h6 Q E _ w ρ (rel_undef hr o []) hq⟩

theorem region_ok (hM : M.Ok H X) (hT : X.ok) {id : Nat} {K : Exit → St → R} {st : St} (h : H (XS M X.T all 0 all st (K .normal))) : ∃ e s, TR X (.region id all.toArray false) (fun e' s' => e' = e ∧ s' = s) st ∧ H (K e s) := by
  obtain ⟨stF, h1, h2⟩ := XS_ok hM hT all 0 st _ h
  exact ⟨.normal, stF, ⟨fun E a w ρ hr => wpIn_region_lit (h2 _ E a w ρ hr fun a' w' ρ' hr' => ⟨stF, ρ', ⟨rfl, rfl⟩, hr'⟩)⟩, h1⟩
theorem TR.region (hT : X.ok) {id : Nat} {K : Exit → St → Prop} {st : St} (h : XS (propNA X) X.T all 0 all st (K .normal)) : TR X (.region id all.toArray false) K st := by
  obtain ⟨e, s, h1, h2⟩ := region_ok (propNA_ok X) hT h
  exact h1.mono fun e' s' ⟨p, q⟩ => by subst p; subst q; exact h2


structure RS (X : Ctx) (all : List Oper) (o : Oper) (A : Actn) : Prop where
  dst : A.dst = o.dst
  run : ∀ st E a w ρ, A.Fits st → Rel X E st a w ρ → ∀ (K : Act → World → Prop) (Q : Exit → Act → World → Prop), (∀ a' w' ρ', Rel X E (A.app st) a' w' ρ' → K a' w') →
    if Region.wanted o (yielded all.toArray a.tmps) then o.wpIn (wideR E.rd) 0 X.P a w K Q else K (a.put o.dst undef) w
theorem RS.plain {o : Oper} {A : Actn} (hg : o.guard = none) (h : LS X o A) : RS X all o A := by
  refine ⟨h.dst, fun st E a w ρ hf hr K Q hk => ?_⟩
  rw [if_pos (by simp [Region.wanted, hg])]
  exact h.run st E a w ρ hf hr K Q hk
theorem RS.yes {o oj : Oper} {A : Actn} {j d : Nat} {want : Bool} (hg : o.guard = some (j, want)) (hj : all[j]? = some oj) (hd : oj.dst = some d) (h : LS X o A) : RS X all o ⟨(d, .v (.bool want)) :: A.sin, A.cin, A.dst, A.res, A.cout⟩ := by
  refine ⟨h.dst, fun st E a w ρ hf hr K Q hk => ?_⟩
  rw [wanted_of hr hg hj hd (hf.s d (.v (.bool want)) (by simp))]
  simp only [beq_self_eq_true, if_true]
  exact h.run st E a w ρ ⟨fun i x hx => hf.s i x (by simp [hx]), hf.c⟩ hr K Q hk
theorem RS.no {o oj : Oper} {j d : Nat} {want b : Bool} (hg : o.guard = some (j, want)) (hj : all[j]? = some oj) (hd : oj.dst = some d) (hb : b ≠ want) : RS X all o ⟨[(d, .v (.bool b))], [], o.dst, .v undef, []⟩ := by
  refine ⟨rfl, fun st E a w ρ hf hr K Q hk => ?_⟩
  rw [wanted_of hr hg hj hd (hf.s d (.v (.bool b)) (by simp))]
  rw [if_neg (by simpa using hb)]
  exact hk _ _ _ (rel_undef hr o _)

theorem RS.tup {o oj : Oper} {j d : Nat} {want : Bool} {l : Array Value} (hg : o.guard = some (j, want)) (hj : all[j]? = some oj) (hd : oj.dst = some d) : RS X all o ⟨[(d, .v (.tuple l))], [], o.dst, .v undef, []⟩ := by
  refine ⟨rfl, fun st E a w ρ hf hr K Q hk => ?_⟩
  rw [wanted_tup hr hg hj hd (hf.s d (.v (.tuple l)) (by simp))]
  rw [if_neg (by simp)]
  exact hk _ _ _ (rel_undef hr o _)

structure FP where
  i : Nat
  sin : List Nat
  dst : List Nat
  cin : List Nat
  cout : List Nat
def Actn.fp (i : Nat) (A : Actn) : FP := ⟨i, A.sin.map (·.1), A.dst.toList, A.cin.map (·.1), A.cout.map (·.1)⟩
def mem (n : Nat) : List Nat → Bool
  | [] => false
  | m :: l => match Nat.beq m n with | true => true | false => mem n l
theorem mem_eq : ∀ {n : Nat} {l : List Nat}, mem n l = true ↔ n ∈ l
  | n, [] => by simp [mem]
  | n, m :: l => by
    simp only [mem]
    cases h : Nat.beq m n with
    | true => simp [Nat.eq_of_beq_eq_true h]
    | false =>
      have : n ≠ m := by rintro rfl; simp at h
      simp [mem_eq, this]
def apart : List Nat → List Nat → Bool
  | [], _ => true
  | n :: l, r => match mem n r with | true => false | false => apart l r
theorem apart_eq : ∀ {l r : List Nat}, apart l r = true → ∀ n, n ∈ l → n ∈ r → False
  | [], _, _, n, h, _ => by simp at h
  | m :: l, r, h, n, hn, hr => by
    simp only [apart] at h
    cases hm : mem m r with
    | true => simp [hm] at h
    | false =>
      simp only [hm] at h
      rcases List.mem_cons.1 hn with rfl | hn
      · rw [mem_eq.2 hr] at hm; cases hm
      · exact apart_eq h n hn hr
def FP.disj (a b : FP) : Bool := apart a.dst b.sin && apart a.dst b.dst && apart b.dst a.sin && apart a.cout b.cin && apart a.cout b.cout && apart b.cout a.cin

theorem setF_comm : ∀ (l : List AV) (i j : Nat) (a b : AV), i ≠ j → setF (setF l i a) j b = setF (setF l j b) i a
  | [], _, _, _, _, _ => rfl
  | x :: l, 0, 0, _, _, h => (h rfl).elim
  | x :: l, 0, j + 1, _, _, _ => rfl
  | x :: l, i + 1, 0, _, _, _ => rfl
  | x :: l, i + 1, j + 1, a, b, h => by simp only [setF]; rw [setF_comm l i j a b (by omega)]
theorem getF_set_ne : ∀ (l : List AV) (i j : Nat) (a : AV), j ≠ i → getF (setF l i a) j = getF l j
  | [], _, _, _, _ => rfl
  | x :: l, 0, 0, _, h => (h rfl).elim
  | x :: l, 0, j + 1, _, _ => rfl
  | x :: l, i + 1, 0, _, _ => rfl
  | x :: l, i + 1, j + 1, a, h => by simp only [setF, getF]; exact getF_set_ne l i j a (by omega)
theorem setO_comm {α : Type} : ∀ (i j : Nat) (l : List (Option α)) (a b : α), i ≠ j → setO (setO l i a) j b = setO (setO l j b) i a
  | 0, 0, _, _, _, h => (h rfl).elim
  | 0, j + 1, [], _, _, _ => rfl
  | 0, j + 1, x :: l, _, _, _ => rfl
  | i + 1, 0, [], _, _, _ => rfl
  | i + 1, 0, x :: l, _, _, _ => rfl
  | i + 1, j + 1, [], a, b, h => by simp only [setO]; rw [setO_comm i j [] a b (by omega)]
  | i + 1, j + 1, x :: l, a, b, h => by simp only [setO]; rw [setO_comm i j l a b (by omega)]
theorem setAll_setO (i : Nat) (k : Chunk) : ∀ (r : List (Nat × Chunk)) (l : List (Option Chunk)), i ∉ r.map (·.1) → setAll (setO l i k) r = setO (setAll l r) i k
  | [], _, _ => rfl
  | (j, c) :: r, l, h => by
    simp only [setAll]
    simp at h
    rw [setO_comm i j l k c (fun e => h.1 e), setAll_setO i k r _ (by simpa using h.2)]
theorem setAll_comm : ∀ (p r : List (Nat × Chunk)) (l : List (Option Chunk)), (∀ n, n ∈ p.map (·.1) → n ∈ r.map (·.1) → False) → setAll (setAll l p) r = setAll (setAll l r) p
  | [], _, _, _ => rfl
  | (i, c) :: p, r, l, h => by
    simp only [setAll]
    rw [setAll_comm p r _ (fun n h1 h2 => h n (by simp at h1 ⊢; exact .inr h1) h2)]
    rw [setAll_setO i c r l (fun h2 => h i (by simp) h2)]
theorem getO_setAll_ne (n : Nat) : ∀ (r : List (Nat × Chunk)) (l : List (Option Chunk)), n ∉ r.map (·.1) → getO (setAll l r) n = getO l n
  | [], _, _ => rfl
  | (j, c) :: r, l, h => by
    simp only [setAll]
    simp at h
    rw [getO_setAll_ne n r _ (by simpa using h.2), getO_set_ne _ _ _ _ h.1]

theorem disj_spec {i j : Nat} {A B : Actn} (h : (A.fp i).disj (B.fp j) = true) :
    (∀ d, A.dst = some d → (∀ x, (d, x) ∉ B.sin) ∧ B.dst ≠ some d) ∧ (∀ d, B.dst = some d → ∀ x, (d, x) ∉ A.sin) ∧
    (∀ n, n ∈ A.cout.map (·.1) → n ∉ B.cin.map (·.1) ∧ n ∉ B.cout.map (·.1)) ∧ (∀ n, n ∈ B.cout.map (·.1) → n ∉ A.cin.map (·.1)) := by
  simp only [FP.disj, Bool.and_eq_true, Actn.fp] at h
  obtain ⟨⟨⟨⟨⟨h1, h2⟩, h3⟩, h4⟩, h5⟩, h6⟩ := h
  refine ⟨fun d hd => ⟨fun x hx => apart_eq h1 d (by simp [hd]) (List.mem_map.2 ⟨(d, x), hx, rfl⟩), fun e => apart_eq h2 d (by simp [hd]) (by simp [e])⟩,
    fun d hd x hx => apart_eq h3 d (by simp [hd]) (List.mem_map.2 ⟨(d, x), hx, rfl⟩), fun n hn => ⟨fun hm => apart_eq h4 n hn hm, fun hm => apart_eq h5 n hn hm⟩, fun n hn hm => apart_eq h6 n hn hm⟩

theorem getF_app {A : Actn} {st : St} {n : Nat} (h : A.dst ≠ some n) : getF (A.app st).fr n = getF st.fr n := by
  unfold Actn.app
  cases hd : A.dst with
  | none => rfl
  | some d => exact getF_set_ne _ _ _ _ (by rintro rfl; exact h hd)
theorem getO_app {A : Actn} {st : St} {n : Nat} (h : n ∉ A.cout.map (·.1)) : getO (A.app st).ch n = getO st.ch n := getO_setAll_ne n _ _ h

theorem swap {i j : Nat} {A B : Actn} {st : St} (h : (A.fp i).disj (B.fp j) = true) (h1 : A.Fits st) (h2 : B.Fits (A.app st)) :
    B.Fits st ∧ A.Fits (B.app st) ∧ A.app (B.app st) = B.app (A.app st) := by
  obtain ⟨d1, d2, d3, d4⟩ := disj_spec h
  refine ⟨⟨fun n x hx => ?_, fun n c hc => ?_⟩, ⟨fun n x hx => ?_, fun n c hc => ?_⟩, ?_⟩
  · rw [← h2.s n x hx]
    exact (getF_app fun e => (d1 n e).1 x hx).symm
  · rw [← h2.c n c hc]
    exact (getO_app fun e => (d3 n e).1 (List.mem_map.2 ⟨(n, c), hc, rfl⟩)).symm
  · rw [← h1.s n x hx]
    exact getF_app fun e => d2 n e x hx
  · rw [← h1.c n c hc]
    exact getO_app fun e => d4 n e (List.mem_map.2 ⟨(n, c), hc, rfl⟩)
  · unfold Actn.app
    simp only
    congr 1
    · cases hA : A.dst with
      | none => rfl
      | some d =>
        cases hB : B.dst with
        | none => rfl
        | some e =>
          simp only
          exact setF_comm _ _ _ _ _ (fun e' => (d1 d hA).2 (by rw [hB, e']))
    · exact (setAll_comm _ _ _ fun n hn hm => (d3 n hn).2 hm).symm

inductive Chain : St → List (Nat × Actn) → St → Prop
  | nil (st : St) : Chain st [] st
  | cons {st stF : St} {i : Nat} {A : Actn} {l : List (Nat × Actn)} (h : A.Fits st) (r : Chain (A.app st) l stF) : Chain st ((i, A) :: l) stF

theorem Chain.front {i : Nat} {A : Actn} {post : List (Nat × Actn)} : ∀ (pre : List (Nat × Actn)) (st stF : St), Chain st (pre ++ (i, A) :: post) stF → (∀ j B, (j, B) ∈ pre → (B.fp j).disj (A.fp i) = true) → Chain st ((i, A) :: (pre ++ post)) stF
  | [], st, stF, h, _ => h
  | (j, B) :: pre, st, stF, h, hd => by
    cases h with
    | cons hB r =>
      have r' := Chain.front pre _ _ r (fun j' B' hm => hd j' B' (List.mem_cons_of_mem _ hm))
      cases r' with
      | cons hA r'' =>
        obtain ⟨s1, s2, s3⟩ := swap (hd j B (List.mem_cons_self ..)) hB hA
        exact .cons s1 (.cons s2 (s3 ▸ r''))
end
end Go.SX
set_option linter.unusedSimpArgs false
set_option linter.unusedVariables false
namespace Go.SX

def dirs (o : Oper) : List Nat := (o.after.toList.filter fun e => Region.binds .any e).map (·.on)
def unionU : List Nat → List Nat → List Nat
  | [], r => r
  | a :: l, r => match mem a r with
    | true => unionU l r
    | false => unionU l (a :: r)
def ancsO (acc : List (List Nat)) : List Nat → List Nat → List Nat
  | [], r => r
  | k :: l, r => ancsO acc l (unionU (k :: acc.getD k []) r)
def ancs : List Oper → List (List Nat) → List (List Nat)
  | [], acc => acc
  | o :: r, acc => ancs r (acc ++ [ancsO acc (dirs o) []])
def ancOk : Nat → List Oper → List (List Nat) → Bool
  | _, [], _ => true
  | i, o :: r, tab => ((dirs o).all fun e => Nat.blt e i) && ((tab.getD i []).all fun q => mem q (dirs o) || (dirs o).any fun k => mem q (tab.getD k [])) && ancOk (i + 1) r tab
def pairs (tab : List (List Nat)) : List FP → Bool
  | [] => true
  | f :: acc => (acc.all fun g => mem g.i (tab.getD f.i []) || g.disj f) && pairs tab acc
def drawnOk (all : List Oper) (acc : List FP) : Bool :=
  let tab := ancs all []
  ancOk 0 all tab && pairs tab acc

def mapFstK {R : Type} {α : Type} : List (Nat × α) → (List Nat → R) → R
  | [], k => k []
  | (i, _) :: l, k => mapFstK l fun r => k (i :: r)
theorem mapFstK_eq {R : Type} {α : Type} : ∀ (l : List (Nat × α)) (k : List Nat → R), mapFstK l k = k (l.map (·.1))
  | [], _ => rfl
  | (i, _) :: l, k => by simp only [mapFstK]; rw [mapFstK_eq]; rfl
def fpK {R : Type} (i : Nat) (A : Actn) (k : FP → R) : R :=
  match A with
  | ⟨sin, cin, some t, _, cout⟩ => mapFstK sin fun s => mapFstK cin fun c => mapFstK cout fun d => k ⟨i, s, [t], c, d⟩
  | ⟨sin, cin, none, _, cout⟩ => mapFstK sin fun s => mapFstK cin fun c => mapFstK cout fun d => k ⟨i, s, [], c, d⟩
theorem fpK_eq {R : Type} (i : Nat) (A : Actn) (k : FP → R) : fpK i A k = k (A.fp i) := by
  obtain ⟨sin, cin, dst, res, cout⟩ := A
  cases dst <;> simp only [fpK, mapFstK_eq] <;> rfl

def XD {R : Type} (M : NA R) (T : List (Option Ty)) (all : List Oper) : Nat → List Oper → St → List FP → (St → R) → R
  | _, [], st, acc, K => M.need (drawnOk all acc = true) (K st)
  | i, o :: rest, st, acc, K => match o.guard with
    | none => xop M T o st fun A => brA M (isG i all) A fun A => fpK i A fun f => appK A st fun st' => XD M T all (i + 1) rest st' (f :: acc) K
    | some (j, want) => gval M all st.fr j (fun d b => match beqB b want with
      | true => xop M T o st fun A => brA M (isG i all) A fun A => fpK i ⟨(d, .v (.bool want)) :: A.sin, A.cin, A.dst, A.res, A.cout⟩ fun f => appK A st fun st' => XD M T all (i + 1) rest st' (f :: acc) K
      | false => fpK i ⟨[(d, .v (.bool b))], [], o.dst, .v undef, []⟩ fun f => appK ⟨[(d, .v (.bool b))], [], o.dst, .v undef, []⟩ st fun st' => XD M T all (i + 1) rest st' (f :: acc) K)
      fun d l => fpK i ⟨[(d, .v (.tuple l))], [], o.dst, .v undef, []⟩ fun f => appK ⟨[(d, .v (.tuple l))], [], o.dst, .v undef, []⟩ st fun st' => XD M T all (i + 1) rest st' (f :: acc) K

section
variable {R : Type} {M : NA R} {H : R → Prop} {X : Ctx} {all : List Oper}

theorem XD_ok (hM : M.Ok H X) (hT : X.ok) : ∀ (rest : List Oper) (i : Nat) (st : St) (acc : List FP) (K : St → R), H (XD M X.T all i rest st acc K) → (∀ j, rest[j]? = all[i + j]?) →
    ∃ (acts : List (Nat × Actn)) (stF : St), acts.map (·.1) = List.range' i rest.length ∧ (∀ p, p ∈ acts → ∃ o, all[p.1]? = some o ∧ RS X all o p.2) ∧ Chain st acts stF ∧ H (K stF) ∧
      drawnOk all ((acts.map fun p => p.2.fp p.1).reverse ++ acc) = true
  | [], i, st, acc, K, h, _ => ⟨[], st, rfl, by simp, .nil _, (hM.need h).2, (hM.need h).1⟩
  | o :: rest, i, st, acc, K, h, hall => by
    have ho : all[i]? = some o := by have := hall 0; simpa using this.symm
    have hall' : ∀ j, rest[j]? = all[i + 1 + j]? := fun j => by have := hall (j + 1); simpa [Nat.add_assoc, Nat.add_comm 1 j] using this
    have fin : ∀ (A B : Actn), RS X all o B → B.Fits st → B.app st = A.app st → H (fpK i B fun f => appK A st fun st' => XD M X.T all (i + 1) rest st' (f :: acc) K) →
        ∃ (acts : List (Nat × Actn)) (stF : St), acts.map (·.1) = List.range' i (o :: rest).length ∧ (∀ p, p ∈ acts → ∃ o, all[p.1]? = some o ∧ RS X all o p.2) ∧ Chain st acts stF ∧ H (K stF) ∧
          drawnOk all ((acts.map fun p => p.2.fp p.1).reverse ++ acc) = true := by
      intro A B hB hf he h
      rw [fpK_eq, appK_eq] at h
      obtain ⟨acts, stF, g1, g2, g3, g4, g5⟩ := XD_ok hM hT rest (i + 1) _ _ K h hall'
      refine ⟨(i, B) :: acts, stF, ?_, ?_, .cons hf (he ▸ g3), g4, ?_⟩
      · simp [g1, List.range'_succ]
      · intro p hp
        rcases List.mem_cons.1 hp with rfl | hp
        · exact ⟨o, ho, hB⟩
        · exact g2 p hp
      · simpa using g5
    simp only [XD] at h
    cases hg : o.guard with
    | none =>
      simp only [hg] at h
      obtain ⟨A, h1, h2, h3⟩ := xop_ok hM hT h
      exact fin A A (.plain hg h1) h2 rfl (brA_eq hM h3)
    | some jw =>
      obtain ⟨j, want⟩ := jw
      simp only [hg] at h
      obtain ⟨oj, d, hj, hd, ⟨b, hb, h⟩ | ⟨l, hb, h⟩⟩ := gval_ok hM h
      rotate_left
      · exact fin _ _ (.tup hg hj hd) ⟨fun n x hx => by simp at hx; rw [hx.1, hx.2]; exact hb, by simp⟩ rfl h
      cases he : beqB b want with
      | true =>
        simp only [he] at h
        have e := beqB_eq he
        subst e
        obtain ⟨A, h1, h2, h3⟩ := xop_ok hM hT h
        refine fin A _ (.yes hg hj hd h1) ⟨fun n x hx => ?_, h2.c⟩ rfl (brA_eq hM h3)
        rcases List.mem_cons.1 hx with hx | hx
        · cases hx; exact hb
        · exact h2.s n x hx
      | false =>
        simp only [he] at h
        exact fin _ _ (.no hg hj hd (beqB_ne he)) ⟨fun n x hx => by simp at hx; rw [hx.1, hx.2]; exact hb, by simp⟩ rfl h

theorem Chain.fits_front {st stF : St} {i : Nat} {A : Actn} {l : List (Nat × Actn)} (h : Chain st ((i, A) :: l) stF) : A.Fits st ∧ Chain (A.app st) l stF := by
  cases h with
  | cons a b => exact ⟨a, b⟩

theorem any_ok (anc : Nat → List Nat) (hA : ∀ i o, all[i]? = some o → ∀ r, r ∈ anc i → r ∈ dirs o ∨ ∃ k, k ∈ dirs o ∧ r ∈ anc k) (hE : ∀ i o, all[i]? = some o → ∀ e, e ∈ dirs o → e < i)
    {Q : Exit → Act → World → Prop} {stF : St} {E : Env X} (hq : ∀ a w ρ, Rel X E stF a w ρ → Q .normal a w) :
    ∀ (fuel : Nat) (acts : List (Nat × Actn)) (listed : Array Bool) (st : St) (a : Act) (w : World) (ρ : Nat → Loc), acts.length ≤ fuel → listed.size = all.length →
      (∀ i, i < all.length → (listed.getD i true = false ↔ i ∈ acts.map (·.1))) → (∀ i, i ∈ acts.map (·.1) → i < all.length) → List.Pairwise (· < ·) (acts.map (·.1)) →
      (∀ p, p ∈ acts → ∃ o, all[p.1]? = some o ∧ RS X all o p.2) → List.Pairwise (fun p q => p.1 ∈ anc q.1 ∨ (p.2.fp p.1).disj (q.2.fp q.1) = true) acts →
      (∀ i, i < all.length → listed.getD i true = true → ∀ r, r ∈ anc i → r < all.length → listed.getD r true = true) → Chain st acts stF → Rel X E st a w ρ →
      wpAnyIn (wideR E.rd) 0 X.P .any all.toArray Q fuel listed a w := by
  intro fuel
  have lst : ∀ (listed : Array Bool) i, listed.size = all.length → i < all.length → (listed.getD i false = true ↔ listed.getD i true = true) := by
    intro listed i hs hi
    have : i < listed.size := by omega
    simp [Array.getD, this]
  have noReady : ∀ (acts : List (Nat × Actn)) (listed : Array Bool), listed.size = all.length → (∀ i, i < all.length → (listed.getD i true = false ↔ i ∈ acts.map (·.1))) → (∀ i, i ∈ acts.map (·.1) → i < all.length) → List.Pairwise (· < ·) (acts.map (·.1)) →
      Region.ready .any all.toArray listed = [] → acts = [] := by
    intro acts listed hs hl hb hp h0
    cases acts with
    | nil => rfl
    | cons p acts =>
      exfalso
      have hpl : p.1 < all.length := hb p.1 (by simp)
      have hm : p.1 ∈ Region.ready .any all.toArray listed := by
        rw [mem_ready]
        refine ⟨(hl p.1 hpl).2 (by simp), all[p.1], by simp [hpl], fun e he hbd => ?_⟩
        have hed : e.on ∈ dirs all[p.1] := List.mem_map.2 ⟨e, List.mem_filter.2 ⟨by simpa using he, hbd⟩, rfl⟩
        have hlt := hE p.1 _ (by simp [hpl]) e.on hed
        have hel : e.on < all.length := by omega
        rw [lst listed e.on hs hel]
        cases hx : listed.getD e.on true with
        | true => rfl
        | false =>
          exfalso
          have := (hl e.on hel).1 hx
          simp only [List.map_cons, List.mem_cons] at this
          simp only [List.map_cons, List.pairwise_cons] at hp
          rcases this with h1 | h1
          · omega
          · have := hp.1 _ h1; omega
      rw [h0] at hm
      cases hm
  induction fuel with
  | zero =>
    intro acts listed st a w ρ hlen hs hl hb hp hrs hpw hcl hch hr
    have : acts = [] := List.eq_nil_of_length_eq_zero (by omega)
    subst this
    cases hch
    refine ⟨?_, hq a w ρ hr⟩
    refine List.eq_nil_iff_forall_not_mem.2 fun i hi => ?_
    rw [mem_ready] at hi
    obtain ⟨h1, o, ho, _⟩ := hi
    have hil : i < all.length := by
      rcases Nat.lt_or_ge i all.length with h | h
      · exact h
      · simp [h] at ho
    have := (hl i hil).1 h1
    simp at this
  | succ fuel ih =>
    intro acts listed st a w ρ hlen hs hl hb hp hrs hpw hcl hch hr
    refine ⟨fun h0 => ?_, fun i hi => ?_⟩
    · have := noReady acts listed hs hl hb hp h0
      subst this
      cases hch
      exact hq a w ρ hr
    · rw [mem_ready] at hi
      obtain ⟨h1, o, ho, h2⟩ := hi
      have ho' : all[i]? = some o := by simpa using ho
      have hil : i < all.length := by
        rcases Nat.lt_or_ge i all.length with h | h
        · exact h
        · simp [h] at ho'
      have hmem := (hl i hil).1 h1
      obtain ⟨p, hp1, rfl⟩ := List.mem_map.1 hmem
      obtain ⟨pre, post, rfl⟩ := List.append_of_mem hp1
      obtain ⟨i, A⟩ := p
      have hanc : ∀ r, r ∈ anc i → r < all.length → listed.getD r true = true := by
        intro r hr' hrl
        have dl : ∀ e, e ∈ dirs o → e < all.length → listed.getD e true = true := by
          intro e he hel
          obtain ⟨ed, he1, rfl⟩ := List.mem_map.1 he
          rw [List.mem_filter] at he1
          rw [← lst listed ed.on hs hel]
          exact h2 ed (by simpa using he1.1) he1.2
        rcases hA i o ho' r hr' with h | ⟨k, hk1, hk2⟩
        · exact dl r h hrl
        · have hkl : k < all.length := Nat.lt_trans (hE i o ho' k hk1) hil
          exact hcl k hkl (dl k hk1 hkl) r hk2 hrl
      have hdis : ∀ j B, (j, B) ∈ pre → (B.fp j).disj (A.fp i) = true := by
        intro j B hj
        rw [List.pairwise_append] at hpw
        rcases hpw.2.2 (j, B) hj (i, A) (List.mem_cons_self ..) with h | h
        · exfalso
          have hjm : j ∈ (pre ++ (i, A) :: post).map (·.1) := List.mem_map.2 ⟨(j, B), List.mem_append_left _ hj, rfl⟩
          have hjl := hb j hjm
          have := hanc j h hjl
          rw [(hl j hjl).2 hjm] at this
          cases this
        · exact h
      obtain ⟨hf, hch'⟩ := (Chain.front pre st stF hch hdis).fits_front
      obtain ⟨o', ho2, hRS⟩ := hrs (i, A) (by simp)
      rw [ho'] at ho2
      cases ho2
      have key := hRS.run st E a w ρ hf hr (wpAnyIn (wideR E.rd) 0 X.P .any all.toArray Q fuel (listed.setIfInBounds i true)) Q fun a' w' ρ' hr' => by
        have hnd : i ∉ (pre ++ post).map (·.1) := by
          intro hx
          rw [List.map_append, List.map_cons] at hp
          rw [List.pairwise_append, List.pairwise_cons] at hp
          rw [List.map_append, List.mem_append] at hx
          rcases hx with hx | hx
          · have := hp.2.2 i hx i (List.mem_cons_self ..); omega
          · have := hp.2.1.1 i hx; omega
        have hsub : (pre ++ post).Sublist (pre ++ (i, A) :: post) := List.Sublist.append_left (List.sublist_cons_self _ _) _
        have hgt : ∀ j, j < all.length → ((listed.setIfInBounds i true).getD j true = if i = j then true else listed.getD j true) := by
          intro j hj
          have h3 : j < listed.size := by omega
          by_cases e : i = j
          · subst e; simp [Array.getD, h3]
          · simp [Array.getD, h3, Array.getElem_setIfInBounds, e]
        refine ih (pre ++ post) _ _ a' w' ρ' (by simp at hlen ⊢; omega) (by simpa using hs) (fun j hj => ?_) (fun j hj => ?_) (hp.sublist (hsub.map _)) (fun p hp' => hrs p (hsub.subset hp')) (hpw.sublist hsub) (fun j hj hlj r hr1 hr2 => ?_) hch' hr'
        · rw [hgt j hj]
          by_cases e : i = j
          · subst e; simp; simpa using hnd
          · rw [if_neg e, hl j hj]
            simp only [List.map_append, List.map_cons, List.mem_append, List.mem_cons]
            constructor
            · rintro (h | h | h)
              · exact .inl h
              · exact (e h.symm).elim
              · exact .inr h
            · rintro (h | h)
              · exact .inl h
              · exact .inr (.inr h)
        · exact hb j ((hsub.map _).subset hj)
        · rw [hgt r hr2]
          by_cases e : i = r
          · rw [if_pos e]
          · rw [if_neg e]
            rw [hgt j hj] at hlj
            by_cases e2 : i = j
            · subst e2; exact hanc r hr1 hr2
            · rw [if_neg e2] at hlj
              exact hcl j hj hlj r hr1 hr2
      unfold wpOpIn
      rw [ho]
      simp only
      by_cases hw : Region.wanted o (yielded all.toArray a.tmps) = true
      · rw [if_pos hw] at key ⊢
        exact key
      · rw [if_neg hw] at key ⊢
        exact ⟨fun _ _ => trivial, key⟩

theorem ancOk_spec (tab : List (List Nat)) : ∀ (l : List Oper) (i : Nat), (∀ j, l[j]? = all[i + j]?) → ancOk i l tab = true → ∀ j o, l[j]? = some o →
    (∀ e, e ∈ dirs o → e < i + j) ∧ ∀ q, q ∈ tab.getD (i + j) [] → q ∈ dirs o ∨ ∃ k, k ∈ dirs o ∧ q ∈ tab.getD k []
  | [], i, _, _, j, o, h => by simp at h
  | o' :: l, i, hl, h, j, o, hj => by
    simp only [ancOk, Bool.and_eq_true, List.all_eq_true] at h
    obtain ⟨⟨h1, h2⟩, h3⟩ := h
    cases j with
    | zero =>
      simp at hj
      subst hj
      refine ⟨fun e he => ?_, fun q hq => ?_⟩
      · have := h1 e he
        have h5 := Nat.le_of_ble_eq_true this
        omega
      · have := h2 q (by simpa using hq)
        simp only [Bool.or_eq_true, List.any_eq_true] at this
        rcases this with h4 | ⟨k, h4, h5⟩
        · exact .inl (mem_eq.1 h4)
        · exact .inr ⟨k, h4, mem_eq.1 h5⟩
    | succ j =>
      have := ancOk_spec tab l (i + 1) (fun j => by have := hl (j + 1); simpa [Nat.add_assoc, Nat.add_comm 1 j] using this) h3 j o (by simpa using hj)
      rwa [show i + 1 + j = i + (j + 1) by omega] at this
theorem pairs_spec (tab : List (List Nat)) : ∀ (l : List (Nat × Actn)) (acc : List FP), pairs tab ((l.map fun p => p.2.fp p.1).reverse ++ acc) = true → List.Pairwise (fun p q => p.1 ∈ tab.getD q.1 [] ∨ (p.2.fp p.1).disj (q.2.fp q.1) = true) l := by
  have key : ∀ (fs : List FP), pairs tab fs = true → List.Pairwise (fun f g => g.i ∈ tab.getD f.i [] ∨ g.disj f = true) fs := by
    intro fs
    induction fs with
    | nil => intro _; exact List.Pairwise.nil
    | cons f fs ih =>
      intro h
      simp only [pairs, Bool.and_eq_true, List.all_eq_true, Bool.or_eq_true] at h
      refine List.Pairwise.cons (fun g hg => ?_) (ih h.2)
      rcases h.1 g hg with h1 | h1
      · exact .inl (mem_eq.1 h1)
      · exact .inr h1
  intro l acc h
  have h1 := key _ h
  rw [List.pairwise_append] at h1
  have h2 := h1.1
  rw [List.pairwise_reverse, List.pairwise_map] at h2
  exact h2

theorem drawn_ok (hM : M.Ok H X) (hT : X.ok) (hm : X.P.follows .mixedOrders = true) {id : Nat} {K : Exit → St → R} {st : St} (h : H (XD M X.T all 0 all st [] (K .normal))) : ∃ e s, TR X (.region id all.toArray true) (fun e' s' => e' = e ∧ s' = s) st ∧ H (K e s) := by
  obtain ⟨acts, stF, h1, h2, h3, h4, h5⟩ := XD_ok hM hT all 0 st [] _ h (fun j => by simp)
  refine ⟨.normal, stF, ⟨fun E a w ρ hr => wpIn_region_any hm ?_⟩, h4⟩
  unfold drawnOk at h5
  simp only [Bool.and_eq_true] at h5
  have hanc := ancOk_spec (all := all) (ancs all []) all 0 (fun j => by simp) h5.1
  have hr' : Rel X E st a { w with drawn := w.drawn + 1 } ρ := by
    obtain ⟨g1, g2, g3, g4⟩ := hr
    obtain ⟨q1, q2, q3, q4, q5, q6, q7⟩ := g3
    refine ⟨g1, g2, ⟨fun c k hk => ?_, q2, q3, q4, q5, q6, ?_⟩, g4⟩
    · obtain ⟨xs, hx, hm⟩ := q1 c k hk
      exact ⟨xs, hx, q5 c k hk w _ xs (fun _ _ => rfl) hm⟩
    · exact ⟨q7.os, q7.tape, q7.output, q7.size, q7.block⟩
  have hlen : (acts.map (·.1)).length = all.length := by rw [h1]; simp
  refine any_ok (fun i => (ancs all []).getD i []) (fun i o ho r hr => ?_) (fun i o ho e he => ?_) (stF := stF) (fun a w ρ hr => ⟨stF, ρ, ⟨rfl, rfl⟩, hr⟩) _ acts _ st a _ ρ ?_ ?_ ?_ ?_ ?_ h2 ?_ ?_ h3 hr'
  · have := (hanc i o ho).2 r (by simpa using hr); simpa using this
  · have := (hanc i o ho).1 e he; simpa using this
  · simp at hlen; simp [hlen]
  · simp
  · intro i hi
    rw [h1]
    simp [Array.getD, hi, List.mem_range']
  · intro i hi
    rw [h1] at hi
    simpa [List.mem_range'] using hi
  · rw [h1]; exact List.pairwise_lt_range' ..
  · exact pairs_spec _ acts [] (by simpa using h5.2)
  · intro i hi hl
    simp [Array.getD, hi] at hl
theorem TR.drawn (hT : X.ok) (hm : X.P.follows .mixedOrders = true) {id : Nat} {K : Exit → St → Prop} {st : St} (h : XD (propNA X) X.T all 0 all st [] (K .normal)) : TR X (.region id all.toArray true) K st := by
  obtain ⟨e, s, h1, h2⟩ := drawn_ok (propNA_ok X) hT hm h
  exact h1.mono fun e' s' ⟨p, q⟩ => by subst p; subst q; exact h2
end
end Go.SX
set_option linter.unusedSimpArgs false
set_option linter.unusedVariables false
namespace Go.SX


def Le (X : Ctx) (s t : St) : Prop := ∀ E a w ρ, Rel X E s a w ρ → ∃ ρ', Rel X E t a w ρ'
theorem Le.refl (X : Ctx) (s : St) : Le X s s := fun _ _ _ ρ h => ⟨ρ, h⟩
theorem Le.trans {X : Ctx} {s t u : St} (h : Le X s t) (k : Le X t u) : Le X s u := fun E a w ρ hr => let ⟨ρ', h'⟩ := h E a w ρ hr; k E a w ρ' h'
theorem TR.le {X : Ctx} {c : Code} {K : Exit → St → Prop} {s t : St} (h : TR X c K t) (hl : Le X s t) : TR X c K s :=
  ⟨fun E a w ρ hr => let ⟨ρ', h'⟩ := hl E a w ρ hr; h.out E a w ρ' h'⟩

theorem TR.loop {X : Ctx} {c : Code} {K : Exit → St → Prop} {st : St} {α : Type} (S : α → St) (φ : α → Prop) (μ : α → Nat) (x0 : α) (h0 : φ x0) (hl : Le X st (S x0))
    (step : ∀ x, φ x → TR X c (fun e s => match e with | .normal => ∃ x', φ x' ∧ μ x' < μ x ∧ Le X s (S x') | e => K e s) (S x)) : TR X (.loop c) K st := by
  refine ⟨fun E a w ρ hr => ?_⟩
  obtain ⟨ρ0, hr0⟩ := hl E a w ρ hr
  refine wpIn_loop_ghost (fun n a w => ∃ x ρ, μ x = n ∧ φ x ∧ Rel X E (S x) a w ρ) (μ x0) ⟨x0, ρ0, rfl, h0, hr0⟩ ?_
  rintro n a w ⟨x, ρ, rfl, hx, hr⟩
  refine wpIn_mono ((step x hx).out E a w ρ hr) ?_
  rintro e a' w' ⟨s, ρ', hk, hr'⟩
  cases e with
  | normal =>
    obtain ⟨x', h1, h2, h3⟩ := hk
    obtain ⟨ρ'', h4⟩ := h3 E a' w' ρ' hr'
    exact ⟨μ x', h2, x', ρ'', rfl, h1, h4⟩
  | _ => exact ⟨s, ρ', hk, hr'⟩

def dstsO : List Oper → List Nat
  | [] => []
  | o :: r => match o.dst with
    | some d => d :: dstsO r
    | none => dstsO r
def dstsC : Code → List Nat
  | .region _ ops _ => dstsO ops.toList
  | .seq a b => dstsC a ++ dstsC b
  | .cond _ a b => dstsC a ++ dstsC b
  | .block _ b => dstsC b
  | .loop b => dstsC b
  | .rangeFunc _ ps a b => ps.toList ++ dstsC a ++ dstsC b
  | .scope b => dstsC b
  | _ => []

def killL (mods : List Nat) : Nat → List AV → List AV
  | _, [] => []
  | i, a :: l => (match mem i mods with | true => .dead | false => a) :: killL mods (i + 1) l
def dropL (mods : List Nat) : Nat → List (Option Chunk) → List (Option Chunk)
  | _, [] => []
  | i, a :: l => (match mem i mods with | true => none | false => a) :: dropL mods (i + 1) l
def setManyF (fr : List AV) : List (Nat × AV) → List AV
  | [] => fr
  | (i, a) :: r => setManyF (setF fr i a) r
def headS (mods : List Nat) (base : St) (live : List (Nat × AV)) (chs : List (Nat × Chunk)) : St :=
  ⟨setManyF (killL mods 0 base.fr) live, setAll (dropL mods 0 base.ch) chs⟩

def killK (mods : List Nat) : Nat → List AV → (List AV → Prop) → Prop
  | _, [], k => k []
  | i, a :: l, k => match mem i mods with
    | true => killK mods (i + 1) l fun r => k (.dead :: r)
    | false => killK mods (i + 1) l fun r => k (a :: r)
theorem killK_eq (mods : List Nat) : ∀ (l : List AV) (i : Nat) (k : List AV → Prop), killK mods i l k = k (killL mods i l)
  | [], _, _ => rfl
  | a :: l, i, k => by
    simp only [killK, killL]
    cases mem i mods <;> simp only [killK_eq mods l]
def dropK (mods : List Nat) : Nat → List (Option Chunk) → (List (Option Chunk) → Prop) → Prop
  | _, [], k => k []
  | i, a :: l, k => match mem i mods with
    | true => dropK mods (i + 1) l fun r => k (none :: r)
    | false => dropK mods (i + 1) l fun r => k (a :: r)
theorem dropK_eq (mods : List Nat) : ∀ (l : List (Option Chunk)) (i : Nat) (k : List (Option Chunk) → Prop), dropK mods i l k = k (dropL mods i l)
  | [], _, _ => rfl
  | a :: l, i, k => by
    simp only [dropK, dropL]
    cases mem i mods <;> simp only [dropK_eq mods l]
def setManyK : List (Nat × AV) → List AV → (List AV → Prop) → Prop
  | [], fr, k => k fr
  | (i, a) :: r, fr, k => setFK fr i a fun fr' => setManyK r fr' k
theorem setManyK_eq : ∀ (r : List (Nat × AV)) (fr : List AV) (k : List AV → Prop), setManyK r fr k = k (setManyF fr r)
  | [], _, _ => rfl
  | (i, a) :: r, fr, k => by simp only [setManyK, setManyF]; rw [setFK_eq]; exact setManyK_eq r _ k
def headK (mods : List Nat) (base : St) (live : List (Nat × AV)) (chs : List (Nat × Chunk)) (k : St → Prop) : Prop :=
  killK mods 0 base.fr fun f => setManyK live f fun fr => dropK mods 0 base.ch fun c => setAllK chs c fun ch => k ⟨fr, ch⟩
theorem headK_eq (mods base live chs) (k : St → Prop) : headK mods base live chs k = k (headS mods base live chs) := by
  unfold headK headS
  rw [killK_eq, setManyK_eq, dropK_eq, setAllK_eq]

mutual
def noRef (ms : List Nat) : AV → Bool
  | .ref c _ _ => !(mem c ms)
  | .sl c _ _ _ => !(mem c ms)
  | .mp c _ => !(mem c ms)
  | .agg l => noRefL ms l
  | .fn _ l => noRefL ms l
  | .ifc _ a => noRef ms a
  | .tup l => noRefL ms l
  | _ => true
def noRefL (ms : List Nat) : List AV → Bool
  | [] => true
  | a :: l => noRef ms a && noRefL ms l
end
mutual
theorem rel_drop {vs vs' ez ez' ρ} {ms : List Nat} (h : ∀ c, c ∉ ms → vs' c = vs c ∧ ez' c = ez c) : ∀ (a : AV) (u : Value), noRef ms a = true → rel vs ez ρ a u → rel vs' ez' ρ a u
  | .v _, _, _, hr => by simpa [rel] using hr
  | .dead, _, _, _ => by simp [rel]
  | .ref c k off, u, hn, hr => by
    simp only [noRef, Bool.not_eq_true'] at hn
    have : c ∉ ms := fun hc => by rw [mem_eq.2 hc] at hn; cases hn
    simp only [rel] at hr ⊢
    rw [(h c this).1]
    exact hr
  | .sl c k lo n, u, hn, hr => by
    simp only [noRef, Bool.not_eq_true'] at hn
    have : c ∉ ms := fun hc => by rw [mem_eq.2 hc] at hn; cases hn
    simp only [rel] at hr ⊢
    rw [(h c this).1, (h c this).2]
    exact hr
  | .mp c k, u, hn, hr => by
    simp only [noRef, Bool.not_eq_true'] at hn
    have : c ∉ ms := fun hc => by rw [mem_eq.2 hc] at hn; cases hn
    simp only [rel] at hr ⊢
    rw [(h c this).1]
    exact hr
  | .agg l, u, hn, hr => by
    simp only [rel] at hr ⊢
    obtain ⟨xs, h1, h2⟩ := hr
    exact ⟨xs, h1, relL_dropc h l _ (by simpa [noRef] using hn) h2⟩
  | .fn f l, u, hn, hr => by
    simp only [rel] at hr ⊢
    obtain ⟨xs, h1, h2⟩ := hr
    exact ⟨xs, h1, relL_dropc h l _ (by simpa [noRef] using hn) h2⟩
  | .ifc t a, u, hn, hr => by
    simp only [rel] at hr ⊢
    obtain ⟨x, h1, h2⟩ := hr
    exact ⟨x, h1, rel_drop h a _ (by simpa [noRef] using hn) h2⟩
  | .tup l, u, hn, hr => by
    simp only [rel] at hr ⊢
    obtain ⟨xs, h1, h2⟩ := hr
    exact ⟨xs, h1, relL_dropc h l _ (by simpa [noRef] using hn) h2⟩
theorem relL_dropc {vs vs' ez ez' ρ} {ms : List Nat} (h : ∀ c, c ∉ ms → vs' c = vs c ∧ ez' c = ez c) : ∀ (l : List AV) (xs : List Value), noRefL ms l = true → relL vs ez ρ l xs → relL vs' ez' ρ l xs
  | [], [], _, _ => by simp [relL]
  | [], _ :: _, _, hr => by simp [relL] at hr
  | _ :: _, [], _, hr => by simp [relL] at hr
  | a :: l, x :: xs, hn, hr => by
    simp only [noRefL, Bool.and_eq_true] at hn
    simp only [relL] at hr ⊢
    exact ⟨rel_drop h a x hn.1 hr.1, relL_dropc h l xs hn.2 hr.2⟩
end

def wkF : List AV → List AV → Prop
  | [], [] => True
  | _ :: l, .dead :: r => wkF l r
  | a :: l, b :: r => a = b ∧ wkF l r
  | _, _ => False
theorem relL_wk {vs ez ρ} : ∀ (l r : List AV) (xs : List Value), wkF l r → relL vs ez ρ l xs → relL vs ez ρ r xs
  | [], [], xs, _, h => h
  | [], b :: r, _, h, _ => by simp [wkF] at h
  | a :: l, [], _, h, _ => by cases a <;> simp [wkF] at h
  | a :: l, b :: r, [], _, h => by simp [relL] at h
  | a :: l, b :: r, x :: xs, hw, h => by
    simp only [relL] at h ⊢
    by_cases hd : b = .dead
    · subst hd
      have : wkF l r := by cases a <;> simpa [wkF] using hw
      exact ⟨by simp [rel], relL_wk l r xs this h.2⟩
    · have : a = b ∧ wkF l r := by cases b <;> simp_all [wkF]
      rw [← this.1]
      exact ⟨h.1, relL_wk l r xs this.2 h.2⟩
def allNone : List (Option Chunk) → Prop
  | [] => True
  | none :: r => allNone r
  | some _ :: _ => False
theorem allNone_get : ∀ {r : List (Option Chunk)}, allNone r → ∀ c, getO r c = none
  | [], _, c => by cases c <;> rfl
  | none :: r, _, 0 => rfl
  | none :: r, h, c + 1 => allNone_get (r := r) h c
  | some _ :: _, h, _ => False.elim h
def wkC : Nat → List (Option Chunk) → List (Option Chunk) → (List Nat → Prop) → Prop
  | _, [], r, k => allNone r ∧ k []
  | i, none :: l, r, k => match r with
    | [] => wkC (i + 1) l [] k
    | none :: r => wkC (i + 1) l r k
    | some _ :: _ => False
  | i, some a :: l, r, k => match r with
    | [] => wkC (i + 1) l [] fun ms => k (i :: ms)
    | none :: r => wkC (i + 1) l r fun ms => k (i :: ms)
    | some b :: r => a = b ∧ wkC (i + 1) l r k
theorem getO_nil (c : Nat) : getO ([] : List (Option Chunk)) c = none := by cases c <;> rfl
theorem wkC_ok : ∀ (l r : List (Option Chunk)) (i : Nat) (k : List Nat → Prop), wkC i l r k → ∃ ms, k ms ∧ ∀ c, (∀ m, getO r c = some m → getO l c = some m) ∧ ((i + c) ∉ ms → getO r c = getO l c)
  | [], r, i, k, h => ⟨[], h.2, fun c => ⟨(fun m hm => by rw [allNone_get h.1] at hm; simp at hm), fun _ => by rw [allNone_get h.1, getO_nil]⟩⟩
  | none :: l, r, i, k, h => by
    cases r with
    | nil =>
      obtain ⟨ms, h1, h2⟩ := wkC_ok l [] (i + 1) k h
      refine ⟨ms, h1, fun c => ?_⟩
      cases c with
      | zero => exact ⟨fun m hm => by simp [getO] at hm, fun _ => rfl⟩
      | succ c =>
        have := h2 c
        rw [show i + 1 + c = i + (c + 1) by omega, getO_nil] at this
        exact this
    | cons b r =>
      cases b with
      | none =>
        obtain ⟨ms, h1, h2⟩ := wkC_ok l r (i + 1) k h
        refine ⟨ms, h1, fun c => ?_⟩
        cases c with
        | zero => exact ⟨fun m hm => by simp [getO] at hm, fun _ => rfl⟩
        | succ c =>
          have := h2 c
          rwa [show i + 1 + c = i + (c + 1) by omega] at this
      | some b => exact False.elim h
  | some a :: l, r, i, k, h => by
    cases r with
    | nil =>
      obtain ⟨ms, h1, h2⟩ := wkC_ok l [] (i + 1) _ h
      refine ⟨i :: ms, h1, fun c => ?_⟩
      cases c with
      | zero => exact ⟨fun m hm => by simp [getO] at hm, fun hn => by simp at hn⟩
      | succ c =>
        have := h2 c
        rw [show i + 1 + c = i + (c + 1) by omega, getO_nil] at this
        exact ⟨this.1, fun hn => this.2 (fun hx => hn (List.mem_cons_of_mem _ hx))⟩
    | cons b r =>
      cases b with
      | none =>
        obtain ⟨ms, h1, h2⟩ := wkC_ok l r (i + 1) _ h
        refine ⟨i :: ms, h1, fun c => ?_⟩
        cases c with
        | zero => exact ⟨fun m hm => by simp [getO] at hm, fun hn => by simp at hn⟩
        | succ c =>
          have := h2 c
          rw [show i + 1 + c = i + (c + 1) by omega] at this
          exact ⟨this.1, fun hn => this.2 (fun hx => hn (List.mem_cons_of_mem _ hx))⟩
      | some b =>
        obtain ⟨e, h⟩ := h
        subst e
        obtain ⟨ms, h1, h2⟩ := wkC_ok l r (i + 1) k h
        refine ⟨ms, h1, fun c => ?_⟩
        cases c with
        | zero => exact ⟨fun m hm => hm, fun _ => rfl⟩
        | succ c =>
          have := h2 c
          rwa [show i + 1 + c = i + (c + 1) by omega] at this

def noRefC (ms : List Nat) : List (Option Chunk) → Bool
  | [] => true
  | none :: l => noRefC ms l
  | some k :: l => noRefL ms k.cells && noRefC ms l
theorem noRefC_get {ms : List Nat} : ∀ {l : List (Option Chunk)} {c : Nat} {k : Chunk}, noRefC ms l = true → getO l c = some k → noRefL ms k.cells = true
  | [], c, k, _, h => by simp [getO] at h
  | none :: l, 0, k, _, h => by simp [getO] at h
  | some k' :: l, 0, k, hn, h => by
    simp only [noRefC, Bool.and_eq_true] at hn
    simp only [getO, Option.some.injEq] at h
    exact h ▸ hn.1
  | none :: l, c + 1, k, hn, h => noRefC_get (l := l) (by simpa [noRefC] using hn) h
  | some k' :: l, c + 1, k, hn, h => by
    simp only [noRefC, Bool.and_eq_true] at hn
    exact noRefC_get (l := l) hn.2 h
def allHi (n : Nat) : List Nat → Bool
  | [] => true
  | m :: l => Nat.ble n m && allHi n l
theorem allHi_eq {n : Nat} : ∀ {l : List Nat}, allHi n l = true → ∀ m, m ∈ l → n ≤ m
  | [], _, m, h => by simp at h
  | x :: l, h, m, hm => by
    simp only [allHi, Bool.and_eq_true] at h
    rcases List.mem_cons.1 hm with rfl | hm
    · exact Nat.le_of_ble_eq_true h.1
    · exact allHi_eq h.2 m hm
structure Fgt (X : Ctx) (t : St) (ms : List Nat) : Prop where
  f : noRefL ms t.fr = true
  c : noRefC ms t.ch = true
  n : allHi X.n ms = true
theorem Le.wk {X : Ctx} {s t : St} (hf : wkF s.fr t.fr) (hc : wkC 0 s.ch t.ch (Fgt X t)) : Le X s t := by
  intro E a w ρ hr
  obtain ⟨ms, ⟨n1, n2, n3⟩, hm⟩ := wkC_ok _ _ _ _ hc
  have hvs : ∀ c, c ∉ ms → t.vs c = s.vs c ∧ t.ez c = s.ez c := by
    intro c hcm
    have := (hm c).2 (by simpa using hcm)
    simp [St.vs, St.ez, this]
  obtain ⟨g1, g2, g3, g4⟩ := hr
  obtain ⟨q1, q2, q3, q4, q5, q6, q7⟩ := g3
  refine ⟨ρ, relL_dropc hvs _ _ n1 (relL_wk _ _ _ hf g1), g2, ⟨fun c k hk => ?_, fun c k b hk => q2 c k b ((hm c).1 k hk), fun c k b hk => q3 c k b ((hm c).1 k hk), fun c k b hk => q4 c k b ((hm c).1 k hk),
    fun c k hk => q5 c k ((hm c).1 k hk), fun c d k l b hk hl => q6 c d k l b ((hm c).1 k hk) ((hm d).1 l hl), q7⟩, fun c v hv => ?_⟩
  rotate_left
  · have hcm : c ∉ ms := fun h => by
      have := allHi_eq n3 c h
      have := E.b.lt c v hv
      omega
    rw [(hvs c hcm).1, (hvs c hcm).2]
    exact g4 c v hv
  obtain ⟨xs, hx, hmm⟩ := q1 c k ((hm c).1 k hk)
  exact ⟨xs, relL_dropc hvs _ _ (noRefC_get n2 hk) hx, hmm⟩

theorem TR.loopH {X : Ctx} {c : Code} {K : Exit → St → Prop} {st : St} {α : Type} (live : α → List (Nat × AV)) (chs : α → List (Nat × Chunk)) (φ : α → Prop) (μ : α → Nat) (x0 : α) (h0 : φ x0)
    (hl : headK (dstsC c) st (live x0) (chs x0) fun s => wkF st.fr s.fr ∧ wkC 0 st.ch s.ch (Fgt X s))
    (step : ∀ x, φ x → headK (dstsC c) st (live x) (chs x) fun s => TR X c (fun e s => match e with
      | .normal => ∃ x', φ x' ∧ μ x' < μ x ∧ headK (dstsC c) st (live x') (chs x') fun t => wkF s.fr t.fr ∧ wkC 0 s.ch t.ch (Fgt X t)
      | e => K e s) s) : TR X (.loop c) K st := by
  refine TR.loop (fun x => headS (dstsC c) st (live x) (chs x)) φ μ x0 h0 ?_ fun x hx => ?_
  · rw [headK_eq] at hl
    exact Le.wk hl.1 hl.2
  · have := step x hx
    rw [headK_eq] at this
    refine this.mono fun e s h => ?_
    cases e with
    | normal =>
      obtain ⟨x', h1, h2, h3⟩ := h
      rw [headK_eq] at h3
      exact ⟨x', h1, h2, Le.wk h3.1 h3.2⟩
    | _ => exact h
end Go.SX
set_option linter.unusedSimpArgs false
set_option linter.unusedVariables false
namespace Go.SX


def resK1 {R : Type} (M : NA R) (T : List (Option Ty)) (st : St) (r : ResultVar) (k : AV → R) : R :=
  match r with
  | .tmp t => getFK st.fr t k
  | .cell t ty => getFK st.fr t fun a => match a with
    | .ref c q off => match getO st.ch c, getO T ty with
      | some ck, some y => chk M (rdK ck.kind) (chk M (aggd y || Nat.beq y.size 1) (Ver M q ck (M.ld (subL ck.cells off y.size) fun l => mkK y l k)))
      | _, _ => M.no
    | _ => M.no
def resKs {R : Type} (M : NA R) (T : List (Option Ty)) (st : St) : List ResultVar → (List AV → R) → R
  | [], k => k []
  | r :: rs, k => resK1 M T st r fun a => resKs M T st rs fun l => k (a :: l)
def resK {R : Type} (M : NA R) (T : List (Option Ty)) (st : St) (rs : List ResultVar) (k : AV → R) : R :=
  resKs M T st rs fun l => match l with
    | [a] => k a
    | l => k (.tup l)

def resOne (tmps : Array Value) : ResultVar → Sem Value
  | .tmp t => pure (tmps.getD t undef)
  | .cell p t => do loadVar t (← asAddr (tmps.getD p undef))
theorem results_eq (fn : Func) (tmps : Array Value) : results fn tmps = (do let vs ← fn.results.mapM (resOne tmps); pure (if h : vs.size = 1 then vs[0] else .tuple vs)) := by
  unfold results
  congr 1

section
variable {R : Type} {M : NA R} {H : R → Prop} {X : Ctx} {st : St}

theorem resK1_ok (hM : M.Ok H X) (hT : X.ok) {r : ResultVar} {k : AV → R} (h : H (resK1 M X.T st r k)) : ∃ av, H (k av) ∧ ∀ E a w ρ, Rel X E st a w ρ →
    ∃ v, (resOne a.tmps r).run X.P w = .ok v w ∧ rel st.vs st.ez ρ av v := by
  unfold resK1 at h
  cases r with
  | tmp t =>
    simp only [getFK_eq] at h
    refine ⟨_, h, fun E a w ρ hr => ⟨a.tmps.getD t undef, rfl, ?_⟩⟩
    have := relL_get st.fr a.tmps.toList t hr.fr
    simpa [Array.getD_eq_getD_getElem?] using this
  | cell t ty =>
    simp only [getFK_eq] at h
    split at h
    · rename_i c q off hp
      split at h
      · rename_i ck y hc hy
        obtain ⟨h1, h⟩ := chk_eq hM h
        obtain ⟨h2, h⟩ := chk_eq hM h
        obtain ⟨h3, h⟩ := Ver_eq hM h
        obtain ⟨l, h4, h⟩ := hM.ld h
        rw [mkK_eq] at h
        refine ⟨_, h, fun E a w ρ hr => ?_⟩
        have g1 := relL_get st.fr a.tmps.toList t hr.fr
        rw [hp] at g1
        have g1' : rel st.vs st.ez ρ (.ref c q off) (a.tmps.getD t undef) := by simpa [Array.getD_eq_getD_getElem?] using g1
        simp only [rel] at g1'
        obtain ⟨cur, g1, g2, g3, _⟩ := g1'
        have hcur : cur = ck.ver := by simp [St.vs, hc] at g1; exact g1.symm
        subst hcur
        have hpp := g3 h3
        obtain ⟨ys, hcs, hm⟩ := hr.heap.ok c ck hc
        obtain ⟨g4, g5⟩ := relL_sub hcs h4
        have hload := (hT ty y hy).run_load (w := w) ⟨(ρ c).blk, (ρ c).off + off, none⟩ _ g5 (aggz h2) (fun i u hu => by
          rw [add_none, Nat.add_assoc]
          rw [List.getElem?_take] at hu
          split at hu
          · rw [List.getElem?_drop] at hu
            exact mem_cells hm (rdK_eq h1) _ u hu
          · cases hu)
        exact ⟨_, by simp [resOne, hpp, asAddr, hload], rel_mkA g4⟩
      · exact (hM.no h).elim
    · exact (hM.no h).elim
theorem resKs_ok (hM : M.Ok H X) (hT : X.ok) : ∀ (rs : List ResultVar) (k : List AV → R), H (resKs M X.T st rs k) → ∃ l, H (k l) ∧ ∀ E a w ρ, Rel X E st a w ρ →
    ∃ vs, (rs.mapM (resOne a.tmps)).run X.P w = .ok vs w ∧ relL st.vs st.ez ρ l vs
  | [], k, h => ⟨[], h, fun E a w ρ hr => ⟨[], rfl, by simp [relL]⟩⟩
  | r :: rs, k, h => by
    obtain ⟨av, h1, h2⟩ := resK1_ok hM hT h
    obtain ⟨l, h3, h4⟩ := resKs_ok hM hT rs _ h1
    refine ⟨av :: l, h3, fun E a w ρ hr => ?_⟩
    obtain ⟨v, g1, g2⟩ := h2 E a w ρ hr
    obtain ⟨vs, g3, g4⟩ := h4 E a w ρ hr
    refine ⟨v :: vs, ?_, by simp only [relL]; exact ⟨g2, g4⟩⟩
    simp only [List.mapM_cons, Sem.run_bind]
    rw [g1]; simp only [Result.andThen_ok]; rw [g3]; rfl
theorem resK_ok (hM : M.Ok H X) (hT : X.ok) {fn : Func} {k : AV → R} (h : H (resK M X.T st fn.results.toList k)) : ∃ av, H (k av) ∧ ∀ E a w ρ, Rel X E st a w ρ → ∃ v, (results fn a.tmps).run X.P w = .ok v w ∧ rel st.vs st.ez ρ av v := by
  unfold resK at h
  obtain ⟨l, h1, h2⟩ := resKs_ok hM hT _ _ h
  have main : ∀ E a w ρ, Rel X E st a w ρ → ∃ vs : List Value, (results fn a.tmps).run X.P w = .ok (if h : vs.toArray.size = 1 then vs.toArray[0] else .tuple vs.toArray) w ∧ relL st.vs st.ez ρ l vs := by
    intro E a w ρ hr
    obtain ⟨vs, g1, g2⟩ := h2 E a w ρ hr
    refine ⟨vs, ?_, g2⟩
    rw [results_eq, Array.mapM_eq_mapM_toList]
    simp only [Sem.run_bind, Sem.run_map]
    rw [g1]
    rfl
  cases l with
  | nil =>
    refine ⟨_, h1, fun E a w ρ hr => ?_⟩
    obtain ⟨vs, g1, g2⟩ := main E a w ρ hr
    cases vs with
    | nil => exact ⟨_, g1, by simp only [rel]; exact ⟨_, rfl, by simpa using g2⟩⟩
    | cons => simp [relL] at g2
  | cons b l =>
    cases l with
    | nil =>
      refine ⟨_, h1, fun E a w ρ hr => ?_⟩
      obtain ⟨vs, g1, g2⟩ := main E a w ρ hr
      match vs, g2 with
      | [v], g2 =>
        simp only [relL] at g2
        exact ⟨v, by simpa using g1, g2.1⟩
    | cons c l =>
      refine ⟨_, h1, fun E a w ρ hr => ?_⟩
      obtain ⟨vs, g1, g2⟩ := main E a w ρ hr
      have hl := relL_len _ _ g2
      refine ⟨.tuple vs.toArray, ?_, by simp only [rel]; exact ⟨_, rfl, by simpa using g2⟩⟩
      rw [dif_neg (by simp at hl ⊢; omega)] at g1
      exact g1

def endK (X : Ctx) (rs : List ResultVar) (R : AV → St → Prop) : Exit → St → Prop
  | .normal, s => resK (propNA X) X.T s rs fun a => R a s
  | .ret, s => resK (propNA X) X.T s rs fun a => R a s
  | _, _ => False

theorem calls_of_TR (E : Env X) (hds : E.ds = [] ∧ E.rd = none) {f : FuncId} {fn : Func} {c : Code} {args : Array Value} {ρ : Nat → Loc} {Q : AV → St → Prop} (hT : X.ok) (hf : X.P.funcs[f]? = some fn) (hb : fn.body = some c)
    (hrel : relL st.vs st.ez ρ st.fr (args ++ Array.replicate (fn.ntmps - args.size) undef).toList) (hheap : Heap E.w0 E.O st E.w0 ρ) (hgh : Up E.b.vs st.vs E.b.ez st.ez E.b.ρ ρ)
    (h : TR X c (endK X fn.results.toList Q) st) :
    Calls X.P f args E.w0 fun e w' => ∃ v r s ρ', e = .returned v ∧ Q r s ∧ rel s.vs s.ez ρ' r v ∧ Heap E.w0 E.O s w' ρ' ∧ Up E.b.vs s.vs E.b.ez s.ez E.b.ρ ρ' := by
  obtain ⟨hds, hrd⟩ := hds
  have hw0 := h.out E { tmps := args ++ Array.replicate (fn.ntmps - args.size) undef, defers := [] } E.w0 ρ ⟨hrel, hds.symm, hheap, hgh⟩
  rw [hrd] at hw0
  refine calls_of_wp hf hb (wp_mono (wp_of_wide hw0) ?_)
  rintro e a' w' ⟨s, ρ', hk, hr⟩
  have fin : resK (propNA X) X.T s fn.results.toList (fun a => Q a s) → a'.defers = [] ∧ ∃ v, (results fn a'.tmps).run X.P w' = .ok v w' ∧ ∃ v' r s ρ', Ending.returned v = .returned v' ∧ Q r s ∧ rel s.vs s.ez ρ' r v' ∧ Heap E.w0 E.O s w' ρ' ∧ Up E.b.vs s.vs E.b.ez s.ez E.b.ρ ρ' := by
    intro hk
    obtain ⟨av, h1, h2⟩ := resK_ok (propNA_ok X) hT hk
    obtain ⟨v, h3, h4⟩ := h2 E a' w' ρ' hr
    exact ⟨hr.df.trans hds, v, h3, v, av, s, ρ', rfl, h1, h4, hr.heap, hr.gh⟩
  cases e with
  | normal => exact fin hk
  | ret => exact fin hk
  | _ => exact hk.elim
end

def Has (P : Program) (f : FuncId) : Prop := ∃ fn, P.funcs[f]? = some fn ∧ (fn.name == "runtime.NumGoroutine") = false ∧ fn.body.isNone = false
structure Ret (P : Program) (f : FuncId) (args : List Value) (w : World) (v : Value) : Prop where
  has : Has P f
  run : Calls P f args.toArray w fun e w' => e = .returned v ∧ Mod w w' fun _ => False

mutual
def val : AV → Option Value
  | .v x => some x
  | .agg l => match valL l with
    | some r => some (.agg r.toArray)
    | none => none
  | .tup l => match valL l with
    | some r => some (.tuple r.toArray)
    | none => none
  | _ => none
def valL : List AV → Option (List Value)
  | [] => some []
  | a :: l => match val a, valL l with
    | some x, some r => some (x :: r)
    | _, _ => none
end
def vals : List AV → Option (List Value) := valL
mutual
theorem val_rel {vs ez ρ} : ∀ {a : AV} {x u : Value}, val a = some x → rel vs ez ρ a u → u = x
  | .v y, x, u, h, hr => by
    simp only [val, Option.some.injEq] at h
    simp only [rel] at hr
    rw [hr, h]
  | .agg l, x, u, h, hr => by
    simp only [val] at h
    cases hl : valL l with
    | none => simp [hl] at h
    | some r =>
      simp only [hl, Option.some.injEq] at h
      simp only [rel] at hr
      obtain ⟨xs, rfl, hr⟩ := hr
      have := valL_rel hl hr
      rw [← h, ← this]
  | .tup l, x, u, h, hr => by
    simp only [val] at h
    cases hl : valL l with
    | none => simp [hl] at h
    | some r =>
      simp only [hl, Option.some.injEq] at h
      simp only [rel] at hr
      obtain ⟨xs, rfl, hr⟩ := hr
      have := valL_rel hl hr
      rw [← h, ← this]
  | .ref .., _, _, h, _ => by simp [val] at h
  | .sl .., _, _, h, _ => by simp [val] at h
  | .mp .., _, _, h, _ => by simp [val] at h
  | .fn .., _, _, h, _ => by simp [val] at h
  | .ifc .., _, _, h, _ => by simp [val] at h
  | .dead, _, _, h, _ => by simp [val] at h
theorem valL_rel {vs ez ρ} : ∀ {l : List AV} {r xs : List Value}, valL l = some r → relL vs ez ρ l xs → xs = r
  | [], r, [], h, _ => by simp only [valL, Option.some.injEq] at h; exact h
  | [], _, _ :: _, _, h => by simp [relL] at h
  | _ :: _, _, [], _, h => by simp [relL] at h
  | a :: l, r, x :: xs, h, hr => by
    simp only [valL] at h
    simp only [relL] at hr
    split at h
    · rename_i y ys h1 h2
      cases h
      rw [val_rel h1 hr.1, valL_rel h2 hr.2]
    · cases h
end
def deads : Nat → List AV → List AV
  | 0, l => l
  | n + 1, l => deads n (.dead :: l)
theorem relL_deads {vs ez ρ} : ∀ (n : Nat) (l : List AV) (xs : List Value), relL vs ez ρ l xs → relL vs ez ρ (deads n l) (List.replicate n undef ++ xs)
  | 0, l, xs, h => by simpa [deads] using h
  | n + 1, l, xs, h => by
    simp only [deads]
    have := relL_deads n (.dead :: l) (undef :: xs) (by simp only [relL]; exact ⟨by simp [rel], h⟩)
    rw [List.replicate_succ']
    simpa using this
def appK' : List Value → List AV → (List AV → Prop) → Prop
  | [], l, k => k l
  | x :: xs, l, k => appK' xs l fun r => k (.v x :: r)
theorem appK'_eq : ∀ (xs : List Value) (l : List AV) (k : List AV → Prop), appK' xs l k = k (xs.map .v ++ l)
  | [], _, _ => rfl
  | x :: xs, l, k => by simp only [appK']; rw [appK'_eq xs]; rfl
def deadsK : Nat → List AV → (List AV → Prop) → Prop
  | 0, l, k => k l
  | n + 1, l, k => deadsK n (.dead :: l) k
theorem deadsK_eq : ∀ (n : Nat) (l : List AV) (k : List AV → Prop), deadsK n l k = k (deads n l)
  | 0, _, _ => rfl
  | n + 1, l, k => deadsK_eq n _ k

theorem Ret.of {P : Program} {T : List (Option Ty)} {I : World → Prop} {w : World} (hI : ∀ w', Mod w w' (fun _ => False) → I w') {f : FuncId} {fn : Func} {c : Code} {n : Nat} {args : List Value} {v : Value} (hT : Ctx.ok ⟨P, T, 0, I⟩) (hf : P.funcs[f]? = some fn) (hnm : (fn.name == "runtime.NumGoroutine") = false) (hb : fn.body = some c)
    (hn : fn.ntmps - args.length = n) (h : deadsK n [] fun ds => appK' args ds fun fr => TR ⟨P, T, 0, I⟩ c (endK ⟨P, T, 0, I⟩ fn.results.toList fun r _ => val r = some v) ⟨fr, []⟩) : Ret P f args w v := by
  rw [deadsK_eq, appK'_eq] at h
  refine ⟨⟨fn, hf, hnm, by simp [hb]⟩, ?_⟩
  refine (calls_of_TR (X := ⟨P, T, 0, I⟩) ⟨w, fun _ => False, Base.no 0, hI, [], none⟩ ⟨rfl, rfl⟩ (ρ := fun _ => ⟨0, 0, none, 0, fun _ => False⟩) hT hf hb ?_ ?_ ?_ h).mono ?_
  · have h1 := relL_deads (vs := St.vs ⟨args.map .v ++ deads n [], []⟩) (ez := St.ez ⟨args.map .v ++ deads n [], []⟩) (ρ := fun _ => ⟨0, 0, none, 0, fun _ => False⟩) n [] [] (by simp [relL])
    have h2 := relL_append _ _ _ _ (relL_vals (vs := St.vs ⟨args.map .v ++ deads n [], []⟩) (ez := St.ez ⟨args.map .v ++ deads n [], []⟩) (ρ := fun _ => ⟨0, 0, none, 0, fun _ => False⟩) args) h1
    simpa [hn] using h2
  · refine ⟨fun c k hk => ?_, fun c k b hk => ?_, fun c k b hk => ?_, fun c k b hk => ?_, fun c k hk => ?_, fun c d k l b hk => ?_, Mod.refl _ _⟩ <;> simp [getO_nil] at hk
  · intro c v hv; cases hv
  · rintro e w' ⟨v', r, s, ρ', rfl, hr, h1, h2, _⟩
    exact ⟨by rw [val_rel hr h1], h2.mod⟩

theorem vals_rel {vs ez ρ} {fr : List AV} {a : Act} : ∀ (xs : List Operand) (r : List Value), vals (xs.map (evA fr)) = some r → (∀ x, x ∈ xs → rel vs ez ρ (evA fr x) (a.eval x)) → xs.map a.eval = r
  | [], r, h, _ => by simp [vals, valL] at h; exact h.symm
  | x :: xs, r, h, hr => by
    simp only [List.map_cons, vals, valL] at h
    split at h
    · rename_i y ys h1 h2
      cases h
      rw [List.map_cons, val_rel h1 (hr x (by simp)), vals_rel xs ys h2 fun z hz => hr z (List.mem_cons_of_mem _ hz)]
    · cases h

theorem run_callFunc {P : Program} {f : FuncId} (h : Has P f) (args : Array Value) (w : World) : (callFunc f args).run P w = .ok (.enter f args) w := by
  obtain ⟨fn, h1, h2, h3⟩ := h
  simp only [callFunc, Sem.run_bind, run_program, Result.andThen_ok, h1, h2, h3, Bool.false_eq_true, if_false, Sem.run_pure]
theorem run_call {P : Program} {f : FuncId} (h : Has P f) {o : Oper} {xs : List Operand} {ts : Array TypeId} {a : Act} {w : World} (ho : o.op = .call { callee := .value (.func f), args := xs.toArray, argTypes := ts }) :
    (execOp a.eval o).run P w = .ok (.enter f (xs.map a.eval).toArray) w := by
  have e : (xs.toArray.map a.eval) = (xs.map a.eval).toArray := by simp
  simp only [execOp, ho, resolve, Act.eval, Deferred.ofValue, Sem.run_bind, Sem.run_pure, Result.andThen_ok, invoke]
  have e2 : #[] ++ Array.map a.eval xs.toArray ++ (#[] : Array Value) = (xs.map a.eval).toArray := by simp
  have e3 : (Array.map (fun x => a.eval x) xs.toArray) = (xs.map a.eval).toArray := by simp
  first
    | (rw [e2]; exact run_callFunc h _ w)
    | (simp; exact run_callFunc h _ w)

theorem Heap.grow {w0 O st w ρ w'} (h : Heap w0 O st w ρ) (hm : Mod w w' fun _ => False) : Heap w0 O st w' ρ := by
  obtain ⟨q1, q2, q3, q4, q5, q6, q7⟩ := h
  refine ⟨fun c k hk => ?_, fun c k b hk hb => Nat.lt_of_lt_of_le (q2 c k b hk hb) hm.size, q3, q4, q5, q6, q7.trans hm fun _ h => h.elim⟩
  obtain ⟨xs, hx, hmm⟩ := q1 c k hk
  exact ⟨xs, hx, q5 c k hk w w' xs (fun b hb => hm.block b (q2 c k b hk hb) id) hmm⟩

section
variable {X : Ctx} {o : Oper} {st : St} {k : Actn → Prop}
theorem ret_upon {P : Program} {f : FuncId} {vs : List Value} {w : World} {v : Value} (hr' : Ret P f vs w v) {E : Env X} {a : Act} {ρ : Nat → Loc} {st' : St} (hr : Rel X E st' a w ρ) {A : Actn} (hA : A.cout = []) (hres : A.res = .v v) :
    Calls P f vs.toArray w fun e w' => ∃ v ρ', e = .returned v ∧ Up st'.vs (A.app st').vs st'.ez (A.app st').ez ρ ρ' ∧ Heap E.w0 E.O (A.app st') w' ρ' ∧ rel (A.app st').vs (A.app st').ez ρ' A.res v := by
  refine hr'.run.mono ?_
  rintro e w' ⟨rfl, hm⟩
  have hch : (A.app st').ch = st'.ch := by simp [Actn.app, hA, setAll]
  have hst : (A.app st').vs = st'.vs ∧ (A.app st').ez = st'.ez := by simp [St.vs, St.ez, hch, funext_iff]
  refine ⟨v, ρ, rfl, by rw [hst.1, hst.2]; exact Up.refl _ _ _, ?_, by rw [hres]; simp [rel]⟩
  have h5 := hr.heap.grow hm
  obtain ⟨g1, g2, g3, g4, g5, g6, g7⟩ := h5
  exact ⟨fun c k hk => by rw [hch] at hk; rw [hst.1, hst.2]; exact g1 c k hk, fun c k b hk => by rw [hch] at hk; exact g2 c k b hk, fun c k b hk => by rw [hch] at hk; exact g3 c k b hk,
      fun c k b hk => by rw [hch] at hk; exact g4 c k b hk, fun c k hk => by rw [hch] at hk; exact g5 c k hk, fun c d k l b hk hl => by rw [hch] at hk hl; exact g6 c d k l b hk hl, g7⟩
theorem x_ret {f : FuncId} {xs : List Operand} {ts : Array TypeId} {vs : List Value} {v : Value} (ho : o.op = .call { callee := .value (.func f), args := xs.toArray, argTypes := ts }) (hv : vals (xs.map (evA st.fr)) = some vs)
    (hc : ∀ w, X.I w → Ret X.P f vs w v) (h : k (aP o st.fr xs (.v v))) : ActN X o st k := by
  refine ⟨_, LS.call rfl fun st' E a w ρ hf hr => ?_, ⟨rds_fits st.fr st.ch xs, by simp [aP]⟩, h⟩
  have hr' := hc w (E.inv w hr.heap.mod)
  have hargs := vals_rel (fr := st.fr) (a := a) (vs := st'.vs) (ez := st'.ez) (ρ := ρ) xs vs hv fun x hx => by
    rw [← fits_ev hf (fr := st.fr) (x := x) (rds_mem hx)]
    exact hr.ev x
  refine ⟨f, _, run_call hr'.has ho, ?_⟩
  rw [hargs]
  exact ret_upon hr' hr rfl rfl
end
end Go.SX
