/-
  What the laws of these data stand on: contracts of functions, and plain laws.
-/
import Derived.Lib.Builder
import Derived.Lib.UnsafeStr
import Derived.Recover
import Derived.Deep.LoopGhost
import Derived.Lib.Bytealg
import Derived.Lib.Join
import Derived.Laws.Externs
import Derived.Laws.StructEq
import Derived.Lib.Strings
import Derived.Calls
import Derived.Tactics
import Derived.Laws.World
import Derived.Laws.Rows
import Derived.Laws.AppendOwn
import Derived.Laws.MakeOwn
import Derived.Orders
import Derived.OrdersIn
import Derived.Scope
import Derived.TacticsIn
import Derived.LoopNIn
import Derived.Sort.LoopGhostIn
import Derived.Below
import Derived.KernelRfl
import Derived.Laws.Strings
import Derived.Laws.BytesArg
import Derived.Laws.Entries
import Derived.Laws.Cells
import Derived.Lib.ConvBytes
import Derived.Lib.AppendStr
import Derived.LoopN
import Derived.MapKept
import Derived.WideKeyRuns
import Derived.RangeFuncLeaves
import Derived.RangeFuncSeq
import Derived.Test.YtbladfkakmdigaaGreatDoorRXa
import Derived.Test.YtbladfkakmdigaaGreatDoorRXb
set_option linter.unusedVariables false
set_option linter.unusedSimpArgs false
set_option linter.unnecessarySimpa false
set_option linter.unusedSimpArgs false
set_option linter.unusedVariables false
namespace Go.SX
section
variable {X : Ctx} {o : Oper} {st : St} {k : Actn → Prop}
theorem OwnB.shape {w : World} {b ty xs} (h : OwnB w b ty xs) : ∃ n, w.shape? b = some (ty, n) ∧ xs.length ≤ n := by
  obtain ⟨rest, fr, h, _⟩ := h
  exact ⟨(xs ++ rest).length, by simp [World.shape?, h], by simp⟩
theorem liesAt_head {P : Program} {T : TypeId} (hs : P.cellsOf T ≠ 0) (count : Nat) (hn : 1 ≤ count) : liesAt P P.depth T count 0 T 1 = true := by
  have hd : P.depth = (2 * (P.types.size + Made.depth) + 1) + 1 := rfl
  rw [hd]
  simp only [liesAt, Bool.or_eq_true]
  left
  rw [hd]
  simp [rowAt, hs, hn, sameLayout]
theorem ref_own {ρ : Nat → Loc} {vs : Nat → Option Nat} {ez : Nat → Nat} {c kv off : Nat} {ck : Chunk} {u : Value} {w : World} {ys : List Value} (hr : rel vs ez ρ (.ref c kv off) u) (hvs : vs c = some ck.ver) (hv : kv = ck.ver) (hk : ck.kind = .own) (hm : ck.mem w (ρ c) ys) :
    u = .pointer (some ⟨(ρ c).blk, off, none⟩) ∧ OwnB w (ρ c).blk ck.ty ys := by
  simp only [rel] at hr
  obtain ⟨cur, h1, h2, h3, _⟩ := hr
  rw [hvs] at h1
  cases h1
  unfold Chunk.mem at hm
  rw [hk] at hm
  obtain ⟨m1, _, m3, _⟩ := hm
  have := h3 hv
  rw [m1, Nat.zero_add] at this
  exact ⟨this, m3⟩
theorem x_to_unsafe (hT : X.ok) {s t e : TypeId} {x : Operand} {c kv off : Nat} {ck : Chunk} {ys ye : Ty} (ho : o.op = .convert s t x) (hx : evA st.fr x = .ref c kv off) (hc : getO st.ch c = some ck) (hv : kv = ck.ver) (hk : ck.kind = .own)
    (hys : getO X.T s = some ys) (hysd : ys.d = .ptr e) (hye : getO X.T e = some ye) (hsz : ye.size ≠ 0) (hU : X.P.underlying t = some .unsafePointer) (hoff : off < ck.cells.length) (h : k (aR o st.fr [x] c ck (.ref c kv off))) : ActN X o st k := by
  refine ActN.r hc (fun vs ez ρ a w zs hr hvs hez hcs hm => ?_) h
  have g1 := hr x (by simp)
  rw [hx] at g1
  obtain ⟨hu, hown⟩ := ref_own g1 hvs hv hk hm
  obtain ⟨n, hsh, hn⟩ := hown.shape
  have hl := relL_len _ _ hcs
  obtain ⟨⟨dd, q1, q2⟩, _⟩ := hT s ys hys
  rw [hysd] at q2
  cases dd <;> simp only [TD.is] at q2
  subst q2
  obtain ⟨_, ⟨i, z, i1, i2, _⟩, _⟩ := hT e ye hye
  refine ⟨a.eval x, ?_, g1⟩
  rw [hu]
  have := Lib.run_to_unsafe (P := X.P) w ⟨(ρ c).blk, off, none⟩ q1 hU i1 (by rw [i2]; exact hsz) hsh (by show off < n; omega)
  simp [execOp, ho, hu, this]
theorem x_from_unsafe (hT : X.ok) {s t e : TypeId} {x : Operand} {c kv : Nat} {ck : Chunk} {yt ye : Ty} (ho : o.op = .convert s t x) (hx : evA st.fr x = .ref c kv 0) (hc : getO st.ch c = some ck) (hv : kv = ck.ver) (hk : ck.kind = .own)
    (hyt : getO X.T t = some yt) (hytd : yt.d = .ptr e) (hye : getO X.T e = some ye) (hsz : ye.size ≠ 0) (hU : X.P.underlying s = some .unsafePointer) (hty : ck.ty = e) (hn : ye.size ≤ ck.cells.length) (h : k (aR o st.fr [x] c ck (.ref c kv 0))) : ActN X o st k := by
  refine ActN.r hc (fun vs ez ρ a w zs hr hvs hez hcs hm => ?_) h
  have g1 := hr x (by simp)
  rw [hx] at g1
  obtain ⟨hu, hown⟩ := ref_own g1 hvs hv hk hm
  obtain ⟨n, hsh, hn'⟩ := hown.shape
  have hl := relL_len _ _ hcs
  obtain ⟨⟨dd, q1, q2⟩, _⟩ := hT t yt hyt
  rw [hytd] at q2
  cases dd <;> simp only [TD.is] at q2
  subst q2
  obtain ⟨_, ⟨i, z, i1, i2, _⟩, _⟩ := hT e ye hye
  have hco : X.P.cellsOf e = ye.size := by simp [Program.cellsOf, i1, i2]
  rw [hty] at hsh
  have hpos : 1 ≤ n / X.P.cellsOf e := by
    rw [hco]
    exact (Nat.le_div_iff_mul_le (by omega)).2 (by omega)
  refine ⟨a.eval x, ?_, g1⟩
  rw [hu]
  have := Lib.run_from_unsafe (P := X.P) w ⟨(ρ c).blk, 0, none⟩ hU q1 i1 hsh (liesAt_head (by rw [hco]; exact hsz) _ hpos)
  simp [execOp, ho, hu, this]
theorem x_eq_refs (hT : X.ok) {t ty e : TypeId} {x z : Operand} {c kv off : Nat} {ck : Chunk} {y ye : Ty} (ho : o.op = .binOp .neq t x z ty) (hx : evA st.fr x = .ref c kv off) (hz : evA st.fr z = .ref c kv off) (hc : getO st.ch c = some ck) (hv : kv = ck.ver) (hk : ck.kind = .own) (hy : getO X.T t = some y) (hyd : y.d = .ptr e) (hye : getO X.T e = some ye)
    (h : k (aR o st.fr [x, z] c ck (.v (.bool false)))) : ActN X o st k := by
  refine ActN.r hc (fun vs ez ρ a w zs hr hvs hez hcs hm => ?_) h
  have g1 := hr x (by simp)
  have g2 := hr z (by simp)
  rw [hx] at g1
  rw [hz] at g2
  obtain ⟨hu, _⟩ := ref_own g1 hvs hv hk hm
  obtain ⟨hu2, _⟩ := ref_own g2 hvs hv hk hm
  obtain ⟨⟨dd, q1, q2⟩, _⟩ := hT t y hy
  rw [hyd] at q2
  cases dd <;> simp only [TD.is] at q2
  subst q2
  obtain ⟨_, ⟨i, z', i1, _⟩, _⟩ := hT e ye hye
  have hb := Lib.run_neq_ptr_same (P := X.P) w ⟨(ρ c).blk, off, none⟩ q1 i1
  have hg : (eqGuard .neq t x z (.pointer (some ⟨(ρ c).blk, off, none⟩)) (.pointer (some ⟨(ρ c).blk, off, none⟩))).run X.P w = .ok () w := by simp [eqGuard]
  refine ⟨.bool false, ?_, by simp [rel]⟩
  simp [execOp, ho, hu, hu2, hg, hb]
theorem x_slice_data {x : Operand} {ts : Array TypeId} {c kv n : Nat} {ck : Chunk} (ho : o.op = .call { callee := .builtin .unsafeSliceData, args := [x].toArray, argTypes := ts }) (hx : evA st.fr x = .sl c kv 0 n) (hc : getO st.ch c = some ck) (hv : kv = ck.ver) (hk : ck.kind = .row) (h0 : 0 < n)
    (h : k (aR o st.fr [x] c ck (.ref c kv 0))) : ActN X o st k := by
  refine ActN.r hc (fun vs ez ρ a w zs hr hvs hez hcs hm => ?_) h
  have g1 := hr x (by simp)
  rw [hx] at g1
  simp only [rel] at g1
  obtain ⟨cur, h1, h2, h3, _⟩ := g1
  rw [hvs] at h1
  cases h1
  obtain ⟨s1, ad, s2, _, s4⟩ := h3 hv
  unfold Chunk.mem at hm
  rw [hk] at hm
  obtain ⟨m1, m2, n', m3⟩ := hm
  have hcap : (ρ c).cap ≠ 0 := by omega
  have hb : (ρ c).base = some ⟨(ρ c).blk, 0, none⟩ := by
    rcases m2 with m2 | m2
    · rw [m2] at m3
      rcases m3.2 with ⟨q1, q2⟩ | ⟨g, cap, cr, q1, _⟩
      · simp at q1
        omega
      · cases q1
    · exact m2
  refine ⟨.pointer (some ⟨(ρ c).blk, 0, none⟩), ?_, ?_⟩
  · have := Lib.run_unsafeSliceData_row (P := X.P) w ts o.type ⟨(ρ c).blk, 0, none⟩ n ((ρ c).cap - 0) (by omega)
    have e : a.eval x = .slice (some ⟨(ρ c).blk, 0, none⟩) n ((ρ c).cap - 0) := by rw [s2, s4 rfl, hb]
    refine bcall (args := [x]) ho (fun _ => rfl) (s := Builtin.unsafeSliceData_ ts o.type #[a.eval x]) ?_
    rw [e]
    exact this
  · simp only [rel]
    exact ⟨ck.ver, hvs, by omega, fun _ => by rw [m1], _, rfl⟩
theorem x_slice_data_nil {x : Operand} {ts : Array TypeId} {n m : Nat} (ho : o.op = .call { callee := .builtin .unsafeSliceData, args := [x].toArray, argTypes := ts }) (hx : evA st.fr x = .v (.slice none n m)) (h : k (aP o st.fr [x] (.v (.pointer none)))) : ActN X o st k := by
  refine ActN.p (fun vs ez ρ a w hr => ?_) h
  have g1 := hr x (by simp)
  rw [hx] at g1
  simp only [rel] at g1
  refine ⟨.pointer none, ?_, by simp [rel]⟩
  refine bcall (args := [x]) ho (fun _ => rfl) (s := Builtin.unsafeSliceData_ ts o.type #[a.eval x]) ?_
  rw [g1]
  exact Lib.run_unsafeSliceData_nil w ts o.type n m
theorem x_unsafe_string_nil {x y : Operand} {pt it : TypeId} {p : Option Addr} (ho : o.op = .call { callee := .builtin .unsafeString, args := [x, y].toArray, argTypes := #[pt, it] }) (hx : evA st.fr x = .v (.pointer p)) (hy : evA st.fr y = .v (.int .i64 0)) (h : k (aP o st.fr [x, y] (.v (.string ByteArray.empty)))) : ActN X o st k := by
  refine ActN.p (fun vs ez ρ a w hr => ?_) h
  have g1 := hr x (by simp)
  have g2 := hr y (by simp)
  rw [hx] at g1
  rw [hy] at g2
  simp only [rel] at g1 g2
  refine ⟨.string .empty, ?_, by simp [rel]⟩
  refine bcall (args := [x, y]) ho (fun _ => rfl) (s := Builtin.unsafeString_ #[pt, it] o.type #[a.eval x, a.eval y]) ?_
  rw [g1, g2]
  exact Lib.run_unsafeString_none w pt it o.type p
def noT : Nat → (Nat → Prop) → World → Prop := fun _ _ _ => True
theorem byt_cells (ns : List Int) (h : ∀ n, n ∈ ns → 0 ≤ n ∧ n ≤ 255) : Lib.byteCells (ns.map fun n => UInt8.ofNat n.toNat) = ns.map (Value.int .u8) := by
  induction ns with
  | nil => rfl
  | cons n ns ih =>
    have h1 := h n (List.mem_cons_self ..)
    have ih := ih fun m hm => h m (List.mem_cons_of_mem _ hm)
    unfold Lib.byteCells at ih ⊢
    simp only [List.map_cons, ih]
    congr 2
    simp
    omega
theorem x_unsafe_string (hT : X.ok) {x y : Operand} {pt it e : TypeId} {d kd : Nat} {n : Nat} {dk : Chunk} {yp ye : Ty} {ns : List Int} (ho : o.op = .call { callee := .builtin .unsafeString, args := [x, y].toArray, argTypes := #[pt, it] }) (hx : evA st.fr x = .ref d kd 0) (hy : evA st.fr y = .v (.int .i64 n)) (hc : getO st.ch d = some dk) (hv : kd = dk.ver) (hk : dk.kind = .row)
    (hyp : getO X.T pt = some yp) (hypd : yp.d = .ptr e) (hye : getO X.T e = some ye) (hes : ye.size = 1) (hty : dk.ty = e) (hcells : dk.cells = byt ns) (hn : ns.length = n) (h0 : 0 < n) (hr : ∀ m, m ∈ ns → 0 ≤ m ∧ m ≤ 255) (h63 : n ≤ 9223372036854775807)
    (h : k ⟨rds st.fr [x, y], [(d, some dk)], o.dst, .v (.string (strOfNums ns)), [(d, ⟨.tab noT, e, 1, dk.ver + 1, []⟩)]⟩) : ActN X o st k := by
  refine ⟨_, LS.mem rfl fun st' E a w ρ hf hr' => ?_, ⟨rds_fits st.fr st.ch [x, y], by simp [hc]⟩, h⟩
  have hc' : getO st'.ch d = some dk := hf.c d (some dk) (by simp)
  have g1 := hr'.ev x
  have g2 := hr'.ev y
  rw [fits_ev hf (fr := st.fr) (x := x) (rds_mem (by simp)), hx] at g1
  rw [fits_ev hf (fr := st.fr) (x := y) (rds_mem (by simp)), hy] at g2
  simp only [rel] at g1 g2
  obtain ⟨cur, q1, q2, q3, _⟩ := g1
  have hcur : cur = dk.ver := by simp [St.vs, hc'] at q1; exact q1.symm
  subst hcur
  have hxv := q3 hv
  obtain ⟨ys, gy1, gy2⟩ := hr'.heap.ok d dk hc'
  unfold Chunk.mem at gy2
  simp only [hk] at gy2
  obtain ⟨m1, m2, n', m3⟩ := gy2
  have hys : ys = ns.map (Value.int .u8) := by
    rw [hcells] at gy1
    have e : byt ns = (ns.map (Value.int .u8)).map .v := by simp [byt]
    rw [e] at gy1
    exact relL_of_vals _ ys gy1
  have hylen : ys.length = n := by rw [hys, List.length_map, hn]
  have hb : (ρ d).base = some ⟨(ρ d).blk, 0, none⟩ := by
    rcases m2 with m2 | m2
    · rw [m2] at m3
      have := m3.1
      rcases m3.2 with ⟨e1, e2⟩ | ⟨g, cap, cr, e1, _⟩
      · subst e2
        rw [hylen] at this
        omega
      · cases e1
    · exact m2
  rw [hb] at m3
  obtain ⟨rest, hh, _⟩ := ownsRow_heap m3
  obtain ⟨_, ⟨i, z', i1, i2, _⟩, _⟩ := hT e ye hye
  have hco : X.P.cellsOf e = 1 := by simp [Program.cellsOf, i1, i2, hes]
  obtain ⟨⟨dd, t1, t2⟩, _⟩ := hT pt yp hyp
  rw [hypd] at t2
  cases dd <;> simp only [TD.is] at t2
  subst t2
  have hsh : w.shape? (ρ d).blk = some (e, (ys ++ rest).length) := by simp [World.shape?, hh, hty]
  let l : List UInt8 := ns.map fun n => UInt8.ofNat n.toNat
  have hl : l.length = n := by simp [l, hn]
  have hbc : Lib.byteCells l = ys := by rw [hys]; exact byt_cells ns hr
  have hcell : ∀ j x, l[j]? = some x → w.cell? ((⟨(ρ d).blk, 0, none⟩ : Addr).add j) = some (.int .u8 x.toNat) := by
    intro j x hj
    rw [add_none, Nat.zero_add, cell_of_row w (ρ d).blk j _ _ _ hh]
    have hj2 : (Lib.byteCells l)[j]? = some (.int .u8 x.toNat) := by
      unfold Lib.byteCells
      rw [List.getElem?_map, hj]
      rfl
    rw [hbc] at hj2
    have hlt : j < ys.length := (List.getElem?_eq_some_iff.1 hj2).1
    simp [List.getElem?_append_left hlt, hj2]
  have hrun := Lib.run_unsafeString_row (P := X.P) w pt it o.type e t1 hco (ρ d).blk _ hsh l (by intro e; rw [e] at hl; simp at hl; omega) (by rw [hl, List.length_append, hylen]; omega) (by rw [hl]; exact h63) hcell
  rw [hl] at hrun
  have hown : dk.owned = true := by simp [Chunk.owned, hk, CK.owned]
  have hdom : (ρ d).dom (ρ d).blk := hr'.heap.blk d dk _ hc' (by simp [Chunk.blk, hk, hb])
  let st'' := (Actn.mk (rds st.fr [x, y]) [(d, some dk)] o.dst (.v (.string (strOfNums ns))) [(d, ⟨.tab noT, e, 1, dk.ver + 1, []⟩)]).app st'
  have hch : st''.ch = setO st'.ch d ⟨.tab noT, e, 1, dk.ver + 1, []⟩ := rfl
  let L' : Loc := ⟨0, 0, none, 0, fun _ => False⟩
  have hup : Up st'.vs st''.vs st'.ez st''.ez ρ (upd ρ d L') := by
    intro c cur hcc
    by_cases hdc : c = d
    · subst hdc
      have : cur = dk.ver := by simp [St.vs, hc'] at hcc; exact hcc.symm
      subst this
      exact ⟨dk.ver + 1, by simp [St.vs, hch, getO_set_same], by omega, fun e => by omega⟩
    · refine ⟨cur, ?_, Nat.le_refl _, fun _ => ⟨upd_ne _ _ _ _ hdc, ?_⟩⟩
      · simp only [St.vs, hch, getO_set_ne _ _ _ _ hdc]; exact hcc
      · simp only [St.ez, hch, getO_set_ne _ _ _ _ hdc]
  have hmod : Mod w (w.freeze ⟨(ρ d).blk, 0, none⟩ n) fun b => b = (ρ d).blk := by
    unfold World.freeze
    rw [if_neg (by omega)]
    refine ⟨rfl, rfl, rfl, by simp, fun b hb hnb => ?_⟩
    simp only [Array.getElem?_modify]
    rw [if_neg (fun e => hnb e.symm)]
  refine ⟨.string ⟨l.toArray⟩, w.freeze ⟨(ρ d).blk, 0, none⟩ n, upd ρ d L', .inl ?_, hup, ?_, ?_⟩
  · refine bcall (args := [x, y]) ho (fun _ => rfl) (s := Builtin.unsafeString_ #[pt, it] o.type #[a.eval x, a.eval y]) ?_
    rw [hxv, g2, m1]
    exact hrun
  · refine hr'.heap.step (· = d) st'' _ (upd ρ d L') (hmod.mono fun b hb => ⟨d, dk, rfl, hc', hown, hb ▸ hdom⟩) ?_ hup ?_ ?_ ?_ ?_ ?_ ?_
    · intro c hcd
      exact ⟨by rw [hch]; exact getO_set_ne _ _ _ _ hcd, upd_ne _ _ _ _ hcd⟩
    · rintro c k' rfl hk'
      rw [hch, getO_set_same] at hk'
      cases hk'
      rw [upd_same]
      exact ⟨[], by simp [relL], ⟨trivial, rfl⟩, fun _ _ _ _ _ _ => trivial⟩
    · rintro c k' b rfl hk' hb
      rw [upd_same] at hb
      exact hb.elim
    · rintro c k' b rfl hk' _ hb
      rw [upd_same] at hb
      exact hb.elim
    · rintro c k' b rfl hk' hb
      rw [hch, getO_set_same] at hk'
      cases hk'
      simp [Chunk.blk] at hb
    · rintro c k' rfl hk'
      rw [hch, getO_set_same] at hk'
      cases hk'
      rw [upd_same]
      intro w1 w2 xs _ _
      exact ⟨⟨trivial, rfl⟩, fun _ _ _ _ _ _ => trivial⟩
    · rintro c c' k' l' b rfl hk' hl' _ hb
      rw [upd_same] at hb
      exact hb.elim
  · simp only [rel]
    rfl
end
end Go.SX
set_option linter.unusedSimpArgs false
set_option linter.unusedVariables false
namespace Go.SX
theorem byt_str (u : ByteArray) : byt (sInts u) = (Lib.strCells u).map .v := by
  unfold byt sInts Lib.strCells
  simp
theorem append_row_str {P : Program} {w : World} {t t2 ty e : TypeId} {y : Ty} (hy : TyOk P e y) (ht : P.underlying t = some (.slice e)) (ht2 : P.underlying t2 = some .string) (hs1 : y.size = 1) (hb1 : y.bytes = 1) (hz0 : y.zero = [.int .u8 0]) {base : Option Addr} {blk n cap : Nat} {xs : List Value}
    (hb : base = none ∨ base = some ⟨blk, 0, none⟩) (hown : w.ownsRow 0 e y.size (.slice base n cap) n xs) (s : ByteArray) (h63 : n + s.size ≤ maxLen) (hby : n + s.size ≤ 140737488355328) :
    ∃ base' blk' cap' w', (Builtin.append_ #[t, t2] ty #[.slice base n cap, .string s]).run P w = .ok (.slice base' (n + s.size) cap') w' ∧ (base' = none ∨ base' = some ⟨blk', 0, none⟩) ∧ w'.ownsRow 0 e y.size (.slice base' (n + s.size) cap') (n + s.size) (xs ++ Lib.strCells s) ∧
      (Mod w w' fun b => base = some ⟨b, 0, none⟩) ∧ ((base' = base ∧ blk' = blk) ∨ (w.heap.size ≤ blk' ∧ blk' < w'.heap.size ∧ base' = some ⟨blk', 0, none⟩)) := by
  obtain ⟨_, ⟨i, z, i1, i2, i3, i4, i5⟩, _⟩ := hy
  have hzc : z.cells.size = 1 := by
    have : z.cells.toList.length = 1 := by rw [i5.1, hz0]; rfl
    simpa using this
  have hi1 : i.size = 1 := by rw [i2, hs1]
  have hxl : xs.length = n := by have := hown.1; rw [hs1] at this; simpa using this
  have hsl := Lib.strCells_length s
  have hlen : (xs ++ Lib.strCells s).length = (n + s.size) * y.size := by rw [List.length_append, hxl, hsl, hs1, Nat.mul_one]
  have hsmall : n + s.size ≤ 9223372036854775807 := by unfold maxLen at h63; omega
  rw [hs1] at hown hlen ⊢
  have grown : ∀ (old : Nat) (cs : Array Value), cs = (xs ++ Lib.strCells s).toArray → (w.drew.alloc (.cells (cs ++ Builtin.zeroCells z.cells (grownCap w (n + s.size) old e - (n + s.size))) e)).ownsRow 0 e 1 (.slice (some ⟨w.heap.size, 0, none⟩) (n + s.size) (grownCap w (n + s.size) old e)) (n + s.size) (xs ++ Lib.strCells s) := by
    intro old cs hcs
    subst hcs
    have hge := grownCap_ge w (n + s.size) old e
    have hcm : grownCap w (n + s.size) old e ≤ maxLen := grownCap_le_maxLen w (n + s.size) old e h63
    refine ownsRow_of_heap (rest := (Builtin.zeroCells z.cells (grownCap w (n + s.size) old e - (n + s.size))).toList) hlen ?_ hge hcm ?_
    · have := heap_alloc_new w.drew (.cells ((xs ++ Lib.strCells s).toArray ++ Builtin.zeroCells z.cells (grownCap w (n + s.size) old e - (n + s.size))) e)
      simp only [World.size_drew] at this
      rw [this]
      congr 2
      apply Array.ext'
      simp
    · rw [List.length_append, hlen]
      have := size_zeroCells z.cells (grownCap w (n + s.size) old e - (n + s.size))
      simp only [Array.length_toList]
      rw [this, hzc]
      omega
  rcases hb with hb | hb
  · subst hb
    obtain ⟨hx, ⟨hs, hn⟩ | ⟨g, cap', cur, hs, _⟩⟩ := hown
    · injection hs with _ _ hcap
      subst hn
      subst hcap
      have hx0 : xs = [] := List.eq_nil_of_length_eq_zero (by simpa using hx)
      subst hx0
      by_cases hm : s.size = 0
      · have hn0 : Lib.strCells s = [] := List.eq_nil_of_length_eq_zero (by rw [hsl]; exact hm)
        have hf := Lib.run_firstCells_string (P := P) w 1 s
        rw [hm] at hf
        refine ⟨none, blk, 0, w, ?_, .inl rfl, ?_, Mod.refl _ _, .inl ⟨rfl, rfl⟩⟩
        · simp [Builtin.append_, run_underlying ht, run_underlying ht2, sizeOf, typeInfo, i1, hi1, Builtin.lenOf, hm, hf]
        · rw [hm, hn0]
          exact World.ownsRow_nil w 0 e 1
      · have hr := run_append_nil_string (P := P) w t t2 ty e i z ht ht2 i1 i4 s (by omega) (by omega) (by rw [i3, hb1]; omega)
        have e1 : (s.data.map fun b => Value.int .u8 b.toNat) = (Lib.strCells s).toArray := by
          apply Array.ext'
          simp [Lib.strCells]
        have hg := grown 0 (s.data.map fun b => Value.int .u8 b.toNat) (by rw [e1]; simp)
        simp only [Nat.zero_add] at hg ⊢
        exact ⟨_, w.heap.size, _, _, hr, .inr rfl, hg, (Mod.drew w _).trans (Mod.alloc w.drew _ _) (fun _ h => .inl h), .inr ⟨Nat.le_refl _, by simp, rfl⟩⟩
    · cases hs
  · subst hb
    obtain ⟨rest, hh, hnc, hcm, hcs⟩ := ownsRow_heap hown
    by_cases hroom : n + s.size ≤ cap
    · have hrl : (xs ++ rest).toArray.size = cap := by
        simp only [List.size_toArray]
        rw [hcs]
        simp
      have hr := Lib.run_append_room_string (P := P) w t t2 ty e i ht ht2 i1 hi1 blk n cap _ hh s hroom (by rw [hrl]; exact hroom)
      refine ⟨_, blk, cap, _, hr, .inr rfl, ?_, ⟨rfl, rfl, rfl, by simp, fun b hb hn => setRow_other w blk b _ (fun e => hn (by rw [e]))⟩, .inl ⟨rfl, rfl⟩⟩
      have e1 : ((xs ++ rest).toArray.toList.take n ++ Lib.strCells s ++ (xs ++ rest).toArray.toList.drop (n + s.size)) = (xs ++ Lib.strCells s) ++ (rest.drop s.size) := by
        simp only [List.toList_toArray]
        rw [← hxl, List.take_left, List.drop_append]
        simp
      rw [e1]
      refine ownsRow_of_heap hlen (setRow_heap w blk _ _ e _ hh) hroom hcm ?_
      have h5 : (xs ++ rest).length = cap := by simpa using hrl
      simp only [List.length_append] at h5 ⊢
      rw [List.length_drop, hsl]
      omega
    · have holds : ∀ j q, xs[j]? = some q → w.cell? ((⟨blk, 0, none⟩ : Addr).add j) = some q := hown.cells (g := blk) rfl
      have hr := Lib.run_append_grow_string (P := P) w t t2 ty e i z ht ht2 i1 i4 ⟨blk, 0, none⟩ n cap xs (by rw [hi1]; simpa using hxl) holds s (by omega) (by omega) (by rw [i3, hb1]; exact growslice_fits (by omega) (by omega))
      exact ⟨_, w.heap.size, _, _, hr, .inr rfl, grown cap _ (by simp), (Mod.drew w _).trans (Mod.alloc w.drew _ _) (fun _ h => .inl h), .inr ⟨Nat.le_refl _, by simp, rfl⟩⟩
section
variable {X : Ctx} {o : Oper} {st : St} {k : Actn → Prop}
theorem x_append_str {t e : TypeId} {s x : Operand} {c kv n m : Nat} {ck : Chunk} {y ye : Ty} {t2 : TypeId} {u : ByteArray} {y2 : Ty} (hT : X.ok) (ho : o.op = .call { callee := .builtin .append, args := [s, x].toArray, argTypes := [t, t2].toArray })
    (hs : evA st.fr s = .sl c kv 0 n) (hc : getO st.ch c = some ck) (hk : ck.kind = .row) (hv : kv = ck.ver) (hy : getO X.T t = some y) (hyd : y.d = .sl e) (hye : getO X.T e = some ye) (hes : ye.size = ck.esz) (hty : ck.ty = e) (h0 : 0 < ye.size) (hz : ye.zero.length = ye.size)
    (hn : ck.cells.length = n * ck.esz) (hx2 : evA st.fr x = .v (.string u)) (hy2 : getO X.T t2 = some y2) (hy2d : y2.d = .str) (hs1 : ye.size = 1) (hb1 : ye.bytes = 1) (hz0 : ye.zero = [.int .u8 0]) (hmu : m = u.size) (h63 : n + m ≤ maxLen) (hby : (n + m) * ye.bytes ≤ 140737488355328)
    (h : k ⟨rds st.fr [s, x], [(c, some ck)], o.dst, .sl c (ck.ver + 1) 0 (n + m), [(c, ⟨.row, e, ck.esz, ck.ver + 1, ck.cells ++ byt (sInts u)⟩)]⟩) : ActN X o st k := by
  refine ⟨_, LS.mem rfl fun st' E a w ρ hf hr => ?_, ⟨rds_fits st.fr st.ch [s, x], ?_⟩, h⟩
  rotate_left
  · intro i q hq
    simp only [List.mem_singleton] at hq
    cases hq
    exact hc
  have hc' : getO st'.ch c = some ck := hf.c c (some ck) (by simp)
  subst hmu
  have hxv := hr.ev x
  rw [fits_ev hf (fr := st.fr) (x := x) (rds_mem (by simp)), hx2] at hxv
  simp only [rel] at hxv
  have w1 : relL st'.vs st'.ez ρ (byt (sInts u)) (Lib.strCells u) := by rw [byt_str]; exact relL_vals _
  obtain ⟨⟨dd2, t21, t22⟩, _⟩ := hT t2 y2 hy2
  rw [hy2d] at t22
  cases dd2 <;> simp only [TD.is] at t22
  have g1 := hr.ev s
  rw [fits_ev hf (fr := st.fr) (x := s) (rds_mem (by simp)), hs] at g1
  simp only [rel] at g1
  obtain ⟨cur, q1, q2, q3, _⟩ := g1
  have hcur : cur = ck.ver := by simp [St.vs, hc'] at q1; exact q1.symm
  subst hcur
  obtain ⟨s1, ad, s2, _, s4⟩ := q3 hv
  have had := s4 rfl
  obtain ⟨ys, gy1, gy2⟩ := hr.heap.ok c ck hc'
  have gylen := relL_len _ _ gy1
  have gm := gy2
  unfold Chunk.mem at gm
  simp only [hk] at gm
  obtain ⟨m1, m2, n', m3⟩ := gm
  have hn' : n' = n := by
    have := m3.1
    rw [← gylen, hn] at this
    exact (Nat.eq_of_mul_eq_mul_right (by omega) this).symm
  subst hn'
  obtain ⟨⟨dd, t1, t2⟩, _⟩ := hT t y hy
  rw [hyd] at t2
  cases dd <;> simp only [TD.is] at t2
  subst t2
  rw [hty, ← hes] at m3
  obtain ⟨base', blk', cap', w', r1, r2, r3, r4, r5⟩ := append_row_str (ty := o.type) (hT e ye hye) t1 t21 hs1 hb1 hz0 m2 m3 u h63 (by rw [hb1] at hby; omega)
  let L' : Loc := ⟨blk', 0, base', cap', fun b => base' = some ⟨b, 0, none⟩⟩
  let st'' := (Actn.mk (rds st.fr [s, x]) ([(c, some ck)]) o.dst (.sl c (ck.ver + 1) 0 (n' + u.size)) [(c, ⟨.row, e, ck.esz, ck.ver + 1, ck.cells ++ byt (sInts u)⟩)]).app st'
  have hch : st''.ch = setO st'.ch c ⟨.row, e, ck.esz, ck.ver + 1, ck.cells ++ byt (sInts u)⟩ := rfl
  have hup : Up st'.vs st''.vs st'.ez st''.ez ρ (upd ρ c L') := by
    intro d cur hd
    by_cases hdc : d = c
    · subst hdc
      have : cur = ck.ver := by simp [St.vs, hc'] at hd; exact hd.symm
      subst this
      exact ⟨ck.ver + 1, by simp [St.vs, hch, getO_set_same], by omega, fun e => by omega⟩
    · refine ⟨cur, ?_, Nat.le_refl _, fun _ => ⟨upd_ne _ _ _ _ hdc, ?_⟩⟩
      · simp only [St.vs, hch, getO_set_ne _ _ _ _ hdc]; exact hd
      · simp only [St.ez, hch, getO_set_ne _ _ _ _ hdc]
  have hvs : st''.vs c = some (ck.ver + 1) := by simp [St.vs, hch, getO_set_same]
  have hez : st''.ez c = ck.esz := by simp [St.ez, hch, getO_set_same]
  refine ⟨.slice base' (n' + u.size) cap', w', upd ρ c L', .inl ?_, hup, ?_, ?_⟩
  · refine bcall (args := [s, x]) ho (fun _ => rfl) (s := Builtin.append_ #[t, t2] o.type #[a.eval s, a.eval x]) ?_
    rw [s2, had, hxv]
    exact r1
  · have ckown : ck.owned = true := by simp [Chunk.owned, hk, CK.owned]
    refine hr.heap.step (· = c) st'' w' (upd ρ c L') (r4.mono fun b hb => ⟨c, ck, rfl, hc', ckown, ?_⟩) ?_ hup ?_ ?_ ?_ ?_ ?_ ?_
    · refine hr.heap.blk c ck b hc' ?_
      simp [Chunk.blk, hk, hb]
    · intro d hd
      exact ⟨by rw [hch]; exact getO_set_ne _ _ _ _ hd, upd_ne _ _ _ _ hd⟩
    · rintro d k' rfl hk'
      rw [hch, getO_set_same] at hk'
      cases hk'
      rw [upd_same]
      refine ⟨ys ++ Lib.strCells u, relL_append _ _ _ _ (relL_up hup _ _ gy1) (relL_up hup _ _ w1), rfl, r2, n' + u.size, ?_⟩
      rw [← hes]; exact r3
    · rintro d k' b rfl hk' hb
      rw [upd_same] at hb
      have hb' : base' = some ⟨b, 0, none⟩ := hb
      rw [hb'] at r3
      obtain ⟨rest, hh, _⟩ := ownsRow_heap r3
      exact (Array.getElem?_eq_some_iff.1 hh).1
    · rintro d k' b rfl hk' _ hb
      rw [upd_same] at hb
      have hb' : base' = some ⟨b, 0, none⟩ := hb
      rcases r5 with ⟨e1, e2⟩ | ⟨e1, e2, e3⟩
      · rw [e1] at hb'
        refine hr.heap.own d ck b hc' ckown (hr.heap.blk d ck b hc' ?_)
        simp [Chunk.blk, hk, hb']
      · rw [e3] at hb'; cases hb'
        exact .inr (Nat.le_trans hr.heap.mod.size e1)
    · rintro d k' b rfl hk' hb
      rw [hch, getO_set_same] at hk'
      cases hk'
      rw [upd_same] at hb ⊢
      simp only [Chunk.blk, L', Option.map_eq_some_iff] at hb
      obtain ⟨ad', hb1, hb2⟩ := hb
      rcases r2 with h2 | h2
      · rw [h2] at hb1; cases hb1
      · show base' = some ⟨b, 0, none⟩
        rw [h2] at hb1 ⊢
        cases hb1
        rw [← hb2]
    · rintro d k' rfl hk'
      rw [hch, getO_set_same] at hk'
      cases hk'
      rw [upd_same]
      rintro v1 v2 xs hs' ⟨h1, h2, nn, h3⟩
      refine ⟨h1, h2, nn, ?_⟩
      rcases h2 with h2 | h2
      · rw [show L'.base = none from h2] at h3 ⊢
        obtain ⟨p1, ⟨p2, p3⟩ | ⟨g, cp, cr', p2, _⟩⟩ := h3
        · exact ⟨p1, .inl ⟨p2, p3⟩⟩
        · cases p2
      · rw [show L'.base = some ⟨blk', 0, none⟩ from h2] at h3 ⊢
        obtain ⟨rest, p1, p2, p3, p4⟩ := ownsRow_heap h3
        exact ownsRow_of_heap h3.1 ((hs' blk' h2).trans p1) p2 p3 p4
    · rintro d e' k' l' b rfl hk' hl' _ hb hb'
      by_cases he : e' = d
      · exact he.symm
      · rw [hch, getO_set_ne _ _ _ _ he] at hl'
        rw [upd_ne _ _ _ _ he] at hb'
        rw [upd_same] at hb
        have hb1 : base' = some ⟨b, 0, none⟩ := hb
        rcases r5 with ⟨e1, e2⟩ | ⟨e1, e2, e3⟩
        · rw [e1] at hb1
          refine hr.heap.sep d e' ck l' b hc' hl' ckown (hr.heap.blk d ck b hc' ?_) hb'
          simp [Chunk.blk, hk, hb1]
        · rw [e3] at hb1; cases hb1
          have := hr.heap.lt e' l' _ hl' hb'
          omega
  · show rel st''.vs st''.ez (upd ρ c L') (.sl c (ck.ver + 1) 0 (n' + u.size)) _
    simp only [rel]
    refine ⟨ck.ver + 1, hvs, Nat.le_refl _, fun _ => ?_, _, _, _, rfl⟩
    rw [upd_same]
    refine ⟨?_, base', by simp [L'], fun _ => ?_, fun _ => rfl⟩
    · have := r3.2
      rcases this with ⟨p1, p2⟩ | ⟨g, cp, cr', p1, _, _, p2, _⟩
      · simp [L']; omega
      · cases p1; simpa [L'] using p2
    · show base' = base'.map _
      cases base' <;> simp [Addr.add]
theorem x_append_str_nil {t e : TypeId} {s x : Operand} {d m c0 : Nat} {y ye : Ty} {t2 : TypeId} {u : ByteArray} {y2 : Ty} (hT : X.ok) (ho : o.op = .call { callee := .builtin .append, args := [s, x].toArray, argTypes := [t, t2].toArray })
    (hs : evA st.fr s = .v (.slice none 0 0)) (hc : getO st.ch d = none) (hy : getO X.T t = some y) (hyd : y.d = .sl e) (hye : getO X.T e = some ye) (h0 : 0 < ye.size) (hz : ye.zero.length = ye.size)
    (hx2 : evA st.fr x = .v (.string u)) (hy2 : getO X.T t2 = some y2) (hy2d : y2.d = .str) (hs1 : ye.size = 1) (hb1 : ye.bytes = 1) (hz0 : ye.zero = [.int .u8 0]) (hmu : m = u.size) (h63 : m ≤ maxLen) (hby : m * ye.bytes ≤ 140737488355328)
    (h : k ⟨rds st.fr [s, x], [(d, none)], o.dst, .sl d 0 0 m, [(d, ⟨.row, e, ye.size, 0, byt (sInts u)⟩)]⟩) : ActN X o st k := by
  refine ⟨_, LS.mem rfl fun st' E a w ρ hf hr => ?_, ⟨rds_fits st.fr st.ch [s, x], ?_⟩, h⟩
  rotate_left
  · intro i q hq
    simp only [List.mem_singleton] at hq
    cases hq
    exact hc
  have hc' : getO st'.ch d = none := hf.c d none (by simp)
  subst hmu
  have hxv := hr.ev x
  rw [fits_ev hf (fr := st.fr) (x := x) (rds_mem (by simp)), hx2] at hxv
  simp only [rel] at hxv
  have w1 : relL st'.vs st'.ez ρ (byt (sInts u)) (Lib.strCells u) := by rw [byt_str]; exact relL_vals _
  obtain ⟨⟨dd2, t21, t22⟩, _⟩ := hT t2 y2 hy2
  rw [hy2d] at t22
  cases dd2 <;> simp only [TD.is] at t22
  have g1 := hr.ev s
  rw [fits_ev hf (fr := st.fr) (x := s) (rds_mem (by simp)), hs] at g1
  simp only [rel] at g1
  obtain ⟨⟨dd, t1, t2⟩, _⟩ := hT t y hy
  rw [hyd] at t2
  cases dd <;> simp only [TD.is] at t2
  subst t2
  obtain ⟨base', blk', cap', w', r1, r2, r3, r4, r5⟩ := append_row_str (ty := o.type) (hT e ye hye) t1 t21 hs1 hb1 hz0 (base := none) (blk := 0) (n := 0) (cap := 0) (xs := []) (.inl rfl) (World.ownsRow_nil w 0 e ye.size) u (by simpa using h63) (by rw [hb1] at hby; simpa using hby)
  simp only [Nat.zero_add, List.nil_append] at r1 r3
  let L' : Loc := ⟨blk', 0, base', cap', fun b => base' = some ⟨b, 0, none⟩⟩
  have hm : Mod w w' fun _ => False := r4.mono fun b hb => by cases hb
  let A : Actn := ⟨rds st.fr [s, x], [(d, none)], o.dst, .sl d 0 0 u.size, [(d, ⟨.row, e, ye.size, 0, byt (sInts u)⟩)]⟩
  have hch : A.app st' = ⟨(A.app st').fr, setO st'.ch d ⟨.row, e, ye.size, 0, byt (sInts u)⟩⟩ := by simp [A, Actn.app, setAll]
  obtain ⟨q1, q2⟩ := heap_new hr.heap (fr := (A.app st').fr) (d := d) (ck := ⟨.row, e, ye.size, 0, byt (sInts u)⟩) (L := L') (ys := Lib.strCells u) hc' hm (fun b hb => by
      have hb' : base' = some ⟨b, 0, none⟩ := hb
      rcases r5 with ⟨e1, _⟩ | ⟨e1, e2, e3⟩
      · rw [e1] at hb'; cases hb'
      · rw [e3] at hb'; cases hb'; exact ⟨e1, e2⟩)
    (fun b hb => by
      simp only [Chunk.blk, L', Option.map_eq_some_iff] at hb
      obtain ⟨ad', hb1, hb2⟩ := hb
      rcases r2 with h2 | h2
      · rw [h2] at hb1; cases hb1
      · show base' = some ⟨b, 0, none⟩
        rw [h2] at hb1 ⊢
        cases hb1
        rw [← hb2]) (stays_rowL fun b hb => hb) w1 ⟨rfl, r2, u.size, r3⟩
  refine ⟨.slice base' u.size cap', w', upd ρ d L', .inl ?_, by rw [hch]; exact q1, by rw [hch]; exact q2, ?_⟩
  · refine bcall (args := [s, x]) ho (fun _ => rfl) (s := Builtin.append_ #[t, t2] o.type #[a.eval s, a.eval x]) ?_
    rw [g1, hxv]
    exact r1
  · show rel (A.app st').vs (A.app st').ez (upd ρ d L') (.sl d 0 0 u.size) _
    rw [hch]
    simp only [rel]
    refine ⟨0, by simp [St.vs, getO_set_same], Nat.le_refl _, fun _ => ?_, _, _, _, rfl⟩
    rw [upd_same]
    refine ⟨by simpa [L'] using ownsRow_cap r3, base', by simp [L'], fun _ => ?_, fun _ => rfl⟩
    show base' = base'.map _
    cases base' <;> simp [Addr.add]

end
end Go.SX
set_option linter.unusedSimpArgs false
set_option linter.unusedVariables false
namespace Go.SX
theorem pow_pos' (n : Nat) : (0 : Int) < 2 ^ n := Int.pow_pos (by decide)
theorem Sh.shr8 {a b : Int} {f : Value → Prop} (h : 0 ≤ b ∧ b ≤ 8) (k : f (.int .u8 (a / 2 ^ b.toNat))) : Sh .shr .u8 a b f := by
  refine Sh.shr _ h.1 ?_ k
  have : min b.toNat IntKind.u8.bits = b.toNat := by
    have : IntKind.u8.bits = 8 := rfl
    omega
  rw [this, fdiv_pos (pow_pos' _)]
end Go.SX
set_option linter.unusedSimpArgs false
set_option linter.unusedVariables false
namespace Go.SX
def pNA (P : Program) (T : List (Option Ty)) (I : World → Prop) : NA Prop where
  no := False
  br := Br
  int := Nm
  nat e f := f e
  cat a b := Nm (a ++ b)
  ext a l h := Nm (a.extract l h)
  seq a b f := f (decide (a = b))
  byt ns := Nm (strOfNums ns)
  need p _ r := Need p r
  ld := Ld
  sh := Sh
  act o st k := ∀ n, ActN ⟨P, T, n, I⟩ o st k
  ix _ ch k := lenK ch 0 k
theorem Br.cond_t {q r : Bool} {f : Bool → Prop} (k : Br q f) : Br (cond true q r) f := k
theorem Br.cond_f {q r : Bool} {f : Bool → Prop} (k : Br r f) : Br (cond false q r) f := k
theorem Br.cond_ff {p : Bool} {f : Bool → Prop} (k : f false) : Br (cond p false false) f := by cases p <;> exact Br.ff k
theorem Br.eqT {m n : Int} {f : Bool → Prop} (h : m = n) (k : f true) : Br (m == n) f := by subst h; simpa using Br.tt k
theorem Br.eqF {m n : Int} {f : Bool → Prop} (h : m ≠ n) (k : f false) : Br (m == n) f := by rw [show (m == n) = false by simpa using h]; exact Br.ff k
theorem Br.neT {m n : Int} {f : Bool → Prop} (h : m ≠ n) (k : f true) : Br (m != n) f := by rw [show (m != n) = true by simpa using h]; exact Br.tt k
theorem Br.neF {m n : Int} {f : Bool → Prop} (h : m = n) (k : f false) : Br (m != n) f := by subst h; simpa using Br.ff k
theorem Br.yes {t : Bool} {f : Bool → Prop} (h : t = true) (k : f true) : Br t f := by subst h; exact Br.tt k
theorem Br.non {t : Bool} {f : Bool → Prop} (h : t = false) (k : f false) : Br t f := by subst h; exact Br.ff k
section
variable {P : Program} {T : List (Option Ty)} {I : World → Prop} {o : Oper} {st : St} {k : Actn → Prop}
end
end Go.SX
set_option linter.unusedSimpArgs false
set_option linter.unusedVariables false
namespace Go.SX
def qNA (X : Ctx) : NA Prop where
  no := False
  br := Br
  int := Nm
  nat e f := f e
  cat a b := Nm (a ++ b)
  ext a l h := Nm (a.extract l h)
  seq a b f := f (decide (a = b))
  byt ns := Nm (strOfNums ns)
  need p _ r := Need p r
  ld := Ld
  sh := Sh
  act o st k := ActN X o st k
  ix _ ch k := lenK ch 0 k
theorem qNA_ok (X : Ctx) : (qNA X).Ok (fun p => p) X where
  no h := h
  br h := h.self
  int h := h.self
  nat h := h
  cat h := h.self
  ext h := h.self
  seq h := h
  byt h := h.self
  need h := ⟨h.need, h.next⟩
  ld h := h.out
  sh h := h.out
  act h := h
  ix {d ch k} h := ⟨ch.length, by have h' : lenK ch 0 k := h; rw [lenK_eq] at h'; simpa using h'⟩

structure TJ (X : Ctx) (c : Code) (K : Exit → St → Prop) (st : St) : Prop where
  out : ∃ e s, TR X c (Just e s) st ∧ K e s
def seqJ (X : Ctx) (d : Code) (K : Exit → St → Prop) : Exit → St → Prop
  | .normal, s => TJ X d K s
  | e, s => K e s
def scopeJ (K : Exit → St → Prop) : Exit → St → Prop
  | .goto _, _ => False
  | e, s => K e s
section
variable {X : Ctx} {K : Exit → St → Prop} {st : St}
theorem TJ.tr {c : Code} (h : TJ X c K st) : TR X c K st := by
  obtain ⟨e, s, h1, h2⟩ := h
  exact h1.just h2
theorem TJ.skip (h : K .normal st) : TJ X .skip K st := ⟨_, _, TR.skip ⟨rfl, rfl⟩, h⟩
theorem TJ.label {l : Nat} (h : K .normal st) : TJ X (.label l) K st := ⟨_, _, TR.label ⟨rfl, rfl⟩, h⟩
theorem TJ.exit {id : Nat} (h : K (.exit id) st) : TJ X (.exit id) K st := ⟨_, _, TR.exit ⟨rfl, rfl⟩, h⟩
theorem TJ.ret (h : K .ret st) : TJ X .ret K st := ⟨_, _, TR.ret ⟨rfl, rfl⟩, h⟩
theorem TJ.seq {c d : Code} (h : TJ X c (seqJ X d K) st) : TJ X (.seq c d) K st := by
  obtain ⟨e, s, h1, h2⟩ := h
  cases e with
  | normal =>
    obtain ⟨e', s', h3, h4⟩ := (show TJ X d K s from h2)
    exact ⟨e', s', TR.seq (h1.just h3), h4⟩
  | exit i => exact ⟨_, s, TR.seq (h1.just ⟨rfl, rfl⟩), h2⟩
  | goto i => exact ⟨_, s, TR.seq (h1.just ⟨rfl, rfl⟩), h2⟩
  | ret => exact ⟨_, s, TR.seq (h1.just ⟨rfl, rfl⟩), h2⟩
  | panic i => exact ⟨_, s, TR.seq (h1.just ⟨rfl, rfl⟩), h2⟩
  | outgrown => exact ⟨_, s, TR.seq (h1.just ⟨rfl, rfl⟩), h2⟩
theorem TJ.cond {c : Operand} {x y : Code} {t : Bool} (hc : evA st.fr c = .v (.bool t)) (h : Br t fun t => match t with | true => TJ X x K st | false => TJ X y K st) : TJ X (.cond c x y) K st := by
  have h := h.self
  cases t with
  | true =>
    obtain ⟨e, s, h1, h2⟩ := (show TJ X x K st from h)
    exact ⟨e, s, TR.cond_true hc h1, h2⟩
  | false =>
    obtain ⟨e, s, h1, h2⟩ := (show TJ X y K st from h)
    exact ⟨e, s, TR.cond_false hc h1, h2⟩
theorem TR.condB {c : Operand} {x y : Code} {t : Bool} (hc : evA st.fr c = .v (.bool t)) (h : Br t fun t => match t with | true => TR X x K st | false => TR X y K st) : TR X (.cond c x y) K st := by
  have h := h.self
  cases t with
  | true => exact TR.cond_true hc h
  | false => exact TR.cond_false hc h
theorem TJ.block {id : Nat} {c : Code} (h : TJ X c (blockK id K) st) : TJ X (.block id c) K st := by
  obtain ⟨e, s, h1, h2⟩ := h
  cases e with
  | normal => exact ⟨_, s, TR.block (h1.just ⟨rfl, rfl⟩), h2⟩
  | exit i =>
    simp only [blockK] at h2
    cases hi : Nat.beq i id with
    | true =>
      rw [hi] at h2
      exact ⟨.normal, s, TR.block (h1.just (by simp only [blockK, hi]; exact ⟨rfl, rfl⟩)), h2⟩
    | false =>
      rw [hi] at h2
      exact ⟨.exit i, s, TR.block (h1.just (by simp only [blockK, hi]; exact ⟨rfl, rfl⟩)), h2⟩
  | goto i => exact ⟨_, s, TR.block (h1.just ⟨rfl, rfl⟩), h2⟩
  | ret => exact ⟨_, s, TR.block (h1.just ⟨rfl, rfl⟩), h2⟩
  | panic i => exact ⟨_, s, TR.block (h1.just ⟨rfl, rfl⟩), h2⟩
  | outgrown => exact ⟨_, s, TR.block (h1.just ⟨rfl, rfl⟩), h2⟩
theorem TJ.scope {c : Code} (h : TJ X c (scopeJ K) st) : TJ X (.scope c) K st := by
  obtain ⟨e, s, h1, h2⟩ := h
  have fin : (∀ l, e ≠ .goto l) → TR X (.scope c) (Just e s) st := by
    intro hne
    refine ⟨fun E a w ρ hr => wpIn_scope_straight (wpIn_mono (h1.out E a w ρ hr) ?_)⟩
    rintro e' a' w' ⟨s', ρ', ⟨p, q⟩, hr'⟩
    subst p
    subst q
    cases e' with
    | goto l => exact (hne l rfl).elim
    | _ => exact ⟨s', ρ', ⟨rfl, rfl⟩, hr'⟩
  cases e with
  | goto l => exact h2.elim
  | normal => exact ⟨_, s, fin (by simp), h2⟩
  | exit i => exact ⟨_, s, fin (by simp), h2⟩
  | ret => exact ⟨_, s, fin (by simp), h2⟩
  | panic i => exact ⟨_, s, fin (by simp), h2⟩
  | outgrown => exact ⟨_, s, fin (by simp), h2⟩
theorem TJ.region {all : List Oper} (hT : X.ok) {id : Nat} (h : XS (qNA X) X.T all 0 all st (K .normal)) : TJ X (.region id all.toArray false) K st := by
  obtain ⟨e, s, h1, h2⟩ := region_ok (H := fun p => p) (qNA_ok X) hT (K := fun e s => K e s) h
  exact ⟨e, s, h1, h2⟩
theorem TJ.drawn {all : List Oper} (hT : X.ok) (hm : X.P.follows .mixedOrders = true) {id : Nat} (h : XD (qNA X) X.T all 0 all st [] (K .normal)) : TJ X (.region id all.toArray true) K st := by
  obtain ⟨e, s, h1, h2⟩ := drawn_ok (H := fun p => p) (qNA_ok X) hT hm (K := fun e s => K e s) h
  exact ⟨e, s, h1, h2⟩

mutual
theorem noRef_nil : ∀ a : AV, noRef [] a = true
  | .v _ => rfl
  | .ref .. => rfl
  | .sl .. => rfl
  | .mp .. => rfl
  | .agg l => by simp only [noRef]; exact noRefL_nil l
  | .fn _ l => by simp only [noRef]; exact noRefL_nil l
  | .ifc _ a => by simp only [noRef]; exact noRef_nil a
  | .tup l => by simp only [noRef]; exact noRefL_nil l
  | .dead => rfl
theorem noRefL_nil : ∀ l : List AV, noRefL [] l = true
  | [] => rfl
  | a :: l => by simp [noRefL, noRef_nil a, noRefL_nil l]
end
theorem noRefC_nil : ∀ l : List (Option Chunk), noRefC [] l = true
  | [] => rfl
  | none :: l => by simp only [noRefC]; exact noRefC_nil l
  | some k :: l => by simp [noRefC, noRefL_nil, noRefC_nil l]
theorem Fgt.nil {X : Ctx} {t : St} : Fgt X t [] := ⟨noRefL_nil _, noRefC_nil _, rfl⟩
structure LJ (X : Ctx) (c : Code) (K : Exit → St → Prop) (st : St) : Prop where
  out : ∃ e s m, (∀ E a w ρ, Rel X E st a w ρ → Code.roundsIn (wideR E.rd) 0 X.P c (fun e' a' w' => e' = e ∧ ∃ ρ', Rel X E s a' w' ρ') m a w) ∧ K e s
def stepJ (X : Ctx) (c : Code) (K : Exit → St → Prop) : Exit → St → Prop
  | .normal, s => LJ X c K s
  | e, s => K e s
theorem LJ.step {c : Code} (h : TJ X c (stepJ X c K) st) : LJ X c K st := by
  obtain ⟨e, s, h1, h2⟩ := h
  have fin : e ≠ .normal → K e s → LJ X c K st := by
    intro hne hk
    refine ⟨e, s, 1, fun E a w ρ hr => ?_, hk⟩
    rw [roundsIn_succ]
    refine wpIn_mono (h1.out E a w ρ hr) ?_
    rintro e' a' w' ⟨s', ρ', ⟨p, q⟩, hr'⟩
    subst p
    subst q
    cases e' with
    | normal => exact (hne rfl).elim
    | _ => exact ⟨rfl, ρ', hr'⟩
  cases e with
  | normal =>
    obtain ⟨e2, s2, m, h3, h4⟩ := (show LJ X c K s from h2)
    refine ⟨e2, s2, m + 1, fun E a w ρ hr => ?_, h4⟩
    rw [roundsIn_succ]
    refine wpIn_mono (h1.out E a w ρ hr) ?_
    rintro e' a' w' ⟨s', ρ', ⟨p, q⟩, hr'⟩
    subst p
    subst q
    exact h3 E a' w' ρ' hr'
  | exit i => exact fin (by simp) h2
  | goto i => exact fin (by simp) h2
  | ret => exact fin (by simp) h2
  | panic i => exact fin (by simp) h2
  | outgrown => exact fin (by simp) h2
theorem TJ.loop {c : Code} (h : LJ X c K st) : TJ X (.loop c) K st := by
  obtain ⟨e, s, m, h1, h2⟩ := h
  refine ⟨e, s, ⟨fun E a w ρ hr => wpIn_loop_rounds m ?_⟩, h2⟩
  have mono : ∀ m a w, Code.roundsIn (wideR E.rd) 0 X.P c (fun e' a' w' => e' = e ∧ ∃ ρ', Rel X E s a' w' ρ') m a w → Code.roundsIn (wideR E.rd) 0 X.P c (fun e' a' w' => ∃ st' ρ', Just e s e' st' ∧ Rel X E st' a' w' ρ') m a w := by
    intro m
    induction m with
    | zero => intro a w h; exact h
    | succ m ih =>
      intro a w h
      rw [roundsIn_succ] at h ⊢
      refine wpIn_mono h ?_
      intro e' a' w' hq
      cases e' with
      | normal => exact ih a' w' hq
      | _ =>
        obtain ⟨q1, ρ', q2⟩ := hq
        exact ⟨s, ρ', ⟨q1, rfl⟩, q2⟩
  exact mono m a w (h1 E a w ρ hr)

def endJ (X : Ctx) (n : Nat) (rs : List ResultVar) (full ch0 : List (Option Chunk)) (o : Oper) (fr : List AV) (xs : List Operand) (k : Actn → Prop) : Exit → St → Prop
  | .normal, s => resK (qNA ⟨X.P, X.T, n, X.I⟩) X.T s rs fun r => endI (qNA X) full ch0 s.ch n r fun chK => k (aI o fr xs ch0 chK r)
  | .ret, s => resK (qNA ⟨X.P, X.T, n, X.I⟩) X.T s rs fun r => endI (qNA X) full ch0 s.ch n r fun chK => k (aI o fr xs ch0 chK r)
  | _, _ => False
theorem x_call (hT : X.ok) {o : Oper} {k : Actn → Prop} {f : FuncId} {fn : Func} {c : Code} {cal : Operand} {xs : List Operand} {ts : Array TypeId} {cap : List AV} (ho : o.op = .call { callee := .value cal, args := xs.toArray, argTypes := ts })
    (hcal : calleeA (evA st.fr cal) = some (f, cap)) (hf : X.P.funcs[f]? = some fn) (hnm : (fn.name == "runtime.NumGoroutine") = false) (hb : fn.body = some c)
    (h : evLK st.fr xs fun as => catK as cap fun args => lenK st.ch 0 fun n => blankK st.ch fun b => reachK (qNA X) st.ch 1000000 (refsAL args []) b fun ch0 => chk (qNA X) (refsInC ch0 ch0 && refsInL ch0 args) (
      padK args fn.ntmps fun fr => TJ ⟨X.P, X.T, n, X.I⟩ c (endJ X n fn.results.toList st.ch ch0 o st.fr (cal :: xs) k) ⟨fr, ch0⟩)) : ActN X o st k := by
  have hM' := qNA_ok X
  rw [evLK_eq, catK_eq, lenK_eq, blankK_eq] at h
  obtain ⟨ch0, h2, h⟩ := reachK_ok (H := fun p => p) hM' _ _ _ _ (fun c q hc => by rw [blankL_get] at hc; cases hc) h
  obtain ⟨h3, h⟩ := chk_eq (H := fun p => p) hM' h
  simp only [Bool.and_eq_true] at h3
  rw [padK_eq] at h
  have hT' : Ctx.ok ⟨X.P, X.T, 0 + st.ch.length, X.I⟩ := hT
  obtain ⟨e, s, h4, h⟩ := h
  have hn : ∀ c k, getO ch0 c = some k → c < 0 + st.ch.length := fun c k hk => by
    have := getO_lt _ _ _ (h2 c k hk)
    omega
  have fin : e = .normal ∨ e = .ret → (resK (qNA ⟨X.P, X.T, 0 + st.ch.length, X.I⟩) X.T s fn.results.toList fun r => endI (qNA X) st.ch ch0 s.ch (0 + st.ch.length) r fun chK => k (aI o st.fr (cal :: xs) ch0 chK r)) → ActN X o st k := by
    intro he h
    obtain ⟨r, h5, h6⟩ := resK_ok (X := ⟨X.P, X.T, 0 + st.ch.length, X.I⟩) (H := fun p => p) (qNA_ok _) hT' (fn := fn) h
    obtain ⟨chK, h7, h8⟩ := endI_ok (H := fun p => p) hM' h5
    exact x_inl hT ho hcal hf hnm hb hn ⟨h2, h3.1⟩ h3.2 (h4.just ⟨he, rfl, h6⟩) h7 h8
  cases e with
  | normal => exact fin (.inl rfl) h
  | ret => exact fin (.inr rfl) h
  | _ => exact h.elim
theorem x_exG {G : Nat → Option (List Value)} {o : Oper} {k : Actn → Prop} (hT : X.ok) (hG : ∀ w, X.I w → ∀ g cells, G g = some cells → ∀ i u, cells[i]? = some u → w.cell? ⟨g, i, none⟩ = some u) (h : xtra (qNA X) G X.T o st k) : ActN X o st k :=
  xtra_ok (H := fun p => p) (qNA_ok X) hT hG h
theorem x_exq {o : Oper} {k : Actn → Prop} (hT : X.ok) (h : xtra (qNA X) (fun _ => none) X.T o st k) : ActN X o st k :=
  xtra_ok (H := fun p => p) (qNA_ok X) hT (fun _ _ _ _ h => by cases h) h
end
def endQ (X : Ctx) (rs : List ResultVar) (R : AV → St → Prop) : Exit → St → Prop
  | .normal, s => resK (qNA X) X.T s rs fun a => R a s
  | .ret, s => resK (qNA X) X.T s rs fun a => R a s
  | _, _ => False
theorem Ret.tj {P : Program} {T : List (Option Ty)} {I : World → Prop} {w : World} (hI : ∀ w', Mod w w' (fun _ => False) → I w') {f : FuncId} {fn : Func} {c : Code} {args : List Value} {v : Value} (hT : Ctx.ok ⟨P, T, 0, I⟩)
    (hf : P.funcs[f]? = some fn) (hnm : (fn.name == "runtime.NumGoroutine") = false) (hb : fn.body = some c)
    (h : padK (args.map .v) fn.ntmps fun fr => TJ ⟨P, T, 0, I⟩ c (endQ ⟨P, T, 0, I⟩ fn.results.toList fun r _ => val r = some v) ⟨fr, []⟩) : Ret P f args w v := by
  rw [padK_eq] at h
  obtain ⟨e, s, h1, h2⟩ := h
  have fin : (e = .normal ∨ e = .ret) ∧ ∀ E a w ρ, Rel ⟨P, T, 0, I⟩ E s a w ρ → (results fn a.tmps).run P w = .ok v w := by
    have key : (resK (qNA ⟨P, T, 0, I⟩) T s fn.results.toList fun r => val r = some v) → ∀ E a w ρ, Rel ⟨P, T, 0, I⟩ E s a w ρ → (results fn a.tmps).run P w = .ok v w := by
      intro h2 E a w ρ hr
      obtain ⟨av, h3, h4⟩ := resK_ok (X := ⟨P, T, 0, I⟩) (H := fun p => p) (qNA_ok _) hT h2
      obtain ⟨u, h5, h6⟩ := h4 E a w ρ hr
      rw [← val_rel h3 h6]
      exact h5
    cases e with
    | normal => exact ⟨.inl rfl, key h2⟩
    | ret => exact ⟨.inr rfl, key h2⟩
    | _ => exact h2.elim
  refine ⟨⟨fn, hf, hnm, by simp [hb]⟩, ?_⟩
  refine calls_of_wp hf hb (wp_mono (wp_of_wide (h1.out ⟨w, fun _ => False, Base.no 0, hI, [], none⟩ _ w (fun _ => ⟨0, 0, none, 0, fun _ => False⟩) ⟨?_, rfl, ?_, ?_⟩)) ?_)
  · have hdead : ∀ (vs : Nat → Option Nat) (ez : Nat → Nat) (ρ : Nat → Loc) (n : Nat), relL vs ez ρ (List.replicate n .dead) (List.replicate n undef) := by
      intro vs ez ρ n
      induction n with
      | zero => simp [relL]
      | succ n ih => simp only [List.replicate_succ, relL]; exact ⟨by simp [rel], ih⟩
    have := relL_append _ _ _ _ (relL_vals (vs := St.vs ⟨args.map .v ++ List.replicate (fn.ntmps - (args.map AV.v).length) .dead, []⟩) (ez := St.ez ⟨args.map .v ++ List.replicate (fn.ntmps - (args.map AV.v).length) .dead, []⟩) (ρ := fun _ => ⟨0, 0, none, 0, fun _ => False⟩) args) (hdead _ _ _ (fn.ntmps - (args.map AV.v).length))
    simpa using this
  · refine ⟨fun c k hk => ?_, fun c k b hk => ?_, fun c k b hk => ?_, fun c k b hk => ?_, fun c k hk => ?_, fun c d k l b hk => ?_, Mod.refl _ _⟩ <;> simp [getO_nil] at hk
  · intro c v hv; cases hv
  · rintro e' a' w' ⟨s', ρ', ⟨p, q⟩, hr'⟩
    subst p
    subst q
    have f1 : a'.defers = [] ∧ ∃ u, (results fn a'.tmps).run P w' = .ok u w' ∧ (Ending.returned u = .returned v ∧ Mod w w' fun _ => False) := ⟨hr'.df, v, fin.2 _ a' w' ρ' hr', rfl, hr'.heap.mod⟩
    rcases fin.1 with rfl | rfl
    · exact f1
    · exact f1
end Go.SX
set_option linter.unusedSimpArgs false
set_option linter.unusedVariables false
namespace Go.SX

structure RetA (P : Program) (f : FuncId) (args : List Value) (w : World) (R : AV) : Prop where
  has : Has P f
  run : Calls P f args.toArray w fun e w' => ∃ v, e = .returned v ∧ (∀ vs ez ρ, rel vs ez ρ R v) ∧ Mod w w' fun _ => False
theorem Ret.toA {P : Program} {f : FuncId} {args : List Value} {w : World} {v : Value} (h : Ret P f args w v) : RetA P f args w (.v v) :=
  ⟨h.has, h.run.mono fun e w' ⟨h1, h2⟩ => ⟨v, h1, fun _ _ _ => by simp [rel], h2⟩⟩
section
variable {X : Ctx} {o : Oper} {st : St} {k : Actn → Prop}
theorem upon_call {P : Program} {f : FuncId} {vs : List Value} {w : World} {R : AV} (hr' : RetA P f vs w R) {E : Env X} {a : Act} {ρ : Nat → Loc} {st' : St} (hr : Rel X E st' a w ρ) {A : Actn} (hA : A.cout = []) (hres : A.res = R) :
    Calls P f vs.toArray w fun e w' => ∃ v ρ', e = .returned v ∧ Up st'.vs (A.app st').vs st'.ez (A.app st').ez ρ ρ' ∧ Heap E.w0 E.O (A.app st') w' ρ' ∧ rel (A.app st').vs (A.app st').ez ρ' A.res v := by
  refine hr'.run.mono ?_
  rintro e w' ⟨v, rfl, hv, hm⟩
  have hch : (A.app st').ch = st'.ch := by simp [Actn.app, hA, setAll]
  have hst : (A.app st').vs = st'.vs ∧ (A.app st').ez = st'.ez := by simp [St.vs, St.ez, hch, funext_iff]
  refine ⟨v, ρ, rfl, by rw [hst.1, hst.2]; exact Up.refl _ _ _, ?_, by rw [hres]; exact hv _ _ _⟩
  have h5 := hr.heap.grow hm
  obtain ⟨g1, g2, g3, g4, g5, g6, g7⟩ := h5
  exact ⟨fun c k hk => by rw [hch] at hk; rw [hst.1, hst.2]; exact g1 c k hk, fun c k b hk => by rw [hch] at hk; exact g2 c k b hk, fun c k b hk => by rw [hch] at hk; exact g3 c k b hk,
      fun c k b hk => by rw [hch] at hk; exact g4 c k b hk, fun c k hk => by rw [hch] at hk; exact g5 c k hk, fun c d k l b hk hl => by rw [hch] at hk hl; exact g6 c d k l b hk hl, g7⟩
theorem args_of {xs : List Operand} {vs : List Value} (hv : vals (xs.map (evA st.fr)) = some vs) {A : Actn} (hA : ∀ x, x ∈ xs → ∀ p, p ∈ rdA st.fr x → p ∈ A.sin) {st' : St} {E : Env X} {a : Act} {w : World} {ρ : Nat → Loc} (hf : A.Fits st') (hr : Rel X E st' a w ρ) : xs.map a.eval = vs :=
  vals_rel (fr := st.fr) (a := a) (vs := st'.vs) (ez := st'.ez) (ρ := ρ) xs vs hv fun x hx => by
    rw [← fits_ev hf (fr := st.fr) (x := x) (hA x hx)]
    exact hr.ev x
theorem x_retA {f : FuncId} {xs : List Operand} {ts : Array TypeId} {vs : List Value} {R : AV} (ho : o.op = .call { callee := .value (.func f), args := xs.toArray, argTypes := ts }) (hv : vals (xs.map (evA st.fr)) = some vs)
    (hc : ∀ w, X.I w → RetA X.P f vs w R) (h : k (aP o st.fr xs R)) : ActN X o st k := by
  refine ⟨_, LS.call rfl fun st' E a w ρ hf hr => ?_, ⟨rds_fits st.fr st.ch xs, by simp [aP]⟩, h⟩
  have hr' := hc w (E.inv w hr.heap.mod)
  have hargs := args_of hv (A := aP o st.fr xs R) (fun x hx => rds_mem hx) hf hr
  refine ⟨f, _, run_call hr'.has ho, ?_⟩
  rw [hargs]
  exact upon_call hr' hr rfl rfl

structure RetRow (P : Program) (f : FuncId) (args : List Value) (w : World) (ty : TypeId) (esz n : Nat) (cells : List Value) : Prop where
  has : Has P f
  run : Calls P f args.toArray w fun e w' => ∃ b cap, e = .returned (.slice (some ⟨b, 0, none⟩) n cap) ∧ (Mod w w' fun _ => False) ∧ w.heap.size ≤ b ∧ b < w'.heap.size ∧ w'.ownsRow 0 ty esz (.slice (some ⟨b, 0, none⟩) n cap) n cells
end
end Go.SX
set_option linter.unusedSimpArgs false
set_option linter.unusedVariables false
namespace Go.SX
section
variable {X : Ctx} {o : Oper} {st : St} {k : Actn → Prop}
theorem x_eq_ifc_int (hT : X.ok) (op : BinOp) (hop : op = .eql ∨ op = .neq) {t ty a : TypeId} {x z : Operand} {y ya : Ty} {q : IntKind} {m n : Int} (ho : o.op = .binOp op t x z ty) (hx : evA st.fr x = .v (.iface a (.int q m))) (hz : evA st.fr z = .v (.iface a (.int q n)))
    (hy : getO X.T t = some y) (hyd : y.d = .ifc) (ha : getO X.T a = some ya) (had : ya.d = .int q) (hc : (X.P.info? a).map (·.comparable) = some true) (h : k (aP o st.fr [x, z] (.v (.bool (eqR op (m == n)))))) : ActN X o st k := by
  refine x_bin ho hx hz (fun w => ?_) h
  obtain ⟨⟨dd, q1, q2⟩, _⟩ := hT t y hy
  rw [hyd] at q2
  cases dd <;> simp only [TD.is] at q2
  obtain ⟨⟨da, p1, p2⟩, _⟩ := hT a ya ha
  rw [had] at p2
  cases da <;> simp only [TD.is] at p2
  subst p2
  have hg : eqGuard op t x z (.iface a (.int q m)) (.iface a (.int q n)) = pure () := by rcases hop with rfl | rfl <;> rfl
  rw [hg]
  simp only [Sem.run_bind, Sem.run_pure, Result.andThen_ok]
  refine run_eqR hop ?_ rfl rfl
  obtain ⟨inf, hi, hci⟩ : ∃ inf, X.P.info? a = some inf ∧ inf.comparable = true := by
    cases hinf : X.P.info? a with
    | none => simp [hinf] at hc
    | some inf => exact ⟨inf, rfl, by simpa [hinf] using hc⟩
  rw [equal_succ]
  have e2 : (9999 : Nat) = 9998 + 1 := rfl
  rw [e2]
  generalize 9998 = dep
  simp [Op.equalIn, run_underlying q1, run_underlying p1, typeInfo, hi, hci]
theorem x_ne_ifc (hT : X.ok) (op : BinOp) (hop : op = .eql ∨ op = .neq) {t ty q : TypeId} {x : Operand} {y : Ty} {a : AV} (ho : o.op = .binOp op t x (.const .nilIface) ty) (hx : evA st.fr x = .ifc q a)
    (hy : getO X.T t = some y) (hyd : y.d = .ifc) (h : k (aP o st.fr [x, .const .nilIface] (.v (.bool (eqR op false))))) : ActN X o st k := by
  refine ActN.p (fun vs ez ρ ac w hr => ?_) h
  have g1 := hr x (by simp)
  rw [hx] at g1
  simp only [rel] at g1
  obtain ⟨u, hu, _⟩ := g1
  obtain ⟨⟨dd, q1, q2⟩, _⟩ := hT t y hy
  rw [hyd] at q2
  cases dd <;> simp only [TD.is] at q2
  refine ⟨.bool (eqR op false), ?_, by simp [rel]⟩
  have hg : eqGuard op t x (.const .nilIface) (.iface q u) .nilIface = pure () := by rcases hop with rfl | rfl <;> rfl
  have hb : (binOp op t (.iface q u) .nilIface).run X.P w = .ok (.bool (eqR op false)) w := by
    refine run_eqR hop ?_ rfl rfl
    rw [equal_succ]
    generalize 9999 = dep
    simp [Op.equalIn, run_underlying q1]
  have hz : ac.eval (.const .nilIface) = .nilIface := rfl
  simp only [execOp, ho, hu, hz, Sem.run_bind, hg, hb, Result.andThen_ok, Sem.run_pure]
end
def forget : AV → AV
  | .ref .. => .dead
  | .sl .. => .dead
  | .mp .. => .dead
  | .agg l => .agg (forgetL l)
  | .fn f l => .fn f (forgetL l)
  | .ifc t a => .ifc t (forget a)
  | .tup l => .tup (forgetL l)
  | .v x => .v x
  | .dead => .dead
where
  forgetL : List AV → List AV
    | [] => []
    | a :: l => forget a :: forgetL l
mutual
theorem rel_forget {vs ez ρ vs' ez' ρ'} : ∀ (a : AV) (u : Value), rel vs ez ρ a u → rel vs' ez' ρ' (forget a) u
  | .v x, u, h => by simpa [forget, rel] using h
  | .ref .., _, _ => by simp [forget, rel]
  | .sl .., _, _ => by simp [forget, rel]
  | .mp .., _, _ => by simp [forget, rel]
  | .agg l, u, h => by
    simp only [rel] at h
    obtain ⟨xs, h1, h2⟩ := h
    simp only [forget, rel]
    exact ⟨xs, h1, relL_forget l _ h2⟩
  | .fn f l, u, h => by
    simp only [rel] at h
    obtain ⟨xs, h1, h2⟩ := h
    simp only [forget, rel]
    exact ⟨xs, h1, relL_forget l _ h2⟩
  | .ifc t a, u, h => by
    simp only [rel] at h
    obtain ⟨x, h1, h2⟩ := h
    simp only [forget, rel]
    exact ⟨x, h1, rel_forget a x h2⟩
  | .tup l, u, h => by
    simp only [rel] at h
    obtain ⟨xs, h1, h2⟩ := h
    simp only [forget, rel]
    exact ⟨xs, h1, relL_forget l _ h2⟩
  | .dead, _, _ => by simp [forget, rel]
theorem relL_forget {vs ez ρ vs' ez' ρ'} : ∀ (l : List AV) (us : List Value), relL vs ez ρ l us → relL vs' ez' ρ' (forget.forgetL l) us
  | [], [], _ => by simp [forget.forgetL, relL]
  | [], _ :: _, h => by simp [relL] at h
  | _ :: _, [], h => by simp [relL] at h
  | a :: l, u :: us, h => by
    simp only [relL] at h
    simp only [forget.forgetL, relL]
    exact ⟨rel_forget a u h.1, relL_forget l us h.2⟩
end
theorem RetA.tj {P : Program} {T : List (Option Ty)} {I : World → Prop} {w : World} (hI : ∀ w', Mod w w' (fun _ => False) → I w') {f : FuncId} {fn : Func} {c : Code} {args : List Value} {R : AV} (hT : Ctx.ok ⟨P, T, 0, I⟩)
    (hf : P.funcs[f]? = some fn) (hnm : (fn.name == "runtime.NumGoroutine") = false) (hb : fn.body = some c)
    (h : padK (args.map .v) fn.ntmps fun fr => TJ ⟨P, T, 0, I⟩ c (endQ ⟨P, T, 0, I⟩ fn.results.toList fun r _ => forget r = R) ⟨fr, []⟩) : RetA P f args w R := by
  rw [padK_eq] at h
  obtain ⟨e, s, h1, h2⟩ := h
  have fin : (e = .normal ∨ e = .ret) ∧ ∀ E a w ρ, Rel ⟨P, T, 0, I⟩ E s a w ρ → ∃ v, (results fn a.tmps).run P w = .ok v w ∧ ∀ vs ez ρ, rel vs ez ρ R v := by
    have key : (resK (qNA ⟨P, T, 0, I⟩) T s fn.results.toList fun r => forget r = R) → ∀ E a w ρ, Rel ⟨P, T, 0, I⟩ E s a w ρ → ∃ v, (results fn a.tmps).run P w = .ok v w ∧ ∀ vs ez ρ, rel vs ez ρ R v := by
      intro h2 E a w ρ hr
      obtain ⟨av, h3, h4⟩ := resK_ok (X := ⟨P, T, 0, I⟩) (H := fun p => p) (qNA_ok _) hT h2
      obtain ⟨u, h5, h6⟩ := h4 E a w ρ hr
      exact ⟨u, h5, fun vs ez ρ' => h3 ▸ rel_forget _ _ h6⟩
    cases e with
    | normal => exact ⟨.inl rfl, key h2⟩
    | ret => exact ⟨.inr rfl, key h2⟩
    | _ => exact h2.elim
  refine ⟨⟨fn, hf, hnm, by simp [hb]⟩, ?_⟩
  refine calls_of_wp hf hb (wp_mono (wp_of_wide (h1.out ⟨w, fun _ => False, Base.no 0, hI, [], none⟩ _ w (fun _ => ⟨0, 0, none, 0, fun _ => False⟩) ⟨?_, rfl, ?_, ?_⟩)) ?_)
  · have hdead : ∀ (vs : Nat → Option Nat) (ez : Nat → Nat) (ρ : Nat → Loc) (n : Nat), relL vs ez ρ (List.replicate n .dead) (List.replicate n undef) := by
      intro vs ez ρ n
      induction n with
      | zero => simp [relL]
      | succ n ih => simp only [List.replicate_succ, relL]; exact ⟨by simp [rel], ih⟩
    have := relL_append _ _ _ _ (relL_vals (vs := St.vs ⟨args.map .v ++ List.replicate (fn.ntmps - (args.map AV.v).length) .dead, []⟩) (ez := St.ez ⟨args.map .v ++ List.replicate (fn.ntmps - (args.map AV.v).length) .dead, []⟩) (ρ := fun _ => ⟨0, 0, none, 0, fun _ => False⟩) args) (hdead _ _ _ (fn.ntmps - (args.map AV.v).length))
    simpa using this
  · refine ⟨fun c k hk => ?_, fun c k b hk => ?_, fun c k b hk => ?_, fun c k b hk => ?_, fun c k hk => ?_, fun c d k l b hk => ?_, Mod.refl _ _⟩ <;> simp [getO_nil] at hk
  · intro c v hv; cases hv
  · rintro e' a' w' ⟨s', ρ', ⟨p, q⟩, hr'⟩
    subst p
    subst q
    obtain ⟨v, g1, g2⟩ := fin.2 _ a' w' ρ' hr'
    have f1 : a'.defers = [] ∧ ∃ u, (results fn a'.tmps).run P w' = .ok u w' ∧ ∃ v, (Ending.returned u = .returned v ∧ (∀ vs ez ρ, rel vs ez ρ R v) ∧ Mod w w' fun _ => False) := ⟨hr'.df, v, g1, v, rfl, g2, hr'.heap.mod⟩
    rcases fin.1 with rfl | rfl
    · exact f1
    · exact f1
theorem Ret.shelf {P : Program} {f : FuncId} {fn : Func} {args : List Value} {w : World} {v : Value} (hf : P.funcs[f]? = some fn) (hnm : (fn.name == "runtime.NumGoroutine") = false) (hb : fn.body.isNone = false)
    (h : Calls P f args.toArray w fun e w' => e = .returned v ∧ RowKit.Below w.heap.size w w') : Ret P f args w v :=
  ⟨⟨fn, hf, hnm, hb⟩, h.mono fun e w' ⟨h1, h2⟩ => ⟨h1, Mod.of_below h2 _⟩⟩
end Go.SX
set_option linter.unusedSimpArgs false
set_option linter.unusedVariables false
namespace Go.SX
theorem isIfcD_eq {d : TD} (h : isIfcD d = true) : d = .ifc := by cases d <;> first | rfl | cases h
def isOwnK : CK → Bool
  | .own => true
  | _ => false
theorem isOwnK_eq {c : CK} (h : isOwnK c = true) : c = .own := by cases c <;> first | rfl | cases h
def isRowK : CK → Bool
  | .row => true
  | _ => false
theorem isRowK_eq {c : CK} (h : isRowK c = true) : c = .row := by cases c <;> first | rfl | cases h
def inByte : List Int → Bool
  | [] => true
  | n :: l => match n with
    | .ofNat m => match Nat.ble m 255 with
      | true => inByte l
      | false => false
    | .negSucc _ => false
theorem inByte_eq : ∀ {l : List Int}, inByte l = true → ∀ m, m ∈ l → 0 ≤ m ∧ m ≤ 255
  | [], _, m, h => by simp at h
  | n :: l, h, m, hm => by
    unfold inByte at h
    split at h
    · rename_i q
      split at h
      · rename_i hq
        have := Nat.le_of_ble_eq_true hq
        rcases List.mem_cons.1 hm with rfl | hm
        · constructor
          · exact Int.natCast_nonneg _
          · show ((q : Nat) : Int) ≤ 255
            omega
        · exact inByte_eq h m hm
      · cases h
    · cases h
def xBld {R : Type} (M : NA R) (T : List (Option Ty)) (U : Nat) (o : Oper) (st : St) (k : Actn → R) (els : R) : R :=
  match o.op with
  | .convert s t x => match Nat.beq t U with
    | true => match evA st.fr x with
      | .ref c kv off => match getO st.ch c, getO T s with
        | some ck, some ys => match ys.d with
          | .ptr e => match getO T e with
            | some ye => chk M (Nat.beq kv ck.ver && isOwnK ck.kind && !(Nat.beq ye.size 0) && Nat.ble (off + 1) ck.cells.length) (k (aR o st.fr [x] c ck (.ref c kv off)))
            | none => M.no
          | _ => M.no
        | _, _ => M.no
      | _ => M.no
    | false => match Nat.beq s U with
      | true => match evA st.fr x with
        | .ref c kv 0 => match getO st.ch c, getO T t with
          | some ck, some yt => match yt.d with
            | .ptr e => match getO T e with
              | some ye => chk M (Nat.beq kv ck.ver && isOwnK ck.kind && !(Nat.beq ye.size 0) && Nat.beq ck.ty e && Nat.ble ye.size ck.cells.length) (k (aR o st.fr [x] c ck (.ref c kv 0)))
              | none => M.no
            | _ => M.no
          | _, _ => M.no
        | _ => M.no
      | false => els
  | .call { callee := .builtin .unsafeSliceData, args, .. } => match args.toList with
    | [x] => match evA st.fr x with
      | .sl c kv 0 n => match getO st.ch c with
        | some ck => chk M (Nat.beq kv ck.ver && isRowK ck.kind && Nat.ble 1 n) (k (aR o st.fr [x] c ck (.ref c kv 0)))
        | none => M.no
      | .v (.slice none _ _) => k (aP o st.fr [x] (.v (.pointer none)))
      | _ => M.no
    | _ => M.no
  | .call { callee := .builtin .unsafeString, args, argTypes } => match args.toList, argTypes.toList with
    | [x, y], [pt, it] => match evA st.fr x, evA st.fr y with
      | .v (.pointer p), .v (.int .i64 (.ofNat 0)) => k (aP o st.fr [x, y] (.v (.string ByteArray.empty)))
      | .ref d kd 0, .v (.int .i64 (.ofNat n)) => match getO st.ch d, getO T pt with
        | some dk, some yp => match yp.d with
          | .ptr e => match getO T e with
            | some ye => match bytL dk.cells with
              | some ns => chk M (Nat.beq kd dk.ver && isRowK dk.kind && Nat.beq ye.size 1 && Nat.beq dk.ty e && Nat.beq ns.length n && Nat.ble 1 n && Nat.ble n 9223372036854775807 && inByte ns) (M.byt ns fun u => k ⟨rds st.fr [x, y], [(d, some dk)], o.dst, .v (.string u), [(d, ⟨.tab noT, e, 1, dk.ver + 1, []⟩)]⟩)
              | none => M.no
            | none => M.no
          | _ => M.no
        | _, _ => M.no
      | _, _ => M.no
    | _, _ => M.no
  | .binOp op t x z ty => match evA st.fr x with
    | .ref c kv off => match op, evA st.fr z with
      | .neq, .ref c' kv' off' => match getO st.ch c, getO T t with
        | some ck, some y => match y.d with
          | .ptr e => match getO T e with
            | some ye => chk M (Nat.beq c c' && Nat.beq kv kv' && Nat.beq off off' && Nat.beq kv ck.ver && isOwnK ck.kind) (k (aR o st.fr [x, z] c ck (.v (.bool false))))
            | none => M.no
          | _ => M.no
        | _, _ => M.no
      | _, _ => els
    | .ifc q a => match z, getO T t with
      | .const .nilIface, some y => chk M (eqlike op && isIfcD y.d) (k (aP o st.fr [x, .const .nilIface] (.v (.bool (eqR op false)))))
      | _, _ => els
    | _ => els
  | _ => els
theorem xBld_ok {R : Type} {M : NA R} {H : R → Prop} {X : Ctx} (hM : M.Ok H X) (hT : X.ok) {U : Nat} (hU : X.P.underlying U = some .unsafePointer) {o : Oper} {st : St} {k : Actn → R} {els : R} (hels : H els → ActN X o st fun A => H (k A)) (h : H (xBld M X.T U o st k els)) : ActN X o st fun A => H (k A) := by
  unfold xBld at h
  split at h
  · rename_i s t x ho
    split at h
    · rename_i ht
      have ht := Nat.eq_of_beq_eq_true ht
      subst ht
      split at h
      · rename_i c kv off hx
        split at h
        · rename_i ck ys hc hys
          split at h
          · rename_i e hyd
            split at h
            · rename_i ye hye
              obtain ⟨h1, h⟩ := chk_eq hM h
              simp only [Bool.and_eq_true, Bool.not_eq_true'] at h1
              obtain ⟨⟨⟨a1, a2⟩, a3⟩, a4⟩ := h1
              exact x_to_unsafe hT ho hx hc (Nat.eq_of_beq_eq_true a1) (isOwnK_eq a2) hys hyd hye (fun e => by rw [e] at a3; cases a3) hU (Nat.le_of_ble_eq_true a4) h
            · exact (hM.no h).elim
          · exact (hM.no h).elim
        · exact (hM.no h).elim
      · exact (hM.no h).elim
    · split at h
      · rename_i hs
        have hs := Nat.eq_of_beq_eq_true hs
        subst hs
        split at h
        · rename_i c kv hx
          split at h
          · rename_i ck yt hc hyt
            split at h
            · rename_i e hyd
              split at h
              · rename_i ye hye
                obtain ⟨h1, h⟩ := chk_eq hM h
                simp only [Bool.and_eq_true, Bool.not_eq_true'] at h1
                obtain ⟨⟨⟨⟨a1, a2⟩, a3⟩, a4⟩, a5⟩ := h1
                exact x_from_unsafe hT ho hx hc (Nat.eq_of_beq_eq_true a1) (isOwnK_eq a2) hyt hyd hye (fun e => by rw [e] at a3; cases a3) hU (Nat.eq_of_beq_eq_true a4) (Nat.le_of_ble_eq_true a5) h
              · exact (hM.no h).elim
            · exact (hM.no h).elim
          · exact (hM.no h).elim
        · exact (hM.no h).elim
      · exact hels h
  · rename_i args ts ho
    split at h
    · rename_i x ha
      have ho' : o.op = .call { callee := .builtin .unsafeSliceData, args := [x].toArray, argTypes := ts } := by rw [ho, ← ha]
      split at h
      · rename_i c kv n hx
        split at h
        · rename_i ck hc
          obtain ⟨h1, h⟩ := chk_eq hM h
          simp only [Bool.and_eq_true] at h1
          exact x_slice_data ho' hx hc (Nat.eq_of_beq_eq_true h1.1.1) (isRowK_eq h1.1.2) (Nat.le_of_ble_eq_true h1.2) h
        · exact (hM.no h).elim
      · rename_i hx
        exact x_slice_data_nil ho' hx h
      · exact (hM.no h).elim
    · exact (hM.no h).elim
  · rename_i args ts ho
    split at h
    · rename_i x y pt it ha hts
      have ho' : o.op = .call { callee := .builtin .unsafeString, args := [x, y].toArray, argTypes := #[pt, it] } := by
        rw [ho, ← ha]
        congr 2
        exact congrArg List.toArray hts
      split at h
      · rename_i p hx hy
        exact x_unsafe_string_nil ho' hx hy h
      · rename_i d kd n hx hy
        split at h
        · rename_i dk yp hc hyp
          split at h
          · rename_i e hyd
            split at h
            · rename_i ye hye
              split at h
              · rename_i ns hns
                obtain ⟨h1, h⟩ := chk_eq hM h
                simp only [Bool.and_eq_true] at h1
                obtain ⟨⟨⟨⟨⟨⟨⟨a1, a2⟩, a3⟩, a4⟩, a5⟩, a6⟩, a7⟩, a8⟩ := h1
                exact x_unsafe_string hT ho' hx hy hc (Nat.eq_of_beq_eq_true a1) (isRowK_eq a2) hyp hyd hye (Nat.eq_of_beq_eq_true a3) (Nat.eq_of_beq_eq_true a4) (bytL_eq hns) (Nat.eq_of_beq_eq_true a5) (Nat.le_of_ble_eq_true a6) (inByte_eq a8) (Nat.le_of_ble_eq_true a7) (hM.byt h)
              · exact (hM.no h).elim
            · exact (hM.no h).elim
          · exact (hM.no h).elim
        · exact (hM.no h).elim
      · exact (hM.no h).elim
    · exact (hM.no h).elim
  · rename_i op t x z ty ho
    split at h
    · rename_i c kv off hx
      split at h
      · rename_i c' kv' off' hz
        split at h
        · rename_i ck y hc hy
          split at h
          · rename_i e hyd
            split at h
            · rename_i ye hye
              obtain ⟨h1, h2⟩ := chk_eq hM h
              simp only [Bool.and_eq_true] at h1
              obtain ⟨⟨⟨⟨a1, a2⟩, a3⟩, a4⟩, a5⟩ := h1
              have a1 := Nat.eq_of_beq_eq_true a1
              have a2 := Nat.eq_of_beq_eq_true a2
              have a3 := Nat.eq_of_beq_eq_true a3
              subst a1 a2 a3
              exact x_eq_refs hT ho hx hz hc (Nat.eq_of_beq_eq_true a4) (isOwnK_eq a5) hy hyd hye h2
            · exact (hM.no h).elim
          · exact (hM.no h).elim
        · exact (hM.no h).elim
      · exact hels h
    · rename_i q a hx
      split at h
      · rename_i y hy
        obtain ⟨h1, h2⟩ := chk_eq hM h
        simp only [Bool.and_eq_true] at h1
        exact x_ne_ifc hT op (eqlike_eq h1.1) ho hx hy (isIfcD_eq h1.2) h2
      · exact hels h
    · exact hels h
  · exact hels h
def isZ8 : List Value → Bool
  | [.int .u8 (.ofNat 0)] => true
  | _ => false
theorem isZ8_eq {l : List Value} (h : isZ8 l = true) : l = [.int .u8 0] := by
  unfold isZ8 at h
  split at h
  · rfl
  · cases h
def xAppS {R : Type} (M : NA R) (T : List (Option Ty)) (o : Oper) (st : St) (k : Actn → R) (els : R) : R :=
  match o.op with
  | .call { callee := .builtin .append, args, argTypes } => match args.toList, argTypes.toList with
    | [s, x], [t, t2] => match evA st.fr x with
      | .v (.string u) => match getO T t, getO T t2 with
        | some y, some y2 => match y.d, y2.d with
          | .sl e, .str => match getO T e with
            | some ye => chk M (Nat.beq ye.size 1 && Nat.beq ye.bytes 1 && isZ8 ye.zero) (match evA st.fr s with
              | .sl c kv 0 n => match getO st.ch c with
                | some ck => chk M (isRowK ck.kind && Nat.beq ck.esz 1 && Nat.beq ck.ty e && Nat.beq ck.cells.length n && Nat.beq kv ck.ver) (M.need (n + u.size ≤ maxLen ∧ n + u.size ≤ 140737488355328) (sIntsK u.data.toList fun l => catK ck.cells l fun cells => M.nat (n + u.size) fun nm => M.nat (ck.ver + 1) fun v1 => k ⟨rds st.fr [s, x], [(c, some ck)], o.dst, .sl c v1 0 nm, [(c, ⟨.row, e, 1, v1, cells⟩)]⟩))
                | none => M.no
              | .v (.slice none 0 0) => match o.dst with
                | some d => M.ix d st.ch fun d => match getO st.ch d with
                  | none => M.need (u.size ≤ maxLen ∧ u.size ≤ 140737488355328) (sIntsK u.data.toList fun l => k ⟨rds st.fr [s, x], [(d, none)], o.dst, .sl d 0 0 u.size, [(d, ⟨.row, e, 1, 0, l⟩)]⟩)
                  | some _ => M.no
                | none => M.no
              | _ => M.no)
            | none => M.no
          | _, _ => M.no
        | _, _ => M.no
      | _ => els
    | _, _ => els
  | _ => els
theorem xAppS_ok {R : Type} {M : NA R} {H : R → Prop} {X : Ctx} (hM : M.Ok H X) (hT : X.ok) {o : Oper} {st : St} {k : Actn → R} {els : R} (hels : H els → ActN X o st fun A => H (k A)) (h : H (xAppS M X.T o st k els)) : ActN X o st fun A => H (k A) := by
  unfold xAppS at h
  split at h
  · rename_i args ts ho
    split at h
    · rename_i s x t t2 ha hts
      have ho' : o.op = .call { callee := .builtin .append, args := [s, x].toArray, argTypes := [t, t2].toArray } := by
        rw [ho, ← ha, ← hts]
      split at h
      · rename_i u hx
        split at h
        · rename_i y y2 hy hy2
          split at h
          · rename_i e hyd hy2d
            split at h
            · rename_i ye hye
              obtain ⟨h1, h⟩ := chk_eq hM h
              simp only [Bool.and_eq_true] at h1
              obtain ⟨⟨a1, a2⟩, a3⟩ := h1
              have a1 := Nat.eq_of_beq_eq_true a1
              have a2 := Nat.eq_of_beq_eq_true a2
              have a3 := isZ8_eq a3
              split at h
              · rename_i c kv n hs
                split at h
                · rename_i ck hc
                  obtain ⟨h2, h⟩ := chk_eq hM h
                  simp only [Bool.and_eq_true] at h2
                  obtain ⟨⟨⟨⟨b1, b2⟩, b3⟩, b4⟩, b5⟩ := h2
                  have b2 := Nat.eq_of_beq_eq_true b2
                  obtain ⟨h4, h⟩ := hM.need h
                  rw [sIntsK_byt, catK_eq] at h
                  have h := hM.nat (hM.nat h)
                  refine x_append_str (m := u.size) hT ho' hs hc (isRowK_eq b1) (Nat.eq_of_beq_eq_true b5) hy hyd hye (by rw [a1, b2]) (Nat.eq_of_beq_eq_true b3) (by omega) (by rw [a3, a1]; rfl) (by rw [b2, Nat.mul_one]; exact Nat.eq_of_beq_eq_true b4) hx hy2 hy2d a1 a2 a3 rfl h4.1 (by rw [a2, Nat.mul_one]; exact h4.2) ?_
                  rw [b2]
                  exact h
                · exact (hM.no h).elim
              · rename_i hs
                split at h
                · rename_i d' hd
                  obtain ⟨d, h⟩ := hM.ix h
                  split at h
                  · rename_i hc
                    obtain ⟨h4, h⟩ := hM.need h
                    rw [sIntsK_byt] at h
                    refine x_append_str_nil (m := u.size) (c0 := 0) hT ho' hs hc hy hyd hye (by omega) (by rw [a3, a1]; rfl) hx hy2 hy2d a1 a2 a3 rfl h4.1 (by rw [a2, Nat.mul_one]; exact h4.2) ?_
                    rw [a1]
                    exact h
                  · exact (hM.no h).elim
                · exact (hM.no h).elim
              · exact (hM.no h).elim
            · exact (hM.no h).elim
          · exact (hM.no h).elim
        · exact (hM.no h).elim
      · exact hels h
    · exact hels h
  · exact hels h
def kNoEscape : KSpec := fun args _ => match args with
  | [a] => some ([], a)
  | _ => none
theorem kNoEscape_ok {P : Program} {I : World → Prop} {f : FuncId} {fn : Func} (hf : P.funcs[f]? = some fn) (hn : (fn.name == "runtime.NumGoroutine") = false) (hb : fn.body.isNone = true) (hx : Extern.findNext fn = none) (he : Extern.find fn = some Extern.AbiNoEscape.same) : KOk P I f kNoEscape where
  fits := by
    intro args ch cin r h i q hq
    unfold kNoEscape at h
    split at h
    · cases h; simp at hq
    · cases h
  run := by
    intro args ch cin r h st' _ vals w ρ hv _ _ _ _
    unfold kNoEscape at h
    split at h
    · cases h
      match vals, hv with
      | [u], hv =>
        simp only [relL] at hv
        exact ⟨u, hv.1, .inl (run_extern hf hn hb hx he (Lib.run_noEscape w u))⟩
    · cases h
def kaK {R : Type} (Ka : Nat → List Value → Option AV) (o : Oper) (st : St) (cal : Operand) (xs : List Operand) (k : Actn → R) (els : R) : R :=
  match cal with
  | .func f => match vals (xs.map (evA st.fr)) with
    | some vs => match Ka f vs with
      | some r => k (aP o st.fr xs r)
      | none => els
    | none => els
  | _ => els
def bActD (Kd : Nat → Bool) (Ka : Nat → List Value → Option AV) (U : Nat) (Kt : Nat → Option KSpec) (G : Nat → Option (List Value)) (F : Nat → Option Func) (T : List (Option Ty)) (N : Nat) : Nat → Oper → St → (Actn → Bool) → Bool
  | 0 => fun _ _ _ => false
  | d + 1 => fun o st k => match o.op with
    | .call { callee := .value cal, args, .. } => kaK Ka o st cal args.toList k (inlD (bNA (bActD Kd Ka U Kt G F T N d)) Kd Kt F T N o st cal args.toList k)
    | _ => xMap (bNA (bActD Kd Ka U Kt G F T N d)) T o st k (xBld (bNA (bActD Kd Ka U Kt G F T N d)) T U o st k (xAppS (bNA (bActD Kd Ka U Kt G F T N d)) T o st k (xtra (bNA (bActD Kd Ka U Kt G F T N d)) G T o st k)))
theorem bActD_ok {P : Program} {T : List (Option Ty)} {I : World → Prop} (hT : Ctx.ok ⟨P, T, 0, I⟩) (hm : P.follows .mixedOrders = true) {F : Nat → Option Func} (hF : ∀ f fn, F f = some fn → P.funcs[f]? = some fn) {Kd : Nat → Bool} (hKd : ∀ f, Kd f = true → Quiet P f) {Ka : Nat → List Value → Option AV} (hKa : ∀ f vs R, Ka f vs = some R → ∀ w, I w → RetA P f vs w R) {U : Nat} (hU : P.underlying U = some .unsafePointer) {G : Nat → Option (List Value)} (hG : ∀ w, I w → ∀ g cells, G g = some cells → ∀ i u, cells[i]? = some u → w.cell? ⟨g, i, none⟩ = some u) {Kt : Nat → Option KSpec} (hKt : ∀ f sp, Kt f = some sp → KOk P I f sp) {N : Nat} : ∀ (d n : Nat) {o st k}, bActD Kd Ka U Kt G F T N d o st k = true → ActN ⟨P, T, n, I⟩ o st fun A => k A = true
  | 0, n, o, st, k, h => by simp [bActD] at h
  | d + 1, n, o, st, k, h => by
    have hT' : Ctx.ok ⟨P, T, n, I⟩ := hT
    have hM : ∀ n, (bNA (bActD Kd Ka U Kt G F T N d)).Ok (fun b => b = true) ⟨P, T, n, I⟩ := fun n => bNA_ok fun h => bActD_ok hT hm hF hKd hKa hU hG hKt d n h
    simp only [bActD] at h
    split at h
    · rename_i cal args ts ho
      have els := fun h => inlD_ok (X := ⟨P, T, n, I⟩) (H := fun b => b = true) hM hT' hm hF hKd hKt (xs := args.toList) (ts := ts) (N := N) (st := st) (k := k) (by rw [ho]) h
      unfold kaK at h
      split at h
      · rename_i f
        split at h
        · rename_i vs hvs
          split at h
          · rename_i r hr
            exact x_retA (X := ⟨P, T, n, I⟩) (xs := args.toList) (ts := ts) (by rw [ho]) hvs (fun w hw => hKa f vs r hr w hw) h
          · exact els h
        · exact els h
      · exact els h
    · exact xMap_ok (X := ⟨P, T, n, I⟩) (H := fun b => b = true) (hM n) hT' (fun h => xBld_ok (X := ⟨P, T, n, I⟩) (H := fun b => b = true) (hM n) hT' hU (fun h => xAppS_ok (X := ⟨P, T, n, I⟩) (H := fun b => b = true) (hM n) hT' (fun h => xtra_ok (X := ⟨P, T, n, I⟩) (H := fun b => b = true) (hM n) hT' hG h) h) h) h
def runBD (Kd : Nat → Bool) (Ka : Nat → List Value → Option AV) (U : Nat) (Kt : Nat → Option KSpec) (G : Nat → Option (List Value)) (F : Nat → Option Func) (T : List (Option Ty)) (N d : Nat) (fn : Func) (c : Code) (args : List AV) (want : AV → Bool) : Bool :=
  padK args fn.ntmps fun fr => XC (bNA (bActD Kd Ka U Kt G F T N d)) T N c ⟨fr, []⟩ fun e s => match e with
    | .normal => resK (bNA (bActD Kd Ka U Kt G F T N d)) T s fn.results.toList want
    | .ret => resK (bNA (bActD Kd Ka U Kt G F T N d)) T s fn.results.toList want
    | _ => false
theorem Ret.runBD {P : Program} {T : List (Option Ty)} {I : World → Prop} {w : World} (hI : ∀ w', Mod w w' (fun _ => False) → I w') {f : FuncId} {fn : Func} {c : Code} {args : List Value} {v : Value} {want : AV → Bool} (F : Nat → Option Func) (G : Nat → Option (List Value)) (hG : ∀ w, I w → ∀ g cells, G g = some cells → ∀ i u, cells[i]? = some u → w.cell? ⟨g, i, none⟩ = some u) (Kd : Nat → Bool) (hKd : ∀ f, Kd f = true → Quiet P f) (Ka : Nat → List Value → Option AV) (hKa : ∀ f vs R, Ka f vs = some R → ∀ w, I w → RetA P f vs w R) (U : Nat) (hU : P.underlying U = some .unsafePointer) (Kt : Nat → Option KSpec) (hKt : ∀ f sp, Kt f = some sp → KOk P I f sp) (N d : Nat) (hT : Ctx.ok ⟨P, T, 0, I⟩) (hm : P.follows .mixedOrders = true) (hF : ∀ f fn, F f = some fn → P.funcs[f]? = some fn)
    (hf : P.funcs[f]? = some fn) (hnm : (fn.name == "runtime.NumGoroutine") = false) (hb : fn.body = some c) (h : SX.runBD Kd Ka U Kt G F T N d fn c (args.map .v) want = true) (hw : ∀ a, want a = true → a = .v v) : Ret P f args w v := by
  unfold SX.runBD at h
  rw [padK_eq] at h
  have hM : (bNA (bActD Kd Ka U Kt G F T N d)).Ok (fun b => b = true) ⟨P, T, 0, I⟩ := bNA_ok fun h => bActD_ok hT hm hF hKd hKa hU hG hKt d 0 h
  obtain ⟨e, s, h1, h2⟩ := XC_ok hM hT hm c _ _ h
  have fin : (e = .normal ∨ e = .ret) ∧ ∀ E a w ρ, Rel ⟨P, T, 0, I⟩ E s a w ρ → (results fn a.tmps).run P w = .ok v w := by
    have key : resK (bNA (bActD Kd Ka U Kt G F T N d)) T s fn.results.toList want = true → ∀ E a w ρ, Rel ⟨P, T, 0, I⟩ E s a w ρ → (results fn a.tmps).run P w = .ok v w := by
      intro h2 E a w ρ hr
      obtain ⟨av, h3, h4⟩ := resK_ok (X := ⟨P, T, 0, I⟩) hM hT h2
      have := hw av h3
      subst this
      obtain ⟨u, h5, h6⟩ := h4 E a w ρ hr
      simp only [rel] at h6
      rw [← h6]
      exact h5
    split at h2
    · exact ⟨.inl rfl, key h2⟩
    · exact ⟨.inr rfl, key h2⟩
    · cases h2
  refine ⟨⟨fn, hf, hnm, by simp [hb]⟩, ?_⟩
  have hC : Calls P f args.toArray w fun e w' => e = .returned v ∧ Mod w w' fun _ => False := by
    refine calls_of_wp hf hb (wp_mono (wp_of_wide (h1.out ⟨w, fun _ => False, Base.no 0, hI, [], none⟩ _ w (fun _ => ⟨0, 0, none, 0, fun _ => False⟩) ⟨?_, rfl, ?_, ?_⟩)) ?_)
    · have hdead : ∀ (vs : Nat → Option Nat) (ez : Nat → Nat) (ρ : Nat → Loc) (n : Nat), relL vs ez ρ (List.replicate n .dead) (List.replicate n undef) := by
        intro vs ez ρ n
        induction n with
        | zero => simp [relL]
        | succ n ih => simp only [List.replicate_succ, relL]; exact ⟨by simp [rel], ih⟩
      have := relL_append _ _ _ _ (relL_vals (vs := St.vs ⟨args.map .v ++ List.replicate (fn.ntmps - (args.map AV.v).length) .dead, []⟩) (ez := St.ez ⟨args.map .v ++ List.replicate (fn.ntmps - (args.map AV.v).length) .dead, []⟩) (ρ := fun _ => ⟨0, 0, none, 0, fun _ => False⟩) args) (hdead _ _ _ (fn.ntmps - (args.map AV.v).length))
      simpa using this
    · refine ⟨fun c k hk => ?_, fun c k b hk => ?_, fun c k b hk => ?_, fun c k b hk => ?_, fun c k hk => ?_, fun c d k l b hk => ?_, Mod.refl _ _⟩ <;> simp [getO_nil] at hk
    · intro c v hv; cases hv
    · rintro e' a' w' ⟨s', ρ', ⟨p, q⟩, hr'⟩
      subst p
      subst q
      have f1 : a'.defers = [] ∧ ∃ u, (results fn a'.tmps).run P w' = .ok u w' ∧ (Ending.returned u = .returned v ∧ Mod w w' fun _ => False) := ⟨hr'.df, v, fin.2 _ a' w' ρ' hr', rfl, hr'.heap.mod⟩
      rcases fin.1 with rfl | rfl
      · exact f1
      · exact f1
  exact hC
def runFD (Kd : Nat → Bool) (Ka : Nat → List Value → Option AV) (U : Nat) (Kt : Nat → Option KSpec) (G : Nat → Option (List Value)) (F : Nat → Option Func) (T : List (Option Ty)) (N d : Nat) (fn : Func) (args : List AV) (want : AV → Bool) : Bool :=
  match fn.body with
  | some c => runBD Kd Ka U Kt G F T N d fn c args want
  | none => false
end Go.SX
set_option linter.unusedSimpArgs false
set_option linter.unusedVariables false
namespace Go.SX
section
variable {X : Ctx} {o : Oper} {st : St} {k : Actn → Prop}
theorem x_load_tab (hT : X.ok) {t : TypeId} {x : Operand} {c b off : Nat} {ck : Chunk} {F : Nat → (Nat → Prop) → World → Prop} {y : Ty} {us : List Value} (ho : o.op = .load t x) (hx : evA st.fr x = .v (.pointer (some ⟨b, off, none⟩))) (hc : getO st.ch c = some ck) (hk : ck.kind = .tab F)
    (hy : getO X.T t = some y) (hz : aggd y = false → y.size = 1) (hl : us.length = y.size) (hF : ∀ bl D w, F bl D w → ∀ i u, us[i]? = some u → w.cell? ⟨b, off + i, none⟩ = some u) (h : k (aR o st.fr [x] c ck (.v (mkVal y us)))) : ActN X o st k := by
  refine ActN.r hc (fun vs ez ρ a w ys hr hvs hez hcs hm => ?_) h
  have g1 := hr x (by simp)
  rw [hx] at g1
  simp only [rel] at g1
  unfold Chunk.mem at hm
  rw [hk] at hm
  have hload := (hT t y hy).run_load (w := w) ⟨b, off, none⟩ us hl hz (fun i u hu => by
    rw [add_none]
    exact hF _ _ _ hm.1.1 i u hu)
  exact ⟨mkVal y us, by simp [execOp, ho, g1, Instr.loadAt, Instr.sureAddr, hload, mkVal], by simp [rel]⟩

end

def opnA (d ver b : Nat) : AV → AV
  | .ref c k off => match Nat.beq c d && Nat.beq k ver with
    | true => .v (.pointer (some ⟨b, off, none⟩))
    | false => .ref c k off
  | .v x => .v x
  | .sl c k lo n => .sl c k lo n
  | .agg l => .agg l
  | .fn f l => .fn f l
  | .ifc t a => .ifc t a
  | .tup l => .tup l
  | .dead => .dead
  | .mp c k => .mp c k
def opnF (d ver b : Nat) : List AV → List AV
  | [] => []
  | a :: l => opnA d ver b a :: opnF d ver b l
def F0 (b : Nat) (us : List Value) : Nat → (Nat → Prop) → World → Prop := fun bl D w => bl = b ∧ (∀ e, D e ↔ e = b) ∧ (∀ i u, us[i]? = some u → w.cell? ⟨b, i, none⟩ = some u) ∧ ∀ i, i < us.length → w.frozen? ⟨b, i, none⟩ = false
end Go.SX
namespace Go.SX
end Go.SX
set_option linter.unusedSimpArgs false
set_option linter.unusedVariables false
namespace Go.SX
structure Fin (w0 : World) (Q : World → Value → Prop) (r : AV) (s : St) : Prop where
  out : ∀ w' ρ v, Heap w0 (fun _ => False) s w' ρ → rel s.vs s.ez ρ r v → Q w' v
structure RetQ (P : Program) (f : FuncId) (args : List Value) (w : World) (Q : World → Value → Prop) : Prop where
  has : Has P f
  run : Calls P f args.toArray w fun e w' => ∃ v, e = .returned v ∧ Mod w w' (fun _ => False) ∧ Q w' v
theorem RetQ.of {P : Program} {T : List (Option Ty)} {I : World → Prop} {w : World} (hI : ∀ w', Mod w w' (fun _ => False) → I w') {f : FuncId} {fn : Func} {c : Code} {n : Nat} {args : List Value} {Q : World → Value → Prop} (hT : Ctx.ok ⟨P, T, 0, I⟩) (hf : P.funcs[f]? = some fn) (hnm : (fn.name == "runtime.NumGoroutine") = false) (hb : fn.body = some c)
    (hn : fn.ntmps - args.length = n) (h : deadsK n [] fun ds => appK' args ds fun fr => TR ⟨P, T, 0, I⟩ c (endK ⟨P, T, 0, I⟩ fn.results.toList fun r s => Fin w Q r s) ⟨fr, []⟩) : RetQ P f args w Q := by
  rw [deadsK_eq, appK'_eq] at h
  refine ⟨⟨fn, hf, hnm, by simp [hb]⟩, ?_⟩
  refine (calls_of_TR (X := ⟨P, T, 0, I⟩) ⟨w, fun _ => False, Base.no 0, hI, [], none⟩ ⟨rfl, rfl⟩ (ρ := fun _ => ⟨0, 0, none, 0, fun _ => False⟩) hT hf hb ?_ ?_ ?_ h).mono ?_
  · have h1 := relL_deads (vs := St.vs ⟨args.map .v ++ deads n [], []⟩) (ez := St.ez ⟨args.map .v ++ deads n [], []⟩) (ρ := fun _ => ⟨0, 0, none, 0, fun _ => False⟩) n [] [] (by simp [relL])
    have h2 := relL_append _ _ _ _ (relL_vals (vs := St.vs ⟨args.map .v ++ deads n [], []⟩) (ez := St.ez ⟨args.map .v ++ deads n [], []⟩) (ρ := fun _ => ⟨0, 0, none, 0, fun _ => False⟩) args) h1
    simpa [hn] using h2
  · refine ⟨fun c k hk => ?_, fun c k b hk => ?_, fun c k b hk => ?_, fun c k b hk => ?_, fun c k hk => ?_, fun c d k l b hk => ?_, Mod.refl _ _⟩ <;> simp [getO_nil] at hk
  · intro c v hv; cases hv
  · rintro e w' ⟨v', r, s, ρ', rfl, hr, h1, h2, _⟩
    exact ⟨v', rfl, h2.mod, hr.out w' ρ' v' h2 h1⟩
theorem Fin.value {w0 : World} {Q : World → Value → Prop} {r : AV} {s : St} {v : Value} (hv : val r = some v) (h : ∀ w', Q w' v) : Fin w0 Q r s :=
  ⟨fun w' ρ v' _ hr => by rw [val_rel hv hr]; exact h w'⟩
theorem Fin.tab {w0 : World} {Q : World → Value → Prop} {r : AV} {s : St} {v : Value} {c : Nat} {ck : Chunk} {F : Nat → (Nat → Prop) → World → Prop} (hv : val r = some v) (hc : getO s.ch c = some ck) (hk : ck.kind = .tab F)
    (h : ∀ bl D w', F bl D w' → (∀ e, D e → w0.heap.size ≤ e ∧ e < w'.heap.size) → Q w' v) : Fin w0 Q r s :=
  ⟨fun w' ρ v' hh hr => by
    rw [val_rel hv hr]
    obtain ⟨ys, g1, g2⟩ := hh.ok c ck hc
    unfold Chunk.mem at g2
    rw [hk] at g2
    have hko : ck.owned = true := by simp [Chunk.owned, hk, CK.owned]
    refine h _ _ w' g2.1.1 fun e he => ⟨?_, hh.lt c ck e hc he⟩
    rcases hh.own c ck e hc hko he with h1 | h1
    · exact h1.elim
    · exact h1⟩
section
variable {X : Ctx} {o : Oper} {st : St} {k : Actn → Prop}
end
end Go.SX
set_option linter.unusedSimpArgs false
set_option linter.unusedVariables false
namespace Go.SX
theorem relL_map_v {vs ez ρ} : ∀ (us xs : List Value), relL vs ez ρ (us.map .v) xs → xs = us
  | [], [], _ => rfl
  | [], _ :: _, h => by simp [relL] at h
  | _ :: _, [], h => by simp [relL] at h
  | u :: us, x :: xs, h => by
    simp only [List.map_cons, relL, rel] at h
    rw [h.1, relL_map_v us xs h.2]
def RowQ (w0 : World) (ty : TypeId) (esz n : Nat) (us : List Value) (w' : World) (v : Value) : Prop :=
  ∃ b cap, v = .slice (some ⟨b, 0, none⟩) n cap ∧ w0.heap.size ≤ b ∧ b < w'.heap.size ∧ w'.ownsRow 0 ty esz (.slice (some ⟨b, 0, none⟩) n cap) n us
theorem Fin.row {w0 : World} {r : AV} {s : St} {c n ty esz ver : Nat} {us : List Value} {ck : Chunk} (hr : r = .sl c ver 0 n) (hc : getO s.ch c = some ck) (hck : ck = ⟨.row, ty, esz, ver, us.map .v⟩) (h0 : 0 < n) (he : 0 < esz) (hn : us.length = n * esz) :
    Fin w0 (RowQ w0 ty esz n us) r s :=
  ⟨fun w' ρ v' hh hrel => by
    subst hr hck
    obtain ⟨xs, g1, g2⟩ := hh.ok c _ hc
    have hx := relL_map_v us xs g1
    subst hx
    simp only [Chunk.mem] at g2
    obtain ⟨m1, m2, n', m3⟩ := g2
    have e : n' = n := by
      have := m3.1
      rw [hn] at this
      exact Nat.eq_of_mul_eq_mul_right he this.symm
    subst e
    simp only [rel] at hrel
    obtain ⟨cur, k1, k2, k3, k4⟩ := hrel
    have hcur : cur = ver := by simpa [St.vs, hc] using k1.symm
    obtain ⟨s1, a, s2, s3, s4⟩ := k3 hcur.symm
    have hb : (ρ c).base = some ⟨(ρ c).blk, 0, none⟩ := by
      rcases m2 with m2 | m2
      · rw [m2] at m3
        rcases m3.2 with ⟨q1, q2⟩ | ⟨g, cap, cr, q1, _⟩
        · omega
        · cases q1
      · exact m2
    have hdom : (ρ c).dom (ρ c).blk := hh.blk c _ _ hc (by simp [Chunk.blk, hb])
    refine ⟨(ρ c).blk, (ρ c).cap, ?_, ?_, hh.lt c _ _ hc hdom, ?_⟩
    · rw [s2, s4 rfl, hb, Nat.sub_zero]
    · rcases hh.own c _ _ hc rfl hdom with h1 | h1
      · exact h1.elim
      · exact h1
    · rw [← hb]; exact m3⟩
theorem RetQ.row {P : Program} {f : FuncId} {args : List Value} {w : World} {ty esz n : Nat} {us : List Value} (h : RetQ P f args w (RowQ w ty esz n us)) : RetRow P f args w ty esz n us :=
  ⟨h.has, h.run.mono fun e w' ⟨v, h1, h2, b, cap, h3, h4, h5, h6⟩ => ⟨b, cap, by rw [h1, h3], h2, h4, h5, h6⟩⟩
theorem nr_map (ms : List Nat) : ∀ l : List Value, noRefL ms (l.map .v) = true
  | [] => rfl
  | x :: l => by simp [noRefL, noRef, nr_map ms l]
theorem nr_app (ms : List Nat) : ∀ a b : List AV, noRefL ms (a ++ b) = (noRefL ms a && noRefL ms b)
  | [], b => by simp [noRefL]
  | x :: a, b => by simp [noRefL, nr_app ms a b, Bool.and_assoc]
theorem subL_all' : ∀ l : List AV, subL l 0 l.length = some l
  | [] => rfl
  | x :: l => by
    have := subL_all' l
    simp only [List.length_cons, subL, this]
end Go.SX
set_option linter.unusedSimpArgs false
set_option linter.unusedVariables false
namespace Go.SX
def YF (J : (Nat → Prop) → World → Prop) (_ : Nat) (D : Nat → Prop) (w : World) : Prop := ∃ w2, J D w2 ∧ ∀ b, D b → w.heap[b]? = w2.heap[b]?
theorem YF.stab {J : (Nat → Prop) → World → Prop} : StabT (YF J) := fun _ _ _ _ h ⟨w2, h1, h2⟩ => ⟨w2, h1, fun c hc => (h c hc).trans (h2 c hc)⟩
def YI (W w : World) : Prop := w.os = W.os ∧ w.tape = W.tape ∧ w.output = W.output ∧ W.heap.size ≤ w.heap.size
structure Keeps (W : World) (J : (Nat → Prop) → World → Prop) : Prop where
  keep : ∀ D w w', J D w → (∀ b, D b → w'.heap[b]? = w.heap[b]?) → (∀ b, D b → b < w'.heap.size) → YI W w' → J D w'
def Yields1 (P : Program) (l : Nat) (vs : List Value) (r : Bool) (J J' : (Nat → Prop) → World → Prop) : Prop :=
  ∀ D w, J D w → (∀ b, D b → b < w.heap.size) → YieldAt Fence.wide 0 P l vs.toArray w fun e w' => e = .returned (.bool r) ∧ ∃ D', J' D' w' ∧ Mod w w' D ∧ (∀ b, D b → D' b) ∧ ∀ b, D' b → b < w'.heap.size ∧ (D b ∨ w.heap.size ≤ b)
section
variable {X : Ctx} {o : Oper} {st : St} {k : Actn → Prop}
theorem x_yield {W : World} {l : Nat} {cal : Operand} {xs : List Operand} {ts : Array TypeId} {vs : List Value} {c : Nat} {ck : Chunk} {J J' : (Nat → Prop) → World → Prop} {r : Bool}
    (ho : o.op = .call { callee := .value cal, args := xs.toArray, argTypes := ts }) (hcal : evA st.fr cal = .v (.func (.yield l) #[] #[])) (hv : vals (xs.map (evA st.fr)) = some vs)
    (hI : ∀ w, X.I w → YI W w) (hJ : Keeps W J) (hck : getO st.ch c = some ck) (hk : ck.kind = .tab (YF J)) (hY : Yields1 X.P l vs r J J')
    (h : k ⟨rds st.fr (cal :: xs), [(c, some ck)], o.dst, .v (.bool r), [(c, ⟨.tab (YF J'), ck.ty, ck.esz, ck.ver + 1, []⟩)]⟩) : ActN X o st k := by
  refine ⟨_, ⟨rfl, fun st' E a w ρ hf hr K Q hk' => ?_⟩, ⟨rds_fits st.fr st.ch (cal :: xs), fun i q hq => by
    simp only [List.mem_singleton] at hq
    cases hq
    exact hck⟩, h⟩
  have hc' : getO st'.ch c = some ck := hf.c c (some ck) (by simp)
  obtain ⟨ys, g1, g2⟩ := hr.heap.ok c ck hc'
  unfold Chunk.mem at g2
  rw [hk] at g2
  obtain ⟨⟨⟨w2, j1, j2⟩, m2⟩, _⟩ := g2
  have hYI := hI w (E.inv w hr.heap.mod)
  have hlt : ∀ b, (ρ c).dom b → b < w.heap.size := fun b hb => hr.heap.lt c ck b hc' hb
  have hJw := hJ.keep _ _ w j1 j2 hlt hYI
  obtain ⟨fn, tmps, assign, body, hy, hround⟩ := hY _ w hJw hlt
  have hev := hr.ev cal
  rw [fits_ev hf (fr := st.fr) (x := cal) (rds_mem (xs := cal :: xs) (by simp)), hcal] at hev
  simp only [rel] at hev
  have hargs : xs.map a.eval = vs := vals_rel (fr := st.fr) (a := a) (vs := st'.vs) (ez := st'.ez) (ρ := ρ) xs vs hv fun x hx => by
    rw [← fits_ev hf (fr := st.fr) (x := x) (rds_mem (xs := cal :: xs) (List.mem_cons_of_mem _ hx))]
    exact hr.ev x
  have hrun : (execOp a.eval o).run X.P w = .ok (.round l fn tmps assign body) w := by
    have e : (Array.map a.eval xs.toArray) = vs.toArray := by simp [hargs]
    rw [← hy]
    simp only [execOp, ho, resolve, hev, Deferred.ofValue, Sem.run_bind, Sem.run_pure, Result.andThen_ok, invoke]
    have e2 : #[] ++ Array.map a.eval xs.toArray ++ (#[] : Array Value) = vs.toArray := by simp [hargs]
    first
      | rw [e2]
      | (simp [hargs])
  refine ⟨fun _ _ => trivial, ?_⟩
  rw [semAt_ok hrun (by intro d h; cases h), hrun, Oper.uponIn_round]
  refine ⟨fun e => absurd e (by simp [wideR, Fence.wide]), ?_⟩
  have hro : RoundIn (wideR E.rd) 0 X.P l fn tmps assign body w _ := hround
  refine hro.mono ?_
  rintro e w' ⟨rfl, D', j', hm, hsub, hD'⟩
  have hch : ((Actn.mk (rds st.fr (cal :: xs)) [(c, some ck)] o.dst (.v (.bool r)) [(c, ⟨.tab (YF J'), ck.ty, ck.esz, ck.ver + 1, []⟩)]).app st').ch = setO st'.ch c ⟨.tab (YF J'), ck.ty, ck.esz, ck.ver + 1, []⟩ := by simp [Actn.app, setAll]
  generalize hA : (Actn.mk (rds st.fr (cal :: xs)) [(c, some ck)] o.dst (.v (.bool r)) [(c, ⟨.tab (YF J'), ck.ty, ck.esz, ck.ver + 1, []⟩)]) = A at hch hk'
  have hko : ck.owned = true := by simp [Chunk.owned, hk, CK.owned]
  have hup : Up st'.vs (A.app st').vs st'.ez (A.app st').ez ρ (upd ρ c ⟨(ρ c).blk, 0, none, 0, D'⟩) := by
    intro d cur hd
    by_cases e : d = c
    · subst e
      simp only [St.vs, hc', Option.map_some, Option.some.injEq] at hd
      refine ⟨ck.ver + 1, by simp [St.vs, hch, getO_set_same], by omega, fun e => ?_⟩
      omega
    · refine ⟨cur, ?_, Nat.le_refl _, fun _ => ⟨upd_ne _ _ _ _ e, ?_⟩⟩
      · simpa [St.vs, hch, getO_set_ne _ _ _ _ e] using hd
      · simp [St.ez, hch, getO_set_ne _ _ _ _ e]
  refine hk' _ w' (upd ρ c ⟨(ρ c).blk, 0, none, 0, D'⟩) ⟨?_, by rw [put_defers]; exact hr.df, ?_, hr.gh.trans hup⟩
  · have hd : A.dst = o.dst := by rw [← hA]
    have hres : A.res = .v (.bool r) := by rw [← hA]
    have := relL_put (d := o.dst) (relL_up hup _ _ hr.fr) (show rel (A.app st').vs (A.app st').ez (upd ρ c ⟨(ρ c).blk, 0, none, 0, D'⟩) A.res (.bool r) by rw [hres]; simp [rel])
    rw [← hd] at this ⊢
    exact this
  · refine hr.heap.step (· = c) _ _ _ (hm.mono fun b hb => ⟨c, ck, rfl, hc', hko, hb⟩) ?_ hup ?_ ?_ ?_ ?_ ?_ ?_
    · intro d hd
      rw [hch]
      exact ⟨getO_set_ne _ _ _ _ hd, upd_ne _ _ _ _ hd⟩
    · rintro d q rfl hq
      rw [hch, getO_set_same] at hq
      cases hq
      rw [upd_same]
      exact ⟨[], by simp [relL], ⟨⟨w', j', fun _ _ => rfl⟩, rfl⟩, YF.stab⟩
    · rintro d q b rfl hq hb
      rw [upd_same] at hb
      exact (hD' b hb).1
    · rintro d q b rfl hq ho' hb
      rw [upd_same] at hb
      rcases (hD' b hb).2 with h1 | h1
      · exact hr.heap.own d ck b hc' hko h1
      · exact .inr (Nat.le_trans hr.heap.mod.size h1)
    · rintro d q b rfl hq hb
      rw [hch, getO_set_same] at hq
      cases hq
      simp [Chunk.blk] at hb
    · rintro d q rfl hq
      rw [hch, getO_set_same] at hq
      cases hq
      rw [upd_same]
      intro w1 w2 xs hw hm'
      exact ⟨⟨hm'.2 _ _ _ _ hw hm'.1.1, hm'.1.2⟩, hm'.2⟩
    · rintro d e q q' b rfl hq hq' ho' hb hb'
      by_cases he : e = d
      · exact he.symm
      · rw [hch, getO_set_ne _ _ _ _ he] at hq'
        rw [upd_same] at hb
        rw [upd_ne _ _ _ _ he] at hb'
        rcases (hD' b hb).2 with h1 | h1
        · exact hr.heap.sep d e ck q' b hc' hq' hko h1 hb'
        · have := hr.heap.lt e q' b hq' hb'
          omega
end
end Go.SX
set_option linter.unusedSimpArgs false
set_option linter.unusedVariables false
namespace Go.SX
theorem iter_of {P : Program} {T : List (Option Ty)} {W : World} {f : FuncId} {fn : Func} {c : Code} {n : Nat} {args : List Value} {J0 : (Nat → Prop) → World → Prop} {good : ((Nat → Prop) → World → Prop) → Prop} {D : Nat → Prop} (hT : Ctx.ok ⟨P, T, 0, YI W⟩) (hf : P.funcs[f]? = some fn) (hb : fn.body = some c)
    (h0 : J0 D W) (hD : ∀ b, D b → b < W.heap.size) (hg : ∀ J, good J → Keeps W J)
    (hn : fn.ntmps - args.length = n) (h : deadsK n [] fun ds => appK' args ds fun fr => TR ⟨P, T, 0, YI W⟩ c (endK ⟨P, T, 0, YI W⟩ fn.results.toList fun _ s => ∃ ck J, getO s.ch 0 = some ck ∧ ck.kind = .tab (YF J) ∧ good J) ⟨fr, [some ⟨.tab (YF J0), 0, 0, 0, []⟩]⟩) :
    Calls P f args.toArray W fun e w' => (∃ v, e = .returned v) ∧ ∃ J D', good J ∧ J D' w' ∧ ∀ b, D' b → b < w'.heap.size := by
  rw [deadsK_eq, appK'_eq] at h
  have hg1 : ∀ c k, getO ([some ⟨.tab (YF J0), 0, 0, 0, []⟩] : List (Option Chunk)) c = some k → c = 0 ∧ k = ⟨.tab (YF J0), 0, 0, 0, []⟩ := by
    intro c k hk
    match c, hk with
    | 0, hk => simp [getO] at hk; exact ⟨rfl, hk.symm⟩
    | c + 1, hk => simp [getO, getO_nil] at hk
  refine (calls_of_TR (X := ⟨P, T, 0, YI W⟩) ⟨W, fun _ => True, Base.no 0, fun w' hm => ⟨hm.os, hm.tape, hm.output, hm.size⟩, [], none⟩ ⟨rfl, rfl⟩ (ρ := fun _ => ⟨0, 0, none, 0, D⟩) hT hf hb ?_ ?_ ?_ h).mono ?_
  · have h1 := relL_deads (vs := St.vs ⟨args.map .v ++ deads n [], [some ⟨.tab (YF J0), 0, 0, 0, []⟩]⟩) (ez := St.ez ⟨args.map .v ++ deads n [], [some ⟨.tab (YF J0), 0, 0, 0, []⟩]⟩) (ρ := fun _ => ⟨0, 0, none, 0, D⟩) n [] [] (by simp [relL])
    have h2 := relL_append _ _ _ _ (relL_vals (vs := St.vs ⟨args.map .v ++ deads n [], [some ⟨.tab (YF J0), 0, 0, 0, []⟩]⟩) (ez := St.ez ⟨args.map .v ++ deads n [], [some ⟨.tab (YF J0), 0, 0, 0, []⟩]⟩) (ρ := fun _ => ⟨0, 0, none, 0, D⟩) args) h1
    simpa [hn] using h2
  · refine ⟨fun c k hk => ?_, fun c k b hk hb => hD b hb, fun c k b hk _ _ => .inl trivial, fun c k b hk hb => ?_, fun c k hk => ?_, fun c d k l b hk hl _ _ _ => ?_, Mod.refl _ _⟩
    · obtain ⟨rfl, rfl⟩ := hg1 c k hk
      exact ⟨[], by simp [relL], ⟨⟨W, h0, fun _ _ => rfl⟩, rfl⟩, YF.stab⟩
    · obtain ⟨rfl, rfl⟩ := hg1 c k hk
      simp [Chunk.blk] at hb
    · obtain ⟨rfl, rfl⟩ := hg1 c k hk
      intro w1 w2 xs hw hm'
      exact ⟨⟨hm'.2 _ _ _ _ hw hm'.1.1, hm'.1.2⟩, hm'.2⟩
    · rw [(hg1 c k hk).1, (hg1 d l hl).1]
  · intro c v hv; cases hv
  · rintro e w' ⟨v', r, s, ρ', rfl, ⟨ck, J, q1, q2, q3⟩, h1, h2, _⟩
    refine ⟨⟨_, rfl⟩, J, (ρ' 0).dom, q3, ?_, fun b hb => h2.lt 0 ck b q1 hb⟩
    obtain ⟨ys, g1, g2⟩ := h2.ok 0 ck q1
    unfold Chunk.mem at g2
    rw [q2] at g2
    obtain ⟨⟨⟨w2, j1, j2⟩, m2⟩, _⟩ := g2
    exact (hg J q3).keep _ _ w' j1 j2 (fun b hb => h2.lt 0 ck b q1 hb) ⟨h2.mod.os, h2.mod.tape, h2.mod.output, h2.mod.size⟩

theorem mem_move {st : St} {w w' : World} {ρ : Nat → Loc} {w0 : World} {O : Nat → Prop} (h : Heap w0 O st w ρ) (hs : ∀ c k b, getO st.ch c = some k → (ρ c).dom b → w'.heap[b]? = w.heap[b]?) {w1 : World} {O1 : Nat → Prop} {fr : List AV} (hlt : ∀ c k b, getO st.ch c = some k → (ρ c).dom b → b < w'.heap.size)
    (ho : ∀ c k b, getO st.ch c = some k → k.owned = true → (ρ c).dom b → O1 b ∨ w1.heap.size ≤ b) (hm : Mod w1 w' O1) : Heap w1 O1 ⟨fr, st.ch⟩ w' ρ := by
  refine ⟨fun c k hk => ?_, hlt, ho, h.blk, h.stay, h.sep, hm⟩
  obtain ⟨xs, h1, h2⟩ := h.ok c k hk
  exact ⟨xs, h1, h.stay c k hk w w' xs (fun b hb => hs c k b hk hb) h2⟩
theorem heap_root {st : St} {w w' : World} {ρ : Nat → Loc} {w0 : World} {O : Nat → Prop} (h : Heap w0 O st w ρ) (hs : ∀ c k b, getO st.ch c = some k → (ρ c).dom b → w'.heap[b]? = w.heap[b]?) (hlt : w.heap.size ≤ w'.heap.size) (fr : List AV) : Heap w' (partO st.ch ρ) ⟨fr, st.ch⟩ w' ρ :=
  mem_move h hs (fun c k b hk hb => Nat.lt_of_lt_of_le (h.lt c k b hk hb) hlt) (fun c k b hk ho hb => .inl ⟨c, k, hk, ho, hb⟩) (Mod.refl _ _)
theorem heap_base {s : St} {w' wr : World} {ρ' : Nat → Loc} {Or : Nat → Prop} (h : Heap wr Or s w' ρ') {w0 : World} {O : Nat → Prop} (hO : ∀ b, Or b → O b ∨ w0.heap.size ≤ b) (hsz : w0.heap.size ≤ wr.heap.size) (hm : Mod w0 w' O) : Heap w0 O s w' ρ' :=
  ⟨h.ok, h.lt, fun c k b hk ho hb => by
    rcases h.own c k b hk ho hb with h1 | h1
    · exact hO b h1
    · exact .inr (Nat.le_trans hsz h1), h.blk, h.stay, h.sep, hm⟩
theorem putObj_ne {w : World} {r b : Nat} {o : Obj} (h : b ≠ r) : (w.putObj r o).heap[b]? = w.heap[b]? := World.putObj_heap_other h
theorem Mod.putObj (w : World) (r : Nat) (o : Obj) {O : Nat → Prop} (h : O r) : Mod w (w.putObj r o) O :=
  ⟨rfl, rfl, rfl, by simp, fun b _ hn => putObj_ne fun e => hn (e ▸ h)⟩
end Go.SX
set_option linter.unusedSimpArgs false
set_option linter.unusedVariables false
namespace Go.SX
structure RJ (w0 : World) (O : Nat → Prop) (W1 : World) (l dk : Nat) (rc : Loop) (st : St) (ρ : Nat → Loc) (ch : List (Option Chunk)) (D : Nat → Prop) (w' : World) : Prop where
  dom : ∀ b, b < W1.heap.size → D b
  yi : YI W1 w'
  lp : w'.heap[l]? = some (.loop rc)
  df : w'.heap[dk]? = some (.deferred (some []))
  mem : ∃ ρ', Heap w0 O ⟨st.fr, ch⟩ w' ρ' ∧ Up st.vs (St.mk st.fr ch).vs st.ez (St.mk st.fr ch).ez ρ ρ' ∧ ∀ c q b, getO ch c = some q → (ρ' c).dom b → D b ∧ b ≠ l ∧ b ≠ dk
theorem RJ.keeps {w0 : World} {O : Nat → Prop} {W1 : World} {l dk : Nat} {rc : Loop} {st : St} {ρ : Nat → Loc} {ch : List (Option Chunk)} (hs : w0.heap.size ≤ W1.heap.size) (hl : l < W1.heap.size) (hd : dk < W1.heap.size) : Keeps W1 (RJ w0 O W1 l dk rc st ρ ch) := by
  refine ⟨fun D w w' h hsame hlt hyi => ?_⟩
  obtain ⟨ρ', h1, h2, h3⟩ := h.mem
  refine ⟨h.dom, hyi, (hsame l (h.dom l hl)).trans h.lp, (hsame dk (h.dom dk hd)).trans h.df, ρ', ?_, h2, h3⟩
  refine mem_move h1 (fun c k b hk hb => hsame b (h3 c k b hk hb).1) (fun c k b hk hb => hlt b (h3 c k b hk hb).1) h1.own ?_
  exact ⟨by rw [hyi.1, ← h.yi.1]; exact h1.mod.os, by rw [hyi.2.1, ← h.yi.2.1]; exact h1.mod.tape, by rw [hyi.2.2.1, ← h.yi.2.2.1]; exact h1.mod.output, Nat.le_trans hs hyi.2.2.2,
    fun b hb hn => (hsame b (h.dom b (by omega))).trans (h1.mod.block b hb hn)⟩
def setP (l : List (Nat × Value)) (fr : List AV) : List AV := l.foldl (fun fr q => setF fr q.1 (.v q.2)) fr
def setPK : List (Nat × Value) → List AV → (List AV → Prop) → Prop
  | [], fr, k => k fr
  | (p, v) :: r, fr, k => setFK fr p (.v v) fun fr => setPK r fr k
theorem setPK_eq : ∀ (l : List (Nat × Value)) (fr : List AV) (k : List AV → Prop), setPK l fr k = k (setP l fr)
  | [], fr, k => rfl
  | (p, v) :: r, fr, k => by simp only [setPK]; rw [setFK_eq, setPK_eq r]; rfl
theorem relL_setP {vs ez ρ} : ∀ (l : List (Nat × Value)) (fr : List AV) (tm : Array Value), relL vs ez ρ fr tm.toList → relL vs ez ρ (setP l fr) (l.foldl (fun (t : Array Value) q => t.setIfInBounds q.1 q.2) tm).toList
  | [], fr, tm, h => h
  | (p, v) :: r, fr, tm, h => by
    have := relL_set _ _ p (.v v) v h (by simp [rel])
    exact relL_setP r (setF fr p (.v v)) (tm.setIfInBounds p v) (by simpa using this)
theorem foldl_zip (ps : Array Tmp) (xs : List Value) (tm : Array Value) : (ps.zip xs.toArray).foldl (fun t (p, v) => t.setIfInBounds p v) tm = (ps.toList.zip xs).foldl (fun (t : Array Value) q => t.setIfInBounds q.1 q.2) tm := by
  rw [← Array.foldl_toList]
  simp [Array.toList_zip]
def roundK (X : Ctx) (body : Code) (ch ch' : List (Option Chunk)) : Exit → St → Prop
  | .normal, s => s.ch = ch ∧ TR X body (fun e s => match e with | .normal => s.ch = ch' | _ => False) s
  | _, _ => False
theorem round_ok {X : Ctx} {n : Nat} {w0 : World} {O : Nat → Prop} {W1 w : World} {l dk fnid : Nat} {tmps : Array Value} {ps : Array Tmp} {as body : Code} {st : St} {ρ : Nat → Loc} {ch ch' : List (Option Chunk)} {D : Nat → Prop} {xs : List Value}
    (hs0 : w0.heap.size ≤ W1.heap.size) (hl : l < W1.heap.size) (hl0 : w0.heap.size ≤ l) (hdk : dk < W1.heap.size) (hne : l ≠ dk) (hinv : ∀ w', Mod w0 w' O → X.I w') (hfr : relL st.vs st.ez ρ st.fr tmps.toList)
    (hown : ∀ c q, getO ch c = some q → q.owned = true ∧ c < n) (hown' : ∀ c q, getO ch' c = some q → q.owned = true ∧ c < n) (hps : xs.length = ps.size)
    (hround : setPK (ps.toList.zip xs) st.fr fun fr => TR ⟨X.P, X.T, n, X.I⟩ as (roundK ⟨X.P, X.T, n, X.I⟩ body ch ch') ⟨fr, ch⟩)
    (hJ : RJ w0 O W1 l dk { state := .ready, pending := none, fn := fnid, tmps := tmps, params := ps, assign := as, body := body, defers := dk } st ρ ch D w) (hD : ∀ b, D b → b < w.heap.size) :
    YieldAt Fence.wide 0 X.P l xs.toArray w fun e w' => e = .returned (.bool true) ∧ ∃ D', RJ w0 O W1 l dk { state := .ready, pending := none, fn := fnid, tmps := tmps, params := ps, assign := as, body := body, defers := dk } st ρ ch' D' w' ∧ Mod w w' D ∧ (∀ b, D b → D' b) ∧ ∀ b, D' b → b < w'.heap.size ∧ (D b ∨ w.heap.size ≤ b) := by
  rw [setPK_eq] at hround
  obtain ⟨hdom, hyi, hlp, hdf, ρ', h1, h2, h3⟩ := hJ
  have hsz : W1.heap.size ≤ w.heap.size := hyi.2.2.2
  refine ⟨fnid, _, as, body, run_yield hlp (by simpa using hps), roundIn_of_wpIn trivial ?_⟩
  rw [foldl_zip]
  have hinv1 : ∀ w', Mod w w' (partO ch ρ') → X.I w' := fun w' hm => hinv w' (h1.mod.trans hm fun b ⟨c, k, q1, q2, q3⟩ => h1.own c k b q1 q2 q3)
  have hlw : ¬ partO ch ρ' l := fun ⟨c, k, q1, q2, q3⟩ => (h3 c k l q1 q3).2.1 rfl
  have hdw : ¬ partO ch ρ' dk := fun ⟨c, k, q1, q2, q3⟩ => (h3 c k dk q1 q3).2.2 rfl
  have hbn : ∀ c k, getO ch c = some k → c < n := fun c k hk => (hown c k hk).2
  have hr1 : Rel ⟨X.P, X.T, n, X.I⟩ ⟨w, partO ch ρ', partB ch ρ' n hbn, hinv1, [], some l⟩ ⟨setP (ps.toList.zip xs) st.fr, ch⟩ { tmps := (ps.toList.zip xs).foldl (fun (t : Array Value) q => t.setIfInBounds q.1 q.2) tmps, defers := [] } w ρ' := by
    refine ⟨?_, rfl, heap_root h1 (fun _ _ _ _ _ => rfl) (Nat.le_refl _) _, Up.refl _ _ _⟩
    exact relL_setP _ _ _ (relL_up h2 _ _ hfr)
  refine wpIn_mono (hround.out _ _ w ρ' hr1) ?_
  rintro e a1 w1 ⟨s, ρ1, hk, hr2⟩
  cases e with
  | normal =>
    obtain ⟨hch, hbody⟩ := hk
    have hm1 : Mod w w1 (partO ch ρ') := hr2.heap.mod
    have hl1 : w1.heap[l]? = some (.loop { state := .ready, pending := none, fn := fnid, tmps := tmps, params := ps, assign := as, body := body, defers := dk }) := (hm1.block l (by omega) hlw).trans hlp
    have hd1 : w1.heap[dk]? = some (.deferred (some [])) := (hm1.block dk (by omega) hdw).trans hdf
    refine ⟨_, run_beginRound hl1 rfl, ?_⟩
    generalize hw2 : w1.putObj l (.loop { state := .busy, pending := none, fn := fnid, tmps := tmps, params := ps, assign := as, body := body, defers := dk }) = w2
    have hsz1 : w.heap.size ≤ w1.heap.size := hm1.size
    have hsz2 : w2.heap.size = w1.heap.size := by rw [← hw2]; simp
    have hsame2 : ∀ b, b ≠ l → w2.heap[b]? = w1.heap[b]? := fun b hb => by rw [← hw2]; exact putObj_ne hb
    -- where the chunks lie has not turned
    have hloc : ∀ c q, getO ch c = some q → ρ1 c = ρ' c := by
      intro c q hq
      have hg := hr2.gh c q.ver (by simp [partB, St.vs, hq])
      obtain ⟨cur, g1, g2, g3⟩ := hg
      have : cur = q.ver := by
        simp only [St.vs, hch, hq, Option.map_some, Option.some.injEq] at g1
        exact g1.symm
      exact (g3 this.symm).1
    have hdoms : ∀ c q b, getO s.ch c = some q → (ρ1 c).dom b → D b ∧ b ≠ l ∧ b ≠ dk := by
      intro c q b hq hb
      rw [hch] at hq
      rw [hloc c q hq] at hb
      exact h3 c q b hq hb
    have hm2 : Mod w1 w2 fun b => b = l := by rw [← hw2]; exact Mod.putObj _ _ _ rfl
    have hinv2 : ∀ w', Mod w2 w' (partO s.ch ρ1) → X.I w' := by
      intro w' hm
      refine hinv w' (((h1.mod.trans hm1 fun b ⟨c, k, q1, q2, q3⟩ => h1.own c k b q1 q2 q3).trans hm2 fun b hb => ?_).trans hm fun b ⟨c, k, q1, q2, q3⟩ => ?_)
      · subst hb
        exact .inr hl0
      · rw [hch] at q1
        rw [hloc c k q1] at q3
        exact h1.own c k b q1 q2 q3
    have hr3 : Rel ⟨X.P, X.T, n, X.I⟩ ⟨w2, partO s.ch ρ1, partB ch ρ' n hbn, hinv2, [], some l⟩ s a1 w2 ρ1 := by
      refine ⟨hr2.fr, hr2.df, ?_, hr2.gh⟩
      obtain ⟨sfr, sch⟩ := s
      exact heap_root hr2.heap (fun c k b hk hb => hsame2 b (hdoms c k b hk hb).2.1) (by omega) _
    refine wpIn_mono (hbody.out _ _ w2 ρ1 hr3) ?_
    rintro e2 a3 w3 ⟨s3, ρ3, hk3, hr4⟩
    cases e2 with
    | normal =>
      have hk3 : s3.ch = ch' := hk3
      have hO2l : ¬ partO s.ch ρ1 l := fun ⟨c, k, q1, q2, q3⟩ => (hdoms c k l q1 q3).2.1 rfl
      have hO2d : ¬ partO s.ch ρ1 dk := fun ⟨c, k, q1, q2, q3⟩ => (hdoms c k dk q1 q3).2.2 rfl
      have hm3 : Mod w2 w3 (partO s.ch ρ1) := hr4.heap.mod
      have hl3 : w3.heap[l]? = some (.loop { state := .busy, pending := none, fn := fnid, tmps := tmps, params := ps, assign := as, body := body, defers := dk }) := by
        refine (hm3.block l (by omega) hO2l).trans ?_
        rw [← hw2]
        exact World.putObj_heap_same (by omega)
      have hd3 : w3.heap[dk]? = some (.deferred (some [])) := ((hm3.block dk (by omega) hO2d).trans (hsame2 dk (Ne.symm hne))).trans hd1
      refine ⟨_, _, run_endRound none hl3, ?_⟩
      have hsz3 : w2.heap.size ≤ w3.heap.size := hm3.size
      have hdom3 : ∀ c q b, getO ch' c = some q → (ρ3 c).dom b → (D b ∨ w.heap.size ≤ b) ∧ b ≠ l ∧ b ≠ dk ∧ b < w3.heap.size := by
        intro c q b hq hb
        have hq' : getO s3.ch c = some q := by rw [hk3]; exact hq
        have hb3 := hr4.heap.lt c q b hq' hb
        rcases hr4.heap.own c q b hq' (hown' c q hq).1 hb with ⟨c', k', q1, q2, q3⟩ | h5
        · obtain ⟨d1, d2, d3⟩ := hdoms c' k' b q1 q3
          exact ⟨.inl d1, d2, d3, hb3⟩
        · have h5 : w2.heap.size ≤ b := h5
          exact ⟨.inr (by omega), by omega, by omega, hb3⟩
      have hm4 : Mod w w3 D := by
        refine ((hm1.mono fun b ⟨c, k, q1, q2, q3⟩ => (h3 c k b q1 q3).1).trans (O' := fun b => b = l) hm2 fun b hb => ?_).trans hm3 fun b ⟨c, k, q1, q2, q3⟩ => .inl (hdoms c k b q1 q3).1
        subst hb
        exact .inl (hdom _ hl)
      have hE : Mod w0 w3 O := by
        refine ((h1.mod.trans hm1 fun b ⟨c, k, q1, q2, q3⟩ => h1.own c k b q1 q2 q3).trans hm2 fun b hb => ?_).trans hm3 fun b ⟨c, k, q1, q2, q3⟩ => ?_
        · subst hb
          exact .inr hl0
        · rw [hch] at q1
          rw [hloc c k q1] at q3
          exact h1.own c k b q1 q2 q3
      have hsz0 := h1.mod.size
      simp only [Option.isNone_none, if_true]
      generalize hw4 : w3.putObj l (.loop { state := .ready, pending := none, fn := fnid, tmps := tmps, params := ps, assign := as, body := body, defers := dk }) = w4
      have hsz4 : w4.heap.size = w3.heap.size := by rw [← hw4]; simp
      have hsame4 : ∀ b, b ≠ l → w4.heap[b]? = w3.heap[b]? := fun b hb => by rw [← hw4]; exact putObj_ne hb
      have hm5 : Mod w3 w4 fun b => b = l := by rw [← hw4]; exact Mod.putObj _ _ _ rfl
      refine ⟨trivial, fun b => D b ∨ ∃ c q, getO ch' c = some q ∧ (ρ3 c).dom b, ⟨fun b hb => .inl (hdom b hb), ?_, ?_, ?_, ρ3, ?_, ?_, ?_⟩, ?_, fun b hb => .inl hb, ?_⟩
      · exact ⟨hm5.os.trans (hm4.os.trans hyi.1), hm5.tape.trans (hm4.tape.trans hyi.2.1), hm5.output.trans (hm4.output.trans hyi.2.2.1), by omega⟩
      · rw [← hw4]
        exact World.putObj_heap_same (by omega)
      · exact (hsame4 dk (Ne.symm hne)).trans hd3
      · have := heap_base (O := O) (w0 := w0) hr4.heap (fun b ⟨c, k, q1, q2, q3⟩ => by
          rw [hch] at q1
          rw [hloc c k q1] at q3
          exact h1.own c k b q1 q2 q3) (by show w0.heap.size ≤ w2.heap.size; omega) hE
        obtain ⟨s3fr, s3ch⟩ := s3
        simp only at hk3
        subst hk3
        refine mem_move this (fun c k b hk hb => hsame4 b (hdom3 c k b hk hb).2.1) (fun c k b hk hb => by have := (hdom3 c k b hk hb).2.2.2; omega) this.own (hE.trans hm5 fun b hb => ?_)
        subst hb
        exact .inr hl0
      · have hg : Up (St.mk st.fr ch).vs (St.mk st.fr ch').vs (St.mk st.fr ch).ez (St.mk st.fr ch').ez ρ' ρ3 := by
          have := hr4.gh
          obtain ⟨s3fr, s3ch⟩ := s3
          simp only at hk3
          subst hk3
          exact this
        exact h2.trans hg
      · intro c q b hq hb
        obtain ⟨d1, d2, d3, d4⟩ := hdom3 c q b hq hb
        exact ⟨.inr ⟨c, q, hq, hb⟩, d2, d3⟩
      · refine hm4.trans hm5 fun b hb => ?_
        subst hb
        exact .inl (hdom _ hl)
      · rintro b (hb | ⟨c, q, hq, hb⟩)
        · have := hD b hb
          exact ⟨by omega, .inl hb⟩
        · obtain ⟨d1, d2, d3, d4⟩ := hdom3 c q b hq hb
          exact ⟨by omega, d1⟩
    | _ => exact hk3.elim
  | _ => exact hk.elim
end Go.SX
set_option linter.unusedSimpArgs false
set_option linter.unusedVariables false
namespace Go.SX
def IterOk (P : Program) (gf : FuncId) (u : Value) (N : Nat) (xs : Nat → List Value) : Prop :=
  ∀ (W : World) (B l : Nat) (J : Nat → (Nat → Prop) → World → Prop) (D : Nat → Prop), (∀ k, k ≤ N → Keeps W (J k)) → (∀ k D w, k ≤ N → J k D w → w.cell? ⟨B, 0, none⟩ = some u ∧ D B) →
    (∀ k, k < N → Yields1 P l (xs k) true (J k) (J (k + 1))) → J 0 D W → (∀ b, D b → b < W.heap.size) →
    Calls P gf #[.func (.yield l) #[] #[], .pointer (some ⟨B, 0, none⟩)] W fun e w' => (∃ v, e = .returned v) ∧ ∃ D', J N D' w' ∧ ∀ b, D' b → b < w'.heap.size
structure TW (X : Ctx) (fn : Func) (v : Value) (c : Code) (st : St) : Prop where
  out : ∀ E : Env X, E.ds = [] → E.rd = none → ∀ a w ρ, Rel X E st a w ρ → ∀ R : Ending → World → Prop, (∀ w', Mod E.w0 w' E.O → R (.returned v) w') → c.wpIn (wideR none) 0 X.P (bodyPostM (wideR none) 0 X.P fn R) a w
theorem leaves_nil {X : Ctx} (hT : X.ok) {fn : Func} {v : Value} {s : St} {E : Env X} {a : Act} {w : World} {ρ : Nat → Loc} (hds : E.ds = []) (hr : Rel X E s a w ρ) {R : Ending → World → Prop} (hR : ∀ w', Mod E.w0 w' E.O → R (.returned v) w')
    (h : resK (propNA X) X.T s fn.results.toList fun r => val r = some v) : LeavesInM (wideR none) 0 X.P fn a.tmps R a.defers .returning w := by
  rw [hr.df, hds]
  obtain ⟨av, h1, h2⟩ := resK_ok (propNA_ok X) hT h
  obtain ⟨u, h3, h4⟩ := h2 E a w ρ hr
  exact ⟨u, h3, by rw [val_rel h1 h4]; exact hR w hr.heap.mod⟩
def seqTW (X : Ctx) (fn : Func) (v : Value) (c : Code) : Exit → St → Prop
  | .normal, s => TW X fn v c s
  | .ret, s => resK (propNA X) X.T s fn.results.toList fun r => val r = some v
  | _, _ => False
theorem TW.seq {X : Ctx} (hT : X.ok) {fn : Func} {v : Value} {c d : Code} {st : St} (h : TR X c (seqTW X fn v d) st) : TW X fn v (.seq c d) st := by
  refine ⟨fun E hds hrd a w ρ hr R hR => ?_⟩
  have h1 := h.out E a w ρ hr
  rw [hrd] at h1
  refine wpIn_seq (wpIn_mono h1 ?_)
  rintro e a' w' ⟨s, ρ', hk, hr'⟩
  cases e with
  | normal => exact (show TW X fn v d s from hk).out E hds hrd a' w' ρ' hr' R hR
  | ret => exact leaves_nil hT hds hr' hR hk
  | _ => exact hk.elim
structure TWK (X : Ctx) (fn : Func) (v : Value) (c d : Code) (st : St) : Prop where
  out : ∀ E : Env X, E.ds = [] → E.rd = none → ∀ a w ρ, Rel X E st a w ρ → ∀ R : Ending → World → Prop, (∀ w', Mod E.w0 w' E.O → R (.returned v) w') →
    c.wpIn (wideR none) 0 X.P (Exit.then (d.wpIn (wideR none) 0 X.P (bodyPostM (wideR none) 0 X.P fn R)) (bodyPostM (wideR none) 0 X.P fn R)) a w
theorem TW.seq2 {X : Ctx} {fn : Func} {v : Value} {c d : Code} {st : St} (h : TWK X fn v c d st) : TW X fn v (.seq c d) st :=
  ⟨fun E hds hrd a w ρ hr R hR => wpIn_seq (h.out E hds hrd a w ρ hr R hR)⟩
def seqTWK (X : Ctx) (fn : Func) (v : Value) (c d : Code) : Exit → St → Prop
  | .normal, s => TWK X fn v c d s
  | .ret, s => resK (propNA X) X.T s fn.results.toList fun r => val r = some v
  | _, _ => False
theorem TWK.seq {X : Ctx} (hT : X.ok) {fn : Func} {v : Value} {c b d : Code} {st : St} (h : TR X c (seqTWK X fn v b d) st) : TWK X fn v (.seq c b) d st := by
  refine ⟨fun E hds hrd a w ρ hr R hR => ?_⟩
  have h1 := h.out E a w ρ hr
  rw [hrd] at h1
  refine wpIn_seq (wpIn_mono h1 ?_)
  rintro e a' w' ⟨s, ρ', hk, hr'⟩
  cases e with
  | normal => exact (show TWK X fn v b d s from hk).out E hds hrd a' w' ρ' hr' R hR
  | ret => exact leaves_nil hT hds hr' hR hk
  | _ => exact hk.elim
theorem TWK.range {X : Ctx} (hT : X.ok) {fn : Func} {v : Value} {id : Nat} {g : Operand} {ps : Array Tmp} {as body rest : Code} {st : St} {gf c0 v0 : Nat} {ty : TypeId} {u : Value} {N n : Nat} {xs : Nat → List Value} {C : Nat → List (Option Chunk)}
    (hg : evA st.fr g = .fn (.func gf) [.ref c0 v0 0]) (hbox : ∀ k, k ≤ N → ∃ esz, getO (C k) c0 = some ⟨.own, ty, esz, v0, [.v u]⟩) (hC0 : C 0 = st.ch)
    (hown : ∀ k, k ≤ N → ∀ c q, getO (C k) c = some q → q.owned = true ∧ c < n) (hhas : Has X.P gf) (hit : IterOk X.P gf u N xs) (hps : ∀ k, k < N → (xs k).length = ps.size)
    (hpure : ∀ tm w w' u, (results fn tm).run X.P w = .ok u w → (results fn tm).run X.P w' = .ok u w')
    (hround : ∀ k, k < N → setPK (ps.toList.zip (xs k)) st.fr fun fr => TR ⟨X.P, X.T, n, X.I⟩ as (roundK ⟨X.P, X.T, n, X.I⟩ body (C k) (C (k + 1))) ⟨fr, C k⟩)
    (hrest : TR ⟨X.P, X.T, n, X.I⟩ rest (endK ⟨X.P, X.T, n, X.I⟩ fn.results.toList fun r _ => val r = some v) ⟨st.fr, C N⟩) : TWK X fn v (.block id (.rangeFunc g ps as body)) rest st := by
  refine ⟨fun E hds hrd a w ρ hr R hR => ?_⟩
  refine wpIn_block (wpIn_rangeFunc fun fnid _ => ?_)
  have hgv := hr.ev g
  rw [hg] at hgv
  simp only [rel] at hgv
  obtain ⟨lb, hge, hlb⟩ := hgv
  obtain ⟨esz0, hb0⟩ := hbox 0 (Nat.zero_le _)
  rw [hC0] at hb0
  have hlb2 : lb = #[.pointer (some ⟨(ρ c0).blk, 0, none⟩)] := by
    obtain ⟨l⟩ := lb
    match l, hlb with
    | [x], hlb =>
      simp only [relL, rel] at hlb
      obtain ⟨⟨cur, q1, q2, q3, _⟩, _⟩ := hlb
      simp only [St.vs, hb0, Option.map_some, Option.some.injEq] at q1
      obtain ⟨ys, g1, g2⟩ := hr.heap.ok c0 _ hb0
      have hoff : (ρ c0).off = 0 := g2.1
      rw [q3 q1, hoff]
    | [], hlb => simp [relL] at hlb
    | _ :: _ :: _, hlb => simp [relL] at hlb
  subst hlb2
  generalize hrec : (Loop.mk .ready none fnid a.tmps ps as body w.heap.size) = rec
  generalize hW1 : (w.alloc (.deferred (some []))).alloc (.loop rec) = W1
  have hL1 : W1.heap[w.heap.size + 1]? = some (.loop rec) := by
    rw [← hW1]
    have := World.alloc_heap_new (w.alloc (.deferred (some []))) (.loop rec)
    rwa [World.size_alloc] at this
  have hm1 : Mod w W1 fun _ => False := by
    rw [← hW1]
    exact (Mod.alloc w _ _).trans (Mod.alloc _ _ fun _ => False) fun _ h => h.elim
  have hK1 : W1.heap[w.heap.size]? = some (.deferred (some [])) := by
    rw [← hW1]
    have h1 := World.alloc_heap_new w (.deferred (some []))
    have h2 := Go.heap_alloc_old (r := w.heap.size) (w.alloc (.deferred (some []))) (.loop rec) (by simp)
    exact h2.trans h1
  have hsz1 : W1.heap.size = w.heap.size + 2 := by
    rw [← hW1]
    simp
  have hsz0 := hr.heap.mod.size
  refine ⟨w.heap.size + 1, [{ target := .collected w.heap.size, args := #[] }], W1, { target := .fn (.func gf) #[.pointer (some ⟨(ρ c0).blk, 0, none⟩)], args := #[.func (.yield (w.heap.size + 1)) #[] #[]] }, W1, gf,
    #[.func (.yield (w.heap.size + 1)) #[] #[], .pointer (some ⟨(ρ c0).blk, 0, none⟩)], W1, ?_, ?_, fun _ _ => trivial, ?_, fun e => absurd e (by simp [wideR, Fence.wide]), ?_⟩
  · rw [← hW1, ← hrec]
    exact run_enterLoop_outer _ _ _ _ _
  · simp only [resolve, hge]
    simp [go_sem]
  · have := run_callFunc hhas #[.func (.yield (w.heap.size + 1)) #[] #[], .pointer (some ⟨(ρ c0).blk, 0, none⟩)] W1
    simpa [invoke, go_sem] using this
  · have hinvE : ∀ w', Mod E.w0 w' E.O → X.I w' := E.inv
    have hkeep : ∀ k, k ≤ N → Keeps W1 (RJ E.w0 E.O W1 (w.heap.size + 1) w.heap.size rec st ρ (C k)) := fun k _ => RJ.keeps (by omega) (by omega) (by omega)
    refine callsIn_wideR.2 ((hit W1 (ρ c0).blk (w.heap.size + 1) (fun k => RJ E.w0 E.O W1 (w.heap.size + 1) w.heap.size rec st ρ (C k)) (fun b => b < W1.heap.size) hkeep ?_ ?_ ?_ (fun b hb => hb)).mono ?_)
    · intro k D w2 hk hJ
      obtain ⟨ρ', h1, h2, h3⟩ := hJ.mem
      obtain ⟨esz, hb⟩ := hbox k hk
      obtain ⟨cur, q1, q2, q3⟩ := h2 c0 v0 (by simp [St.vs, hb0])
      have hcur : cur = v0 := by
        simp only [St.vs, hb, Option.map_some, Option.some.injEq] at q1
        exact q1.symm
      have hl := (q3 hcur.symm).1
      obtain ⟨ys, g1, g2⟩ := h1.ok c0 _ hb
      have hys : ys = [u] := relL_of_vals [u] ys (by simpa using g1)
      subst hys
      obtain ⟨m1, m2, m3, m4⟩ := g2
      rw [hl] at m3
      have hdb : (ρ' c0).dom (ρ' c0).blk := h1.blk c0 _ _ hb rfl
      exact ⟨m3.cell 0 u rfl, by rw [← hl]; exact (h3 c0 _ _ hb hdb).1⟩
    · intro k hk D w2 hJ hD
      rw [← hrec] at hJ ⊢
      exact round_ok (n := n) (by omega) (by omega) (by omega) (by omega) (by omega) hinvE hr.fr (hown k (by omega)) (hown (k + 1) (by omega)) (hps k hk) (hround k hk) hJ hD
    · refine ⟨fun b hb => hb, ⟨rfl, rfl, rfl, Nat.le_refl _⟩, hL1, hK1, ρ, ?_, ?_, ?_⟩
      · rw [hC0]
        obtain ⟨sfr, sch⟩ := st
        exact hr.heap.grow hm1
      · rw [hC0]
        exact Up.refl _ _ _
      · intro c q b hq hb
        rw [hC0] at hq
        have := hr.heap.lt c q b hq hb
        exact ⟨by omega, by omega, by omega⟩
    · rintro e w2 ⟨⟨v', rfl⟩, D', hJ, hD'⟩
      obtain ⟨hdom, hyi, hlp, hdf, ρ', h1, h2, h3⟩ := hJ
      refine ⟨none, w2.putObj (w.heap.size + 1) (.loop { rec with state := .exhausted }), by have := run_endLoop (P := X.P) hlp (by rw [← hrec]; simp); rw [this, ← hrec], ?_⟩
      generalize hw4 : w2.putObj (w.heap.size + 1) (.loop { rec with state := .exhausted }) = w4
      have hsz4 : w4.heap.size = w2.heap.size := by rw [← hw4]; simp
      have hsame4 : ∀ b, b ≠ w.heap.size + 1 → w4.heap[b]? = w2.heap[b]? := fun b hb => by rw [← hw4]; exact putObj_ne hb
      have hm5 : Mod w2 w4 fun b => b = w.heap.size + 1 := by rw [← hw4]; exact Mod.putObj _ _ _ rfl
      have hszW : W1.heap.size ≤ w2.heap.size := hyi.2.2.2
      have hE4 : Mod E.w0 w4 E.O := h1.mod.trans hm5 fun b hb => .inr (by omega)
      have hdw : ¬ partO (C N) ρ' w.heap.size := fun ⟨c, k, q1, q2, q3⟩ => (h3 c k _ q1 q3).2.2 rfl
      have hinv4 : ∀ w', Mod w4 w' (partO (C N) ρ') → X.I w' := fun w' hm => hinvE w' (hE4.trans hm fun b ⟨c, k, q1, q2, q3⟩ => h1.own c k b q1 q2 q3)
      have hr4 : Rel ⟨X.P, X.T, n, X.I⟩ ⟨w4, partO (C N) ρ', partB (C N) ρ' n (fun c k hk => (hown N (Nat.le_refl _) c k hk).2), hinv4, [{ target := .collected w.heap.size, args := #[] }], none⟩ ⟨st.fr, C N⟩ { a with defers := [{ target := .collected w.heap.size, args := #[] }] ++ a.defers } w4 ρ' := by
        refine ⟨relL_up h2 _ _ hr.fr, by rw [hr.df, hds]; rfl, ?_, Up.refl _ _ _⟩
        exact heap_root h1 (fun c k b hk hb => hsame4 b (h3 c k b hk hb).2.1) (by omega) _
      refine wpIn_mono (hrest.out _ _ w4 ρ' hr4) ?_
      rintro e5 a5 w5 ⟨s, ρ5, hk5, hr5⟩
      have fin : (resK (propNA ⟨X.P, X.T, n, X.I⟩) X.T s fn.results.toList fun r => val r = some v) → LeavesInM (wideR none) 0 X.P fn a5.tmps R a5.defers .returning w5 := by
        intro hk
        rw [hr5.df]
        obtain ⟨av, k1, k2⟩ := resK_ok (X := ⟨X.P, X.T, n, X.I⟩) (propNA_ok _) (show Ctx.ok ⟨X.P, X.T, n, X.I⟩ from hT) hk
        obtain ⟨x, k3, k4⟩ := k2 _ a5 w5 ρ5 hr5
        have hm6 : Mod w4 w5 (partO (C N) ρ') := hr5.heap.mod
        have hd5 : w5.heap[w.heap.size]? = some (.deferred (some [])) := ((hm6.block _ (by omega) hdw).trans (hsame4 _ (by omega))).trans hdf
        refine ⟨by simp, .inl ⟨w.heap.size, _, rfl, run_takeDeferred hd5, x, hpure _ _ _ _ k3, ?_⟩⟩
        rw [val_rel k1 k4]
        refine hR _ (((hE4.trans hm6 fun b ⟨c, k, q1, q2, q3⟩ => h1.own c k b q1 q2 q3)).trans (Mod.putObj w5 w.heap.size _ (O := fun b => b = w.heap.size) rfl) fun b hb => ?_)
        subst hb
        exact .inr hsz0
      cases e5 with
      | normal => exact fin hk5
      | ret => exact fin hk5
      | _ => exact hk5.elim
theorem Ret.ofW {P : Program} {T : List (Option Ty)} {I : World → Prop} {w : World} (hI : ∀ w', Mod w w' (fun _ => False) → I w') {f : FuncId} {fn : Func} {c : Code} {n : Nat} {args : List Value} {v : Value} (hf : P.funcs[f]? = some fn) (hnm : (fn.name == "runtime.NumGoroutine") = false) (hb : fn.body = some c)
    (hn : fn.ntmps - args.length = n) (h : deadsK n [] fun ds => appK' args ds fun fr => TW ⟨P, T, 0, I⟩ fn v c ⟨fr, []⟩) : Ret P f args w v := by
  rw [deadsK_eq, appK'_eq] at h
  refine ⟨⟨fn, hf, hnm, by simp [hb]⟩, ?_⟩
  refine callsIn_wideR.1 (callsIn_of_wp_marks hf hb trivial (h.out ⟨w, fun _ => False, Base.no 0, hI, [], none⟩ rfl rfl _ w (fun _ => ⟨0, 0, none, 0, fun _ => False⟩) ⟨?_, rfl, ?_, ?_⟩ _ fun w' hm => ⟨rfl, hm⟩) rfl)
  · have h1 := relL_deads (vs := St.vs ⟨args.map .v ++ deads n [], []⟩) (ez := St.ez ⟨args.map .v ++ deads n [], []⟩) (ρ := fun _ => ⟨0, 0, none, 0, fun _ => False⟩) n [] [] (by simp [relL])
    have h2 := relL_append _ _ _ _ (relL_vals (vs := St.vs ⟨args.map .v ++ deads n [], []⟩) (ez := St.ez ⟨args.map .v ++ deads n [], []⟩) (ρ := fun _ => ⟨0, 0, none, 0, fun _ => False⟩) args) h1
    simpa [hn] using h2
  · refine ⟨fun c k hk => ?_, fun c k b hk => ?_, fun c k b hk => ?_, fun c k b hk => ?_, fun c k hk => ?_, fun c d k l b hk => ?_, Mod.refl _ _⟩ <;> simp [getO_nil] at hk
  · intro c v hv; cases hv
theorem own_all {ch : List (Option Chunk)} {n : Nat} (h : ch.all (fun o => match o with | some k => k.owned | none => true) = true) (hn : ch.length ≤ n) : ∀ c q, getO ch c = some q → q.owned = true ∧ c < n := by
  intro c q hq
  have hm : ∀ (l : List (Option Chunk)) (c : Nat), getO l c = some q → some q ∈ l ∧ c < l.length := by
    intro l
    induction l with
    | nil => intro c h; simp [getO_nil] at h
    | cons x l ih =>
      intro c h
      cases c with
      | zero => simp [getO] at h; subst h; exact ⟨by simp, by simp⟩
      | succ c =>
        have h' : getO l c = some q := h
        obtain ⟨h1, h2⟩ := ih c h'
        exact ⟨List.mem_cons_of_mem _ h1, by simp; omega⟩
  obtain ⟨h1, h2⟩ := hm ch c hq
  exact ⟨List.all_eq_true.1 h _ h1, by omega⟩
theorem res_one {P : Program} {fn : Func} {t : Nat} (h : fn.results = #[.tmp t]) : ∀ tm w w' u, (results fn tm).run P w = .ok u w → (results fn tm).run P w' = .ok u w' := by
  intro tm w w' u hr
  simp [results, h] at hr ⊢
  exact hr
end Go.SX
set_option linter.unusedSimpArgs false
set_option linter.unusedVariables false
namespace Go.SX
theorem refsInL_byt (l : List (Option Chunk)) : ∀ ns : List Int, refsInL l (byt ns) = true
  | [] => by simp [byt, refsInL]
  | n :: ns => by
    have := refsInL_byt l ns
    simp only [byt, List.map_cons, refsInL, refsIn] at this ⊢
    exact this
theorem refsInL_vals (l : List (Option Chunk)) : ∀ us : List Value, refsInL l (us.map .v) = true
  | [] => by simp [refsInL]
  | n :: ns => by
    have := refsInL_vals l ns
    simp only [List.map_cons, refsInL, refsIn] at this ⊢
    exact this
def endF (X : Ctx) (n : Nat) (rs : List ResultVar) (full : List (Option Chunk)) (o : Oper) (fr : List AV) (xs : List Operand) (k : Actn → Prop) : Exit → St → Prop
  | .normal, s => resK (qNA ⟨X.P, X.T, n, X.I⟩) X.T s rs fun r => Need (refsIn s.ch r = true ∧ refsInC s.ch s.ch = true ∧ inlB full full s.ch = true) (k (aI o fr xs full s.ch r))
  | .ret, s => resK (qNA ⟨X.P, X.T, n, X.I⟩) X.T s rs fun r => Need (refsIn s.ch r = true ∧ refsInC s.ch s.ch = true ∧ inlB full full s.ch = true) (k (aI o fr xs full s.ch r))
  | _, _ => False
section
variable {X : Ctx} {o : Oper} {st : St} {k : Actn → Prop}
end
end Go.SX
set_option linter.unusedSimpArgs false
set_option linter.unusedVariables false
namespace Go.SX
structure TRL (X : Ctx) (all : List Oper) (i : Nat) (rest : List Oper) (K : Exit → St → Prop) (st : St) : Prop where
  out : ∀ E a w ρ, Rel X E st a w ρ → wpListIn (wideR E.rd) 0 X.P all.toArray (fun e a' w' => ∃ st' ρ', K e st' ∧ Rel X E st' a' w' ρ') rest a w
section
variable {X : Ctx} {all rest : List Oper} {i : Nat} {o : Oper} {st : St} {K : Exit → St → Prop}
theorem TR.regionL {id : Nat} (h : TRL X all 0 all K st) : TR X (.region id all.toArray false) K st :=
  ⟨fun E a w ρ hr => wpIn_region_lit (h.out E a w ρ hr)⟩
theorem TRL.nil (h : K .normal st) : TRL X all i [] K st := ⟨fun E a w ρ hr => ⟨st, ρ, h, hr⟩⟩
theorem TRL.step (hT : X.ok) (h : XS (propNA X) X.T all i [o] st fun st' => TRL X all (i + 1) rest K st') : TRL X all i (o :: rest) K st := by
  obtain ⟨stF, h1, h2⟩ := XS_okT (propNA_ok X) hT rest [o] i st _ h
  exact ⟨fun E a w ρ hr => h2 _ E a w ρ hr fun a' w' ρ' hr' => h1.out E a' w' ρ' hr'⟩
theorem TRL.panic {x : Operand} {t : TypeId} {v : Value} {av : AV} (ho : o.op = .panic x) (hg : o.guard = none) (hx : evA st.fr x = .ifc t av) (hv : val av = some v) (h : K (.panic [{ v := .iface t v, recovered := false }]) st) : TRL X all i (o :: rest) K st := by
  refine ⟨fun E a w ρ hr => wpList_run (by simp [Region.wanted, hg]) ?_⟩
  have hev : a.eval x = .iface t v := by
    have h1 := hr.ev x
    rw [hx] at h1
    simp only [rel] at h1
    obtain ⟨u, h2, h3⟩ := h1
    rw [h2, val_rel hv h3]
  have hrun : (execOp a.eval o).run X.P w = .halt (.panic (.iface t v)) w := by
    simp [execOp, ho, hev, Instr.panic, goPanic]
  have hsem : Oper.semAt (wideR E.rd).round a.eval o = execOp a.eval o := by
    cases hrd : (wideR E.rd).round with
    | none => exact Oper.semAt_none _ _
    | some l => exact Oper.semAt_some l _ o fun c hc => by rw [ho] at hc; cases hc
  refine ⟨fun _ _ => trivial, ?_⟩
  rw [hsem, hrun, Oper.uponIn_panic]
  exact ⟨st, ρ, h, hr⟩
end
def optK {α : Type} (q : Option α) (A : α → Prop) (B : Prop) : Prop := match q with | some p => A p | none => B
theorem optK.mk {α : Type} {q : Option α} {A : α → Prop} {B : Prop} (h1 : ∀ p, q = some p → A p) (h2 : q = none → B) : optK q A B := by
  cases q with
  | none => exact h2 rfl
  | some p => exact h1 p rfl
theorem optK.some {α : Type} {q : Option α} {p : α} {A : α → Prop} {B : Prop} (h : q = some p) (k : A p) : optK q A B := by subst h; exact k
theorem optK.none {α : Type} {q : Option α} {A : α → Prop} {B : Prop} (h : q = none) (k : B) : optK q A B := by subst h; exact k
structure MetO (P : Program) (I : World → Prop) (f : FuncId) (ty : TypeId) (us : List Value) (args : List Value) {α : Type} (q : Option α) (g : α → List Value) (r : α → Value) (ch : List PanicEntry) : Prop where
  has : Has P f
  len : ∀ p, q = some p → (g p).length = us.length
  run : ∀ w b, (∀ w', Mod w w' (· = b) → I w') → OwnB w b ty us → Calls P f (Value.pointer (some ⟨b, 0, none⟩) :: args).toArray w fun e w' => Mod w w' (· = b) ∧ optK q (fun p => e = .returned (r p) ∧ OwnB w' b ty (g p)) (e = .panicked ch)
theorem Rel.touch {X : Ctx} {E : Env X} {st : St} {a : Act} {w w' : World} {ρ : Nat → Loc} (h : Rel X E st a w ρ) {c : Nat} {ck ck' : Chunk} (hc : getO st.ch c = some ck) (hk : ck.kind = .own) (hv : ck'.ver = ck.ver) (he : ck'.esz = ck.esz)
    (hko : ck'.kind = .gone ∨ ck'.kind = .own) (hm : Mod w w' (· = (ρ c).blk)) (hmem : ∀ xs, ck.mem w (ρ c) xs → ∃ xs', relL st.vs st.ez ρ ck'.cells xs' ∧ ck'.mem w' (ρ c) xs') (hdom : ∀ b, (ρ c).dom b → b < w'.heap.size) : Heap E.w0 E.O ⟨st.fr, setO st.ch c ck'⟩ w' ρ ∧ Up st.vs (St.mk st.fr (setO st.ch c ck')).vs st.ez (St.mk st.fr (setO st.ch c ck')).ez ρ ρ := by
  have hko' : ck.owned = true := by simp [Chunk.owned, hk, CK.owned]
  have hvs : (St.mk st.fr (setO st.ch c ck')).vs = st.vs := by
    funext d
    by_cases e : d = c
    · subst e
      simp [St.vs, getO_set_same, hc, hv]
    · simp [St.vs, getO_set_ne _ _ _ _ e]
  have hez : (St.mk st.fr (setO st.ch c ck')).ez = st.ez := by
    funext d
    by_cases e : d = c
    · subst e
      simp [St.ez, getO_set_same, hc, he]
    · simp [St.ez, getO_set_ne _ _ _ _ e]
  have hup : Up st.vs (St.mk st.fr (setO st.ch c ck')).vs st.ez (St.mk st.fr (setO st.ch c ck')).ez ρ ρ := by
    rw [hvs, hez]
    exact Up.refl _ _ _
  have hbd : (ρ c).dom (ρ c).blk := h.heap.blk c ck _ hc (by simp [Chunk.blk, hk])
  refine ⟨h.heap.step (· = c) _ _ _ (hm.mono fun b hb => ⟨c, ck, rfl, hc, hko', by rw [hb]; exact hbd⟩) ?_ hup ?_ ?_ ?_ ?_ ?_ ?_, hup⟩
  · intro d hd
    exact ⟨getO_set_ne _ _ _ _ hd, rfl⟩
  · rintro d q rfl hq
    rw [getO_set_same] at hq
    cases hq
    obtain ⟨xs, _, h2⟩ := h.heap.ok d ck hc
    obtain ⟨xs', h3, h4⟩ := hmem xs h2
    rw [hvs, hez]
    exact ⟨xs', h3, h4⟩
  · rintro d q b rfl hq hb
    exact hdom b hb
  · rintro d q b rfl hq ho' hb
    exact h.heap.own d ck b hc hko' hb
  · rintro d q b rfl hq hb
    rw [getO_set_same] at hq
    cases hq
    rcases hko with e | e
    · simp [Chunk.blk, e] at hb
    · refine h.heap.blk d ck b hc ?_
      simpa [Chunk.blk, hk, e] using hb
  · rintro d q rfl hq
    rw [getO_set_same] at hq
    cases hq
    rcases hko with e | e
    · intro w1 w2 xs _ _
      simp [Chunk.mem, e]
    · intro w1 w2 xs hw hm'
      simp only [Chunk.mem, e] at hm' ⊢
      exact ⟨hm'.1, hm'.2.1, hm'.2.2.1.same (hw _ hbd), hm'.2.2.2⟩
  · rintro d e q q' b rfl hq hq' ho' hb hb'
    by_cases he' : e = d
    · exact he'.symm
    · rw [getO_set_ne _ _ _ _ he'] at hq'
      exact h.heap.sep d e ck q' b hc hq' hko' hb hb'
section
variable {X : Ctx} {all rest : List Oper} {i : Nat} {o : Oper} {st : St} {K : Exit → St → Prop}
theorem TRL.met {f : FuncId} {cal x : Operand} {xs : List Operand} {ts : Array TypeId} {c ver : Nat} {ck : Chunk} {us args : List Value} {α : Type} {q : Option α} {g : α → List Value} {r : α → Value} {ch : List PanicEntry}
    (ho : o.op = .call { callee := .value cal, args := (x :: xs).toArray, argTypes := ts }) (hg : o.guard = none) (hcal : calleeA (evA st.fr cal) = some (f, [])) (hx : evA st.fr x = .ref c ver 0) (hc : getO st.ch c = some ck) (hk : ck.kind = .own) (hver : ver = ck.ver) (hcells : ck.cells = us.map .v)
    (hv : vals (xs.map (evA st.fr)) = some args) (hm : MetO X.P X.I f ck.ty us args q g r ch)
    (h : optK q (fun p => appK ⟨[], [], o.dst, .v (r p), [(c, ⟨.own, ck.ty, ck.esz, ck.ver, (g p).map .v⟩)]⟩ st fun st' => TRL X all (i + 1) rest K st') (K (.panic ch) ⟨st.fr, setO st.ch c ⟨.gone, ck.ty, ck.esz, ck.ver, []⟩⟩)) : TRL X all i (o :: rest) K st := by
  refine ⟨fun E a w ρ hr => wpList_run (by simp [Region.wanted, hg]) ?_⟩
  have hcv := hr.ev cal
  obtain ⟨cs, g1, g2⟩ := callee_run (w := w) hcal hcv hm.has ho rfl
  have hcs : cs = [] := by
    cases cs with
    | nil => rfl
    | cons y ys => simp [relL] at g1
  subst hcs
  have hxv := hr.ev x
  rw [hx] at hxv
  simp only [rel] at hxv
  obtain ⟨cur, q1, q2, q3, _⟩ := hxv
  have hcur : cur = ck.ver := by simp [St.vs, hc] at q1; exact q1.symm
  have hxe := q3 (by omega)
  obtain ⟨ys, m1, m2⟩ := hr.heap.ok c ck hc
  rw [hcells] at m1
  have hys := relL_of_vals _ _ m1
  subst hys
  have m2' := m2
  unfold Chunk.mem at m2
  rw [hk] at m2
  obtain ⟨n1, n2, n3, n4⟩ := m2
  have hargs : xs.map a.eval = args := vals_rel (fr := st.fr) (a := a) (vs := st.vs) (ez := st.ez) (ρ := ρ) xs args hv fun y hy => hr.ev y
  have hko' : ck.owned = true := by simp [Chunk.owned, hk, CK.owned]
  have hbd : (ρ c).dom (ρ c).blk := hr.heap.blk c ck _ hc (by simp [Chunk.blk, hk])
  have hI : ∀ w', Mod w w' (· = (ρ c).blk) → X.I w' := fun w' hw => E.inv w' (hr.heap.mod.trans hw fun b hb => by rw [hb]; exact hr.heap.own c ck _ hc hko' hbd)
  have hcall := hm.run w (ρ c).blk hI n3
  have hrun : (execOp a.eval o).run X.P w = .ok (.enter f (Value.pointer (some ⟨(ρ c).blk, 0, none⟩) :: args).toArray) w := by
    rw [g2, List.map_cons, hargs, hxe, n1]
    simp
  refine ⟨fun _ _ => trivial, ?_⟩
  rw [semAt_ok hrun (by intro d h; cases h), hrun, Oper.uponIn_enter]
  refine ⟨fun e => absurd e (by simp [wideR, Fence.wide]), callsIn_wideR.2 (hcall.mono ?_)⟩
  rintro e w' ⟨hm1, hq⟩
  have hdom : ∀ b, (ρ c).dom b → b < w'.heap.size := fun b hb => Nat.lt_of_lt_of_le (hr.heap.lt c ck b hc hb) hm1.size
  cases q with
  | none =>
    have he : e = .panicked ch := hq
    subst he
    obtain ⟨h1, h2⟩ := hr.touch (ck' := ⟨.gone, ck.ty, ck.esz, ck.ver, []⟩) hc hk rfl rfl (.inl rfl) hm1 (fun xs _ => ⟨[], by simp [relL], by simp [Chunk.mem]⟩) hdom
    exact ⟨_, ρ, h, relL_up h2 _ _ hr.fr, hr.df, h1, hr.gh.trans h2⟩
  | some p =>
    obtain ⟨he, ho'⟩ : e = .returned (r p) ∧ OwnB w' (ρ c).blk ck.ty (g p) := hq
    subst he
    have h' : appK ⟨[], [], o.dst, .v (r p), [(c, ⟨.own, ck.ty, ck.esz, ck.ver, (g p).map .v⟩)]⟩ st fun st' => TRL X all (i + 1) rest K st' := h
    rw [appK_eq] at h'
    obtain ⟨h1, h2⟩ := hr.touch (ck' := ⟨.own, ck.ty, ck.esz, ck.ver, (g p).map .v⟩) hc hk rfl rfl (.inr rfl) hm1 (fun xs hx' => by
      refine ⟨g p, relL_vals _, ?_⟩
      simp only [Chunk.mem]
      exact ⟨n1, n2, ho', by rw [hm.len p rfl]; exact n4⟩) hdom
    refine h'.out E _ w' ρ ⟨?_, ?_, ?_, ?_⟩
    · have := relL_put (d := o.dst) (relL_up h2 _ _ hr.fr) (show rel (St.mk st.fr (setO st.ch c ⟨.own, ck.ty, ck.esz, ck.ver, (g p).map .v⟩)).vs (St.mk st.fr (setO st.ch c ⟨.own, ck.ty, ck.esz, ck.ver, (g p).map .v⟩)).ez ρ (.v (r p)) (r p) by simp [rel])
      exact this
    · rw [put_defers]; exact hr.df
    · exact ⟨h1.ok, h1.lt, h1.own, h1.blk, h1.stay, h1.sep, h1.mod⟩
    · exact hr.gh.trans h2
structure RetO (P : Program) (f : FuncId) (args : List Value) (w : World) {α : Type} (q : Option α) (r : α → Value) (ch : List PanicEntry) : Prop where
  has : Has P f
  run : Calls P f args.toArray w fun e w' => Mod w w' (fun _ => False) ∧ optK q (fun p => e = .returned (r p)) (e = .panicked ch)
theorem TRL.ret {f : FuncId} {cal : Operand} {xs : List Operand} {ts : Array TypeId} {args : List Value} {α : Type} {q : Option α} {r : α → Value} {ch : List PanicEntry}
    (ho : o.op = .call { callee := .value cal, args := xs.toArray, argTypes := ts }) (hg : o.guard = none) (hcal : calleeA (evA st.fr cal) = some (f, [])) (hv : vals (xs.map (evA st.fr)) = some args) (hm : ∀ w, X.I w → RetO X.P f args w q r ch)
    (h : optK q (fun p => appK ⟨[], [], o.dst, .v (r p), []⟩ st fun st' => TRL X all (i + 1) rest K st') (K (.panic ch) st)) : TRL X all i (o :: rest) K st := by
  refine ⟨fun E a w ρ hr => wpList_run (by simp [Region.wanted, hg]) ?_⟩
  have hI := E.inv w hr.heap.mod
  obtain ⟨hhas, hcall⟩ := hm w hI
  have hcv := hr.ev cal
  obtain ⟨cs, g1, g2⟩ := callee_run (w := w) hcal hcv hhas ho rfl
  have hcs : cs = [] := by
    cases cs with
    | nil => rfl
    | cons y ys => simp [relL] at g1
  subst hcs
  have hargs : xs.map a.eval = args := vals_rel (fr := st.fr) (a := a) (vs := st.vs) (ez := st.ez) (ρ := ρ) xs args hv fun y hy => hr.ev y
  have hrun : (execOp a.eval o).run X.P w = .ok (.enter f args.toArray) w := by
    rw [g2, hargs]
    simp
  refine ⟨fun _ _ => trivial, ?_⟩
  rw [semAt_ok hrun (by intro d h; cases h), hrun, Oper.uponIn_enter]
  refine ⟨fun e => absurd e (by simp [wideR, Fence.wide]), callsIn_wideR.2 (hcall.mono ?_)⟩
  rintro e w' ⟨hm1, hq⟩
  have hr' := hr.grow hm1
  cases q with
  | none =>
    have he : e = .panicked ch := hq
    subst he
    exact ⟨_, ρ, h, hr'⟩
  | some p =>
    have he : e = .returned (r p) := hq
    subst he
    have h' : appK ⟨[], [], o.dst, .v (r p), []⟩ st fun st' => TRL X all (i + 1) rest K st' := h
    rw [appK_eq] at h'
    refine h'.out E _ w' ρ ⟨?_, ?_, ?_, ?_⟩
    · exact relL_put (d := o.dst) hr'.fr (show rel st.vs st.ez ρ (.v (r p)) (r p) by simp [rel])
    · rw [put_defers]; exact hr.df
    · exact ⟨hr'.heap.ok, hr'.heap.lt, hr'.heap.own, hr'.heap.blk, hr'.heap.stay, hr'.heap.sep, hr'.heap.mod⟩
    · exact hr.gh
end
def endO (X : Ctx) (rs : List ResultVar) (R : AV → St → Prop) (B : List PanicEntry → St → Prop) : Exit → St → Prop
  | .normal, s => resK (propNA X) X.T s rs fun a => R a s
  | .ret, s => resK (propNA X) X.T s rs fun a => R a s
  | .panic ch, s => B ch s
  | _, _ => False
theorem MetO.of {P : Program} {T : List (Option Ty)} {I : World → Prop} {f : FuncId} {fn : Func} {c : Code} {n : Nat} {ty : TypeId} {us args : List Value} {α : Type} {q : Option α} {g : α → List Value} {r : α → Value} {ch : List PanicEntry}
    (hT : Ctx.ok ⟨P, T, 1, I⟩) (hf : P.funcs[f]? = some fn) (hnm : (fn.name == "runtime.NumGoroutine") = false) (hb : fn.body = some c) (hlen : ∀ p, q = some p → (g p).length = us.length)
    (hn : fn.ntmps - (args.length + 1) = n)
    (h : deadsK n [] fun ds => appK' args ds fun fr => TR ⟨P, T, 1, I⟩ c (endO ⟨P, T, 1, I⟩ fn.results.toList (fun av s => ∃ p, q = some p ∧ val av = some (r p) ∧ getO s.ch 0 = some ⟨.own, ty, us.length, 0, (g p).map .v⟩) (fun ch' s => q = none ∧ ch' = ch)) ⟨.ref 0 0 0 :: fr, [some ⟨.own, ty, us.length, 0, us.map .v⟩]⟩) : MetO P I f ty us args q g r ch := by
  rw [deadsK_eq, appK'_eq] at h
  refine ⟨⟨fn, hf, hnm, by simp [hb]⟩, hlen, fun w b hI hob => ?_⟩
  have hlt := hob.lt
  let ρ0 : Nat → Loc := fun _ => ⟨b, 0, some ⟨b, 0, none⟩, 1, fun x => x = b⟩
  have hg1 : ∀ c k, getO ([some ⟨.own, ty, us.length, 0, us.map .v⟩] : List (Option Chunk)) c = some k → c = 0 ∧ k = ⟨.own, ty, us.length, 0, us.map .v⟩ := by
    intro c k hk
    match c, hk with
    | 0, hk => simp [getO] at hk; exact ⟨rfl, hk.symm⟩
    | c + 1, hk => simp [getO, getO_nil] at hk
  have hBn : ∀ c k, getO ([some ⟨.own, ty, us.length, 0, us.map .v⟩] : List (Option Chunk)) c = some k → c < 1 := fun c k hk => by rw [(hg1 c k hk).1]; omega
  let E : Env ⟨P, T, 1, I⟩ := ⟨w, (· = b), partB [some ⟨.own, ty, us.length, 0, us.map .v⟩] ρ0 1 hBn, hI, [], none⟩
  have hrel : Rel ⟨P, T, 1, I⟩ E ⟨.ref 0 0 0 :: (args.map .v ++ deads n []), [some ⟨.own, ty, us.length, 0, us.map .v⟩]⟩ { tmps := (Value.pointer (some ⟨b, 0, none⟩) :: args).toArray ++ Array.replicate (fn.ntmps - (Value.pointer (some ⟨b, 0, none⟩) :: args).toArray.size) undef, defers := [] } w ρ0 := by
    refine ⟨?_, rfl, ?_, Up.refl _ _ _⟩
    · have h1 := relL_deads (vs := St.vs ⟨.ref 0 0 0 :: (args.map .v ++ deads n []), [some ⟨.own, ty, us.length, 0, us.map .v⟩]⟩) (ez := St.ez ⟨.ref 0 0 0 :: (args.map .v ++ deads n []), [some ⟨.own, ty, us.length, 0, us.map .v⟩]⟩) (ρ := ρ0) n [] [] (by simp [relL])
      have h2 := relL_append _ _ _ _ (relL_vals (vs := St.vs ⟨.ref 0 0 0 :: (args.map .v ++ deads n []), [some ⟨.own, ty, us.length, 0, us.map .v⟩]⟩) (ez := St.ez ⟨.ref 0 0 0 :: (args.map .v ++ deads n []), [some ⟨.own, ty, us.length, 0, us.map .v⟩]⟩) (ρ := ρ0) args) h1
      have h3 : rel (St.vs ⟨.ref 0 0 0 :: (args.map .v ++ deads n []), [some ⟨.own, ty, us.length, 0, us.map .v⟩]⟩) (St.ez ⟨.ref 0 0 0 :: (args.map .v ++ deads n []), [some ⟨.own, ty, us.length, 0, us.map .v⟩]⟩) ρ0 (.ref 0 0 0) (.pointer (some ⟨b, 0, none⟩)) := by
        simp only [rel]
        exact ⟨0, by simp [St.vs, getO], Nat.le_refl _, fun _ => rfl, _, rfl⟩
      have : relL (St.vs ⟨.ref 0 0 0 :: (args.map .v ++ deads n []), [some ⟨.own, ty, us.length, 0, us.map .v⟩]⟩) (St.ez ⟨.ref 0 0 0 :: (args.map .v ++ deads n []), [some ⟨.own, ty, us.length, 0, us.map .v⟩]⟩) ρ0 (.ref 0 0 0 :: (args.map .v ++ deads n [])) (.pointer (some ⟨b, 0, none⟩) :: (args ++ List.replicate (fn.ntmps - (args.length + 1)) undef)) := by
        simp only [relL]
        refine ⟨h3, ?_⟩
        simpa [hn] using h2
      simpa using this
    · refine ⟨fun c k hk => ?_, fun c k x hk hx => ?_, fun c k x hk _ hx => .inl hx, fun c k x hk hx => ?_, fun c k hk => ?_, fun c d k l x hk hl _ _ _ => ?_, Mod.refl _ _⟩
      · obtain ⟨rfl, rfl⟩ := hg1 c k hk
        exact ⟨us, relL_vals _, rfl, rfl, hob, by simp [ρ0]⟩
      · have : x = b := hx
        omega
      · obtain ⟨rfl, rfl⟩ := hg1 c k hk
        simp [Chunk.blk, ρ0] at hx
        exact hx.symm
      · obtain ⟨rfl, rfl⟩ := hg1 c k hk
        intro w1 w2 xs hw hm'
        simp only [Chunk.mem] at hm' ⊢
        exact ⟨hm'.1, hm'.2.1, hm'.2.2.1.same (hw _ rfl), hm'.2.2.2⟩
      · rw [(hg1 c k hk).1, (hg1 d l hl).1]
  refine calls_of_wp hf hb (wp_mono (wp_of_wide (h.out E _ w ρ0 hrel)) ?_)
  rintro e a' w' ⟨s, ρ', hk, hr⟩
  have fin : resK (propNA ⟨P, T, 1, I⟩) T s fn.results.toList (fun av => ∃ p, q = some p ∧ val av = some (r p) ∧ getO s.ch 0 = some ⟨.own, ty, us.length, 0, (g p).map .v⟩) → a'.defers = [] ∧ ∃ v, (results fn a'.tmps).run P w' = .ok v w' ∧ (Mod w w' (· = b) ∧ optK q (fun p => Ending.returned v = .returned (r p) ∧ OwnB w' b ty (g p)) (Ending.returned v = .panicked ch)) := by
    intro hk
    obtain ⟨av, ⟨p, h1, h2, h3⟩, h4⟩ := resK_ok (X := ⟨P, T, 1, I⟩) (H := fun p => p) (propNA_ok _) hT (fn := fn) hk
    obtain ⟨v, h5, h6⟩ := h4 E a' w' ρ' hr
    refine ⟨hr.df, v, h5, hr.heap.mod, ?_⟩
    subst h1
    have hvv := val_rel h2 h6
    refine ⟨by rw [hvv], ?_⟩
    obtain ⟨cur', u1, _, u3⟩ := hr.gh 0 0 (by simp [E, partB, St.vs, getO])
    have hcur : cur' = 0 := by simp [St.vs, h3] at u1; exact u1.symm
    have hloc := (u3 hcur.symm).1
    obtain ⟨ys, y1, y2⟩ := hr.heap.ok 0 _ h3
    have := relL_of_vals _ _ y1
    subst this
    simp only [Chunk.mem] at y2
    have y3 := y2.2.2.1
    rw [show (ρ' 0).blk = b by rw [hloc]; rfl] at y3
    exact y3
  cases e with
  | normal => exact fin hk
  | ret => exact fin hk
  | panic ch' =>
    obtain ⟨rfl, rfl⟩ : q = none ∧ ch' = ch := hk
    exact ⟨hr.df, hr.heap.mod, rfl⟩
  | _ => exact hk.elim
end Go.SX
set_option linter.unusedSimpArgs false
set_option linter.unusedVariables false
namespace Go.SX
theorem catches {P : Program} {T : List (Option Ty)} {I : World → Prop} {n : Nat} (hT : Ctx.ok ⟨P, T, n, I⟩) {f : FuncId} {fn : Func} {c1 : Code} {i0 d0 d1 : Nat} {o0 o1 : Oper} {ts : Array TypeId} (hf : P.funcs[f]? = some fn)
    (hb : fn.body = some (.seq (.region i0 #[o0, o1] false) c1)) (h0 : o0.op = .call { callee := .builtin .recover, args := #[], argTypes := ts }) (g0 : o0.guard = none) (e0 : o0.dst = some d0) (h1 : o1.op = .assign (.tmp d0)) (g1 : o1.guard = none) (e1 : o1.dst = some d1) (hd0 : d0 < fn.ntmps) (hr : fn.results = #[])
    {v : Value} {cap : List AV} {cs : List Value} {ch0 : List (Option Chunk)} {w : World} {ρ : Nat → Loc} {E : Env ⟨P, T, n, I⟩} {Q : St → Prop} (hE : E.ds = [] ∧ E.rd = none) (hcs : relL (St.vs ⟨[], ch0⟩) (St.ez ⟨[], ch0⟩) ρ cap cs) (hh : Heap E.w0 E.O ⟨[], ch0⟩ w ρ) (hg : Up E.b.vs (St.vs ⟨[], ch0⟩) E.b.ez (St.ez ⟨[], ch0⟩) E.b.ρ ρ)
    (h : TR ⟨P, T, n, I⟩ c1 (fun e s => e = .normal ∧ Q s) ⟨setF (setF (cap ++ List.replicate (fn.ntmps - cap.length) .dead) d0 (.v v)) d1 (.v v), ch0⟩) :
    CallsD P f cs.toArray (.panicking [{ v, recovered := false }]) w fun e u w' => (∃ x, e = .returned x) ∧ u = .panicking [{ v, recovered := true }] ∧ ∃ s ρ', Q s ∧ Heap E.w0 E.O s w' ρ' ∧ Up E.b.vs s.vs E.b.ez s.ez E.b.ρ ρ' := by
  refine callsD_of_wpS hf hb fun c₀ fs hu => wpS_seq (wpS_region ?_)
  have hlen := relL_len _ _ hcs
  have hsz : d0 < (cs.toArray ++ Array.replicate (fn.ntmps - cs.toArray.size) undef).size := by simp; omega
  have hrel0 : relL (St.vs ⟨[], ch0⟩) (St.ez ⟨[], ch0⟩) ρ (cap ++ List.replicate (fn.ntmps - cap.length) .dead) (cs.toArray ++ Array.replicate (fn.ntmps - cs.toArray.size) undef).toList := by
    have h2 := relL_append _ _ _ _ hcs (relL_deadN (vs := St.vs ⟨[], ch0⟩) (ez := St.ez ⟨[], ch0⟩) (ρ := ρ) (List.replicate (fn.ntmps - cs.length) undef))
    simpa [hlen] using h2
  generalize cs.toArray ++ Array.replicate (fn.ntmps - cs.toArray.size) undef = tm at hsz hrel0
  have hx0 : ∀ a : Act, (execOp a.eval o0).run P w = .ok .recover w := fun a => by simp [execOp, h0, resolve, invoke, builtin]
  have hrec : recoverD (c₀ :: fs) = some (v, { c₀ with mode := .panicking [{ v, recovered := true }] } :: fs) := by simp [recoverD, hu]
  have hx1 : ∀ a : Act, (execOp a.eval o1).run P w = .ok (.value (a.eval (.tmp d0))) w := fun a => by simp [execOp, h1]
  show wpOpsS P #[o0, o1] _ [0, 1] _ _ _
  simp only [wpOpsS, List.getElem?_toArray, List.getElem?_cons_zero, List.getElem?_cons_succ, Region.wanted, g0, g1, if_true, hx0, hrec, hx1, Oper.upon_value, e0, e1, Act.put]
  simp only [Exit.thenS]
  have ev6 : Act.eval { tmps := tm.setIfInBounds d0 v, defers := [] } (.tmp d0) = v := by
    simp only [Act.eval]
    simp [Array.getD_eq_getD_getElem?, Array.getElem?_setIfInBounds, hsz]
  rw [ev6]
  have hEd : ([] : List Deferred) = E.ds := hE.1.symm
  have hw := h.out E { tmps := (tm.setIfInBounds d0 v).setIfInBounds d1 v, defers := [] } w ρ ⟨?_, hEd, ?_, hg⟩
  rotate_left
  · have h2 := relL_set _ _ d0 (.v v) v hrel0 (by simp [rel])
    have h3 := relL_set _ _ d1 (.v v) v h2 (by simp [rel])
    have e : ((tm.setIfInBounds d0 v).setIfInBounds d1 v).toList = (tm.toList.set d0 v).set d1 v := by simp
    rw [e]
    exact h3
  · exact ⟨hh.ok, hh.lt, hh.own, hh.blk, hh.stay, hh.sep, hh.mod⟩
  rw [hE.2] at hw
  refine wpS_of_wp (wp_mono (wp_of_wide hw) ?_)
  rintro e a' w' ⟨s, ρ', ⟨rfl, hQ⟩, hr'⟩
  refine ⟨by rw [hr'.df, hE.1], .panicking [{ v, recovered := true }], rfl, ?_⟩
  have hres : (results fn a'.tmps).run P w' = .ok (.tuple #[]) w' := by simp [results, hr]
  exact ⟨_, hres, ⟨_, rfl⟩, rfl, s, ρ', hQ, hr'.heap, hr'.gh⟩
def endC (P : Program) (T : List (Option Ty)) (I : World → Prop) (n1 : Nat) (rs : List ResultVar) (R : AV → St → Prop) (pv : Value) (gc : Code) (gn d0 d1 : Nat) (cap : List AV) : Exit → St → Prop
  | .normal, s => resK (propNA ⟨P, T, n1, I⟩) T s rs fun a => R a s
  | .ret, s => resK (propNA ⟨P, T, n1, I⟩) T s rs fun a => R a s
  | .panic ch, s => ch = [{ v := pv, recovered := false }] ∧ lenK s.ch 0 fun n2 => TR ⟨P, T, n2, I⟩ gc (fun e s' => e = .normal ∧ resK (propNA ⟨P, T, n1, I⟩) T ⟨s.fr, s'.ch⟩ rs fun a => R a ⟨s.fr, s'.ch⟩) ⟨setF (setF (cap ++ List.replicate (gn - cap.length) .dead) d0 (.v pv)) d1 (.v pv), s.ch⟩
  | _, _ => False
def atC (P : Program) (T : List (Option Ty)) (I : World → Prop) (cal : Operand) (g : FuncId) (c1 : Code) (rs : List ResultVar) (R : AV → St → Prop) (pv : Value) (gc : Code) (gn d0 d1 : Nat) (sF : St) : Prop :=
  match calleeA (evA sF.fr cal) with
  | some (f, [x, y]) => f = g ∧ lenK sF.ch 0 fun n1 => TR ⟨P, T, n1, I⟩ c1 (endC P T I n1 rs R pv gc gn d0 d1 [x, y]) sF
  | _ => False
def normK (K : St → Prop) : Exit → St → Prop
  | .normal, s => K s
  | _, _ => False
theorem calls_catch {P : Program} {T : List (Option Ty)} {I : World → Prop} {w : World} (hI : ∀ w', Mod w w' (fun _ => False) → I w') {f : FuncId} {fn : Func} {c0 c1 : Code} {id : Nat} {pre : List Oper} {od : Oper} {cal : Operand} {ts : Array TypeId} {args : List Value} {n : Nat} {R : AV → St → Prop}
    {g : FuncId} {gf : Func} {gc : Code} {i0 d0 d1 : Nat} {o0 o1 : Oper} {ts2 : Array TypeId} {pv : Value}
    (hT : Ctx.ok ⟨P, T, 0, I⟩) (hf : P.funcs[f]? = some fn) (hnm : (fn.name == "runtime.NumGoroutine") = false) (hb : fn.body = some (.seq c0 (.seq (.region id (pre ++ [od]).toArray false) c1)))
    (hod : od.op = .defer { callee := .value cal, args := #[], argTypes := ts }) (hog : od.guard = none) (hodst : od.dst = none) (hq : Quiet P g)
    (hgf : P.funcs[g]? = some gf) (hgb : gf.body = some (.seq (.region i0 #[o0, o1] false) gc)) (h0 : o0.op = .call { callee := .builtin .recover, args := #[], argTypes := ts2 }) (g0 : o0.guard = none) (e0 : o0.dst = some d0) (h1 : o1.op = .assign (.tmp d0)) (g1 : o1.guard = none) (e1 : o1.dst = some d1) (hd0 : d0 < gf.ntmps) (hgr : gf.results = #[])
    (hn : fn.ntmps - args.length = n)
    (h : deadsK n [] fun ds => appK' args ds fun fr => TR ⟨P, T, 0, I⟩ c0 (normK fun s0 => XS (propNA ⟨P, T, 0, I⟩) T (pre ++ [od]) 0 pre s0 fun sF => atC P T I cal g c1 fn.results.toList R pv gc gf.ntmps d0 d1 sF) ⟨fr, []⟩) : Calls P f args.toArray w fun e w' => ∃ v av s ρ', e = .returned v ∧ R av s ∧ rel s.vs s.ez ρ' av v ∧ Heap w (fun _ => False) s w' ρ' := by
  rw [deadsK_eq, appK'_eq] at h
  let E : Env ⟨P, T, 0, I⟩ := ⟨w, fun _ => False, Base.no 0, hI, [], none⟩
  have hrel : Rel ⟨P, T, 0, I⟩ E ⟨args.map .v ++ deads n [], []⟩ { tmps := args.toArray ++ Array.replicate (fn.ntmps - args.toArray.size) undef, defers := [] } w (fun _ => ⟨0, 0, none, 0, fun _ => False⟩) := by
    refine ⟨?_, rfl, ?_, ?_⟩
    · have h1 := relL_deads (vs := St.vs ⟨args.map .v ++ deads n [], []⟩) (ez := St.ez ⟨args.map .v ++ deads n [], []⟩) (ρ := fun _ => ⟨0, 0, none, 0, fun _ => False⟩) n [] [] (by simp [relL])
      have h2 := relL_append _ _ _ _ (relL_vals (vs := St.vs ⟨args.map .v ++ deads n [], []⟩) (ez := St.ez ⟨args.map .v ++ deads n [], []⟩) (ρ := fun _ => ⟨0, 0, none, 0, fun _ => False⟩) args) h1
      simpa [hn] using h2
    · refine ⟨fun c k hk => ?_, fun c k b hk => ?_, fun c k b hk => ?_, fun c k b hk => ?_, fun c k hk => ?_, fun c d k l b hk => ?_, Mod.refl _ _⟩ <;> simp [getO_nil] at hk
    · intro c v hv; cases hv
  refine calls_of_wp_defers hf hb (wp_of_wide (wpIn_seq (wpIn_mono (h.out E _ w _ hrel) ?_)))
  rintro e a0 w0 ⟨s0, ρ0, hk0, hr0⟩
  cases e with
  | normal =>
    obtain ⟨sF, hF, hrun⟩ := XS_okT (propNA_ok ⟨P, T, 0, I⟩) hT [od] pre 0 s0 _ (show XS (propNA ⟨P, T, 0, I⟩) T (pre ++ [od]) 0 pre s0 _ from hk0)
    refine wpIn_seq (wpIn_region_lit (hrun _ E a0 w0 ρ0 hr0 fun a2 w2 ρ2 hr2 => ?_))
    refine wpList_run (by simp [Region.wanted, hog]) ?_
    unfold atC at hF
    split at hF
    · rename_i f' x y hcal
      obtain ⟨rfl, hF⟩ := hF
      rw [lenK_eq] at hF
      have hcv := hr2.ev cal
      obtain ⟨cs, hcs, hev⟩ : ∃ cs : Array Value, relL sF.vs sF.ez ρ2 [x, y] cs.toList ∧ a2.eval cal = .func (.func f') #[] cs := by
        unfold calleeA at hcal
        split at hcal
        · cases hcal
        · rename_i f'' cap' hfn
          cases hcal
          rw [hfn] at hcv
          simp only [rel] at hcv
          obtain ⟨xs, h2, h3⟩ := hcv
          exact ⟨xs, h3, h2⟩
        · cases hcal
      have hcl : cs.size = 2 := by
        have := relL_len _ _ hcs
        simpa using this.symm
      have hx : (execOp a2.eval od).run P w2 = .ok (.defer { target := .fn (.func f') cs, args := #[] }) w2 := by
        simp [execOp, hod, resolve, hev, Deferred.ofValue]
      refine ⟨fun _ _ => trivial, ?_⟩
      rw [show Oper.semAt (wideR none).round a2.eval od = execOp a2.eval od from Oper.semAt_none _ _, hx, Oper.uponIn_defer, hodst]
      have hd2 : a2.defers = [] := hr2.df
      show wpListIn (wideR none) 0 P (pre ++ [od]).toArray _ [] { a2 with defers := { target := .fn (.func f') cs, args := #[] } :: a2.defers } w2
      unfold wpListIn
      show c1.wpIn (wideR none) 0 P (bodyPostD P fn _) { a2 with defers := { target := .fn (.func f') cs, args := #[] } :: a2.defers } w2
      rw [hd2]
      have hB1 : ∀ c k, getO sF.ch c = some k → c < 0 + sF.ch.length := fun c k hk => by
        have := getO_lt _ _ _ hk
        omega
      let E1 : Env ⟨P, T, 0 + sF.ch.length, I⟩ := ⟨w, fun _ => False, partB sF.ch ρ2 _ hB1, hI, [{ target := .fn (.func f') cs, args := #[] }], none⟩
      have hr3 : Rel ⟨P, T, 0 + sF.ch.length, I⟩ E1 sF { a2 with defers := [{ target := .fn (.func f') cs, args := #[] }] } w2 ρ2 := ⟨hr2.fr, rfl, hr2.heap, Up.refl _ _ _⟩
      refine wpIn_mono (hF.out E1 _ w2 ρ2 hr3) ?_
      rintro e a3 w3 ⟨s, ρ3, hk, hr4⟩
      have hd3 : a3.defers = [{ target := .fn (.func f') cs, args := #[] }] := hr4.df
      have hcs3 : relL s.vs s.ez ρ3 [x, y] cs.toList := relL_up (hr4.gh : Up sF.vs s.vs sF.ez s.ez ρ2 ρ3) _ _ hcs
      have fin : (resK (propNA ⟨P, T, 0 + sF.ch.length, I⟩) T s fn.results.toList fun r => R r s) → Leaves P fn a3.tmps (fun e w' => ∃ v av s ρ', e = .returned v ∧ R av s ∧ rel s.vs s.ez ρ' av v ∧ Heap w (fun _ => False) s w' ρ') a3.defers .returning w3 := by
        intro hk
        rw [hd3]
        refine leaves_cons (by simp) (f := f') (args := #[] ++ cs) (by simp only [invoke]; exact run_callFunc hq.has _ _) ?_
        refine (hq.run (#[] ++ cs) w3 (by simpa using hcl)).mono ?_
        rintro e' u' w4 ⟨⟨v, rfl⟩, rfl, hm⟩
        have hr5 := hr4.grow hm
        obtain ⟨av, q1, q2⟩ := resK_ok (X := ⟨P, T, 0 + sF.ch.length, I⟩) (H := fun p => p) (propNA_ok _) hT (fn := fn) hk
        obtain ⟨u, q3, q4⟩ := q2 E1 a3 w4 ρ3 hr5
        exact ⟨u, q3, u, av, s, ρ3, rfl, q1, q4, hr5.heap⟩
      cases e with
      | normal => exact fin hk
      | ret => exact fin hk
      | panic ch =>
        obtain ⟨rfl, hk⟩ := hk
        rw [lenK_eq] at hk
        have hB2 : ∀ c k, getO s.ch c = some k → c < 0 + s.ch.length := fun c k hk => by
          have := getO_lt _ _ _ hk
          omega
        have hO : ∀ b, partO s.ch ρ3 b → False ∨ w.heap.size ≤ b := fun b ⟨c, k, p1, p2, p3⟩ => hr4.heap.own c k b p1 p2 p3
        let E2 : Env ⟨P, T, 0 + s.ch.length, I⟩ := ⟨w3, partO s.ch ρ3, partB s.ch ρ3 _ hB2, fun w' hm => hI w' (hr4.heap.mod.trans hm hO), [], none⟩
        have hc := catches (T := T) (I := I) (n := 0 + s.ch.length) (E := E2) (cs := cs.toList) (w := w3) (ρ := ρ3) hT hgf hgb h0 g0 e0 h1 g1 e1 hd0 hgr ⟨rfl, rfl⟩ hcs3 (heap_root hr4.heap (fun _ _ _ _ _ => rfl) (Nat.le_refl _) []) (Up.refl _ _ _) hk
        show Leaves P fn a3.tmps _ a3.defers (.panicking [{ v := pv, recovered := false }]) w3
        rw [hd3]
        refine leaves_cons (by simp) (f := f') (args := #[] ++ cs) (by simp only [invoke]; exact run_callFunc hq.has _ _) ?_
        have hca : (#[] ++ cs : Array Value) = cs.toList.toArray := by simp
        rw [hca]
        refine hc.mono ?_
        rintro e' u' w4 ⟨⟨v, rfl⟩, rfl, s', ρ4, hQ, hh4, hg4⟩
        show Leaves P fn a3.tmps _ [] (settle (.panicking [{ v := pv, recovered := true }])) w4
        have hset : settle (.panicking [{ v := pv, recovered := true }]) = .returning := by simp [settle]
        rw [hset]
        obtain ⟨av, q1, q2⟩ := resK_ok (X := ⟨P, T, 0 + sF.ch.length, I⟩) (st := ⟨s.fr, s'.ch⟩) (H := fun p => p) (propNA_ok _) hT (fn := fn) hQ
        have hup4 : Up s.vs s'.vs s.ez s'.ez ρ3 ρ4 := hg4
        have hheap : Heap w (fun _ => False) s' w4 ρ4 := heap_base hh4 hO hr4.heap.mod.size (hr4.heap.mod.trans hh4.mod hO)
        let E3 : Env ⟨P, T, 0 + sF.ch.length, I⟩ := ⟨w, fun _ => False, partB sF.ch ρ2 _ hB1, hI, [], none⟩
        have hr6 : Rel ⟨P, T, 0 + sF.ch.length, I⟩ E3 ⟨s.fr, s'.ch⟩ { tmps := a3.tmps, defers := [] } w4 ρ4 := ⟨relL_up hup4 _ _ hr4.fr, rfl, ⟨hheap.ok, hheap.lt, hheap.own, hheap.blk, hheap.stay, hheap.sep, hheap.mod⟩, (hr4.gh : Up sF.vs s.vs sF.ez s.ez ρ2 ρ3).trans hup4⟩
        obtain ⟨u, q3, q4⟩ := q2 E3 { tmps := a3.tmps, defers := [] } w4 ρ4 hr6
        exact ⟨u, q3, u, av, ⟨s.fr, s'.ch⟩, ρ4, rfl, q1, q4, hr6.heap⟩
      | _ => exact hk.elim
    · exact hF.elim
  | _ => exact hk0.elim
theorem RetQ.of_calls {P : Program} {w : World} {f : FuncId} {args : List Value} {Q : World → Value → Prop} (hf : Has P f) (h : Calls P f args.toArray w fun e w' => ∃ v av s ρ', e = .returned v ∧ Fin w Q av s ∧ rel s.vs s.ez ρ' av v ∧ Heap w (fun _ => False) s w' ρ') : RetQ P f args w Q :=
  ⟨hf, h.mono fun e w' ⟨v, av, s, ρ', h1, h2, h3, h4⟩ => ⟨v, h1, h4.mod, h2.out w' ρ' v h4 h3⟩⟩
end Go.SX
set_option linter.unusedSimpArgs false
set_option linter.unusedVariables false
namespace Go.SX
def getN : List Nat → Nat → Nat
  | [], _ => 0
  | x :: _, 0 => x
  | _ :: l, n + 1 => getN l n
mutual
def renA (σ : List Nat) : AV → AV
  | .v x => .v x
  | .ref c k o => .ref (getN σ c) k o
  | .sl c k lo n => .sl (getN σ c) k lo n
  | .agg l => .agg (renL σ l)
  | .fn f l => .fn f (renL σ l)
  | .ifc t a => .ifc t (renA σ a)
  | .tup l => .tup (renL σ l)
  | .dead => .dead
  | .mp c k => .mp (getN σ c) k
def renL (σ : List Nat) : List AV → List AV
  | [] => []
  | a :: l => renA σ a :: renL σ l
end
theorem renL_vals (σ : List Nat) : ∀ us : List Value, renL σ (us.map .v) = us.map .v
  | [] => rfl
  | u :: us => by simp only [List.map_cons, renL, renA, renL_vals σ us]
theorem renL_byt (σ : List Nat) : ∀ ns : List Int, renL σ (byt ns) = byt ns
  | [] => rfl
  | n :: ns => by
    have := renL_byt σ ns
    simp only [byt, List.map_cons, renL, renA] at this ⊢
    rw [this]
section
variable {vs vs' : Nat → Option Nat} {ez ez' : Nat → Nat} {ρ ρ' : Nat → Loc} {σ : List Nat} {ch : List (Option Chunk)}
mutual
theorem rel_ren (h : ∀ c, hasO ch c = true → vs' (getN σ c) = vs c ∧ ez' (getN σ c) = ez c ∧ ρ' (getN σ c) = ρ c) : ∀ (a : AV) (u : Value), refsIn ch a = true → (rel vs' ez' ρ' (renA σ a) u ↔ rel vs ez ρ a u)
  | .v x, u, _ => by simp [renA, rel]
  | .dead, u, _ => by simp [renA, rel]
  | .ref c k off, u, hn => by
    obtain ⟨h1, h2, h3⟩ := h c (by simpa [refsIn] using hn)
    simp only [renA, rel, h1, h3]
  | .sl c k lo n, u, hn => by
    obtain ⟨h1, h2, h3⟩ := h c (by simpa [refsIn] using hn)
    simp only [renA, rel, h1, h2, h3]
  | .mp c k, u, hn => by
    obtain ⟨h1, h2, h3⟩ := h c (by simpa [refsIn] using hn)
    simp only [renA, rel, h1, h3]
  | .agg l, u, hn => by
    have hl := relL_ren h l
    simp only [renA, rel]
    constructor
    · rintro ⟨xs, h1, h2⟩; exact ⟨xs, h1, (hl _ (by simpa [refsIn] using hn)).1 h2⟩
    · rintro ⟨xs, h1, h2⟩; exact ⟨xs, h1, (hl _ (by simpa [refsIn] using hn)).2 h2⟩
  | .fn f l, u, hn => by
    have hl := relL_ren h l
    simp only [renA, rel]
    constructor
    · rintro ⟨xs, h1, h2⟩; exact ⟨xs, h1, (hl _ (by simpa [refsIn] using hn)).1 h2⟩
    · rintro ⟨xs, h1, h2⟩; exact ⟨xs, h1, (hl _ (by simpa [refsIn] using hn)).2 h2⟩
  | .ifc t a, u, hn => by
    have hl := rel_ren h a
    simp only [renA, rel]
    constructor
    · rintro ⟨xs, h1, h2⟩; exact ⟨xs, h1, (hl _ (by simpa [refsIn] using hn)).1 h2⟩
    · rintro ⟨xs, h1, h2⟩; exact ⟨xs, h1, (hl _ (by simpa [refsIn] using hn)).2 h2⟩
  | .tup l, u, hn => by
    have hl := relL_ren h l
    simp only [renA, rel]
    constructor
    · rintro ⟨xs, h1, h2⟩; exact ⟨xs, h1, (hl _ (by simpa [refsIn] using hn)).1 h2⟩
    · rintro ⟨xs, h1, h2⟩; exact ⟨xs, h1, (hl _ (by simpa [refsIn] using hn)).2 h2⟩
theorem relL_ren (h : ∀ c, hasO ch c = true → vs' (getN σ c) = vs c ∧ ez' (getN σ c) = ez c ∧ ρ' (getN σ c) = ρ c) : ∀ (l : List AV) (us : List Value), refsInL ch l = true → (relL vs' ez' ρ' (renL σ l) us ↔ relL vs ez ρ l us)
  | [], us, _ => by cases us <;> simp [renL, relL]
  | a :: l, [], _ => by simp [renL, relL]
  | a :: l, u :: us, hn => by
    have hx : refsIn ch a = true ∧ refsInL ch l = true := by
      simp only [refsInL] at hn
      split at hn
      · exact ⟨by assumption, hn⟩
      · cases hn
    simp only [renL, relL]
    rw [rel_ren h a u hx.1, relL_ren h l us hx.2]
end
end
def renK (σ : List Nat) (k : Chunk) : Chunk := ⟨k.kind, k.ty, k.esz, k.ver, renL σ k.cells⟩
def matchC (full : List (Option Chunk)) (σ0 : List Nat) : List Nat → List (Option Chunk) → Prop
  | c :: σ, some k :: ch => getO full c = some (renK σ0 k) ∧ matchC full σ0 σ ch
  | _ :: σ, none :: ch => matchC full σ0 σ ch
  | _, [] => True
  | [], _ :: _ => False
theorem matchC_get {full : List (Option Chunk)} {σ0 : List Nat} : ∀ {σ : List Nat} {ch : List (Option Chunk)}, matchC full σ0 σ ch → ∀ c k, getO ch c = some k → getO full (getN σ c) = some (renK σ0 k) ∧ c < σ.length
  | c :: σ, some k :: ch, h, 0, q, hq => by
    simp only [getO, Option.some.injEq] at hq
    subst hq
    exact ⟨h.1, by simp⟩
  | c :: σ, some k :: ch, h, n + 1, q, hq => by
    have := matchC_get h.2 n q hq
    exact ⟨this.1, by simpa using this.2⟩
  | c :: σ, none :: ch, h, 0, q, hq => by simp [getO] at hq
  | c :: σ, none :: ch, h, n + 1, q, hq => by
    have := matchC_get (σ := σ) (ch := ch) h n q hq
    exact ⟨this.1, by simpa using this.2⟩
  | σ, [], h, n, q, hq => by simp [getO_nil] at hq
  | [], _ :: _, h, n, q, hq => h.elim
def memN (n : Nat) : List Nat → Bool
  | [] => false
  | x :: l => Nat.beq x n || memN n l
def nodupN : List Nat → Bool
  | [] => true
  | x :: l => !memN x l && nodupN l
theorem memN_get {n : Nat} : ∀ {l : List Nat} {i : Nat}, memN n l = false → i < l.length → getN l i ≠ n
  | x :: l, 0, h, _ => by
    simp only [memN, Bool.or_eq_false_iff] at h
    intro e
    simp only [getN] at e
    subst e
    simp at h
  | x :: l, i + 1, h, hi => by
    simp only [memN, Bool.or_eq_false_iff] at h
    exact memN_get (l := l) h.2 (by simpa using hi)
theorem nodupN_inj : ∀ {l : List Nat}, nodupN l = true → ∀ i j, i < l.length → j < l.length → getN l i = getN l j → i = j
  | x :: l, h, 0, 0, _, _, _ => rfl
  | x :: l, h, 0, j + 1, _, hj, e => by
    simp only [nodupN, Bool.and_eq_true, Bool.not_eq_true'] at h
    exact (memN_get (l := l) h.1 (by simpa using hj) e.symm).elim
  | x :: l, h, i + 1, 0, hi, _, e => by
    simp only [nodupN, Bool.and_eq_true, Bool.not_eq_true'] at h
    exact (memN_get (l := l) h.1 (by simpa using hi) e).elim
  | x :: l, h, i + 1, j + 1, hi, hj, e => by
    simp only [nodupN, Bool.and_eq_true] at h
    rw [nodupN_inj (l := l) h.2 i j (by simpa using hi) (by simpa using hj) e]
theorem heap_con {w0 : World} {O : Nat → Prop} {st : St} {w : World} {ρ : Nat → Loc} (h : Heap w0 O st w ρ) {σ : List Nat} {ch0 : List (Option Chunk)} (hm : matchC st.ch σ σ ch0) (hcl : refsInC ch0 ch0 = true) (hnd : nodupN σ = true) :
    Heap w (partO ch0 fun c => ρ (getN σ c)) ⟨[], ch0⟩ w (fun c => ρ (getN σ c)) := by
  have hg := matchC_get hm
  have key : ∀ c, hasO ch0 c = true → st.vs (getN σ c) = (St.mk [] ch0).vs c ∧ st.ez (getN σ c) = (St.mk [] ch0).ez c ∧ ρ (getN σ c) = ρ (getN σ c) := by
    intro c hc
    obtain ⟨k, hk⟩ := hasO_eq.1 hc
    have := (hg c k hk).1
    simp [St.vs, St.ez, hk, this, renK]
  refine ⟨fun c k hk => ?_, fun c k b hk => h.lt _ _ b (hg c k hk).1, fun c k b hk ho hb => .inl ⟨c, k, hk, ho, hb⟩, fun c k b hk hb => h.blk _ (renK σ k) b (hg c k hk).1 hb, fun c k hk => (show (renK σ k).stays _ from h.stay _ _ (hg c k hk).1),
    fun c d k l b hk hl ho hb hd => nodupN_inj hnd _ _ (hg c k hk).2 (hg d l hl).2 (h.sep _ _ _ _ b (hg c k hk).1 (hg d l hl).1 ho hb hd), Mod.refl _ _⟩
  obtain ⟨xs, h1, h2⟩ := h.ok _ _ (hg c k hk).1
  exact ⟨xs, (relL_ren key _ _ (refsInC_get hcl hk)).1 h1, h2⟩
def ownR (σ0 : List Nat) : List Nat → List (Option Chunk) → List (Nat × Chunk)
  | c :: σ, some k :: ch => match k.owned with
    | true => (c, renK σ0 k) :: ownR σ0 σ ch
    | false => ownR σ0 σ ch
  | _ :: σ, none :: ch => ownR σ0 σ ch
  | _, [] => []
  | [], _ :: _ => []
theorem ownR_mem {σ0 : List Nat} : ∀ {σ : List Nat} {ch : List (Option Chunk)} {d : Nat} {q : Chunk}, (d, q) ∈ ownR σ0 σ ch ↔ ∃ c k, c < σ.length ∧ getO ch c = some k ∧ k.owned = true ∧ getN σ c = d ∧ q = renK σ0 k
  | c :: σ, some k :: ch, d, q => by
    have ih := @ownR_mem σ0 σ ch d q
    simp only [ownR]
    cases ho : k.owned with
    | true =>
      simp only [List.mem_cons, Prod.mk.injEq, ih]
      constructor
      · rintro (⟨rfl, rfl⟩ | ⟨c', k', h1, h2, h3, h4, h5⟩)
        · exact ⟨0, k, by simp, rfl, ho, rfl, rfl⟩
        · exact ⟨c' + 1, k', by simpa using h1, h2, h3, h4, h5⟩
      · rintro ⟨c', k', h1, h2, h3, h4, h5⟩
        cases c' with
        | zero =>
          simp only [getO, Option.some.injEq] at h2
          subst h2
          exact .inl ⟨h4.symm, h5⟩
        | succ c' => exact .inr ⟨c', k', by simpa using h1, h2, h3, h4, h5⟩
    | false =>
      simp only [ih]
      constructor
      · rintro ⟨c', k', h1, h2, h3, h4, h5⟩
        exact ⟨c' + 1, k', by simpa using h1, h2, h3, h4, h5⟩
      · rintro ⟨c', k', h1, h2, h3, h4, h5⟩
        cases c' with
        | zero =>
          simp only [getO, Option.some.injEq] at h2
          subst h2
          rw [ho] at h3
          cases h3
        | succ c' => exact ⟨c', k', by simpa using h1, h2, h3, h4, h5⟩
  | c :: σ, none :: ch, d, q => by
    have ih := @ownR_mem σ0 σ ch d q
    simp only [ownR, ih]
    constructor
    · rintro ⟨c', k', h1, h2, h3, h4, h5⟩
      exact ⟨c' + 1, k', by simpa using h1, h2, h3, h4, h5⟩
    · rintro ⟨c', k', h1, h2, h3, h4, h5⟩
      cases c' with
      | zero => simp [getO] at h2
      | succ c' => exact ⟨c', k', by simpa using h1, h2, h3, h4, h5⟩
  | [], [], d, q => by simp [ownR]
  | c :: σ, [], d, q => by simp [ownR, getO_nil]
  | [], _ :: _, d, q => by simp [ownR]
structure ConEnd (full ch0 : List (Option Chunk)) (σ σ1 : List Nat) (ch1 : List (Option Chunk)) (r : AV) : Prop where
  len : ch1.length ≤ σ1.length
  pre : ∀ c, hasO ch0 c = true → getN σ1 c = getN σ c
  nd : nodupN σ1 = true
  keep : ∀ c k, getO ch0 c = some k → ∃ k', getO ch1 c = some k' ∧ k'.owned = k.owned
  own : ∀ c k, getO ch1 c = some k → k.owned = false → ∃ k0, getO ch0 c = some k0 ∧ k0.ver = k.ver ∧ k0.esz = k.esz
  new : ∀ c k, getO ch1 c = some k → getO ch0 c = none → getO full (getN σ1 c) = none
  refs : refsIn ch1 r = true
  cells : refsInC ch1 ch1 = true
theorem getO_lt' {l : List (Option Chunk)} {c : Nat} {k : Chunk} (h : getO l c = some k) : c < l.length := getO_lt _ _ _ h
theorem heap_con_back {w0 : World} {O : Nat → Prop} {st : St} {w w' : World} {ρ ρ1 : Nat → Loc} (h : Heap w0 O st w ρ) {σ σ1 : List Nat} {ch0 ch1 : List (Option Chunk)} {r : AV} {v : Value} {fr1 : List AV} (hm : matchC st.ch σ σ ch0) (hnd : nodupN σ = true)
    (hE : ConEnd st.ch ch0 σ σ1 ch1 r) (h1 : Heap w (partO ch0 fun c => ρ (getN σ c)) ⟨fr1, ch1⟩ w' ρ1) (hup : Up (St.vs ⟨[], ch0⟩) (St.mk fr1 ch1).vs (St.ez ⟨[], ch0⟩) (St.mk fr1 ch1).ez (fun c => ρ (getN σ c)) ρ1) (hv : rel (St.mk fr1 ch1).vs (St.mk fr1 ch1).ez ρ1 r v) (frF : List AV) :
    ∃ ρF, Up st.vs (St.mk frF (setAll st.ch (ownR σ1 σ1 ch1))).vs st.ez (St.mk frF (setAll st.ch (ownR σ1 σ1 ch1))).ez ρ ρF ∧ Heap w0 O ⟨frF, setAll st.ch (ownR σ1 σ1 ch1)⟩ w' ρF ∧
      rel (St.mk frF (setAll st.ch (ownR σ1 σ1 ch1))).vs (St.mk frF (setAll st.ch (ownR σ1 σ1 ch1))).ez ρF (renA σ1 r) v := by
  have hg := matchC_get hm
  have hl1 : ∀ {c k}, getO ch1 c = some k → c < σ1.length := fun hk => Nat.lt_of_lt_of_le (getO_lt' hk) hE.len
  -- what the new whole has at a place
  have g : ∀ d, (∃ c k, getO ch1 c = some k ∧ k.owned = true ∧ getN σ1 c = d ∧ getO (setAll st.ch (ownR σ1 σ1 ch1)) d = some (renK σ1 k)) ∨ ((∀ c k, getO ch1 c = some k → k.owned = true → getN σ1 c ≠ d) ∧ getO (setAll st.ch (ownR σ1 σ1 ch1)) d = getO st.ch d) := by
    intro d
    rcases setAll_get (ownR σ1 σ1 ch1) st.ch d with ⟨q, q1, q2⟩ | ⟨q1, q2⟩
    · rw [ownR_mem] at q1
      obtain ⟨c, k, p1, p2, p3, p4, rfl⟩ := q1
      exact .inl ⟨c, k, p2, p3, p4, q2⟩
    · exact .inr ⟨fun c k hk ho e => q1 (renK σ1 k) (ownR_mem.2 ⟨c, k, hl1 hk, hk, ho, e, rfl⟩), q2⟩
  have gc : ∀ c k, getO ch1 c = some k → k.owned = true → getO (setAll st.ch (ownR σ1 σ1 ch1)) (getN σ1 c) = some (renK σ1 k) := by
    intro c k hk ho
    rcases g (getN σ1 c) with ⟨c', k', p1, p2, p3, p4⟩ | ⟨p1, _⟩
    · have := nodupN_inj hE.nd c' c (hl1 p1) (hl1 hk) p3
      subst this
      rw [hk] at p1
      cases p1
      exact p4
    · exact (p1 c k hk ho rfl).elim
  classical
  -- where things lie
  let T : Nat → Prop := fun d => ∃ c k, getO ch1 c = some k ∧ k.owned = true ∧ getN σ1 c = d
  let ρF : Nat → Loc := fun d => if hT : T d then ρ1 hT.choose else ρ d
  have hT1 : ∀ c k, getO ch1 c = some k → k.owned = true → ρF (getN σ1 c) = ρ1 c := by
    intro c k hk ho
    have hT : T (getN σ1 c) := ⟨c, k, hk, ho, rfl⟩
    have e : hT.choose = c := by
      obtain ⟨k', p1, p2, p3⟩ := hT.choose_spec
      exact nodupN_inj hE.nd _ _ (hl1 p1) (hl1 hk) p3
    show (if hT : T (getN σ1 c) then ρ1 hT.choose else ρ (getN σ1 c)) = ρ1 c
    rw [dif_pos hT, e]
  have hT0 : ∀ d, ¬ T d → ρF d = ρ d := fun d hd => by
    show (if hT : T d then ρ1 hT.choose else ρ d) = ρ d
    rw [dif_neg hd]
  have gN : ∀ d, ¬ T d → getO (setAll st.ch (ownR σ1 σ1 ch1)) d = getO st.ch d := by
    intro d hd
    rcases g d with ⟨c, k, p1, p2, p3, _⟩ | ⟨_, p⟩
    · exact (hd ⟨c, k, p1, p2, p3⟩).elim
    · exact p
  -- chunks of the contract in the new whole
  have key : ∀ c, hasO ch1 c = true → (St.mk frF (setAll st.ch (ownR σ1 σ1 ch1))).vs (getN σ1 c) = (St.mk fr1 ch1).vs c ∧ (St.mk frF (setAll st.ch (ownR σ1 σ1 ch1))).ez (getN σ1 c) = (St.mk fr1 ch1).ez c ∧ ρF (getN σ1 c) = ρ1 c := by
    intro c hc
    obtain ⟨k, hk⟩ := hasO_eq.1 hc
    cases ho : k.owned with
    | true =>
      have := gc c k hk ho
      exact ⟨by simp [St.vs, hk, this, renK], by simp [St.ez, hk, this, renK], hT1 c k hk ho⟩
    | false =>
      obtain ⟨k0, q1, q2, q3⟩ := hE.own c k hk ho
      have hs := hE.pre c (hasO_eq.2 ⟨k0, q1⟩)
      have hn : ¬ T (getN σ1 c) := by
        rintro ⟨c', k', p1, p2, p3⟩
        have := nodupN_inj hE.nd c' c (hl1 p1) (hl1 hk) p3
        subst this
        rw [hk] at p1
        cases p1
        rw [ho] at p2
        cases p2
      have e1 := gN _ hn
      have e2 := (hg c k0 q1).1
      rw [hs] at e1 ⊢
      rw [e2] at e1
      have hu := hup c k0.ver (by simp [St.vs, q1])
      obtain ⟨cur', u1, u2, u3⟩ := hu
      have hcur : cur' = k.ver := by simp [St.vs, hk] at u1; exact u1.symm
      refine ⟨by simp [St.vs, hk, e1, renK, q2], by simp [St.ez, hk, e1, renK, q3], ?_⟩
      rw [← hs, hT0 _ hn, hs]
      exact ((u3 (by omega)).1).symm
  have hupF : Up st.vs (St.mk frF (setAll st.ch (ownR σ1 σ1 ch1))).vs st.ez (St.mk frF (setAll st.ch (ownR σ1 σ1 ch1))).ez ρ ρF := by
    intro d cur hd
    by_cases hT : T d
    · obtain ⟨c, k, p1, p2, p3⟩ := hT
      have hk0 : ∃ k0, getO ch0 c = some k0 := by
        cases h0 : getO ch0 c with
        | some k0 => exact ⟨k0, rfl⟩
        | none =>
          have := hE.new c k p1 h0
          rw [p3] at this
          simp [St.vs, this] at hd
      obtain ⟨k0, hk0⟩ := hk0
      have hs := hE.pre c (hasO_eq.2 ⟨k0, hk0⟩)
      have e2 := (hg c k0 hk0).1
      rw [← hs, p3] at e2
      have hcur : cur = k0.ver := by simp [St.vs, e2, renK] at hd; exact hd.symm
      obtain ⟨cur', u1, u2, u3⟩ := hup c k0.ver (by simp [St.vs, hk0])
      have hk1 := key c (hasO_eq.2 ⟨k, p1⟩)
      rw [p3] at hk1
      refine ⟨cur', hk1.1.trans u1, by omega, fun e => ?_⟩
      obtain ⟨u4, u5⟩ := u3 (by omega)
      rw [hk1.2.2, hk1.2.1, u4, u5]
      refine ⟨by show ρ (getN σ c) = ρ d; rw [← hs, p3], ?_⟩
      simp [St.ez, e2, hk0, renK]
    · refine ⟨cur, ?_, Nat.le_refl _, fun _ => ⟨hT0 d hT, ?_⟩⟩
      · simpa [St.vs, gN d hT] using hd
      · simp [St.ez, gN d hT]
  refine ⟨ρF, hupF, ?_, (rel_ren key r v hE.refs).2 hv⟩
  refine h.step T _ _ _ (h1.mod.mono fun b ⟨c, k, p1, p2, p3⟩ => ?_) ?_ hupF ?_ ?_ ?_ ?_ ?_ ?_
  · obtain ⟨k', q1, q2⟩ := hE.keep c k p1
    have hs := hE.pre c (hasO_eq.2 ⟨k, p1⟩)
    exact ⟨getN σ c, renK σ k, ⟨c, k', q1, by rw [q2]; exact p2, hs⟩, (hg c k p1).1, p2, p3⟩
  · exact fun d hd => ⟨gN d hd, hT0 d hd⟩
  · rintro d q ⟨c, k, p1, p2, rfl⟩ hq
    rw [gc c k p1 p2] at hq
    cases hq
    obtain ⟨xs, y1, y2⟩ := h1.ok c k p1
    rw [hT1 c k p1 p2]
    exact ⟨xs, (relL_ren key _ _ (refsInC_get hE.cells p1)).2 y1, y2⟩
  · rintro d q b ⟨c, k, p1, p2, rfl⟩ hq hb
    rw [hT1 c k p1 p2] at hb
    exact h1.lt c k b p1 hb
  · rintro d q b ⟨c, k, p1, p2, rfl⟩ hq ho hb
    rw [hT1 c k p1 p2] at hb
    rcases h1.own c k b p1 p2 hb with ⟨c', k', q1, q2, q3⟩ | h3
    · exact h.own _ _ b (hg c' k' q1).1 q2 q3
    · exact .inr (Nat.le_trans h.mod.size h3)
  · rintro d q b ⟨c, k, p1, p2, rfl⟩ hq hb
    rw [gc c k p1 p2] at hq
    cases hq
    rw [hT1 c k p1 p2] at hb ⊢
    exact h1.blk c k b p1 hb
  · rintro d q ⟨c, k, p1, p2, rfl⟩ hq
    rw [gc c k p1 p2] at hq
    cases hq
    rw [hT1 c k p1 p2]
    exact h1.stay c k p1
  · rintro d e q q' b ⟨c, k, p1, p2, rfl⟩ hq hq' ho hb hb'
    rw [hT1 c k p1 p2] at hb
    by_cases hTe : T e
    · obtain ⟨c', k', p1', p2', rfl⟩ := hTe
      rw [hT1 c' k' p1' p2'] at hb'
      rw [h1.sep c c' k k' b p1 p1' p2 hb hb']
    · rw [gN e hTe] at hq'
      rw [hT0 e hTe] at hb'
      rcases h1.own c k b p1 p2 hb with ⟨c', k', q1, q2, q3⟩ | h3
      · exfalso
        have := h.sep _ e _ q' b (hg c' k' q1).1 hq' q2 q3 hb'
        obtain ⟨k'', r1, r2⟩ := hE.keep c' k' q1
        exact hTe ⟨c', k'', r1, by rw [r2]; exact q2, by rw [← this]; exact hE.pre c' (hasO_eq.2 ⟨k', q1⟩)⟩
      · have := h.lt e q' b hq' hb'
        omega
end Go.SX
set_option linter.unusedSimpArgs false
set_option linter.unusedVariables false
namespace Go.SX
def mapR (σ : List Nat) (ch : List (Option Chunk)) : List (Option Chunk) := ch.map (Option.map (renK σ))
theorem mapR_get (σ : List Nat) : ∀ (ch : List (Option Chunk)) (c : Nat), getO (mapR σ ch) c = (getO ch c).map (renK σ)
  | [], c => by simp [mapR, getO_nil]
  | none :: ch, 0 => rfl
  | some k :: ch, 0 => rfl
  | none :: ch, c + 1 => mapR_get σ ch c
  | some k :: ch, c + 1 => mapR_get σ ch c
def atC' (full : List (Option Chunk)) : List Nat → List (Option Chunk) → Prop
  | c :: σ, some k :: ch => getO full c = some k ∧ atC' full σ ch
  | _ :: σ, none :: ch => atC' full σ ch
  | _, [] => True
  | [], _ :: _ => False
theorem matchC_of {full : List (Option Chunk)} {σ0 : List Nat} : ∀ {σ : List Nat} {ch : List (Option Chunk)}, atC' full σ (mapR σ0 ch) → matchC full σ0 σ ch
  | c :: σ, some k :: ch, h => ⟨h.1, matchC_of h.2⟩
  | c :: σ, none :: ch, h => matchC_of (σ := σ) (ch := ch) h
  | σ, [], h => by cases σ <;> exact True.intro
  | [], _ :: _, h => by cases ‹Option Chunk› <;> exact h.elim
def ownS : List Nat → List (Option Chunk) → List (Nat × Chunk)
  | c :: σ, some k :: ch => match k.kind.owned with
    | true => (c, k) :: ownS σ ch
    | false => ownS σ ch
  | _ :: σ, none :: ch => ownS σ ch
  | _, [] => []
  | [], _ :: _ => []
theorem ownR_S (σ0 : List Nat) : ∀ (σ : List Nat) (ch : List (Option Chunk)), ownR σ0 σ ch = ownS σ (mapR σ0 ch)
  | c :: σ, some k :: ch => by
    have := ownR_S σ0 σ ch
    simp only [ownR, mapR, List.map_cons, Option.map_some, ownS, renK, Chunk.owned] at this ⊢
    rw [this] <;> (cases k.kind.owned <;> rfl)
  | c :: σ, none :: ch => ownR_S σ0 σ ch
  | [], [] => rfl
  | c :: σ, [] => rfl
  | [], none :: _ => rfl
  | [], some _ :: _ => rfl
def newS (full : List (Option Chunk)) : List (Option Chunk) → List Nat → List (Option Chunk) → Prop
  | [], c :: σ, some _ :: ch => getO full c = none ∧ newS full [] σ ch
  | [], _ :: σ, none :: ch => newS full [] σ ch
  | none :: ch0, c :: σ, some _ :: ch => getO full c = none ∧ newS full ch0 σ ch
  | none :: ch0, _ :: σ, none :: ch => newS full ch0 σ ch
  | some _ :: ch0, _ :: σ, _ :: ch => newS full ch0 σ ch
  | _, _, [] => True
  | _, [], _ :: _ => False
theorem newS_get {full : List (Option Chunk)} : ∀ {ch0 : List (Option Chunk)} {σ : List Nat} {ch : List (Option Chunk)}, newS full ch0 σ ch → (∀ c k, getO ch c = some k → getO ch0 c = none → getO full (getN σ c) = none) ∧ ch.length ≤ σ.length
  | [], c :: σ, some q :: ch, h => by
    obtain ⟨h1, h2⟩ := newS_get (ch0 := []) h.2
    refine ⟨fun d k hk h0 => ?_, by simpa using h2⟩
    cases d with
    | zero => exact h.1
    | succ d => exact h1 d k hk (by simp [getO_nil])
  | [], c :: σ, none :: ch, h => by
    obtain ⟨h1, h2⟩ := newS_get (ch0 := []) (σ := σ) (ch := ch) h
    refine ⟨fun d k hk h0 => ?_, by simpa using h2⟩
    cases d with
    | zero => simp [getO] at hk
    | succ d => exact h1 d k hk (by simp [getO_nil])
  | none :: ch0, c :: σ, some q :: ch, h => by
    obtain ⟨h1, h2⟩ := newS_get h.2
    refine ⟨fun d k hk h0 => ?_, by simpa using h2⟩
    cases d with
    | zero => exact h.1
    | succ d => exact h1 d k hk h0
  | none :: ch0, c :: σ, none :: ch, h => by
    obtain ⟨h1, h2⟩ := newS_get (ch0 := ch0) (σ := σ) (ch := ch) h
    refine ⟨fun d k hk h0 => ?_, by simpa using h2⟩
    cases d with
    | zero => simp [getO] at hk
    | succ d => exact h1 d k hk h0
  | some q0 :: ch0, c :: σ, q :: ch, h => by
    obtain ⟨h1, h2⟩ := newS_get (ch0 := ch0) (σ := σ) (ch := ch) h
    refine ⟨fun d k hk h0 => ?_, by simpa using h2⟩
    cases d with
    | zero => simp [getO] at h0
    | succ d =>
      cases q with
      | none => exact h1 d k hk h0
      | some q => exact h1 d k hk h0
  | ch0, σ, [], h => ⟨fun d k hk _ => by simp [getO_nil] at hk, by simp⟩
  | [], [], q :: _, h => by cases q <;> exact h.elim
  | none :: _, [], q :: _, h => by cases q <;> exact h.elim
  | some _ :: _, [], q :: _, h => by cases q <;> exact h.elim
structure CEnd (ch0 ch1 : List (Option Chunk)) (r : AV) : Prop where
  keep : ∀ c k, getO ch0 c = some k → ∃ k', getO ch1 c = some k' ∧ k'.owned = k.owned
  own : ∀ c k, getO ch1 c = some k → k.owned = false → ∃ k0, getO ch0 c = some k0 ∧ k0.ver = k.ver ∧ k0.esz = k.esz
  refs : refsIn ch1 r = true
  cells : refsInC ch1 ch1 = true
def allOwn : List (Option Chunk) → Bool
  | [] => true
  | none :: l => allOwn l
  | some k :: l => k.kind.owned && allOwn l
theorem allOwn_get : ∀ {l : List (Option Chunk)}, allOwn l = true → ∀ c k, getO l c = some k → k.owned = true
  | [], _, c, k, h => by simp [getO_nil] at h
  | none :: l, _, 0, k, h => by simp [getO] at h
  | none :: l, h, c + 1, k, hk => allOwn_get (l := l) (by simpa [allOwn] using h) c k hk
  | some q :: l, h, 0, k, hk => by
    simp only [getO, Option.some.injEq] at hk
    subst hk
    simp only [allOwn, Bool.and_eq_true] at h
    exact h.1
  | some q :: l, h, c + 1, k, hk => by
    simp only [allOwn, Bool.and_eq_true] at h
    exact allOwn_get h.2 c k hk
def keep1 (k0 k : Chunk) : Bool :=
  match k0.kind.owned, k.kind.owned with
  | true, true => true
  | false, false => Nat.beq k0.ver k.ver && Nat.beq k0.esz k.esz
  | _, _ => false
theorem keep1_ok {k0 k : Chunk} (h : keep1 k0 k = true) : k.owned = k0.owned ∧ (k.owned = false → k0.ver = k.ver ∧ k0.esz = k.esz) := by
  unfold keep1 at h
  simp only [Chunk.owned]
  cases e0 : k0.kind.owned <;> cases e : k.kind.owned <;> rw [e0, e] at h
  · simp only [Bool.and_eq_true] at h
    exact ⟨rfl, fun _ => ⟨Nat.eq_of_beq_eq_true h.1, Nat.eq_of_beq_eq_true h.2⟩⟩
  · cases h
  · cases h
  · exact ⟨rfl, fun h => by cases h⟩
def keepS : List (Option Chunk) → List (Option Chunk) → Bool
  | [], l => allOwn l
  | none :: l0, [] => keepS l0 []
  | none :: l0, none :: l => keepS l0 l
  | none :: l0, some k :: l => k.kind.owned && keepS l0 l
  | some k0 :: l0, some k :: l => keep1 k0 k && keepS l0 l
  | some _ :: _, _ => false
theorem keepS_ok : ∀ {l0 l : List (Option Chunk)}, keepS l0 l = true → (∀ c k, getO l0 c = some k → ∃ k', getO l c = some k' ∧ k'.owned = k.owned) ∧ (∀ c k, getO l c = some k → k.owned = false → ∃ k0, getO l0 c = some k0 ∧ k0.ver = k.ver ∧ k0.esz = k.esz)
  | [], l, h => ⟨fun c k h => by simp [getO_nil] at h, fun c k hk ho => by rw [allOwn_get (by simpa [keepS] using h) c k hk] at ho; cases ho⟩
  | none :: l0, none :: l, h => by
    obtain ⟨h1, h2⟩ := keepS_ok (l0 := l0) (l := l) (by simpa [keepS] using h)
    refine ⟨fun c k hk => ?_, fun c k hk ho => ?_⟩
    · cases c with
      | zero => simp [getO] at hk
      | succ c => exact h1 c k hk
    · cases c with
      | zero => simp [getO] at hk
      | succ c => exact h2 c k hk ho
  | none :: l0, some q :: l, h => by
    simp only [keepS, Bool.and_eq_true] at h
    obtain ⟨h1, h2⟩ := keepS_ok h.2
    refine ⟨fun c k hk => ?_, fun c k hk ho => ?_⟩
    · cases c with
      | zero => simp [getO] at hk
      | succ c => exact h1 c k hk
    · cases c with
      | zero =>
        simp only [getO, Option.some.injEq] at hk
        subst hk
        simp only [Chunk.owned] at ho
        rw [ho] at h
        cases h.1
      | succ c => exact h2 c k hk ho
  | none :: l0, [], h => by
    obtain ⟨h1, h2⟩ := keepS_ok (l0 := l0) (l := []) (by simpa [keepS] using h)
    refine ⟨fun c k hk => ?_, fun c k hk ho => by simp [getO_nil] at hk⟩
    cases c with
    | zero => simp [getO] at hk
    | succ c =>
      obtain ⟨k', q1, _⟩ := h1 c k hk
      simp [getO_nil] at q1
  | some q0 :: l0, some q :: l, h => by
    simp only [keepS, Bool.and_eq_true] at h
    obtain ⟨h1, h2⟩ := keepS_ok h.2
    obtain ⟨ho, hv⟩ := keep1_ok h.1
    refine ⟨fun c k hk => ?_, fun c k hk hx => ?_⟩
    · cases c with
      | zero =>
        simp only [getO, Option.some.injEq] at hk
        subst hk
        exact ⟨q, rfl, ho⟩
      | succ c => exact h1 c k hk
    · cases c with
      | zero =>
        simp only [getO, Option.some.injEq] at hk
        subst hk
        exact ⟨q0, rfl, hv hx⟩
      | succ c => exact h2 c k hk hx
  | some _ :: _, [], h => by simp [keepS] at h
  | some _ :: _, none :: _, h => by simp [keepS] at h
theorem CEnd.of {ch0 ch1 : List (Option Chunk)} {r : AV} (h1 : keepS ch0 ch1 = true) (h2 : refsIn ch1 r = true) (h3 : refsInC ch1 ch1 = true) : CEnd ch0 ch1 r :=
  ⟨(keepS_ok h1).1, (keepS_ok h1).2, h2, h3⟩
def subC : List (Option Chunk) → List (Option Chunk) → Prop
  | [], _ => True
  | none :: l, [] => subC l []
  | none :: l, _ :: r => subC l r
  | some _ :: _, [] => False
  | some k :: l, q :: r => q = some k ∧ subC l r
theorem subC_get : ∀ {l r : List (Option Chunk)}, subC l r → ∀ c k, getO l c = some k → getO r c = some k
  | [], r, _, c, k, h => by simp [getO_nil] at h
  | none :: l, [], h, 0, k, hk => by simp [getO] at hk
  | none :: l, [], h, c + 1, k, hk => by
    have := subC_get (l := l) (r := []) h c k hk
    simp [getO_nil] at this
  | none :: l, q :: r, h, 0, k, hk => by simp [getO] at hk
  | none :: l, q :: r, h, c + 1, k, hk => by
    have := subC_get (l := l) (r := r) h c k hk
    cases q <;> exact this
  | some _ :: _, [], h, _, _, _ => h.elim
  | some k' :: l, q :: r, h, 0, k, hk => by
    simp only [getO, Option.some.injEq] at hk
    rw [h.1, ← hk]
    rfl
  | some k' :: l, q :: r, h, c + 1, k, hk => by
    have := subC_get h.2 c k hk
    rw [h.1]
    exact this
theorem heap_sub {w0 : World} {O : Nat → Prop} {st : St} {w : World} {ρ : Nat → Loc} (h : Heap w0 O st w ρ) {ch1 : List (Option Chunk)} (hs : ∀ c k, getO ch1 c = some k → getO st.ch c = some k) (hcl : refsInC ch1 ch1 = true) (fr : List AV) : Heap w0 O ⟨fr, ch1⟩ w ρ := by
  have key : ∀ c, hasO ch1 c = true → (St.mk fr ch1).vs c = st.vs c ∧ (St.mk fr ch1).ez c = st.ez c ∧ ρ c = ρ c := by
    intro c hc
    obtain ⟨k, hk⟩ := hasO_eq.1 hc
    have := hs c k hk
    simp [St.vs, St.ez, hk, this]
  refine ⟨fun c k hk => ?_, fun c k b hk => h.lt c k b (hs c k hk), fun c k b hk => h.own c k b (hs c k hk), fun c k b hk => h.blk c k b (hs c k hk), fun c k hk => h.stay c k (hs c k hk),
    fun c d k l b hk hl => h.sep c d k l b (hs c k hk) (hs d l hl), h.mod⟩
  obtain ⟨xs, h1, h2⟩ := h.ok c k (hs c k hk)
  exact ⟨xs, relL_in key _ _ (refsInC_get hcl hk) h1, h2⟩
theorem rel_sub {st : St} {ρ : Nat → Loc} {ch1 : List (Option Chunk)} (hs : ∀ c k, getO ch1 c = some k → getO st.ch c = some k) {a : AV} {u : Value} (hr : refsIn ch1 a = true) (h : rel st.vs st.ez ρ a u) (fr : List AV) : rel (St.mk fr ch1).vs (St.mk fr ch1).ez ρ a u := by
  have key : ∀ c, hasO ch1 c = true → (St.mk fr ch1).vs c = st.vs c ∧ (St.mk fr ch1).ez c = st.ez c ∧ ρ c = ρ c := by
    intro c hc
    obtain ⟨k, hk⟩ := hasO_eq.1 hc
    have := hs c k hk
    simp [St.vs, St.ez, hk, this]
  exact rel_in key _ _ hr h

structure Con (P : Program) (I : World → Prop) (f : FuncId) (A : (Nat → Nat) → List AV) (H : (Nat → Nat) → List (Option Chunk)) {α : Type} (Q : α → Prop) (R : α → (Nat → Nat) → AV) (C : α → (Nat → Nat) → List (Option Chunk)) (B : List PanicEntry → Prop) : Prop where
  has : Has P f
  cl : refsInC (H id) (H id) = true
  ca : refsInL (H id) (A id) = true
  nA : ∀ σ, renL σ (A id) = A (getN σ)
  nH : ∀ σ, mapR σ (H id) = H (getN σ)
  nR : ∀ p σ, Q p → renA σ (R p id) = R p (getN σ)
  nC : ∀ p σ, Q p → mapR σ (C p id) = C p (getN σ)
  fin : ∀ p, Q p → CEnd (H id) (C p id) (R p id)
  run : ∀ w ρ xs, (∀ w', Mod w w' (partO (H id) ρ) → I w') → Heap w (partO (H id) ρ) ⟨[], H id⟩ w ρ → relL (St.vs ⟨[], H id⟩) (St.ez ⟨[], H id⟩) ρ (A id) xs →
    Calls P f xs.toArray w fun e w' => (∃ v p ρ', e = .returned v ∧ Q p ∧ rel (St.vs ⟨[], C p id⟩) (St.ez ⟨[], C p id⟩) ρ' (R p id) v ∧ Heap w (partO (H id) ρ) ⟨[], C p id⟩ w' ρ' ∧ Up (St.vs ⟨[], H id⟩) (St.vs ⟨[], C p id⟩) (St.ez ⟨[], H id⟩) (St.ez ⟨[], C p id⟩) ρ ρ') ∨
      (∃ ch, e = .panicked ch ∧ B ch ∧ Mod w w' (partO (H id) ρ))
theorem Con.of {P : Program} {T : List (Option Ty)} {I : World → Prop} {f : FuncId} {fn : Func} {c : Code} {A : (Nat → Nat) → List AV} {H : (Nat → Nat) → List (Option Chunk)} {α : Type} {Q : α → Prop} {R : α → (Nat → Nat) → AV} {C : α → (Nat → Nat) → List (Option Chunk)} {B : List PanicEntry → Prop}
    (hT : Ctx.ok ⟨P, T, (H id).length, I⟩) (hf : P.funcs[f]? = some fn) (hnm : (fn.name == "runtime.NumGoroutine") = false) (hb : fn.body = some c)
    (cl : refsInC (H id) (H id) = true) (ca : refsInL (H id) (A id) = true) (nA : ∀ σ, renL σ (A id) = A (getN σ)) (nH : ∀ σ, mapR σ (H id) = H (getN σ)) (nR : ∀ p σ, Q p → renA σ (R p id) = R p (getN σ)) (nC : ∀ p σ, Q p → mapR σ (C p id) = C p (getN σ)) (fin : ∀ p, Q p → CEnd (H id) (C p id) (R p id))
    (h : padK (A id) fn.ntmps fun fr => TR ⟨P, T, (H id).length, I⟩ c (endO ⟨P, T, (H id).length, I⟩ fn.results.toList (fun r s => ∃ p, Q p ∧ r = R p id ∧ subC (C p id) s.ch) (fun ch s => B ch)) ⟨fr, H id⟩) : Con P I f A H Q R C B := by
  rw [padK_eq] at h
  refine ⟨⟨fn, hf, hnm, by simp [hb]⟩, cl, ca, nA, nH, nR, nC, fin, fun w ρ xs hI hh hrel => ?_⟩
  have hBn : ∀ c k, getO (H id) c = some k → c < (H id).length := fun c k hk => getO_lt' hk
  let E : Env ⟨P, T, (H id).length, I⟩ := ⟨w, partO (H id) ρ, partB (H id) ρ _ hBn, hI, [], none⟩
  have hlen := relL_len _ _ hrel
  have hr0 : Rel ⟨P, T, (H id).length, I⟩ E ⟨A id ++ List.replicate (fn.ntmps - (A id).length) .dead, H id⟩ { tmps := xs.toArray ++ Array.replicate (fn.ntmps - xs.toArray.size) undef, defers := [] } w ρ := by
    refine ⟨?_, rfl, ⟨hh.ok, hh.lt, hh.own, hh.blk, hh.stay, hh.sep, hh.mod⟩, Up.refl _ _ _⟩
    have h2 := relL_append _ _ _ _ hrel (relL_deadN (vs := St.vs ⟨[], H id⟩) (ez := St.ez ⟨[], H id⟩) (ρ := ρ) (List.replicate (fn.ntmps - xs.length) undef))
    have e : (xs.toArray ++ Array.replicate (fn.ntmps - xs.toArray.size) undef).toList = xs ++ List.replicate (fn.ntmps - xs.length) undef := by simp
    show relL (St.vs ⟨[], H id⟩) (St.ez ⟨[], H id⟩) ρ _ (xs.toArray ++ Array.replicate (fn.ntmps - xs.toArray.size) undef).toList
    rw [e, hlen]
    simpa using h2
  refine calls_of_wp hf hb (wp_mono (wp_of_wide (h.out E _ w ρ hr0)) ?_)
  rintro e a' w' ⟨s, ρ', hk, hr⟩
  have fin' : resK (propNA ⟨P, T, (H id).length, I⟩) T s fn.results.toList (fun r => ∃ p, Q p ∧ r = R p id ∧ subC (C p id) s.ch) → a'.defers = [] ∧ ∃ v, (results fn a'.tmps).run P w' = .ok v w' ∧ ((∃ v' p ρ', Ending.returned v = .returned v' ∧ Q p ∧ rel (St.vs ⟨[], C p id⟩) (St.ez ⟨[], C p id⟩) ρ' (R p id) v' ∧ Heap w (partO (H id) ρ) ⟨[], C p id⟩ w' ρ' ∧ Up (St.vs ⟨[], H id⟩) (St.vs ⟨[], C p id⟩) (St.ez ⟨[], H id⟩) (St.ez ⟨[], C p id⟩) ρ ρ') ∨
      (∃ ch, Ending.returned v = .panicked ch ∧ B ch ∧ Mod w w' (partO (H id) ρ))) := by
    intro hk
    obtain ⟨av, ⟨p, h1, rfl, h3⟩, h4⟩ := resK_ok (X := ⟨P, T, (H id).length, I⟩) (H := fun p => p) (propNA_ok _) hT (fn := fn) hk
    obtain ⟨v, h5, h6⟩ := h4 E a' w' ρ' hr
    have hs := subC_get h3
    have hf' := fin p h1
    refine ⟨hr.df, v, h5, .inl ⟨v, p, ρ', rfl, h1, rel_sub hs hf'.refs h6 [], heap_sub hr.heap hs hf'.cells [], ?_⟩⟩
    intro c cur hc
    obtain ⟨cur', u1, u2, u3⟩ := (hr.gh : Up (St.vs ⟨[], H id⟩) s.vs (St.ez ⟨[], H id⟩) s.ez ρ ρ') c cur hc
    simp only [St.vs, Option.map_eq_some_iff] at hc
    obtain ⟨k, hk1, hk2⟩ := hc
    obtain ⟨k', hk3, _⟩ := hf'.keep c k hk1
    have hk4 := hs c k' hk3
    have e1 : St.vs ⟨[], C p id⟩ c = s.vs c := by simp [St.vs, hk3, hk4]
    have e2 : St.ez ⟨[], C p id⟩ c = s.ez c := by simp [St.ez, hk3, hk4]
    exact ⟨cur', e1.trans u1, u2, fun e => ⟨(u3 e).1, e2.trans (u3 e).2⟩⟩
  cases e with
  | normal => exact fin' hk
  | ret => exact fin' hk
  | panic ch' => exact ⟨hr.df, .inr ⟨ch', rfl, hk, hr.heap.mod⟩⟩
  | _ => exact hk.elim
def goneS (full : List (Option Chunk)) : List Nat → List (Option Chunk) → List (Option Chunk)
  | c :: σ, some k :: ch => match k.kind.owned with
    | true => goneS (setO full c ⟨.gone, k.ty, k.esz, k.ver, []⟩) σ ch
    | false => goneS full σ ch
  | _ :: σ, none :: ch => goneS full σ ch
  | _, [] => full
  | [], _ :: _ => full
theorem Heap.gone {w0 : World} {O : Nat → Prop} {st : St} {w w' : World} {ρ : Nat → Loc} (h : Heap w0 O st w ρ) (T : Nat → Prop) {ch' : List (Option Chunk)} (hm : Mod w w' fun b => ∃ c k, T c ∧ getO st.ch c = some k ∧ k.owned = true ∧ (ρ c).dom b)
    (hT : ∀ c, T c → ∀ q, getO ch' c = some q → ∃ k, getO st.ch c = some k ∧ q = ⟨.gone, k.ty, k.esz, k.ver, []⟩) (hT' : ∀ c k, T c → getO st.ch c = some k → ∃ q, getO ch' c = some q) (hN : ∀ c, ¬ T c → getO ch' c = getO st.ch c) (hO : ∀ c k, T c → getO st.ch c = some k → k.owned = true) (fr : List AV) :
    Heap w0 O ⟨fr, ch'⟩ w' ρ ∧ (St.mk fr ch').vs = st.vs ∧ (St.mk fr ch').ez = st.ez := by
  classical
  have hvs : ∀ c, (getO ch' c).map (·.ver) = (getO st.ch c).map (·.ver) ∧ (getO ch' c).map (·.esz) = (getO st.ch c).map (·.esz) := by
    intro c
    by_cases hc : T c
    · cases hk : getO st.ch c with
      | none =>
        cases hq : getO ch' c with
        | none => exact ⟨rfl, rfl⟩
        | some q =>
          obtain ⟨k, h1, _⟩ := hT c hc q hq
          rw [hk] at h1
          cases h1
      | some k =>
        obtain ⟨q, hq⟩ := hT' c k hc hk
        obtain ⟨k', h1, h2⟩ := hT c hc q hq
        rw [hk] at h1
        cases h1
        rw [hq, h2]
        exact ⟨rfl, rfl⟩
    · rw [hN c hc]
      exact ⟨rfl, rfl⟩
  have e1 : (St.mk fr ch').vs = st.vs := funext fun c => (hvs c).1
  have e2 : (St.mk fr ch').ez = st.ez := funext fun c => by simp only [St.ez]; rw [(hvs c).2]
  refine ⟨?_, e1, e2⟩
  refine h.step T _ _ _ hm (fun c hc => ⟨hN c hc, rfl⟩) (by rw [e1, e2]; exact Up.refl _ _ _) ?_ ?_ ?_ ?_ ?_ ?_
  · intro c q hc hq
    obtain ⟨k, h1, rfl⟩ := hT c hc q hq
    exact ⟨[], by simp [relL], by simp [Chunk.mem]⟩
  · intro c q b hc hq hb
    obtain ⟨k, h1, _⟩ := hT c hc q hq
    exact Nat.lt_of_lt_of_le (h.lt c k b h1 hb) hm.size
  · intro c q b hc hq ho hb
    obtain ⟨k, h1, rfl⟩ := hT c hc q hq
    simp [Chunk.owned, CK.owned] at ho
  · intro c q b hc hq hb
    obtain ⟨k, h1, rfl⟩ := hT c hc q hq
    simp [Chunk.blk] at hb
  · intro c q hc hq
    obtain ⟨k, h1, rfl⟩ := hT c hc q hq
    intro w1 w2 xs _ _
    simp [Chunk.mem]
  · intro c d q l b hc hq hl ho hb hd
    obtain ⟨k, h1, rfl⟩ := hT c hc q hq
    by_cases hTd : T d
    · obtain ⟨k', h1', rfl⟩ := hT d hTd l hl
      rcases ho with ho | ho <;> simp [Chunk.owned, CK.owned] at ho
    · have hl' : getO st.ch d = some l := by rw [← hN d hTd]; exact hl
      exact h.sep c d k l b h1 hl' (hO c k hc h1) hb hd
theorem goneS_get : ∀ {σ : List Nat} {ch full : List (Option Chunk)}, nodupN σ = true → (∀ c k, getO ch c = some k → c < σ.length) → ∀ d,
    (∃ c k, getO ch c = some k ∧ k.owned = true ∧ getN σ c = d ∧ getO (goneS full σ ch) d = some ⟨.gone, k.ty, k.esz, k.ver, []⟩) ∨ ((∀ c k, getO ch c = some k → k.owned = true → getN σ c ≠ d) ∧ getO (goneS full σ ch) d = getO full d)
  | x :: σ, some k :: ch, full, hn, hl, d => by
    simp only [nodupN, Bool.and_eq_true, Bool.not_eq_true'] at hn
    have hl' : ∀ c q, getO ch c = some q → c < σ.length := fun c q hq => by have := hl (c + 1) q hq; simpa using this
    simp only [goneS]
    cases ho : k.kind.owned with
    | true =>
      rcases goneS_get (full := setO full x ⟨.gone, k.ty, k.esz, k.ver, []⟩) hn.2 hl' d with ⟨c, q, h1, h2, h3, h4⟩ | ⟨h1, h2⟩
      · exact .inl ⟨c + 1, q, h1, h2, h3, h4⟩
      · by_cases e : d = x
        · subst e
          rw [getO_set_same] at h2
          exact .inl ⟨0, k, rfl, ho, rfl, h2⟩
        · rw [getO_set_ne _ _ _ _ e] at h2
          refine .inr ⟨fun c q hq hx => ?_, h2⟩
          cases c with
          | zero => exact fun e' => e e'.symm
          | succ c => exact h1 c q hq hx
    | false =>
      rcases goneS_get (full := full) hn.2 hl' d with ⟨c, q, h1, h2, h3, h4⟩ | ⟨h1, h2⟩
      · exact .inl ⟨c + 1, q, h1, h2, h3, h4⟩
      · refine .inr ⟨fun c q hq hx => ?_, h2⟩
        cases c with
        | zero =>
          simp only [getO, Option.some.injEq] at hq
          subst hq
          simp only [Chunk.owned] at hx
          rw [ho] at hx
          cases hx
        | succ c => exact h1 c q hq hx
  | x :: σ, none :: ch, full, hn, hl, d => by
    simp only [nodupN, Bool.and_eq_true, Bool.not_eq_true'] at hn
    have hl' : ∀ c q, getO ch c = some q → c < σ.length := fun c q hq => by have := hl (c + 1) q hq; simpa using this
    simp only [goneS]
    rcases goneS_get (full := full) hn.2 hl' d with ⟨c, q, h1, h2, h3, h4⟩ | ⟨h1, h2⟩
    · exact .inl ⟨c + 1, q, h1, h2, h3, h4⟩
    · refine .inr ⟨fun c q hq hx => ?_, h2⟩
      cases c with
      | zero => simp [getO] at hq
      | succ c => exact h1 c q hq hx
  | x :: σ, [], full, hn, hl, d => .inr ⟨fun c q hq => by simp [getO_nil] at hq, rfl⟩
  | [], [], full, hn, hl, d => .inr ⟨fun c q hq => by simp [getO_nil] at hq, rfl⟩
  | [], some k :: ch, full, hn, hl, d => by
    have := hl 0 k rfl
    simp at this
  | [], none :: ch, full, hn, hl, d => by
    refine .inr ⟨fun c q hq => ?_, rfl⟩
    have := hl c q hq
    simp at this
def preN : Nat → List Nat → List Nat → Bool
  | _, [], _ => true
  | n + 1, x :: l, y :: r => Nat.beq x y && preN n l r
  | 0, _, _ => true
  | _ + 1, _ :: _, [] => false
theorem preN_get : ∀ {n : Nat} {l r : List Nat}, preN n l r = true → ∀ c, c < n → c < l.length → getN r c = getN l c
  | n + 1, x :: l, y :: r, h, 0, _, _ => by
    simp only [preN, Bool.and_eq_true] at h
    exact (Nat.eq_of_beq_eq_true h.1).symm
  | n + 1, x :: l, y :: r, h, c + 1, h1, h2 => by
    simp only [preN, Bool.and_eq_true] at h
    exact preN_get h.2 c (by omega) (by simpa using h2)
  | n, [], r, h, c, _, h2 => by simp at h2
  | 0, _, _, h, c, h1, _ => by omega
  | _ + 1, _ :: _, [], h, _, _, _ => by simp [preN] at h
theorem Con.of_calls {P : Program} {I : World → Prop} {f : FuncId} {args : List Value} {α : Type} {Q : α → Prop} {R : α → (Nat → Nat) → AV} {C : α → (Nat → Nat) → List (Option Chunk)} (hf : Has P f)
    (nR : ∀ p σ, Q p → renA σ (R p id) = R p (getN σ)) (nC : ∀ p σ, Q p → mapR σ (C p id) = C p (getN σ)) (fin : ∀ p, Q p → CEnd [] (C p id) (R p id))
    (h : ∀ w, (∀ w', Mod w w' (fun _ => False) → I w') → Calls P f args.toArray w fun e w' => ∃ v av s ρ', e = .returned v ∧ (∃ p, Q p ∧ av = R p id ∧ subC (C p id) s.ch) ∧ rel s.vs s.ez ρ' av v ∧ Heap w (fun _ => False) s w' ρ') :
    Con P I f (fun _ => args.map .v) (fun _ => []) Q R C (fun _ => False) := by
  refine ⟨hf, rfl, ?_, fun σ => renL_vals σ args, fun σ => rfl, nR, nC, fin, fun w ρ xs hI hh hrel => ?_⟩
  · have : ∀ l : List Value, refsInL [] (l.map .v) = true := refsInL_vals []
    exact this args
  · have hx := relL_of_vals _ _ hrel
    subst hx
    have hO : ∀ b, partO [] ρ b ↔ False := fun b => ⟨fun ⟨c, k, h1, _⟩ => by simp [getO_nil] at h1, fun h => h.elim⟩
    have hO' : partO [] ρ = fun _ => False := funext fun b => propext (hO b)
    rw [hO'] at hI
    refine (h w hI).mono ?_
    rintro e w' ⟨v, av, s, ρ', rfl, ⟨p, h1, rfl, h3⟩, h4, h5⟩
    have hs := subC_get h3
    have hf' := fin p h1
    refine .inl ⟨v, p, ρ', rfl, h1, rel_sub hs hf'.refs h4 [], ?_, fun c cur hc => by simp [St.vs, getO_nil] at hc⟩
    show Heap w (partO [] ρ) _ w' ρ'
    rw [hO']
    exact heap_sub h5 hs hf'.cells []
theorem Con.ret {P : Program} {I : World → Prop} {f : FuncId} {args : List Value} {α : Type} {Q : α → Prop} {R : α → (Nat → Nat) → AV} {C : α → (Nat → Nat) → List (Option Chunk)} {B : List PanicEntry → Prop} (h : Con P I f (fun _ => args.map .v) (fun _ => []) Q R C B) {v : Value} (hv : ∀ p, Q p → val (R p id) = some v) (hB : ∀ ch, ¬ B ch) {w : World} (hI : ∀ w', Mod w w' (fun _ => False) → I w') : Ret P f args w v := by
  have hO' : partO [] (fun _ => (⟨0, 0, none, 0, fun _ => False⟩ : Loc)) = fun _ => False := funext fun b => propext ⟨fun ⟨c, k, h1, _⟩ => by simp [getO_nil] at h1, fun h => h.elim⟩
  have hrun := h.run w (fun _ => ⟨0, 0, none, 0, fun _ => False⟩) args (by show ∀ w', Mod w w' (partO [] _) → I w'; rw [hO']; exact hI) ⟨fun c k hk => by simp [getO_nil] at hk, fun c k b hk => by simp [getO_nil] at hk, fun c k b hk => by simp [getO_nil] at hk, fun c k b hk => by simp [getO_nil] at hk, fun c k hk => by simp [getO_nil] at hk, fun c d k l b hk => by simp [getO_nil] at hk, Mod.refl _ _⟩ (relL_vals args)
  refine ⟨h.has, hrun.mono ?_⟩
  rintro e w' (⟨u, p, ρ', rfl, h1, h2, h3, _⟩ | ⟨ch, rfl, hb, _⟩)
  · have hm := h3.mod
    have : Mod w w' (partO [] (fun _ => (⟨0, 0, none, 0, fun _ => False⟩ : Loc))) := hm
    rw [hO'] at this
    exact ⟨by rw [val_rel (hv p h1) h2], this⟩
  · exact (hB ch hb).elim
section
variable {X : Ctx} {all rest : List Oper} {i : Nat} {o : Oper} {st : St} {K : Exit → St → Prop}
theorem TRL.con {f : FuncId} {cal : Operand} {xs : List Operand} {ts : Array TypeId} {cap : List AV} {A : (Nat → Nat) → List AV} {H : (Nat → Nat) → List (Option Chunk)} {α : Type} {Q : α → Prop} {R : α → (Nat → Nat) → AV} {C : α → (Nat → Nat) → List (Option Chunk)} {B : List PanicEntry → Prop} (σ σ1 : List Nat)
    (hcon : Con X.P X.I f A H Q R C B) (ho : o.op = .call { callee := .value cal, args := xs.toArray, argTypes := ts }) (hg : o.guard = none) (hcal : calleeA (evA st.fr cal) = some (f, cap)) (hargs : xs.map (evA st.fr) ++ cap = A (getN σ)) (hm : atC' st.ch σ (H (getN σ))) (hnd : nodupN σ1 = true) (hpre : (preN (H id).length σ σ1 && Nat.beq (H id).length σ.length && nodupN σ) = true)
    (h : ∀ p, Q p → newS st.ch (H id) σ1 (C p (getN σ1)) ∧ appK ⟨[], [], o.dst, R p (getN σ1), ownS σ1 (C p (getN σ1))⟩ st fun st' => TRL X all (i + 1) rest K st') (hb : ∀ ch, B ch → K (.panic ch) ⟨st.fr, goneS st.ch σ (H (getN σ))⟩) : TRL X all i (o :: rest) K st := by
  simp only [Bool.and_eq_true] at hpre
  obtain ⟨⟨hp1, hp2⟩, hnd0⟩ := hpre
  have hlenσ : (H id).length = σ.length := Nat.eq_of_beq_eq_true hp2
  refine ⟨fun E a w ρ hr => wpList_run (by simp [Region.wanted, hg]) ?_⟩
  have hcv := hr.ev cal
  obtain ⟨cs, g1, g2⟩ := callee_run (w := w) hcal hcv hcon.has ho rfl
  have hm' : matchC st.ch σ σ (H id) := matchC_of (by rw [hcon.nH σ]; exact hm)
  have hgm := matchC_get hm'
  have hh := heap_con hr.heap hm' hcon.cl hnd0
  have hargs' : relL st.vs st.ez ρ (renL σ (A id)) (xs.map a.eval ++ cs) := by
    rw [hcon.nA σ, ← hargs]
    refine relL_append _ _ _ _ ?_ g1
    have : ∀ l : List Operand, relL st.vs st.ez ρ (l.map (evA st.fr)) (l.map a.eval) := by
      intro l
      induction l with
      | nil => simp [relL]
      | cons x l ih =>
        simp only [List.map_cons, relL]
        exact ⟨hr.ev x, ih⟩
    exact this xs
  have key : ∀ c, hasO (H id) c = true → st.vs (getN σ c) = St.vs ⟨[], H id⟩ c ∧ st.ez (getN σ c) = St.ez ⟨[], H id⟩ c ∧ ρ (getN σ c) = (fun c => ρ (getN σ c)) c := by
    intro c hc
    obtain ⟨k, hk⟩ := hasO_eq.1 hc
    have := (hgm c k hk).1
    simp [St.vs, St.ez, hk, this, renK]
  have hrelA := (relL_ren key _ _ hcon.ca).1 hargs'
  have hmodO : ∀ {w'}, Mod w w' (partO (H id) fun c => ρ (getN σ c)) → Mod w w' fun b => ∃ c k, getO st.ch c = some k ∧ k.owned = true ∧ (ρ c).dom b := fun hx => hx.mono fun b ⟨c, k, p1, p2, p3⟩ => ⟨getN σ c, renK σ k, (hgm c k p1).1, p2, p3⟩
  have hinv : ∀ w', Mod w w' (partO (H id) fun c => ρ (getN σ c)) → X.I w' := fun w' hx => E.inv w' (hr.heap.mod.trans hx fun b ⟨c, k, p1, p2, p3⟩ => hr.heap.own _ _ b (hgm c k p1).1 p2 p3)
  have hcall := hcon.run w _ _ hinv hh hrelA
  refine ⟨fun _ _ => trivial, ?_⟩
  rw [semAt_ok g2 (by intro d h; cases h), g2, Oper.uponIn_enter]
  refine ⟨fun e => absurd e (by simp [wideR, Fence.wide]), callsIn_wideR.2 (hcall.mono ?_)⟩
  rintro e w' (⟨v, p, ρ', rfl, hQ, hv, hh1, hup⟩ | ⟨ch, rfl, hB, hm1⟩)
  · obtain ⟨hn, hk⟩ := h p hQ
    have hfin := hcon.fin p hQ
    rw [← hcon.nC p σ1 hQ] at hn hk
    rw [← ownR_S, ← hcon.nR p σ1 hQ, appK_eq] at hk
    have hn2 : (∀ c k, getO (C p id) c = some k → getO (H id) c = none → getO st.ch (getN σ1 c) = none) ∧ (C p id).length ≤ σ1.length := by
      obtain ⟨q1, q2⟩ := newS_get hn
      exact ⟨fun c k hk h0 => q1 c (renK σ1 k) (by rw [mapR_get, hk]; rfl) h0, by simpa [mapR] using q2⟩
    have hE : ConEnd st.ch (H id) σ σ1 (C p id) (R p id) := ⟨hn2.2, fun c hc => by
      obtain ⟨k, hk⟩ := hasO_eq.1 hc
      exact preN_get hp1 c (getO_lt' hk) (hgm c k hk).2, hnd, hfin.keep, hfin.own, hn2.1, hfin.refs, hfin.cells⟩
    obtain ⟨ρF, p1, p2, p3⟩ := heap_con_back hr.heap hm' hnd0 hE hh1 hup hv ((Actn.mk [] [] o.dst (renA σ1 (R p id)) (ownR σ1 σ1 (C p id))).app st).fr
    refine hk.out E _ w' ρF ⟨?_, by rw [put_defers]; exact hr.df, p2, hr.gh.trans p1⟩
    exact relL_put (d := o.dst) (relL_up p1 _ _ hr.fr) p3
  · have hg2 := goneS_get (σ := σ) (ch := H (getN σ)) (full := st.ch) hnd0 (fun c k hk => by
      rw [← hcon.nH σ, mapR_get] at hk
      cases hk' : getO (H id) c with
      | none => rw [hk'] at hk; cases hk
      | some k' => exact (hgm c k' hk').2)
    have hHσ : ∀ c k, getO (H (getN σ)) c = some k → getO st.ch (getN σ c) = some k := by
      intro c k hk
      rw [← hcon.nH σ, mapR_get] at hk
      cases hk' : getO (H id) c with
      | none => rw [hk'] at hk; cases hk
      | some k' =>
        rw [hk'] at hk
        cases hk
        exact (hgm c k' hk').1
    obtain ⟨q1, q2, q3⟩ := hr.heap.gone (w' := w') (ch' := goneS st.ch σ (H (getN σ))) (fun d => ∃ c k, getO (H (getN σ)) c = some k ∧ k.owned = true ∧ getN σ c = d) (hm1.mono fun b ⟨c, k, p1, p2, p3⟩ => ⟨getN σ c, renK σ k, ⟨c, renK σ k, by rw [← hcon.nH σ, mapR_get, p1]; rfl, p2, rfl⟩, (hgm c k p1).1, p2, p3⟩)
      (fun d hd q hq => by
        rcases hg2 d with ⟨c, k, r1, r2, r3, r4⟩ | ⟨r1, r2⟩
        · rw [r4] at hq
          cases hq
          exact ⟨k, by rw [← r3]; exact hHσ c k r1, rfl⟩
        · obtain ⟨c, k, t1, t2, t3⟩ := hd
          exact (r1 c k t1 t2 t3).elim)
      (fun d k hd hk => by
        rcases hg2 d with ⟨c, k, r1, r2, r3, r4⟩ | ⟨r1, r2⟩
        · exact ⟨_, r4⟩
        · obtain ⟨c, k, t1, t2, t3⟩ := hd
          exact (r1 c k t1 t2 t3).elim)
      (fun d hd => by
        rcases hg2 d with ⟨c, k, r1, r2, r3, r4⟩ | ⟨r1, r2⟩
        · exact (hd ⟨c, k, r1, r2, r3⟩).elim
        · exact r2)
      (fun d k ⟨c, k', t1, t2, t3⟩ hk => by
        have := hHσ c k' t1
        rw [t3, hk] at this
        cases this
        exact t2) st.fr
    exact ⟨_, ρ, hb ch hB, by rw [q2, q3]; exact hr.fr, hr.df, q1, by rw [q2, q3]; exact hr.gh⟩
end
end Go.SX
set_option linter.unusedSimpArgs false
set_option linter.unusedVariables false
namespace Go.SX
def nilRow (ty : TypeId) (esz : Nat) : Chunk := ⟨.row, ty, esz, 0, []⟩
theorem relL_self {vs ez ρ} : ∀ (l : List AV) (xs : List Value) (i : Nat) (a : AV), relL vs ez ρ l xs → (∀ u, rel vs ez ρ (getF l i) u → rel vs ez ρ a u) → relL vs ez ρ (setF l i a) xs
  | [], xs, i, a, h, _ => by simpa [setF] using h
  | _ :: _, [], _, _, h, _ => by simp [relL] at h
  | b :: l, x :: xs, 0, a, h, k => by
    simp only [relL] at h
    simp only [setF, relL]
    exact ⟨k x h.1, h.2⟩
  | b :: l, x :: xs, i + 1, a, h, k => by
    simp only [relL] at h
    simp only [setF, relL]
    exact ⟨h.1, relL_self l xs i a h.2 k⟩
theorem heap_cells {w0 : World} {O : Nat → Prop} {st : St} {w : World} {ρ : Nat → Loc} (h : Heap w0 O st w ρ) {d : Nat} {ck : Chunk} {l : List AV} (hd : getO st.ch d = some ck) (hl : ∀ xs, relL st.vs st.ez ρ ck.cells xs → relL st.vs st.ez ρ l xs) (fr : List AV) :
    Heap w0 O ⟨fr, setO st.ch d ⟨ck.kind, ck.ty, ck.esz, ck.ver, l⟩⟩ w ρ ∧ (St.mk fr (setO st.ch d ⟨ck.kind, ck.ty, ck.esz, ck.ver, l⟩)).vs = st.vs ∧ (St.mk fr (setO st.ch d ⟨ck.kind, ck.ty, ck.esz, ck.ver, l⟩)).ez = st.ez := by
  have e1 : (St.mk fr (setO st.ch d ⟨ck.kind, ck.ty, ck.esz, ck.ver, l⟩)).vs = st.vs := by
    funext c
    by_cases e : c = d
    · subst e; simp [St.vs, getO_set_same, hd]
    · simp [St.vs, getO_set_ne _ _ _ _ e]
  have e2 : (St.mk fr (setO st.ch d ⟨ck.kind, ck.ty, ck.esz, ck.ver, l⟩)).ez = st.ez := by
    funext c
    by_cases e : c = d
    · subst e; simp [St.ez, getO_set_same, hd]
    · simp [St.ez, getO_set_ne _ _ _ _ e]
  have g : ∀ c k, getO (setO st.ch d ⟨ck.kind, ck.ty, ck.esz, ck.ver, l⟩) c = some k → ∃ k0, getO st.ch c = some k0 ∧ k.kind = k0.kind ∧ k.ty = k0.ty ∧ k.esz = k0.esz ∧ (c = d ∧ k.cells = l ∧ k0 = ck ∨ k = k0) := by
    intro c k hk
    by_cases e : c = d
    · subst e
      rw [getO_set_same] at hk
      cases hk
      exact ⟨ck, hd, rfl, rfl, rfl, .inl ⟨rfl, rfl, rfl⟩⟩
    · rw [getO_set_ne _ _ _ _ e] at hk
      exact ⟨k, hk, rfl, rfl, rfl, .inr rfl⟩
  have mem : ∀ {k k0 : Chunk}, k.kind = k0.kind → k.ty = k0.ty → k.esz = k0.esz → ∀ w L xs, k0.mem w L xs → k.mem w L xs := by
    intro k k0 h1 h2 h3 w L xs hm
    unfold Chunk.mem at hm ⊢
    rw [h1, h2, h3]
    exact hm
  refine ⟨?_, e1, e2⟩
  refine ⟨fun c k hk => ?_, fun c k b hk hb => ?_, fun c k b hk ho hb => ?_, fun c k b hk hb => ?_, fun c k hk => ?_, fun c c' k k' b hk hk' ho hb hb' => ?_, h.mod⟩
  · obtain ⟨k0, q0, q1, q2, q3, q4⟩ := g c k hk
    obtain ⟨xs, h1, h2⟩ := h.ok c k0 q0
    rw [e1, e2]
    refine ⟨xs, ?_, mem q1 q2 q3 _ _ _ h2⟩
    rcases q4 with ⟨_, q5, rfl⟩ | rfl
    · rw [q5]; exact hl xs h1
    · exact h1
  · obtain ⟨k0, q0, _⟩ := g c k hk
    exact h.lt c k0 b q0 hb
  · obtain ⟨k0, q0, q1, _⟩ := g c k hk
    exact h.own c k0 b q0 (by simpa [Chunk.owned, q1] using ho) hb
  · obtain ⟨k0, q0, q1, _⟩ := g c k hk
    exact h.blk c k0 b q0 (by simpa [Chunk.blk, q1] using hb)
  · obtain ⟨k0, q0, q1, q2, q3, _⟩ := g c k hk
    intro w1 w2 xs hw hm
    exact mem q1 q2 q3 _ _ _ (h.stay c k0 q0 w1 w2 xs hw (mem q1.symm q2.symm q3.symm _ _ _ hm))
  · obtain ⟨k0, q0, q1, _⟩ := g c k hk
    obtain ⟨k0', q0', _⟩ := g c' k' hk'
    exact h.sep c c' k0 k0' b q0 q0' (by simpa [Chunk.owned, q1] using ho) hb hb'
theorem rel_nilrow {vs ez ρ} {c : Nat} (hv : vs c = some 0) (hL : (ρ c).base = none ∧ (ρ c).cap = 0) (u : Value) (h : rel vs ez ρ (.v (.slice none 0 0)) u) : rel vs ez ρ (.sl c 0 0 0) u := by
  simp only [rel] at h ⊢
  subst h
  exact ⟨0, hv, Nat.le_refl _, fun _ => ⟨Nat.zero_le _, none, by simp [hL.2], by simp, fun _ => hL.1.symm⟩, none, 0, 0, rfl⟩
theorem rel_addnil {X : Ctx} {E : Env X} {st : St} {a : Act} {w : World} {ρ : Nat → Loc} (hr : Rel X E st a w ρ) {c ty esz : Nat} (hc : getO st.ch c = none) :
    ∃ ρ', Up st.vs (St.mk st.fr (setO st.ch c (nilRow ty esz))).vs st.ez (St.mk st.fr (setO st.ch c (nilRow ty esz))).ez ρ ρ' ∧ Heap E.w0 E.O ⟨st.fr, setO st.ch c (nilRow ty esz)⟩ w ρ' ∧ ((ρ' c).base = none ∧ (ρ' c).cap = 0) ∧ (St.mk st.fr (setO st.ch c (nilRow ty esz))).vs c = some 0 := by
  obtain ⟨q1, q2⟩ := heap_new hr.heap (fr := st.fr) (L := ⟨0, 0, none, 0, fun _ => False⟩) (ck := nilRow ty esz) (ys := []) hc (Mod.refl _ _) (fun b hb => hb.elim) (fun b hb => by simp [Chunk.blk, nilRow] at hb) (stays_rowL fun b hb => by cases hb) (by simp [relL, nilRow]) ⟨rfl, .inl rfl, 0, by simp, .inl ⟨rfl, rfl⟩⟩
  exact ⟨_, q1, q2, by rw [upd_same]; exact ⟨rfl, rfl⟩, by simp [St.vs, getO_set_same, nilRow]⟩
section
variable {X : Ctx} {code : Code} {st : St} {K : Exit → St → Prop}
theorem TR.nil_slot (i c ty esz : Nat) (hi : getF st.fr i = .v (.slice none 0 0)) (hc : getO st.ch c = none) (h : setFK st.fr i (.sl c 0 0 0) fun fr => setOK st.ch c (nilRow ty esz) fun ch => TR X code K ⟨fr, ch⟩) : TR X code K st := by
  rw [setFK_eq, setOK_eq] at h
  refine ⟨fun E a w ρ hr => ?_⟩
  obtain ⟨ρ', q1, q2, q3, q4⟩ := rel_addnil (ty := ty) (esz := esz) hr hc
  refine h.out E a w ρ' ⟨?_, hr.df, ⟨q2.ok, q2.lt, q2.own, q2.blk, q2.stay, q2.sep, q2.mod⟩, hr.gh.trans q1⟩
  exact relL_self _ _ i _ (relL_up q1 _ _ hr.fr) fun u hu => by rw [hi] at hu; exact rel_nilrow q4 q3 u hu
theorem TR.nil_cell (d j c ty esz : Nat) {ck : Chunk} (hd : getO st.ch d = some ck) (hj : getF ck.cells j = .v (.slice none 0 0)) (hc : getO st.ch c = none) (h : setFK ck.cells j (.sl c 0 0 0) fun l => setOK st.ch c (nilRow ty esz) fun ch => setOK ch d ⟨ck.kind, ck.ty, ck.esz, ck.ver, l⟩ fun ch => TR X code K ⟨st.fr, ch⟩) : TR X code K st := by
  rw [setFK_eq, setOK_eq, setOK_eq] at h
  refine ⟨fun E a w ρ hr => ?_⟩
  obtain ⟨ρ', q1, q2, q3, q4⟩ := rel_addnil (ty := ty) (esz := esz) hr hc
  have hdc : d ≠ c := fun e => by rw [e, hc] at hd; cases hd
  have hd' : getO (setO st.ch c (nilRow ty esz)) d = some ck := by rw [getO_set_ne _ _ _ _ hdc]; exact hd
  obtain ⟨p1, p2, p3⟩ := heap_cells q2 (d := d) (l := setF ck.cells j (.sl c 0 0 0)) hd' (fun xs hx => relL_self _ _ j _ hx fun u hu => by rw [hj] at hu; exact rel_nilrow q4 q3 u hu) st.fr
  have hup := hr.gh.trans q1
  refine h.out E a w ρ' ⟨?_, hr.df, p1, ?_⟩
  · have := relL_up q1 _ _ hr.fr
    rw [← p2, ← p3] at this
    exact this
  · rw [← p2, ← p3] at hup
    exact hup
end
end Go.SX
namespace Go.SX
section
variable {X : Ctx} {o : Oper} {st : St} {k : Actn → Prop}
theorem x_app (hT : X.ok) {t e : TypeId} {s x : Operand} {c kv n m d kd : Nat} {ck dk : Chunk} {y ye : Ty} {l : List AV} (eb : Nat) (ho : o.op = .call { callee := .builtin .append, args := [s, x].toArray, argTypes := [t, t].toArray })
    (hs : evA st.fr s = .sl c kv 0 n) (hc : getO st.ch c = some ck) (hk : ck.kind = .row) (hv : kv = ck.ver) (hy : getO X.T t = some y) (hyd : y.d = .sl e) (hye : getO X.T e = some ye) (hes : ye.size = ck.esz) (hty : ck.ty = e) (h0 : 0 < ye.size) (hz : ye.zero.length = ye.size) (heb : ye.bytes = eb)
    (hx : evA st.fr x = .sl d kd 0 m) (hd : getO st.ch d = some dk) (hdk : dk.kind matches .own | .buf | .row | .ro) (hdv : kd = dk.ver) (hde : dk.esz = ck.esz) (hl : subL dk.cells 0 (m * dk.esz) = some l) (h1 : l.all one = true)
    (hn : ck.cells.length = n * ck.esz) (h63 : n + m ≤ maxLen) (hby : (n + m) * eb ≤ 140737488355328)
    (h : k ⟨rds st.fr [s, x], [(c, some ck), (d, some dk)], o.dst, .sl c (ck.ver + 1) 0 (n + m), [(c, ⟨.row, e, ck.esz, ck.ver + 1, ck.cells ++ l⟩)]⟩) : ActN X o st k := by
  refine x_append hT ho hs hc hk hv hy hyd hye hes hty h0 hz hn (cr := [(d, some dk)]) (l := l) ?_ ?_ h63 (by rw [heb]; exact hby) h
  · rw [← hde]
    exact Src.sl hx hdv hdk (by rw [Nat.zero_mul]; exact hl) h1
  · intro i q hq
    simp only [List.mem_singleton, Prod.mk.injEq] at hq
    obtain ⟨rfl, rfl⟩ := hq
    exact hd
end
end Go.SX
namespace Go.SX
def roundNK (R : St → Prop) (K : Exit → St → Prop) : Exit → St → Prop
  | .normal, s => R s
  | e, s => K e s
structure TRn (X : Ctx) (c : Code) (K : Exit → St → Prop) (m : Nat) (st : St) : Prop where
  out : ∀ E a w ρ, Rel X E st a w ρ → Code.roundsIn (wideR E.rd) 0 X.P c (fun e a' w' => ∃ st' ρ', K e st' ∧ Rel X E st' a' w' ρ') m a w
theorem TRn.step {X : Ctx} {c : Code} {K : Exit → St → Prop} {m : Nat} {st : St} (h : TR X c (roundNK (TRn X c K m) K) st) : TRn X c K (m + 1) st := by
  refine ⟨fun E a w ρ hr => ?_⟩
  refine wpIn_mono (h.out E a w ρ hr) ?_
  rintro e a' w' ⟨s, ρ', hk, hr'⟩
  cases e with
  | normal => exact (show TRn X c K m s from hk).out E a' w' ρ' hr'
  | _ => exact ⟨s, ρ', hk, hr'⟩
def dropA (m : Nat) : AV → AV
  | .ref c k o => match Nat.beq c m with | true => .dead | false => .ref c k o
  | .sl c k lo n => match Nat.beq c m with | true => .dead | false => .sl c k lo n
  | .mp c k => match Nat.beq c m with | true => .dead | false => .mp c k
  | .v x => .v x
  | .dead => .dead
  | a => match noRef [m] a with | true => a | false => .dead
def dropF (m : Nat) : List AV → List AV
  | [] => []
  | a :: l => dropA m a :: dropF m l
def unO : List (Option Chunk) → Nat → List (Option Chunk)
  | [], _ => []
  | _ :: l, 0 => none :: l
  | x :: l, n + 1 => x :: unO l n
theorem unO_same : ∀ (l : List (Option Chunk)) (n : Nat), getO (unO l n) n = none
  | [], n => by simp [unO, getO_nil]
  | _ :: l, 0 => rfl
  | x :: l, n + 1 => by cases x <;> exact unO_same l n
theorem unO_ne : ∀ (l : List (Option Chunk)) (n m : Nat), m ≠ n → getO (unO l n) m = getO l m
  | [], n, m, _ => by simp [unO]
  | x :: l, 0, 0, h => (h rfl).elim
  | x :: l, 0, m + 1, _ => by cases x <;> rfl
  | x :: l, n + 1, 0, _ => by cases x <;> rfl
  | x :: l, n + 1, m + 1, h => by cases x <;> exact unO_ne l n m (by omega)
theorem relL_drop1 {vs ez ρ} (m : Nat) : ∀ (l : List AV) (xs : List Value), relL vs ez ρ l xs → relL vs ez ρ (dropF m l) xs
  | [], xs, h => h
  | _ :: _, [], h => by simp [relL] at h
  | a :: l, x :: xs, h => by
    simp only [relL] at h
    simp only [dropF, relL]
    refine ⟨?_, relL_drop1 m l xs h.2⟩
    have key : ∀ b, (b = a ∨ b = .dead) → rel vs ez ρ b x := by
      rintro b (rfl | rfl)
      · exact h.1
      · simp [rel]
    refine key _ ?_
    cases a <;> simp only [dropA] <;> (try split) <;> simp
theorem noRef_drop (m : Nat) : ∀ (l : List AV), noRefL [m] (dropF m l) = true
  | [] => rfl
  | a :: l => by
    simp only [dropF, noRefL, Bool.and_eq_true]
    refine ⟨?_, noRef_drop m l⟩
    cases a with
    | ref c k o =>
      simp only [dropA]
      cases h : Nat.beq c m with
      | true => rfl
      | false =>
        simp only [noRef]
        have : c ≠ m := fun e => by subst e; simp at h
        have h2 : Nat.beq m c = false := by
          cases e : Nat.beq m c with
          | false => rfl
          | true => exact (this (Nat.eq_of_beq_eq_true e).symm).elim
        simp [SX.mem, h2]
    | sl c k lo n =>
      simp only [dropA]
      cases h : Nat.beq c m with
      | true => rfl
      | false =>
        simp only [noRef]
        have : c ≠ m := fun e => by subst e; simp at h
        have h2 : Nat.beq m c = false := by
          cases e : Nat.beq m c with
          | false => rfl
          | true => exact (this (Nat.eq_of_beq_eq_true e).symm).elim
        simp [SX.mem, h2]
    | mp c k =>
      simp only [dropA]
      cases h : Nat.beq c m with
      | true => rfl
      | false =>
        simp only [noRef]
        have : c ≠ m := fun e => by subst e; simp at h
        have h2 : Nat.beq m c = false := by
          cases e : Nat.beq m c with
          | false => rfl
          | true => exact (this (Nat.eq_of_beq_eq_true e).symm).elim
        simp [SX.mem, h2]
    | v x => rfl
    | dead => rfl
    | agg l => simp only [dropA]; split <;> first | assumption | rfl
    | fn f l => simp only [dropA]; split <;> first | assumption | rfl
    | ifc t a => simp only [dropA]; split <;> first | assumption | rfl
    | tup l => simp only [dropA]; split <;> first | assumption | rfl
theorem Le.drop {X : Ctx} {s : St} (m : Nat) (hn : X.n ≤ m) (hc : noRefC [m] (unO s.ch m) = true) : Le X s ⟨dropF m s.fr, unO s.ch m⟩ := by
  intro E a w ρ hr
  have hvs : ∀ c, c ∉ [m] → (St.mk (dropF m s.fr) (unO s.ch m)).vs c = s.vs c ∧ (St.mk (dropF m s.fr) (unO s.ch m)).ez c = s.ez c := by
    intro c hcm
    have : c ≠ m := by simpa using hcm
    simp [St.vs, St.ez, unO_ne _ _ _ this]
  have hg : ∀ c k, getO (unO s.ch m) c = some k → getO s.ch c = some k := by
    intro c k hk
    by_cases e : c = m
    · subst e; rw [unO_same] at hk; cases hk
    · rwa [unO_ne _ _ _ e] at hk
  obtain ⟨g1, g2, g3, g4⟩ := hr
  obtain ⟨q1, q2, q3, q4, q5, q6, q7⟩ := g3
  refine ⟨ρ, relL_dropc hvs _ _ (noRef_drop m _) (relL_drop1 m _ _ g1), g2, ⟨fun c k hk => ?_, fun c k b hk => q2 c k b (hg c k hk), fun c k b hk => q3 c k b (hg c k hk), fun c k b hk => q4 c k b (hg c k hk), fun c k hk => q5 c k (hg c k hk), fun c d k l b hk hl => q6 c d k l b (hg c k hk) (hg d l hl), q7⟩, fun c v hv => ?_⟩
  · obtain ⟨xs, hx, hmm⟩ := q1 c k (hg c k hk)
    exact ⟨xs, relL_dropc hvs _ _ (noRefC_get hc hk) hx, hmm⟩
  · have hcm : c ∉ [m] := by
      have := E.b.lt c v hv
      simp only [List.mem_singleton]
      omega
    rw [(hvs c hcm).1, (hvs c hcm).2]
    exact g4 c v hv
theorem nr_byt' (ms : List Nat) : ∀ l : List Int, noRefL ms (byt l) = true
  | [] => rfl
  | n :: l => by
    have := nr_byt' ms l
    simp only [byt, List.map_cons, noRefL, noRef, Bool.true_and] at this ⊢
    exact this
theorem TRn.drop {X : Ctx} {c : Code} {K : Exit → St → Prop} {n : Nat} {st : St} (m : Nat) (hm : hasO st.ch m = true) (hn : X.n ≤ m) (hc : noRefC [m] (unO st.ch m) = true) (h : TRn X c K n ⟨dropF m st.fr, unO st.ch m⟩) : TRn X c K n st :=
  ⟨fun E a w ρ hr => let ⟨ρ', hr'⟩ := Le.drop m hn hc E a w ρ hr; h.out E a w ρ' hr'⟩
theorem TR.drop {X : Ctx} {c : Code} {K : Exit → St → Prop} {st : St} (m : Nat) (hm : hasO st.ch m = true) (hn : X.n ≤ m) (hc : noRefC [m] (unO st.ch m) = true) (h : TR X c K ⟨dropF m st.fr, unO st.ch m⟩) : TR X c K st :=
  ⟨fun E a w ρ hr => let ⟨ρ', hr'⟩ := Le.drop m hn hc E a w ρ hr; h.out E a w ρ' hr'⟩
end Go.SX
namespace Go.SX
theorem sIntsK.mk {u : ByteArray} {k : List AV → Prop} (h : k (byt (sInts u))) : sIntsK u.data.toList k := by rw [sIntsK_byt]; exact h
end Go.SX
set_option linter.unusedSimpArgs false
set_option linter.unusedVariables false
namespace Go.SX
theorem and_maskI (a : Int) (j : Nat) (m : Int) (hm : m = 2 ^ j - 1) (hj : j ≤ 62) (h : 0 ≤ a ∧ a ≤ 9223372036854775807) : IntKind.i64.wrap (BitVec.ofInt IntKind.i64.bits a &&& BitVec.ofInt IntKind.i64.bits m).toNat = a % 2 ^ j := by
  have e1 : (BitVec.ofInt IntKind.i64.bits a).toNat = a.toNat := by
    rw [BitVec.toNat_ofInt]
    show (a % 18446744073709551616).toNat = _
    rw [Int.emod_eq_of_lt (by omega) (by omega)]
  have hp : (2 : Int) ^ j ≤ 4611686018427387904 := by
    have : (2 : Nat) ^ j ≤ 2 ^ 62 := Nat.pow_le_pow_right (by omega) hj
    have h2 : ((2 ^ j : Nat) : Int) ≤ ((2 ^ 62 : Nat) : Int) := Int.ofNat_le.2 this
    rw [Int.natCast_pow] at h2
    simpa using h2
  have hp0 : (0 : Int) < 2 ^ j := Int.pow_pos (by decide)
  have e2 : (BitVec.ofInt IntKind.i64.bits m).toNat = 2 ^ j - 1 := by
    rw [BitVec.toNat_ofInt]
    show (m % 18446744073709551616).toNat = _
    rw [Int.emod_eq_of_lt (by omega) (by omega), hm]
    have : ((2 : Int) ^ j) = ((2 ^ j : Nat) : Int) := by rw [Int.natCast_pow]; rfl
    omega
  rw [BitVec.toNat_and, e1, e2, Nat.and_two_pow_sub_one_eq_mod]
  have e3 : ((a.toNat % 2 ^ j : Nat) : Int) = a % 2 ^ j := by
    rw [Int.natCast_emod, Int.natCast_pow, Int.toNat_of_nonneg h.1]; rfl
  rw [e3]
  have h1 := Int.emod_nonneg a (show (2 : Int) ^ j ≠ 0 by omega)
  have h2 := Int.emod_lt_of_pos a hp0
  exact wrap_i64 (by omega)
theorem Nm.and31 {a : Int} {f : Int → Prop} (h : 0 ≤ a ∧ a ≤ 9223372036854775807) (k : f (a % 32)) : Nm (IntKind.i64.wrap (BitVec.ofInt IntKind.i64.bits a &&& BitVec.ofInt IntKind.i64.bits 31).toNat) f := ⟨a % 32, and_maskI a 5 31 rfl (by omega) h, k⟩
theorem Nm.and7 {a : Int} {f : Int → Prop} (h : 0 ≤ a ∧ a ≤ 9223372036854775807) (k : f (a % 8)) : Nm (IntKind.i64.wrap (BitVec.ofInt IntKind.i64.bits a &&& BitVec.ofInt IntKind.i64.bits 7).toNat) f := ⟨a % 8, and_maskI a 3 7 rfl (by omega) h, k⟩
def setZ : List Int → Nat → Int → List Int
  | [], _, _ => []
  | _ :: r, 0, z => z :: r
  | a :: r, n + 1, z => a :: setZ r n z
theorem putL_byt : ∀ (l : List Int) (n : Nat) (z : Int), n < l.length → putL (byt l) n [.v (.int .u8 z)] = some (byt (setZ l n z))
  | [], n, z, h => by simp at h
  | a :: l, 0, z, h => by simp [byt, putL, setZ]
  | a :: l, n + 1, z, h => by
    have := putL_byt l n z (by simpa using h)
    simp only [byt] at this
    simp [byt, putL, setZ, this]
theorem subL_byt_at : ∀ (l : List Int) (n : Nat), n < l.length → subL (byt l) n 1 = some [.v (.int .u8 (l.getD n 0))]
  | [], n, h => by simp at h
  | a :: l, 0, h => by simp [byt, subL]
  | a :: l, n + 1, h => by
    have := subL_byt_at l n (by simpa using h)
    simp only [byt] at this
    simp [byt, subL, this]
theorem subL_byt_take : ∀ (l : List Int) (n : Nat), n ≤ l.length → subL (byt l) 0 n = some (byt (l.take n))
  | [], n, h => by
    obtain rfl : n = 0 := by simpa using h
    rfl
  | a :: l, 0, h => rfl
  | a :: l, n + 1, h => by
    have := subL_byt_take l n (by simpa using h)
    simp only [byt] at this
    simp [byt, subL, this]
theorem bytL_byt : ∀ l : List Int, bytL (byt l) = some l
  | [] => rfl
  | a :: l => by
    have := bytL_byt l
    simp only [byt] at this
    simp [byt, bytL, this, bytA]
theorem Sh.shrC {kd : IntKind} {a b : Int} {f : Value → Prop} (h0 : 0 ≤ b ∧ b ≤ kd.bits) (h : f (.int kd (a / 2 ^ b.toNat))) : Sh .shr kd a b f := by
  refine Sh.shr (a / 2 ^ b.toNat) h0.1 ?_ h
  rw [show min b.toNat kd.bits = b.toNat by omega]
  exact fdiv_pos (Int.pow_pos (by decide))
end Go.SX
set_option linter.unusedSimpArgs false
set_option linter.unusedVariables false
namespace Go.SX
def swN (c d x : Nat) : Nat := match Nat.beq x c with
  | true => d
  | false => match Nat.beq x d with
    | true => c
    | false => x
theorem swN_eq (c d x : Nat) : swN c d x = if x = c then d else if x = d then c else x := by
  unfold swN
  by_cases h : x = c
  · subst h; simp
  · have : Nat.beq x c = false := by
      cases e : Nat.beq x c with
      | false => rfl
      | true => exact (h (Nat.eq_of_beq_eq_true e)).elim
    rw [this, if_neg h]
    by_cases g : x = d
    · subst g; simp
    · have : Nat.beq x d = false := by
        cases e : Nat.beq x d with
        | false => rfl
        | true => exact (g (Nat.eq_of_beq_eq_true e)).elim
      rw [this, if_neg g]
theorem swN_sw (c d x : Nat) : swN c d (swN c d x) = x := by
  simp only [swN_eq]
  repeat' split
  all_goals omega
mutual
def swA (c d : Nat) : AV → AV
  | .v x => .v x
  | .ref n k o => .ref (swN c d n) k o
  | .sl n k lo m => .sl (swN c d n) k lo m
  | .agg l => .agg (swL c d l)
  | .fn f l => .fn f (swL c d l)
  | .ifc t a => .ifc t (swA c d a)
  | .tup l => .tup (swL c d l)
  | .dead => .dead
  | .mp n k => .mp (swN c d n) k
def swL (c d : Nat) : List AV → List AV
  | [] => []
  | a :: l => swA c d a :: swL c d l
end
theorem swL_vals (c d : Nat) : ∀ us : List Value, swL c d (us.map .v) = us.map .v
  | [] => rfl
  | u :: us => by simp only [List.map_cons, swL, swA, swL_vals c d us]
section
variable {vs vs' : Nat → Option Nat} {ez ez' : Nat → Nat} {ρ ρ' : Nat → Loc} {c d : Nat}
mutual
theorem rel_sw (h : ∀ x, vs' (swN c d x) = vs x ∧ ez' (swN c d x) = ez x ∧ ρ' (swN c d x) = ρ x) : ∀ (a : AV) (u : Value), rel vs' ez' ρ' (swA c d a) u ↔ rel vs ez ρ a u
  | .v x, u => by simp [swA, rel]
  | .dead, u => by simp [swA, rel]
  | .ref n k off, u => by
    obtain ⟨h1, h2, h3⟩ := h n
    simp only [swA, rel, h1, h3]
  | .sl n k lo m, u => by
    obtain ⟨h1, h2, h3⟩ := h n
    simp only [swA, rel, h1, h2, h3]
  | .mp n k, u => by
    obtain ⟨h1, h2, h3⟩ := h n
    simp only [swA, rel, h1, h3]
  | .agg l, u => by simp only [swA, rel, relL_sw h l]
  | .fn f l, u => by simp only [swA, rel, relL_sw h l]
  | .ifc t a, u => by simp only [swA, rel, rel_sw h a]
  | .tup l, u => by simp only [swA, rel, relL_sw h l]
theorem relL_sw (h : ∀ x, vs' (swN c d x) = vs x ∧ ez' (swN c d x) = ez x ∧ ρ' (swN c d x) = ρ x) : ∀ (l : List AV) (us : List Value), relL vs' ez' ρ' (swL c d l) us ↔ relL vs ez ρ l us
  | [], us => by cases us <;> simp [swL, relL]
  | a :: l, [] => by simp [swL, relL]
  | a :: l, u :: us => by simp only [swL, relL, rel_sw h a, relL_sw h l]
end
end
def swK (c d : Nat) (k : Chunk) : Chunk := ⟨k.kind, k.ty, k.esz, k.ver, swL c d k.cells⟩
def mapK (c d : Nat) : List (Option Chunk) → List (Option Chunk)
  | [] => []
  | some k :: l => some (swK c d k) :: mapK c d l
  | none :: l => none :: mapK c d l
theorem getO_mapK (c d : Nat) : ∀ (l : List (Option Chunk)) (x : Nat), getO (mapK c d l) x = (getO l x).map (swK c d)
  | [], x => by simp [mapK, getO_nil]
  | some k :: l, 0 => rfl
  | none :: l, 0 => rfl
  | some k :: l, x + 1 => getO_mapK c d l x
  | none :: l, x + 1 => getO_mapK c d l x
def mvS (c d : Nat) (k : Chunk) (s : St) : St := ⟨swL c d s.fr, mapK c d (unO (setO s.ch d k) c)⟩
theorem Le.mv {X : Ctx} {s : St} (c d : Nat) (k : Chunk) (hcd : c ≠ d) (hc : getO s.ch c = some k) (hd : getO s.ch d = none) (nc : X.n ≤ c) (nd : X.n ≤ d) : Le X s (mvS c d k s) := by
  intro E a w ρ hr
  have hg : ∀ x, getO (mvS c d k s).ch x = (getO s.ch (swN c d x)).map (swK c d) := by
    intro x
    show getO (mapK c d (unO (setO s.ch d k) c)) x = _
    rw [getO_mapK, swN_eq]
    by_cases e1 : x = c
    · subst e1
      rw [unO_same, if_pos rfl, hd]
    · rw [unO_ne _ _ _ e1, if_neg e1]
      by_cases e2 : x = d
      · subst e2
        rw [getO_set_same, if_pos rfl, hc]
      · rw [getO_set_ne _ _ _ _ e2, if_neg e2]
  have hg2 : ∀ x, getO (mvS c d k s).ch (swN c d x) = (getO s.ch x).map (swK c d) := fun x => by rw [hg, swN_sw]
  have hvs : ∀ x, (mvS c d k s).vs (swN c d x) = s.vs x ∧ (mvS c d k s).ez (swN c d x) = s.ez x ∧ ρ (swN c d (swN c d x)) = ρ x := by
    intro x
    refine ⟨?_, ?_, by rw [swN_sw]⟩
    · simp only [St.vs, hg2]
      cases getO s.ch x <;> rfl
    · simp only [St.ez, hg2]
      cases getO s.ch x <;> rfl
  have hb : ∀ x, getO (mvS c d k s).ch x = (getO s.ch (swN c d x)).map (swK c d) := hg
  obtain ⟨g1, g2, g3, g4⟩ := hr
  obtain ⟨q1, q2, q3, q4, q5, q6, q7⟩ := g3
  have un : ∀ {x q}, getO (mvS c d k s).ch x = some q → ∃ q0, getO s.ch (swN c d x) = some q0 ∧ q = swK c d q0 := by
    intro x q h
    rw [hb] at h
    cases e : getO s.ch (swN c d x) with
    | none => rw [e] at h; cases h
    | some q0 => rw [e] at h; exact ⟨q0, rfl, (Option.some.inj h).symm⟩
  refine ⟨fun x => ρ (swN c d x), (relL_sw hvs _ _).2 g1, g2, ⟨fun x q hq => ?_, fun x q b hq => ?_, fun x q b hq ho => ?_, fun x q b hq => ?_, fun x q hq => ?_, fun x y q r b hq hr' ho h1 h2 => ?_, q7⟩, fun x v hv => ?_⟩
  · obtain ⟨q0, h1, rfl⟩ := un hq
    obtain ⟨xs, h2, h3⟩ := q1 _ _ h1
    exact ⟨xs, (relL_sw hvs _ _).2 h2, h3⟩
  · obtain ⟨q0, h1, rfl⟩ := un hq
    exact q2 _ _ b h1
  · obtain ⟨q0, h1, rfl⟩ := un hq
    exact q3 _ _ b h1 ho
  · obtain ⟨q0, h1, rfl⟩ := un hq
    exact fun hb' => q4 _ q0 b h1 hb'
  · obtain ⟨q0, h1, rfl⟩ := un hq
    exact fun w1 w2 xs hw hm => q5 _ q0 h1 w1 w2 xs hw hm
  · obtain ⟨q0, e1, rfl⟩ := un hq
    obtain ⟨r0, e2, rfl⟩ := un hr'
    have := q6 _ _ _ _ b e1 e2 ho h1 h2
    rw [← swN_sw c d x, ← swN_sw c d y, this]
  · have hx := E.b.lt x v hv
    have e : swN c d x = x := by rw [swN_eq, if_neg (by omega), if_neg (by omega)]
    obtain ⟨cur, u1, u2, u3⟩ := g4 x v hv
    have hh := hvs x
    rw [e] at hh
    refine ⟨cur, by rw [hh.1]; exact u1, u2, fun h => ?_⟩
    rw [hh.2.1]
    show ρ (swN c d x) = _ ∧ _
    rw [e]
    exact u3 h
theorem TR.mv {X : Ctx} {cd : Code} {K : Exit → St → Prop} {st : St} (c d : Nat) {k : Chunk} (hcd : Nat.beq c d = false) (hc : getO st.ch c = some k) (hd : getO st.ch d = none) (nc : X.n ≤ c) (nd : X.n ≤ d) (h : TR X cd K (mvS c d k st)) : TR X cd K st :=
  h.le (Le.mv c d k (fun e => by subst e; simp at hcd) hc hd nc nd)
end Go.SX
namespace Go.SX
def slotSl : List AV → Nat → Nat → Bool
  | [], _, _ => false
  | .sl c _ _ _ :: _, 0, d => Nat.beq c d
  | _ :: _, 0, _ => false
  | _ :: l, i + 1, d => slotSl l i d
theorem TR.dm {X : Ctx} {cd : Code} {K : Exit → St → Prop} {st : St} (i c d : Nat) {k : Chunk} (h0 : slotSl st.fr i c = true) (hm : hasO st.ch d = true) (nc : X.n ≤ c) (nd : X.n ≤ d) (hcd : Nat.beq c d = false) (hr : noRefC [d] (unO st.ch d) = true) (hk : getO (unO st.ch d) c = some k) (h : TR X cd K (mvS c d k ⟨dropF d st.fr, unO st.ch d⟩)) : TR X cd K st :=
  TR.drop d hm nd hr (TR.mv c d hcd hk (unO_same _ _) nc nd h)
section
variable {X : Ctx} {o : Oper} {st : St} {k : Actn → Prop}
theorem x_appL (hT : X.ok) {t e : TypeId} {s x : Operand} {c kv n m d kd lo : Nat} {ck dk : Chunk} {y ye : Ty} {l : List AV} (eb : Nat) (ho : o.op = .call { callee := .builtin .append, args := [s, x].toArray, argTypes := [t, t].toArray })
    (hs : evA st.fr s = .sl c kv 0 n) (hc : getO st.ch c = some ck) (hk : ck.kind = .row) (hv : kv = ck.ver) (hy : getO X.T t = some y) (hyd : y.d = .sl e) (hye : getO X.T e = some ye) (hes : ye.size = ck.esz) (hty : ck.ty = e) (h0 : 0 < ye.size) (hz : ye.zero.length = ye.size) (heb : ye.bytes = eb)
    (hx : evA st.fr x = .sl d kd lo m) (hd : getO st.ch d = some dk) (hdk : dk.kind matches .own | .buf | .row | .ro) (hdv : kd = dk.ver) (hde : dk.esz = ck.esz) (hl : subL dk.cells (lo * dk.esz) (m * dk.esz) = some l) (h1 : l.all one = true)
    (hn : ck.cells.length = n * ck.esz) (h63 : n + m ≤ maxLen) (hby : (n + m) * eb ≤ 140737488355328)
    (h : k ⟨rds st.fr [s, x], [(c, some ck), (d, some dk)], o.dst, .sl c (ck.ver + 1) 0 (n + m), [(c, ⟨.row, e, ck.esz, ck.ver + 1, ck.cells ++ l⟩)]⟩) : ActN X o st k := by
  refine x_append hT ho hs hc hk hv hy hyd hye hes hty h0 hz hn (cr := [(d, some dk)]) (l := l) ?_ ?_ h63 (by rw [heb]; exact hby) h
  · rw [← hde]
    exact Src.sl hx hdv hdk hl h1
  · intro i q hq
    simp only [List.mem_singleton, Prod.mk.injEq] at hq
    obtain ⟨rfl, rfl⟩ := hq
    exact hd
end
end Go.SX
