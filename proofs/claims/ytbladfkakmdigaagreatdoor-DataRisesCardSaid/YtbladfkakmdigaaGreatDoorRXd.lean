/-
  What the laws of these data stand on: contracts of functions, and plain laws.
-/
import Derived.Recover
import Derived.Lib.AppendStr
import Derived.Laws.StructEq
import Derived.Laws.Strings
import Derived.MapKept
import Derived.WideKeyRuns
import Derived.LoopN
import Derived.Scope
import Derived.Laws.BytesArg
import Derived.Lib.Builder
import Derived.Lib.UnsafeStr
import Derived.Deep.LoopGhost
import Derived.Lib.Bytealg
import Derived.Lib.Join
import Derived.Laws.Externs
import Derived.Lib.Strings
import Derived.Calls
import Derived.Tactics
import Derived.Laws.World
import Derived.Laws.Rows
import Derived.Laws.AppendOwn
import Derived.Laws.MakeOwn
import Derived.Orders
import Derived.OrdersIn
import Derived.TacticsIn
import Derived.LoopNIn
import Derived.Sort.LoopGhostIn
import Derived.Below
import Derived.KernelRfl
import Derived.Laws.Entries
import Derived.Laws.Cells
import Derived.RangeFuncLeaves
import Derived.RangeFuncSeq
import Derived.Lib.ConvBytes
import Derived.ProofKit
import Derived.OpenShut
import Derived.OpenVars
import Derived.Deep.DeepHandedRow
import Derived.Lib.LaidTab
import Derived.Test.YtbladfkakmdigaaGreatDoorRXa
import Derived.Test.YtbladfkakmdigaaGreatDoorRXb
import Derived.Test.YtbladfkakmdigaaGreatDoorRXc
set_option linter.unusedVariables false
set_option linter.unusedSimpArgs false
set_option linter.unnecessarySimpa false
set_option linter.unusedSimpArgs false
set_option linter.unusedVariables false
namespace Go.SX
section
variable {X : Ctx} {o : Oper} {st : St} {k : Actn → Prop}
theorem x_assert (hT : X.ok) {x : Operand} {t q : TypeId} {u : Value} {y : Ty} (ho : o.op = .typeAssert x t q true) (hx : evA st.fr x = .v (.iface q u)) (hy : getO X.T q = some y) (hyd : y.d ≠ .ifc ∧ y.d ≠ .oth)
    (h : k (aP o st.fr [x] (.v (.tuple #[u, .bool true])))) : ActN X o st k := by
  refine ActN.p (fun vs ez ρ ac w hr => ?_) h
  have g1 := hr x (by simp)
  rw [hx] at g1
  simp only [rel] at g1
  obtain ⟨⟨dd, q1, q2⟩, _⟩ := hT q y hy
  refine ⟨.tuple #[u, .bool true], ?_, by simp [rel]⟩
  simp only [execOp, ho, g1, Sem.run_bind]
  have : (Instr.typeAssert (.iface q u) t q true).run X.P w = .ok (.tuple #[u, .bool true]) w := by
    cases dd <;> cases hd : y.d <;> rw [hd] at q2 <;> simp only [TD.is] at q2 <;> simp_all [Instr.typeAssert, run_underlying q1]
  rw [this]
  rfl
theorem x_store0 (hT : X.ok) {t : TypeId} {x z : Operand} {c kv off : Nat} {y : Ty} (ho : o.op = .store t x z) (hd : o.dst = none) (hx : evA st.fr x = .ref c kv off) (hz : evA st.fr z = .v (.agg #[])) (hy : getO X.T t = some y) (h0 : y.size = 0)
    (h : k ⟨rds st.fr [x, z], [], o.dst, .dead, []⟩) : ActN X o st k := by
  refine ⟨_, LS.mem rfl fun st' E a w ρ hf hr => ?_, ⟨rds_fits st.fr st.ch [x, z], by simp⟩, h⟩
  have g1 := hr.ev x
  have gz := hr.ev z
  rw [fits_ev hf (fr := st.fr) (x := x) (rds_mem (by simp)), hx] at g1
  rw [fits_ev hf (fr := st.fr) (x := z) (rds_mem (by simp)), hz] at gz
  simp only [rel] at g1 gz
  obtain ⟨cur, _, _, _, p, hp⟩ := g1
  have hch : ((Actn.mk (rds st.fr [x, z]) [] o.dst .dead []).app st') = st' := by simp [Actn.app, setAll, hd]
  rw [hch]
  refine ⟨undef, w, ρ, .inr ⟨?_, hd⟩, Up.refl _ _ _, hr.heap, by simp [rel]⟩
  simp [execOp, ho, hp, gz, Instr.storeAt, Instr.sureAddr, storeVar, (hT t y hy).run_size, h0, Value.cells, storeCells]
end
theorem TRL.act {X : Ctx} {all rest : List Oper} {i : Nat} {o : Oper} {st : St} {K : Exit → St → Prop} (hg : o.guard = none) (h : ActN X o st fun A => appK A st fun st' => TRL X all (i + 1) rest K st') : TRL X all i (o :: rest) K st := by
  obtain ⟨A, h1, h2, h3⟩ := h
  rw [appK_eq] at h3
  exact ⟨fun E a w ρ hr => wpList_run (by simp [Region.wanted, hg]) (h1.run st E a w ρ h2 hr _ _ fun a' w' ρ' hr' => h3.out E a' w' ρ' hr')⟩
theorem TRL.stepQ {X : Ctx} {all rest : List Oper} {i : Nat} {o : Oper} {st : St} {K : Exit → St → Prop} (hT : X.ok) (h : XS (qNA X) X.T all i [o] st fun st' => TRL X all (i + 1) rest K st') : TRL X all i (o :: rest) K st := by
  obtain ⟨stF, h1, h2⟩ := XS_okT (qNA_ok X) hT rest [o] i st _ h
  exact ⟨fun E a w ρ hr => h2 _ E a w ρ hr fun a' w' ρ' hr' => h1.out E a' w' ρ' hr'⟩
theorem Ret.of_calls {P : Program} {w : World} {f : FuncId} {args : List Value} {v : Value} (hf : Has P f) (h : Calls P f args.toArray w fun e w' => ∃ u av s ρ', e = .returned u ∧ val av = some v ∧ rel s.vs s.ez ρ' av u ∧ Heap w (fun _ => False) s w' ρ') : Ret P f args w v :=
  ⟨hf, h.mono fun e w' ⟨u, av, s, ρ', h1, h2, h3, h4⟩ => ⟨by rw [h1, val_rel h2 h3], h4.mod⟩⟩
theorem calls_catch2 {P : Program} {T : List (Option Ty)} {I : World → Prop} {w : World} (hI : ∀ w', Mod w w' (fun _ => False) → I w') {f : FuncId} {fn : Func} {c0 c1 : Code} {id : Nat} {pre all : List Oper} {od : Oper} {cal : Operand} {ts : Array TypeId} {args : List Value} {n : Nat} {R : AV → St → Prop}
    {g : FuncId} {gf : Func} {gc : Code} {i0 d0 d1 : Nat} {o0 o1 : Oper} {ts2 : Array TypeId} {pv : Value}
    (hT : Ctx.ok ⟨P, T, 0, I⟩) (hf : P.funcs[f]? = some fn) (hnm : (fn.name == "runtime.NumGoroutine") = false) (hb : fn.body = some (.seq c0 (.seq (.region id all.toArray false) c1)))
    (hsp : splitLast [] all = some (pre, od)) (hod : od.op = .defer { callee := .value cal, args := #[], argTypes := ts }) (hog : od.guard = none) (hodst : od.dst = none) (hq : Quiet P g)
    (hgf : P.funcs[g]? = some gf) (hgb : gf.body = some (.seq (.region i0 #[o0, o1] false) gc)) (h0 : o0.op = .call { callee := .builtin .recover, args := #[], argTypes := ts2 }) (g0 : o0.guard = none) (e0 : o0.dst = some d0) (h1 : o1.op = .assign (.tmp d0)) (g1 : o1.guard = none) (e1 : o1.dst = some d1) (hd0 : d0 < gf.ntmps) (hgr : gf.results = #[])
    (hn : fn.ntmps - args.length = n)
    (h : deadsK n [] fun ds => appK' args ds fun fr => TR ⟨P, T, 0, I⟩ c0 (normK fun s0 => XS (propNA ⟨P, T, 0, I⟩) T all 0 pre s0 fun sF => atC P T I cal g c1 fn.results.toList R pv gc gf.ntmps d0 d1 sF) ⟨fr, []⟩) : Calls P f args.toArray w fun e w' => ∃ v av s ρ', e = .returned v ∧ R av s ∧ rel s.vs s.ez ρ' av v ∧ Heap w (fun _ => False) s w' ρ' := by
  have e : all = pre ++ [od] := by simpa using splitLast_eq all [] pre od hsp
  subst e
  exact calls_catch hI hT hf hnm hb hod hog hodst hq hgf hgb h0 g0 e0 h1 g1 e1 hd0 hgr hn h
end Go.SX
set_option linter.unusedVariables false
set_option linter.unusedSimpArgs false
namespace Go.SX
theorem Con.mono {P : Program} {I : World → Prop} {f : FuncId} {A : (Nat → Nat) → List AV} {H : (Nat → Nat) → List (Option Chunk)} {α : Type} {Q Q' : α → Prop} {R : α → (Nat → Nat) → AV} {C : α → (Nat → Nat) → List (Option Chunk)} {B : List PanicEntry → Prop} (h : Con P I f A H Q R C B) (hq : ∀ p, Q p → Q' p)
    (nR : ∀ p σ, Q' p → renA σ (R p id) = R p (getN σ)) (nC : ∀ p σ, Q' p → mapR σ (C p id) = C p (getN σ)) (fin : ∀ p, Q' p → CEnd (H id) (C p id) (R p id)) : Con P I f A H Q' R C B :=
  ⟨h.has, h.cl, h.ca, h.nA, h.nH, nR, nC, fin, fun w ρ xs h1 h2 h3 => (h.run w ρ xs h1 h2 h3).mono fun e w' hx => by
    rcases hx with ⟨v, p, ρ', e1, e2, e3⟩ | hx
    · exact .inl ⟨v, p, ρ', e1, hq p e2, e3⟩
    · exact .inr hx⟩
end Go.SX
set_option linter.unusedSimpArgs false
set_option linter.unusedVariables false
namespace Go.SX
open Go.ChangeShapes Go.WideShapes Go.ChangeAt Go.RowKit

theorem laidVars_mem {P : Program} {w : World} : ∀ {l : List (String × DataW Unit)} {ps : List MemPlace}, DataW.LaidVars P w l ps → ∀ n d, (n, d) ∈ l →
    ∃ g t cs fuel p, P.globalNamed n = some g ∧ (P.globals[g]?).map (·.type) = some t ∧ w.var? P n = some cs ∧ DataW.trod (fun _ => ()) P w 0 (fun _ => true) false fuel t cs.toList = some (d, p)
  | [], _, _, n, d, h => by simp at h
  | (m, e) :: r, ps, hl, n, d, h => by
    obtain ⟨g, t, cs, fuel, p, q, h1, h2, h3, h4, h5, _⟩ := hl
    rcases List.mem_cons.1 h with h | h
    · cases h
      exact ⟨g, t, cs, fuel, p, h1, h2, h3, h4⟩
    · exact laidVars_mem h5 n d h
theorem laidMet_of_H {P : Program} {l : List (String × DataW Unit)} {w : World} (h : laidMetH P l w) (hn : (l.filter fun x => x.2.handleName?.isSome) = []) : laidMet P l w := by
  unfold laidMetH at h
  rw [hn] at h
  exact h
theorem laid_tab {P : Program} {l : List (String × DataW Unit)} {W : World} {name : String} {k : IntKind} {zs : List Int} {g : Nat} {t e : TypeId} {n : Nat} (h : laidMet P l W) (hm : (name, Lib.tabData k zs) ∈ l)
    (hg : P.globalNamed name = some g) (hty : (P.globals[g]?).map (·.type) = some t) (ht : P.underlying t = some (.array n e)) (he : P.underlying e = some (.int k)) (hce : P.cellsOf e = 1) (hct : P.cellsOf t = n) :
    ∀ i u, (zs.map fun z => Value.int k z)[i]? = some u → W.cell? ⟨g, i, none⟩ = some u := by
  obtain ⟨ps, hl, _⟩ := h
  obtain ⟨g', t', cs, fuel, p, hg', ht', hvar, hd⟩ := laidVars_mem hl _ _ hm
  obtain rfl := Option.some.inj (hg.symm.trans hg')
  obtain rfl := Option.some.inj (hty.symm.trans ht')
  have hcs := Lib.cells_of_tab ht he hce hct hd
  have hT : Lib.TabIs P W name k zs := by
    unfold Lib.TabIs
    rw [hvar, ← hcs]
  intro i u hu
  have hi : i < zs.length := by
    rcases Nat.lt_or_ge i zs.length with h1 | h1
    · exact h1
    · simp [h1] at hu
  rw [hT.cell hg i hi]
  simp [hi] at hu
  simp [List.getD, hi, hu]

theorem trodAll_stays {H : Type} {enc : TypeId × Value → H} {P : Program} (hl : laidOutB P = true) {W W' : World} (hb : Below W.heap.size W W') : ∀ {ts : List TypeId} {vs : List Value} {ds : List (DataW H)} {ps : List MemPlace} (sp : Nat → Bool),
    (∀ t, t ∈ ts → P.readableRec t = true ∧ t < P.types.size) → DataW.TrodAll enc P W 0 (fun _ => true) true ts vs ds ps → (∀ p ∈ ps, p.block < W.heap.size) → (∀ p ∈ ps, sp p.block = true) → DataW.TrodAll enc P W' 0 sp true ts vs ds ps
  | [], [], [], _, _, _, h, _, _ => h
  | t :: ts, v :: vs, d :: ds, _, sp, ht, ⟨p, q, h1, h2, e⟩, hlt, hs => by
    subst e
    refine ⟨p, q, ?_, trodAll_stays hl hb sp (fun t ht' => ht t (List.mem_cons_of_mem _ ht')) h2 (fun x hx => hlt x (List.mem_append_right _ hx)) (fun x hx => hs x (List.mem_append_right _ hx)), rfl⟩
    obtain ⟨r1, r2⟩ := ht t (List.mem_cons_self ..)
    exact WideElems.Trod_stays hl r1 r2 h1 (fun x hx => hb.same (hlt x (List.mem_append_left _ hx))) (fun x hx => hs x (List.mem_append_left _ hx))
theorem trodAll_len {H : Type} {enc : TypeId × Value → H} {P : Program} {W : World} {b : Nat} {sp : Nat → Bool} {hd : Bool} : ∀ {ts : List TypeId} {vs : List Value} {ds : List (DataW H)} {ps : List MemPlace}, DataW.TrodAll enc P W b sp hd ts vs ds ps → ds.length = ts.length ∧ vs.length = ts.length
  | [], [], [], _, _ => ⟨rfl, rfl⟩
  | _ :: _, _ :: _, _ :: _, _, ⟨_, _, _, h2, _⟩ => by
    obtain ⟨a, b⟩ := trodAll_len h2
    exact ⟨by simp [a], by simp [b]⟩

def LawSpec (s : ChangeSpec) (k : Nat) : Prop := s.vars = [] ∧ ∀ (H : Type) (ds : List (DataW H)), ds.length = k → s.fn H ds = { results := [.lit (.bool true)], args := ds }
def rowsB (P : Program) (ts : List TypeId) : Bool := ts.all fun t => P.readableRec t && decide (t < P.types.size)

theorem law_post {H : Type} {enc : TypeId × Value → H} {P : Program} {f : Func} {s : ChangeSpec} {apart fresh handsOn : Bool} {W W' : World} {args : Array Value} {ds gs : List (DataW H)} {before : List MemPlace} {tb : TypeId}
    (hl : laidOutB P = true) (hr : rowsB P f.params.toList = true) (hs : LawSpec s f.params.toList.length) (hres : f.resultTypes = #[tb]) (htb : P.underlying tb = some .bool)
    (hW : DataW.Whole enc P f.params.toList s.vars apart W args.toList ds gs before) (hm : Mod W W' fun _ => False) : s.post enc P f apart fresh handsOn false W args (.bool true) W' := by
  have hb := hm.below
  obtain ⟨hv, hfn⟩ := hs
  have hW' := hW
  obtain ⟨p, q, hA, hV, rfl, hfz, hnd⟩ := hW
  have hV' := hV
  rw [hv] at hV'
  obtain ⟨rfl, rfl⟩ := trodVars_none hV'
  have hlen := (trodAll_len hA).1
  have hspec := hfn H ds hlen
  have hlt : ∀ x ∈ p, x.block < W.heap.size := fun x hx => hW'.lt x (by simpa using hx)
  have hrow : ∀ t, t ∈ f.params.toList → P.readableRec t = true ∧ t < P.types.size := by
    intro t ht
    have := List.all_eq_true.1 hr t ht
    simpa using this
  refine ⟨ds, [], p ++ [], [], p, [], hW', ?_, ?_, ?_, hb.frame _, fun h => by cases h⟩
  · rw [hres, List.append_nil, hspec]
    exact trodAll_mk1 (shut_bool htb true)
  · rw [List.append_nil, hspec]
    exact trodAll_stays hl hb _ hrow hA hlt (fun x hx => by simpa using hlt x hx)
  · rw [hv, List.append_nil, hspec]
    rfl

structure Small {H : Type} (B : Nat) (Sm : DataW H → Prop) : Prop where
  str : ∀ l : List UInt8, l.length ≤ maxLen → Sm (.lit (.string l)) → l.length ≤ B
  sl : ∀ el sp : List (DataW H), el.length ≤ maxLen → Sm (.slice el sp) → el.length ≤ B ∧ ∀ d, d ∈ el → Sm d
  agg : ∀ ps : List (DataW H), Sm (.agg ps) → ∀ d, d ∈ ps → Sm d
theorem Small.all {H : Type} : Small (H := H) maxLen (fun _ => True) := ⟨fun _ h _ => h, fun _ _ h _ => ⟨h, fun _ _ => trivial⟩, fun _ _ _ _ => trivial⟩
def FitS (F : TypeId → List Value → Prop) (T : List (Option Ty)) (cs : List Value) : List (Nat × TypeId) → Prop
  | [] => True
  | (off, t) :: r => (match getO T t with
    | some y => F t ((cs.drop off).take y.size)
    | none => True) ∧ FitS F T cs r
def Fit (T : List (Option Ty)) (W : World) (B : Nat) : Nat → TypeId → List Value → Prop
  | 0, _, _ => True
  | n + 1, t, cs => match getO T t with
    | none => True
    | some y => match y.d with
      | .bool => ∃ b, cs = [.bool b]
      | .int k => ∃ m, cs = [.int k m] ∧ (Lit.int k m).wf = true
      | .str => ∃ s : ByteArray, cs = [.string s] ∧ s.size ≤ B
      | .st fs => cs.length = y.size ∧ FitS (Fit T W B n) T cs fs
      | .sl e => cs = [.slice none 0 0] ∨ ∃ a m cap, cs = [.slice (some a) m cap] ∧ m ≤ cap ∧ m ≤ B ∧ (cap ≤ maxLen ∧ ∀ ye, getO T e = some ye → cap ≠ 0 → ye.size ≠ 0 → a.spot = none ∧ a.block < W.heap.size) ∧ (match getO T e with
        | none => True
        | some ye => ∀ i, i < m → ∃ xs : List Value, xs.length = ye.size ∧ (∀ j, j < ye.size → W.cell? ((a.add (i * ye.size)).add j) = xs[j]?) ∧ Fit T W B n e xs)
      | _ => True
theorem cell_lt' {w : World} {a : Addr} {u : Value} (h : w.cell? a = some u) : a.block < w.heap.size := by
  rcases Nat.lt_or_ge a.block w.heap.size with h1 | h1
  · exact h1
  · simp [World.cell?, Array.getElem?_eq_none h1] at h
theorem cell_spot' {w : World} {a : Addr} {u : Value} (h : w.cell? a = some u) : a.spot = none := by
  obtain ⟨b, o, s⟩ := a
  cases s with
  | none => rfl
  | some s =>
    unfold World.cell? at h
    split at h <;> simp at h
theorem cells?_get {w : World} {a : Addr} {n : Nat} {xs : List Value} (h : w.cells? 0 a n = some xs) : xs.length = n ∧ ∀ j, j < n → w.cell? (a.add j) = xs[j]? := by
  unfold World.cells? at h
  rw [if_pos (Nat.zero_le _)] at h
  refine ⟨by simpa using Lib.mapM_length h, fun j hj => ?_⟩
  obtain ⟨b, h1, h2⟩ := Lib.mapM_at h j j (by simp [hj])
  rw [h1, h2]
theorem TyOk.cellsOf {P : Program} {t : TypeId} {y : Ty} (h : TyOk P t y) : P.cellsOf t = y.size := by
  obtain ⟨_, ⟨i, z, h1, h2, _⟩, _⟩ := h
  simp [Program.cellsOf, h1, h2]
theorem fit_of_trod {H : Type} {enc : TypeId × Value → H} {P : Program} {T : List (Option Ty)} (hT : ∀ t y, getO T t = some y → TyOk P t y) {W : World} {hd : Bool} {B : Nat} {Sm : DataW H → Prop} (hS : Small B Sm) :
    ∀ (d n : Nat) (t : TypeId) (cs : List Value) (x : DataW H × List MemPlace), DataW.trod enc P W 0 (fun _ => true) hd n t cs = some x → Sm x.1 → Fit T W B d t cs
  | 0, _, _, _, _, _, _ => trivial
  | dn + 1, n, t, cs, x, h, hx => by
    unfold Fit
    cases hy : getO T t with
    | none => trivial
    | some y =>
      simp only
      have ok := hT t y hy
      obtain ⟨d, hd1, hd2⟩ := ok.d
      revert hd2
      cases hyd : y.d with
      | bool =>
        intro hd2
        cases d <;> simp [TD.is] at hd2
        obtain ⟨b, h1, _⟩ := DataW.trod_bool hd1 h
        exact ⟨b, h1⟩
      | int k =>
        intro hd2
        cases d <;> simp [TD.is] at hd2
        subst hd2
        obtain ⟨m, h1, _, h2⟩ := DataW.trod_int hd1 h
        exact ⟨m, h1, h2⟩
      | str =>
        intro hd2
        cases d <;> simp [TD.is] at hd2
        obtain ⟨s, h1, hx2, h2⟩ := DataW.trod_string hd1 h
        subst hx2
        have := hS.str _ (by rw [← Lib.size_eq]; exact h2) hx
        exact ⟨s, h1, by rw [Lib.size_eq]; exact this⟩
      | st fs =>
        intro hd2
        cases d <;> simp only [TD.is] at hd2
        rename_i fs'
        obtain ⟨xs, m, hm, hxs, hl, hxl, hf⟩ := DataW.trod_struct hd1 h
        subst hxs
        have hsm := hS.agg _ hx
        refine ⟨by rw [hl, ok.cellsOf], ?_⟩
        have hf' : ∀ f, f ∈ fs'.toList → ∃ z, DataW.trod enc P W 0 (fun _ => true) hd m f.type ((cs.drop f.offset).take (P.cellsOf f.type)) = some z ∧ Sm z.1 := by
          intro f hmem
          obtain ⟨i, hi, rfl⟩ := List.getElem_of_mem hmem
          have h1 : i < fs'.size := by simpa using hi
          have h2 := hf i fs'[i] (by simp [h1])
          have h3 : i < xs.length := by omega
          exact ⟨xs[i], by simpa [List.getElem?_eq_getElem h3] using h2, hsm _ (List.mem_map_of_mem (List.getElem_mem h3))⟩
        clear hd1 h hl hxl hf hyd hsm hx
        generalize fs'.toList = l at hd2 hf'
        subst hd2
        induction l with
        | nil => trivial
        | cons f l ih =>
          refine ⟨?_, ih fun g hg => hf' g (List.mem_cons_of_mem _ hg)⟩
          show (match getO T f.type with | some y => Fit T W B dn f.type ((cs.drop f.offset).take y.size) | none => True)
          cases hg : getO T f.type with
          | none => trivial
          | some yf =>
            simp only
            obtain ⟨z, hz, hz2⟩ := hf' f (List.mem_cons_self ..)
            rw [(hT f.type yf hg).cellsOf] at hz
            exact fit_of_trod hT hS dn m f.type _ z hz hz2
      | sl e =>
        intro hd2
        cases d <;> simp only [TD.is] at hd2
        subst hd2
        rcases DataW.trod_slice hd1 h with ⟨h1, _⟩ | ⟨a, len, cap, elems, rest, m, hm, h1, hxe, _, h3, h4, h5, h6, h6b, _⟩
        · exact .inl h1
        · subst hxe
          obtain ⟨s1, s2⟩ := hS.sl _ _ (by simp; omega) hx
          have hspot : ∀ ye, getO T e = some ye → cap ≠ 0 → ye.size ≠ 0 → a.spot = none ∧ a.block < W.heap.size := by
            intro ye hye hcap hsz
            have get : ∀ (c : List Value), W.cells? 0 a ye.size = some c → a.spot = none ∧ a.block < W.heap.size := by
              intro c hc
              obtain ⟨g1, g2⟩ := cells?_get hc
              have g3 := g2 0 (by omega)
              rw [show a.add 0 = a from rfl] at g3
              cases hx0 : c[0]? with
              | none => rw [List.getElem?_eq_none_iff] at hx0; omega
              | some u => rw [hx0] at g3; exact ⟨cell_spot' g3, cell_lt' g3⟩
            rcases Nat.eq_zero_or_pos len with h0 | h0
            · obtain ⟨r1, r2⟩ := h6b rfl
              have h7 := r2 0 (by omega)
              rw [(hT e ye hye).cellsOf, h0, Nat.add_zero, Nat.zero_mul, show a.add 0 = a from rfl] at h7
              have hlt : 0 < rest.length := by omega
              rw [List.getElem?_eq_getElem hlt] at h7
              cases hc : W.cells? 0 a ye.size with
              | none => rw [hc] at h7; cases h7
              | some c => exact get c hc
            · have h7 := h6 0 h0
              rw [(hT e ye hye).cellsOf, Nat.zero_mul, show a.add 0 = a from rfl] at h7
              have hlt : 0 < elems.length := by omega
              rw [List.getElem?_eq_getElem hlt] at h7
              cases hc : W.cells? 0 a ye.size with
              | none => rw [hc] at h7; cases h7
              | some c => exact get c hc
          refine .inr ⟨a, len, cap, h1, h3, by simpa [h5] using s1, ⟨h4, hspot⟩, ?_⟩
          cases hye : getO T e with
          | none => trivial
          | some ye =>
            simp only
            intro i hi
            have h7 := h6 i hi
            rw [(hT e ye hye).cellsOf] at h7
            have hlt : i < elems.length := by omega
            cases hc : W.cells? 0 (a.add (i * ye.size)) ye.size with
            | none =>
              rw [hc] at h7
              rw [List.getElem?_eq_getElem hlt] at h7
              cases h7
            | some xs =>
              rw [hc] at h7
              obtain ⟨g1, g2⟩ := cells?_get hc
              rw [List.getElem?_eq_getElem hlt] at h7
              exact ⟨xs, g1, g2, fit_of_trod hT hS dn m e xs _ h7 (s2 _ (List.mem_map_of_mem (List.getElem_mem hlt)))⟩
      | _ => intro _; trivial

def FitV (T : List (Option Ty)) (W : World) (B : Nat) (t : TypeId) (v : Value) : Prop := ∃ cs, Fit T W B 8 t cs ∧ v = (match (match getO T t with | some y => aggd y | none => false) with | true => .agg cs.toArray | false => cs.getD 0 undef)
def FitAll (T : List (Option Ty)) (W : World) (B : Nat) : List TypeId → List Value → Prop
  | [], [] => True
  | t :: ts, v :: vs => FitV T W B t v ∧ FitAll T W B ts vs
  | _, _ => False
theorem fitAll_cons {T : List (Option Ty)} {W : World} {B : Nat} {t : TypeId} {ts : List TypeId} {l : List Value} (h : FitAll T W B (t :: ts) l) : ∃ v vs, l = v :: vs ∧ FitV T W B t v ∧ FitAll T W B ts vs := by
  cases l with
  | nil => exact h.elim
  | cons v vs => exact ⟨v, vs, rfl, h.1, h.2⟩
theorem fitAll_nil {T : List (Option Ty)} {W : World} {B : Nat} {l : List Value} (h : FitAll T W B [] l) : l = [] := by
  cases l with
  | nil => rfl
  | cons v vs => exact h.elim
theorem fitV_of {H : Type} {enc : TypeId × Value → H} {P : Program} {T : List (Option Ty)} (hT : ∀ t y, getO T t = some y → TyOk P t y) {W : World} {hd : Bool} {r : Reach} {b : Nat} {t : TypeId} {v : Value} {d : DataW H} {ps : List MemPlace} {y : Ty} (hy : getO T t = some y)
    {B : Nat} {Sm : DataW H → Prop} (hS : Small B Sm) (hsm : Sm d) (hval : Value.okWide P W r b t v) (h : DataW.Trod enc P W 0 (fun _ => true) hd t v d ps) : FitV T W B t v := by
  obtain ⟨n, hn⟩ := h
  refine ⟨v.cells.toList, fit_of_trod hT hS 8 n t _ _ hn hsm, ?_⟩
  have ok := hT t y hy
  obtain ⟨dd, h1, h2⟩ := ok.d
  rw [hy]
  simp only
  unfold Value.okWide at hval
  rw [h1] at hval
  have one : (∀ cs, v ≠ .agg cs) → v = v.cells.toList.getD 0 undef := by
    intro hv
    cases v <;> first | rfl | (exact absurd rfl (hv _))
  have nagg : Cell.okWide P W r b t v → aggd y = false → v = (match aggd y with | true => .agg v.cells.toList.toArray | false => v.cells.toList.getD 0 undef) := by
    intro hc hy2
    rw [hy2]
    refine one fun cs hv => ?_
    subst hv
    unfold Cell.okWide at hc
    rw [h1] at hc
    revert h2 hy2
    unfold aggd
    cases y.d <;> cases dd <;> simp_all [TD.is, Cell.okWide, Cell.ok]
  revert h2
  unfold aggd at nagg ⊢
  cases hyd : y.d <;> cases dd <;> simp only [TD.is] <;> intro h2 <;> first
    | (exact h2.elim)
    | (obtain ⟨cs, rfl, _⟩ := hval; simp [Value.cells])
    | (simp only [hyd] at nagg; exact nagg hval trivial)
theorem fitAll_of {H : Type} {enc : TypeId × Value → H} {P : Program} {T : List (Option Ty)} (hT : ∀ t y, getO T t = some y → TyOk P t y) {W : World} {hd : Bool} {r : Reach} {b : Nat} {B : Nat} {Sm : DataW H → Prop} (hS : Small B Sm) : ∀ (ts : List TypeId) (vs : List Value) (ds : List (DataW H)) (ps : List MemPlace),
    (∀ t, t ∈ ts → ∃ y, getO T t = some y) → (∀ d, d ∈ ds → Sm d) → (∀ (j : Nat) t v, ts[j]? = some t → vs[j]? = some v → Value.okWide P W r b t v) → DataW.TrodAll enc P W 0 (fun _ => true) hd ts vs ds ps → FitAll T W B ts vs
  | [], [], [], _, _, _, _, _ => trivial
  | t :: ts, v :: vs, d :: ds, _, hy, hsm, hval, ⟨p, q, h1, h2, _⟩ => by
    obtain ⟨y, hy1⟩ := hy t (List.mem_cons_self ..)
    exact ⟨fitV_of hT hy1 hS (hsm d (List.mem_cons_self ..)) (hval 0 t v rfl rfl) h1, fitAll_of hT hS ts vs ds q (fun t' ht' => hy t' (List.mem_cons_of_mem _ ht')) (fun d' hd' => hsm d' (List.mem_cons_of_mem _ hd')) (fun j t' v' h3 h4 => hval (j + 1) t' v' (by simpa using h3) (by simpa using h4)) h2⟩
end Go.SX
set_option linter.unusedSimpArgs false
set_option linter.unusedVariables false
namespace Go.SX
def FSl (w : World) (v : Value) (us : List Value) : Prop :=
  (v = .slice none 0 0 ∧ us = []) ∨ ∃ a cap, v = .slice (some a) us.length cap ∧ us.length ≤ cap ∧ (cap ≠ 0 → a.spot = none ∧ a.block < w.heap.size) ∧ ∀ j q, us[j]? = some q → w.cell? (a.add j) = some q
theorem ro_loc {w : World} {v : Value} {us : List Value} (h : FSl w v us) (h0 : 0 < w.heap.size) (ty : TypeId) (cells : List AV) :
    ∃ L : Loc, (∀ b, L.dom b ↔ b = L.blk) ∧ L.blk < w.heap.size ∧ slOk L 1 0 us.length v ∧ (∃ a m d, v = .slice a m d) ∧ (⟨.ro, ty, 1, 0, cells⟩ : Chunk).mem w L us := by
  rcases h with ⟨rfl, rfl⟩ | ⟨a, cap, rfl, h1, h2, h3⟩
  · exact ⟨⟨0, 0, none, 0, fun b => b = 0⟩, fun b => Iff.rfl, h0, ⟨by simp, none, rfl, fun h => (h rfl).elim, fun _ => rfl⟩, ⟨_, _, _, rfl⟩, ⟨fun h => (h rfl).elim, fun _ => rfl⟩⟩
  · by_cases hc : cap = 0
    · subst hc
      have hu : us = [] := List.eq_nil_of_length_eq_zero (by omega)
      subst hu
      exact ⟨⟨0, 0, some a, 0, fun b => b = 0⟩, fun b => Iff.rfl, h0, ⟨by simp, some a, rfl, fun h => (h rfl).elim, fun _ => rfl⟩, ⟨_, _, _, rfl⟩, ⟨fun h => (h rfl).elim, fun _ => rfl⟩⟩
    · obtain ⟨g1, g2⟩ := h2 hc
      obtain ⟨b, o, s⟩ := a
      dsimp only at g1 g2
      subst g1
      refine ⟨⟨b, o, some ⟨b, o, none⟩, cap, fun x => x = b⟩, fun x => Iff.rfl, g2, ⟨by simpa using h1, _, rfl, fun _ => ?_, fun _ => rfl⟩, ⟨_, _, _, rfl⟩, ⟨fun _ => ⟨rfl, fun i u hu => ?_⟩, fun h => (hc h).elim⟩⟩
      · simp [Addr.add]
      · have := h3 i u hu
        have e : (⟨b, o, none⟩ : Addr).add i = ⟨b, o + i, none⟩ := by
          unfold Addr.add
          split
          · rename_i hz; subst hz; rfl
          · rfl
        rw [e] at this
        exact this
def FSlE (w : World) (v : Value) (n esz : Nat) (us : List Value) : Prop :=
  us.length = n * esz ∧ ((v = .slice none 0 0 ∧ n = 0) ∨ ∃ a cap, v = .slice (some a) n cap ∧ n ≤ cap ∧ (cap ≠ 0 → a.spot = none ∧ a.block < w.heap.size) ∧ ∀ j q, us[j]? = some q → w.cell? (a.add j) = some q)
theorem Con.retF {P : Program} {I : World → Prop} {f : FuncId} {A : (Nat → Nat) → List AV} {H : (Nat → Nat) → List (Option Chunk)} {α : Type} {Q : α → Prop} {R : α → (Nat → Nat) → AV} {C : α → (Nat → Nat) → List (Option Chunk)} {B : List PanicEntry → Prop} (h : Con P I f A H Q R C B) {args : List Value} {v : Value} (hv : ∀ p, Q p → val (R p id) = some v) (hB : ∀ ch, ¬ B ch) {w : World} (hI : ∀ w', Mod w w' (fun _ => False) → I w') (ρ : Nat → Loc)
    (hH : ∀ c k, getO (H id) c = some k → k.kind = .ro ∧ (∃ xs, relL (St.vs ⟨[], H id⟩) (St.ez ⟨[], H id⟩) ρ k.cells xs ∧ k.mem w (ρ c) xs) ∧ (∀ b, (ρ c).dom b ↔ b = (ρ c).blk) ∧ (ρ c).blk < w.heap.size)
    (hA : relL (St.vs ⟨[], H id⟩) (St.ez ⟨[], H id⟩) ρ (A id) args) : Ret P f args w v := by
  have hno : ∀ c k, getO (H id) c = some k → k.owned = false := fun c k hk => by
    have := (hH c k hk).1
    simp [Chunk.owned, this, CK.owned]
  have hO' : partO (H id) ρ = fun _ => False := funext fun b => propext ⟨fun ⟨c, k, h1, h2, _⟩ => (by rw [hno c k h1] at h2; cases h2), fun h => h.elim⟩
  have hrun := h.run w ρ args (by rw [hO']; exact hI) ⟨fun c k hk => (hH c k hk).2.1, fun c k b hk hb => ?_, fun c k b hk ho _ => (by rw [hno c k hk] at ho; cases ho), fun c k b hk hb => by simp [Chunk.blk, (hH c k hk).1] at hb, fun c k hk => ?_, fun c d k l b hk hl ho _ _ => (by rw [hno c k hk] at ho; cases ho), Mod.refl _ _⟩ hA
  · refine ⟨h.has, hrun.mono ?_⟩
    rintro e w' (⟨u, p, ρ', rfl, h1, h2, h3, _⟩ | ⟨ch, rfl, hb, _⟩)
    · have hm := h3.mod
      rw [hO'] at hm
      exact ⟨by rw [val_rel (hv p h1) h2], hm⟩
    · exact (hB ch hb).elim
  · obtain ⟨_, _, h1, h2⟩ := hH c k hk
    rw [h1] at hb
    rw [hb]
    exact h2
  · obtain ⟨h0, _, h1, _⟩ := hH c k hk
    intro w1 w2 xs hw hm
    unfold Chunk.mem at hm ⊢
    rw [h0] at hm ⊢
    refine ⟨fun hc => ⟨(hm.1 hc).1, fun i u hu => ?_⟩, hm.2⟩
    have := (hm.1 hc).2 i u hu
    simp only [World.cell?] at this ⊢
    rw [hw _ ((h1 _).2 rfl)]
    exact this
end Go.SX
namespace Go.SX
theorem joined_of1 {P : Program} {f : FuncId} {fn : Func} {s : ChangeSpec} {c : OpenClaim}
    (a1 : c.wf (OpenSpec.ofChange s) = true) (a2 : laidOutB P = true) (a3 : mapsRowed P = true) (a4 : fn.params.all (P.readableRec ·) = true) (a5 : namedTie P c.named s.vars = true)
    (a6 : ((c.stops == []) && (P.stops == []) && (c.knobs == []) && (P.stopKnobs == [])) = true)
    (h2 : (c.inPlace == P.inPlace f) = true) (h3 : (c.unfollowed == P.unfollowed f) = true) (h4 : (c.recurses == P.recurses f) = true) (h5 : (c.named == P.varsNamed f) = true)
    (b1 : (c.maps == (fn.params.toList ++ s.plain.varTypes P).any (P.mapsRec ·)) = true) (b2 : (c.ifaces == (fn.params.toList ++ s.plain.varTypes P).any (P.ifacesRec ·)) = true) (b3 : (c.mapsOut == P.mapsAmong fn.resultTypes.toList) = true)
    (b4 : (c.loops == (fn.params.toList ++ s.plain.varTypes P).any (P.loopsFrom ·)) = true) (b5 : (c.wideKeys == (fn.params.toList ++ s.plain.varTypes P ++ fn.resultTypes.toList).any (P.wideKeysFrom ·)) = true)
    (b6 : s.vars.all (P.varReadable ·) = true) (b7 : fn.resultTypes.all (fun t => P.readableRec t && decide (t < P.types.size)) = true) (b8 : (c.ifacesOut == fn.resultTypes.toList.any (P.ifacesRec ·)) = true) (b9 : (c.loopsOut == fn.resultTypes.toList.any (P.loopsFrom ·)) = true) (b10 : (c.plainKeys == P.plainKeys) = true) (b11 : c.shortTexts.isNone = true)
    (d1 : P.stopsHeard = true) (d2 : P.mayEnter = true) (d3 : (c.lifted == P.liftsFinal) = true) (d4 : (P.make == some c.make) = true) (d5 : (c.kinds == (if c.domain.isEmpty then [] else fn.params.toList.map fun t => match P.underlying t with | some (.int k) => some k | _ => none)) = true) (d6 : (c.pinned == c.pinnedBy) = true)
    (d7 : (c.veiled == (fn.params.toList ++ s.plain.varTypes P ++ fn.resultTypes.toList).any (P.veiledRec ·)) = true) (d8 : c.veiledFits P fn.params.toList (fn.params.toList ++ s.plain.varTypes P ++ fn.resultTypes.toList) = true) :
    joinedFacts P f fn s c = true := by
  unfold joinedFacts
  simp only [Bool.and_eq_true] at a6 ⊢
  simp only [a1, a2, a3, a4, a5, a6, h2, h3, h4, h5, b1, b2, b3, b4, b5, b6, b7, b8, b9, b10, b11, d1, d2, d3, d4, d6, d7, d8, and_self, true_and, and_true]
  exact d5
end Go.SX
