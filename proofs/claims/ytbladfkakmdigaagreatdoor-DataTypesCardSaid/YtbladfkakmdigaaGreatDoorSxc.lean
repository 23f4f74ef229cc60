/-
  DataTypes: whatever the type's number and the text, the statement's function hands back true.
  This text: a symbolic executor that is proved sound over the model, and what it needs.
-/
import Derived.Test.YtbladfkakmdigaaGreatDoorSxb
import Derived.ProofKit
import Derived.OpenShut
import Derived.OpenVars
import Derived.Deep.DeepHandedRow
import Derived.Lib.LaidTab
set_option linter.unusedVariables false
set_option linter.unusedSimpArgs false
set_option linter.unnecessarySimpa false
set_option linter.unusedSimpArgs false
set_option linter.unusedVariables false
namespace Go.SX
section
variable {X : Ctx} {o : Oper} {st : St} {k : Actn → Prop}
/-- Two interface values of one integer type. -/
theorem x_eq_ifc_int (hT : X.ok) (op : BinOp) (hop : op = .eql ∨ op = .neq) {t ty a : TypeId} {x z : Operand} {y ya : Ty} {q : IntKind} {m n : Int} (ho : o.op = .binOp op t x z ty) (hx : evA st.fr x = .v (.iface a (.int q m))) (hz : evA st.fr z = .v (.iface a (.int q n)))
    (hy : getO X.T t = some y) (hyd : y.d = .ifc) (ha : getO X.T a = some ya) (had : ya.d = .int q) (hc : (X.P.info? a).map (·.comparable) = some true) (h : k (aP o st.fr [x, z] (.v (.bool (eqR op (m == n)))))) : ActN X o st k := by
  refine x_bin ho hx hz (fun w => ?_) h
  obtain ⟨⟨dd, q1, q2⟩, _⟩ := hT t y hy
  rw [hyd] at q2
  cases dd <;> simp only [TD.is] at q2
  obtain ⟨⟨da, p1, p2⟩, _⟩ := hT a ya ha
  rw [had] at p2
  cases da <;> simp only [TD.is] at p2
  subst p2
  have hg : eqGuard op t x z (.iface a (.int q m)) (.iface a (.int q n)) = pure () := by rcases hop with rfl | rfl <;> rfl
  rw [hg]
  simp only [Sem.run_bind, Sem.run_pure, Result.andThen_ok]
  refine run_eqR hop ?_ rfl rfl
  obtain ⟨inf, hi, hci⟩ : ∃ inf, X.P.info? a = some inf ∧ inf.comparable = true := by
    cases hinf : X.P.info? a with
    | none => simp [hinf] at hc
    | some inf => exact ⟨inf, rfl, by simpa [hinf] using hc⟩
  rw [equal_succ]
  have e2 : (9999 : Nat) = 9998 + 1 := rfl
  rw [e2]
  generalize 9998 = dep
  simp [Op.equalIn, run_underlying q1, run_underlying p1, typeInfo, hi, hci]
/-- An interface value that is told in part is not nil. -/
theorem x_ne_ifc (hT : X.ok) (op : BinOp) (hop : op = .eql ∨ op = .neq) {t ty q : TypeId} {x : Operand} {y : Ty} {a : AV} (ho : o.op = .binOp op t x (.const .nilIface) ty) (hx : evA st.fr x = .ifc q a)
    (hy : getO X.T t = some y) (hyd : y.d = .ifc) (h : k (aP o st.fr [x, .const .nilIface] (.v (.bool (eqR op false))))) : ActN X o st k := by
  refine ActN.p (fun vs ez ρ ac w hr => ?_) h
  have g1 := hr x (by simp)
  rw [hx] at g1
  simp only [rel] at g1
  obtain ⟨u, hu, _⟩ := g1
  obtain ⟨⟨dd, q1, q2⟩, _⟩ := hT t y hy
  rw [hyd] at q2
  cases dd <;> simp only [TD.is] at q2
  refine ⟨.bool (eqR op false), ?_, by simp [rel]⟩
  have hg : eqGuard op t x (.const .nilIface) (.iface q u) .nilIface = pure () := by rcases hop with rfl | rfl <;> rfl
  have hb : (binOp op t (.iface q u) .nilIface).run X.P w = .ok (.bool (eqR op false)) w := by
    refine run_eqR hop ?_ rfl rfl
    rw [equal_succ]
    generalize 9999 = dep
    simp [Op.equalIn, run_underlying q1]
  have hz : ac.eval (.const .nilIface) = .nilIface := rfl
  simp only [execOp, ho, hu, hz, Sem.run_bind, hg, hb, Result.andThen_ok, Sem.run_pure]
end
/-- What is told without chunks. -/
def forget : AV → AV
  | .ref .. => .dead
  | .sl .. => .dead
  | .agg l => .agg (forgetL l)
  | .fn f l => .fn f (forgetL l)
  | .ifc t a => .ifc t (forget a)
  | .tup l => .tup (forgetL l)
  | .v x => .v x
  | .dead => .dead
where
  forgetL : List AV → List AV
    | [] => []
    | a :: l => forget a :: forgetL l
mutual
theorem rel_forget {vs ez ρ vs' ez' ρ'} : ∀ (a : AV) (u : Value), rel vs ez ρ a u → rel vs' ez' ρ' (forget a) u
  | .v x, u, h => by simpa [forget, rel] using h
  | .ref .., _, _ => by simp [forget, rel]
  | .sl .., _, _ => by simp [forget, rel]
  | .agg l, u, h => by
    simp only [rel] at h
    obtain ⟨xs, h1, h2⟩ := h
    simp only [forget, rel]
    exact ⟨xs, h1, relL_forget l _ h2⟩
  | .fn f l, u, h => by
    simp only [rel] at h
    obtain ⟨xs, h1, h2⟩ := h
    simp only [forget, rel]
    exact ⟨xs, h1, relL_forget l _ h2⟩
  | .ifc t a, u, h => by
    simp only [rel] at h
    obtain ⟨x, h1, h2⟩ := h
    simp only [forget, rel]
    exact ⟨x, h1, rel_forget a x h2⟩
  | .tup l, u, h => by
    simp only [rel] at h
    obtain ⟨xs, h1, h2⟩ := h
    simp only [forget, rel]
    exact ⟨xs, h1, relL_forget l _ h2⟩
  | .dead, _, _ => by simp [forget, rel]
theorem relL_forget {vs ez ρ vs' ez' ρ'} : ∀ (l : List AV) (us : List Value), relL vs ez ρ l us → relL vs' ez' ρ' (forget.forgetL l) us
  | [], [], _ => by simp [forget.forgetL, relL]
  | [], _ :: _, h => by simp [relL] at h
  | _ :: _, [], h => by simp [relL] at h
  | a :: l, u :: us, h => by
    simp only [relL] at h
    simp only [forget.forgetL, relL]
    exact ⟨rel_forget a u h.1, relL_forget l us h.2⟩
end
/-- A call whose answer is told in part, walked step by step. -/
theorem RetA.tj {P : Program} {T : List (Option Ty)} {I : World → Prop} {w : World} (hI : ∀ w', Mod w w' (fun _ => False) → I w') {f : FuncId} {fn : Func} {c : Code} {args : List Value} {R : AV} (hT : Ctx.ok ⟨P, T, 0, I⟩)
    (hf : P.funcs[f]? = some fn) (hnm : (fn.name == "runtime.NumGoroutine") = false) (hb : fn.body = some c)
    (h : padK (args.map .v) fn.ntmps fun fr => TJ ⟨P, T, 0, I⟩ c (endQ ⟨P, T, 0, I⟩ fn.results.toList fun r _ => forget r = R) ⟨fr, []⟩) : RetA P f args w R := by
  rw [padK_eq] at h
  obtain ⟨e, s, h1, h2⟩ := h
  have fin : (e = .normal ∨ e = .ret) ∧ ∀ E a w ρ, Rel ⟨P, T, 0, I⟩ E s a w ρ → ∃ v, (results fn a.tmps).run P w = .ok v w ∧ ∀ vs ez ρ, rel vs ez ρ R v := by
    have key : (resK (qNA ⟨P, T, 0, I⟩) T s fn.results.toList fun r => forget r = R) → ∀ E a w ρ, Rel ⟨P, T, 0, I⟩ E s a w ρ → ∃ v, (results fn a.tmps).run P w = .ok v w ∧ ∀ vs ez ρ, rel vs ez ρ R v := by
      intro h2 E a w ρ hr
      obtain ⟨av, h3, h4⟩ := resK_ok (X := ⟨P, T, 0, I⟩) (H := fun p => p) (qNA_ok _) hT h2
      obtain ⟨u, h5, h6⟩ := h4 E a w ρ hr
      exact ⟨u, h5, fun vs ez ρ' => h3 ▸ rel_forget _ _ h6⟩
    cases e with
    | normal => exact ⟨.inl rfl, key h2⟩
    | ret => exact ⟨.inr rfl, key h2⟩
    | _ => exact h2.elim
  refine ⟨⟨fn, hf, hnm, by simp [hb]⟩, ?_⟩
  refine calls_of_wp hf hb (wp_mono (h1.out ⟨w, fun _ => False, Base.no 0, hI, []⟩ _ w (fun _ => ⟨0, 0, none, 0, fun _ => False⟩) ⟨?_, rfl, ?_, ?_⟩) ?_)
  · have hdead : ∀ (vs : Nat → Option Nat) (ez : Nat → Nat) (ρ : Nat → Loc) (n : Nat), relL vs ez ρ (List.replicate n .dead) (List.replicate n undef) := by
      intro vs ez ρ n
      induction n with
      | zero => simp [relL]
      | succ n ih => simp only [List.replicate_succ, relL]; exact ⟨by simp [rel], ih⟩
    have := relL_append _ _ _ _ (relL_vals (vs := St.vs ⟨args.map .v ++ List.replicate (fn.ntmps - (args.map AV.v).length) .dead, []⟩) (ez := St.ez ⟨args.map .v ++ List.replicate (fn.ntmps - (args.map AV.v).length) .dead, []⟩) (ρ := fun _ => ⟨0, 0, none, 0, fun _ => False⟩) args) (hdead _ _ _ (fn.ntmps - (args.map AV.v).length))
    simpa using this
  · refine ⟨fun c k hk => ?_, fun c k b hk => ?_, fun c k b hk => ?_, fun c k b hk => ?_, fun c k hk => ?_, fun c d k l b hk => ?_, Mod.refl _ _⟩ <;> simp [getO_nil] at hk
  · intro c v hv; cases hv
  · rintro e' a' w' ⟨s', ρ', ⟨p, q⟩, hr'⟩
    subst p
    subst q
    obtain ⟨v, g1, g2⟩ := fin.2 _ a' w' ρ' hr'
    have f1 : a'.defers = [] ∧ ∃ u, (results fn a'.tmps).run P w' = .ok u w' ∧ ∃ v, (Ending.returned u = .returned v ∧ (∀ vs ez ρ, rel vs ez ρ R v) ∧ Mod w w' fun _ => False) := ⟨hr'.df, v, g1, v, rfl, g2, hr'.heap.mod⟩
    rcases fin.1 with rfl | rfl
    · exact f1
    · exact f1
/-- Out of a contract of the shelf. -/
theorem Ret.shelf {P : Program} {f : FuncId} {fn : Func} {args : List Value} {w : World} {v : Value} (hf : P.funcs[f]? = some fn) (hnm : (fn.name == "runtime.NumGoroutine") = false) (hb : fn.body.isNone = false)
    (h : Calls P f args.toArray w fun e w' => e = .returned v ∧ RowKit.Below w.heap.size w w') : Ret P f args w v :=
  ⟨⟨fn, hf, hnm, hb⟩, h.mono fun e w' ⟨h1, h2⟩ => ⟨h1, Mod.of_below h2 _⟩⟩
theorem Ret.shelf0 {P : Program} {f : FuncId} {fn : Func} {args : List Value} {w : World} {v : Value} (hf : P.funcs[f]? = some fn) (hnm : (fn.name == "runtime.NumGoroutine") = false) (hb : fn.body.isNone = false)
    (h : Calls P f args.toArray w fun e w' => e = .returned v ∧ w' = w) : Ret P f args w v :=
  ⟨⟨fn, hf, hnm, hb⟩, h.mono fun e w' ⟨h1, h2⟩ => ⟨h1, by subst h2; exact Mod.refl _ _⟩⟩
end Go.SX
set_option linter.unusedSimpArgs false
set_option linter.unusedVariables false
namespace Go.SX
/-! ### The reckoner with builders, put-off calls, and answers that are told in part -/
theorem isIfcD_eq {d : TD} (h : isIfcD d = true) : d = .ifc := by cases d <;> first | rfl | cases h
def isOwnK : CK → Bool
  | .own => true
  | _ => false
theorem isOwnK_eq {c : CK} (h : isOwnK c = true) : c = .own := by cases c <;> first | rfl | cases h
def isRowK : CK → Bool
  | .row => true
  | _ => false
theorem isRowK_eq {c : CK} (h : isRowK c = true) : c = .row := by cases c <;> first | rfl | cases h
def inByte : List Int → Bool
  | [] => true
  | n :: l => match n with
    | .ofNat m => match Nat.ble m 255 with
      | true => inByte l
      | false => false
    | .negSucc _ => false
theorem inByte_eq : ∀ {l : List Int}, inByte l = true → ∀ m, m ∈ l → 0 ≤ m ∧ m ≤ 255
  | [], _, m, h => by simp at h
  | n :: l, h, m, hm => by
    unfold inByte at h
    split at h
    · rename_i q
      split at h
      · rename_i hq
        have := Nat.le_of_ble_eq_true hq
        rcases List.mem_cons.1 hm with rfl | hm
        · constructor
          · exact Int.natCast_nonneg _
          · show ((q : Nat) : Int) ≤ 255
            omega
        · exact inByte_eq h m hm
      · cases h
    · cases h
def xBld {R : Type} (M : NA R) (T : List (Option Ty)) (U : Nat) (o : Oper) (st : St) (k : Actn → R) (els : R) : R :=
  match o.op with
  | .convert s t x => match Nat.beq t U with
    | true => match evA st.fr x with
      | .ref c kv off => match getO st.ch c, getO T s with
        | some ck, some ys => match ys.d with
          | .ptr e => match getO T e with
            | some ye => chk M (Nat.beq kv ck.ver && isOwnK ck.kind && !(Nat.beq ye.size 0) && Nat.ble (off + 1) ck.cells.length) (k (aR o st.fr [x] c ck (.ref c kv off)))
            | none => M.no
          | _ => M.no
        | _, _ => M.no
      | _ => M.no
    | false => match Nat.beq s U with
      | true => match evA st.fr x with
        | .ref c kv 0 => match getO st.ch c, getO T t with
          | some ck, some yt => match yt.d with
            | .ptr e => match getO T e with
              | some ye => chk M (Nat.beq kv ck.ver && isOwnK ck.kind && !(Nat.beq ye.size 0) && Nat.beq ck.ty e && Nat.ble ye.size ck.cells.length) (k (aR o st.fr [x] c ck (.ref c kv 0)))
              | none => M.no
            | _ => M.no
          | _, _ => M.no
        | _ => M.no
      | false => els
  | .call { callee := .builtin .unsafeSliceData, args, .. } => match args.toList with
    | [x] => match evA st.fr x with
      | .sl c kv 0 n => match getO st.ch c with
        | some ck => chk M (Nat.beq kv ck.ver && isRowK ck.kind && Nat.ble 1 n) (k (aR o st.fr [x] c ck (.ref c kv 0)))
        | none => M.no
      | .v (.slice none _ _) => k (aP o st.fr [x] (.v (.pointer none)))
      | _ => M.no
    | _ => M.no
  | .call { callee := .builtin .unsafeString, args, argTypes } => match args.toList, argTypes.toList with
    | [x, y], [pt, it] => match evA st.fr x, evA st.fr y with
      | .v (.pointer p), .v (.int .i64 (.ofNat 0)) => k (aP o st.fr [x, y] (.v (.string ByteArray.empty)))
      | .ref d kd 0, .v (.int .i64 (.ofNat n)) => match getO st.ch d, getO T pt with
        | some dk, some yp => match yp.d with
          | .ptr e => match getO T e with
            | some ye => match bytL dk.cells with
              | some ns => chk M (Nat.beq kd dk.ver && isRowK dk.kind && Nat.beq ye.size 1 && Nat.beq dk.ty e && Nat.beq ns.length n && Nat.ble 1 n && Nat.ble n 9223372036854775807 && inByte ns) (M.byt ns fun u => k ⟨rds st.fr [x, y], [(d, some dk)], o.dst, .v (.string u), [(d, ⟨.tab noT, e, 1, dk.ver + 1, []⟩)]⟩)
              | none => M.no
            | none => M.no
          | _ => M.no
        | _, _ => M.no
      | _, _ => M.no
    | _, _ => M.no
  | .binOp op t x z ty => match evA st.fr x with
    | .ref c kv off => match op, evA st.fr z with
      | .neq, .ref c' kv' off' => match getO st.ch c, getO T t with
        | some ck, some y => match y.d with
          | .ptr e => match getO T e with
            | some ye => chk M (Nat.beq c c' && Nat.beq kv kv' && Nat.beq off off' && Nat.beq kv ck.ver && isOwnK ck.kind) (k (aR o st.fr [x, z] c ck (.v (.bool false))))
            | none => M.no
          | _ => M.no
        | _, _ => M.no
      | _, _ => els
    | .ifc q a => match z, getO T t with
      | .const .nilIface, some y => chk M (eqlike op && isIfcD y.d) (k (aP o st.fr [x, .const .nilIface] (.v (.bool (eqR op false)))))
      | _, _ => els
    | _ => els
  | _ => els
theorem xBld_ok {R : Type} {M : NA R} {H : R → Prop} {X : Ctx} (hM : M.Ok H X) (hT : X.ok) {U : Nat} (hU : X.P.underlying U = some .unsafePointer) {o : Oper} {st : St} {k : Actn → R} {els : R} (hels : H els → ActN X o st fun A => H (k A)) (h : H (xBld M X.T U o st k els)) : ActN X o st fun A => H (k A) := by
  unfold xBld at h
  split at h
  · rename_i s t x ho
    split at h
    · rename_i ht
      have ht := Nat.eq_of_beq_eq_true ht
      subst ht
      split at h
      · rename_i c kv off hx
        split at h
        · rename_i ck ys hc hys
          split at h
          · rename_i e hyd
            split at h
            · rename_i ye hye
              obtain ⟨h1, h⟩ := chk_eq hM h
              simp only [Bool.and_eq_true, Bool.not_eq_true'] at h1
              obtain ⟨⟨⟨a1, a2⟩, a3⟩, a4⟩ := h1
              exact x_to_unsafe hT ho hx hc (Nat.eq_of_beq_eq_true a1) (isOwnK_eq a2) hys hyd hye (fun e => by rw [e] at a3; cases a3) hU (Nat.le_of_ble_eq_true a4) h
            · exact (hM.no h).elim
          · exact (hM.no h).elim
        · exact (hM.no h).elim
      · exact (hM.no h).elim
    · split at h
      · rename_i hs
        have hs := Nat.eq_of_beq_eq_true hs
        subst hs
        split at h
        · rename_i c kv hx
          split at h
          · rename_i ck yt hc hyt
            split at h
            · rename_i e hyd
              split at h
              · rename_i ye hye
                obtain ⟨h1, h⟩ := chk_eq hM h
                simp only [Bool.and_eq_true, Bool.not_eq_true'] at h1
                obtain ⟨⟨⟨⟨a1, a2⟩, a3⟩, a4⟩, a5⟩ := h1
                exact x_from_unsafe hT ho hx hc (Nat.eq_of_beq_eq_true a1) (isOwnK_eq a2) hyt hyd hye (fun e => by rw [e] at a3; cases a3) hU (Nat.eq_of_beq_eq_true a4) (Nat.le_of_ble_eq_true a5) h
              · exact (hM.no h).elim
            · exact (hM.no h).elim
          · exact (hM.no h).elim
        · exact (hM.no h).elim
      · exact hels h
  · rename_i args ts ho
    split at h
    · rename_i x ha
      have ho' : o.op = .call { callee := .builtin .unsafeSliceData, args := [x].toArray, argTypes := ts } := by rw [ho, ← ha]
      split at h
      · rename_i c kv n hx
        split at h
        · rename_i ck hc
          obtain ⟨h1, h⟩ := chk_eq hM h
          simp only [Bool.and_eq_true] at h1
          exact x_slice_data ho' hx hc (Nat.eq_of_beq_eq_true h1.1.1) (isRowK_eq h1.1.2) (Nat.le_of_ble_eq_true h1.2) h
        · exact (hM.no h).elim
      · rename_i hx
        exact x_slice_data_nil ho' hx h
      · exact (hM.no h).elim
    · exact (hM.no h).elim
  · rename_i args ts ho
    split at h
    · rename_i x y pt it ha hts
      have ho' : o.op = .call { callee := .builtin .unsafeString, args := [x, y].toArray, argTypes := #[pt, it] } := by
        rw [ho, ← ha]
        congr 2
        exact congrArg List.toArray hts
      split at h
      · rename_i p hx hy
        exact x_unsafe_string_nil ho' hx hy h
      · rename_i d kd n hx hy
        split at h
        · rename_i dk yp hc hyp
          split at h
          · rename_i e hyd
            split at h
            · rename_i ye hye
              split at h
              · rename_i ns hns
                obtain ⟨h1, h⟩ := chk_eq hM h
                simp only [Bool.and_eq_true] at h1
                obtain ⟨⟨⟨⟨⟨⟨⟨a1, a2⟩, a3⟩, a4⟩, a5⟩, a6⟩, a7⟩, a8⟩ := h1
                exact x_unsafe_string hT ho' hx hy hc (Nat.eq_of_beq_eq_true a1) (isRowK_eq a2) hyp hyd hye (Nat.eq_of_beq_eq_true a3) (Nat.eq_of_beq_eq_true a4) (bytL_eq hns) (Nat.eq_of_beq_eq_true a5) (Nat.le_of_ble_eq_true a6) (inByte_eq a8) (Nat.le_of_ble_eq_true a7) (hM.byt h)
              · exact (hM.no h).elim
            · exact (hM.no h).elim
          · exact (hM.no h).elim
        · exact (hM.no h).elim
      · exact (hM.no h).elim
    · exact (hM.no h).elim
  · rename_i op t x z ty ho
    split at h
    · rename_i c kv off hx
      split at h
      · rename_i c' kv' off' hz
        split at h
        · rename_i ck y hc hy
          split at h
          · rename_i e hyd
            split at h
            · rename_i ye hye
              obtain ⟨h1, h2⟩ := chk_eq hM h
              simp only [Bool.and_eq_true] at h1
              obtain ⟨⟨⟨⟨a1, a2⟩, a3⟩, a4⟩, a5⟩ := h1
              have a1 := Nat.eq_of_beq_eq_true a1
              have a2 := Nat.eq_of_beq_eq_true a2
              have a3 := Nat.eq_of_beq_eq_true a3
              subst a1 a2 a3
              exact x_eq_refs hT ho hx hz hc (Nat.eq_of_beq_eq_true a4) (isOwnK_eq a5) hy hyd hye h2
            · exact (hM.no h).elim
          · exact (hM.no h).elim
        · exact (hM.no h).elim
      · exact hels h
    · rename_i q a hx
      split at h
      · rename_i y hy
        obtain ⟨h1, h2⟩ := chk_eq hM h
        simp only [Bool.and_eq_true] at h1
        exact x_ne_ifc hT op (eqlike_eq h1.1) ho hx hy (isIfcD_eq h1.2) h2
      · exact hels h
    · exact hels h
  · exact hels h
def isZ8 : List Value → Bool
  | [.int .u8 (.ofNat 0)] => true
  | _ => false
theorem isZ8_eq {l : List Value} (h : isZ8 l = true) : l = [.int .u8 0] := by
  unfold isZ8 at h
  split at h
  · rfl
  · cases h
def xAppS {R : Type} (M : NA R) (T : List (Option Ty)) (o : Oper) (st : St) (k : Actn → R) (els : R) : R :=
  match o.op with
  | .call { callee := .builtin .append, args, argTypes } => match args.toList, argTypes.toList with
    | [s, x], [t, t2] => match evA st.fr x with
      | .v (.string u) => match getO T t, getO T t2 with
        | some y, some y2 => match y.d, y2.d with
          | .sl e, .str => match getO T e with
            | some ye => chk M (Nat.beq ye.size 1 && Nat.beq ye.bytes 1 && isZ8 ye.zero) (match evA st.fr s with
              | .sl c kv 0 n => match getO st.ch c with
                | some ck => chk M (isRowK ck.kind && Nat.beq ck.esz 1 && Nat.beq ck.ty e && Nat.beq ck.cells.length n && Nat.beq kv ck.ver) (M.need (n + u.size ≤ maxLen ∧ n + u.size ≤ 140737488355328) (sIntsK u.data.toList fun l => catK ck.cells l fun cells => M.nat (n + u.size) fun nm => M.nat (ck.ver + 1) fun v1 => k ⟨rds st.fr [s, x], [(c, some ck)], o.dst, .sl c v1 0 nm, [(c, ⟨.row, e, 1, v1, cells⟩)]⟩))
                | none => M.no
              | .v (.slice none 0 0) => match o.dst with
                | some d => M.ix d st.ch fun d => match getO st.ch d with
                  | none => M.need (u.size ≤ maxLen ∧ u.size ≤ 140737488355328) (sIntsK u.data.toList fun l => k ⟨rds st.fr [s, x], [(d, none)], o.dst, .sl d 0 0 u.size, [(d, ⟨.row, e, 1, 0, l⟩)]⟩)
                  | some _ => M.no
                | none => M.no
              | _ => M.no)
            | none => M.no
          | _, _ => M.no
        | _, _ => M.no
      | _ => els
    | _, _ => els
  | _ => els
theorem xAppS_ok {R : Type} {M : NA R} {H : R → Prop} {X : Ctx} (hM : M.Ok H X) (hT : X.ok) {o : Oper} {st : St} {k : Actn → R} {els : R} (hels : H els → ActN X o st fun A => H (k A)) (h : H (xAppS M X.T o st k els)) : ActN X o st fun A => H (k A) := by
  unfold xAppS at h
  split at h
  · rename_i args ts ho
    split at h
    · rename_i s x t t2 ha hts
      have ho' : o.op = .call { callee := .builtin .append, args := [s, x].toArray, argTypes := [t, t2].toArray } := by
        rw [ho, ← ha, ← hts]
      split at h
      · rename_i u hx
        split at h
        · rename_i y y2 hy hy2
          split at h
          · rename_i e hyd hy2d
            split at h
            · rename_i ye hye
              obtain ⟨h1, h⟩ := chk_eq hM h
              simp only [Bool.and_eq_true] at h1
              obtain ⟨⟨a1, a2⟩, a3⟩ := h1
              have a1 := Nat.eq_of_beq_eq_true a1
              have a2 := Nat.eq_of_beq_eq_true a2
              have a3 := isZ8_eq a3
              split at h
              · rename_i c kv n hs
                split at h
                · rename_i ck hc
                  obtain ⟨h2, h⟩ := chk_eq hM h
                  simp only [Bool.and_eq_true] at h2
                  obtain ⟨⟨⟨⟨b1, b2⟩, b3⟩, b4⟩, b5⟩ := h2
                  have b2 := Nat.eq_of_beq_eq_true b2
                  obtain ⟨h4, h⟩ := hM.need h
                  rw [sIntsK_byt, catK_eq] at h
                  have h := hM.nat (hM.nat h)
                  refine x_append_str (m := u.size) hT ho' hs hc (isRowK_eq b1) (Nat.eq_of_beq_eq_true b5) hy hyd hye (by rw [a1, b2]) (Nat.eq_of_beq_eq_true b3) (by omega) (by rw [a3, a1]; rfl) (by rw [b2, Nat.mul_one]; exact Nat.eq_of_beq_eq_true b4) hx hy2 hy2d a1 a2 a3 rfl h4.1 (by rw [a2, Nat.mul_one]; exact h4.2) ?_
                  rw [b2]
                  exact h
                · exact (hM.no h).elim
              · rename_i hs
                split at h
                · rename_i d' hd
                  obtain ⟨d, h⟩ := hM.ix h
                  split at h
                  · rename_i hc
                    obtain ⟨h4, h⟩ := hM.need h
                    rw [sIntsK_byt] at h
                    refine x_append_str_nil (m := u.size) (c0 := 0) hT ho' hs hc hy hyd hye (by omega) (by rw [a3, a1]; rfl) hx hy2 hy2d a1 a2 a3 rfl h4.1 (by rw [a2, Nat.mul_one]; exact h4.2) ?_
                    rw [a1]
                    exact h
                  · exact (hM.no h).elim
                · exact (hM.no h).elim
              · exact (hM.no h).elim
            · exact (hM.no h).elim
          · exact (hM.no h).elim
        · exact (hM.no h).elim
      · exact hels h
    · exact hels h
  · exact hels h
def kNoEscape : KSpec := fun args _ => match args with
  | [a] => some ([], a)
  | _ => none
theorem kNoEscape_ok {P : Program} {I : World → Prop} {f : FuncId} {fn : Func} (hf : P.funcs[f]? = some fn) (hn : (fn.name == "runtime.NumGoroutine") = false) (hb : fn.body.isNone = true) (hx : Extern.findNext fn = none) (he : Extern.find fn = some Extern.AbiNoEscape.same) : KOk P I f kNoEscape where
  fits := by
    intro args ch cin r h i q hq
    unfold kNoEscape at h
    split at h
    · cases h; simp at hq
    · cases h
  run := by
    intro args ch cin r h st' _ vals w ρ hv _ _ _ _
    unfold kNoEscape at h
    split at h
    · cases h
      match vals, hv with
      | [u], hv =>
        simp only [relL] at hv
        exact ⟨u, hv.1, .inl (run_extern hf hn hb hx he (Lib.run_noEscape w u))⟩
    · cases h
def kaK {R : Type} (Ka : Nat → List Value → Option AV) (o : Oper) (st : St) (cal : Operand) (xs : List Operand) (k : Actn → R) (els : R) : R :=
  match cal with
  | .func f => match vals (xs.map (evA st.fr)) with
    | some vs => match Ka f vs with
      | some r => k (aP o st.fr xs r)
      | none => els
    | none => els
  | _ => els
def bActD (Kd : Nat → Bool) (Ka : Nat → List Value → Option AV) (U : Nat) (Kt : Nat → Option KSpec) (G : Nat → Option (List Value)) (F : Nat → Option Func) (T : List (Option Ty)) (N : Nat) : Nat → Oper → St → (Actn → Bool) → Bool
  | 0 => fun _ _ _ => false
  | d + 1 => fun o st k => match o.op with
    | .call { callee := .value cal, args, .. } => kaK Ka o st cal args.toList k (inlD (bNA (bActD Kd Ka U Kt G F T N d)) Kd Kt F T N o st cal args.toList k)
    | _ => xBld (bNA (bActD Kd Ka U Kt G F T N d)) T U o st k (xAppS (bNA (bActD Kd Ka U Kt G F T N d)) T o st k (xtra (bNA (bActD Kd Ka U Kt G F T N d)) G T o st k))
theorem bActD_ok {P : Program} {T : List (Option Ty)} {I : World → Prop} (hT : Ctx.ok ⟨P, T, 0, I⟩) (hm : P.follows .mixedOrders = true) {F : Nat → Option Func} (hF : ∀ f fn, F f = some fn → P.funcs[f]? = some fn) {Kd : Nat → Bool} (hKd : ∀ f, Kd f = true → Quiet P f) {Ka : Nat → List Value → Option AV} (hKa : ∀ f vs R, Ka f vs = some R → ∀ w, I w → RetA P f vs w R) {U : Nat} (hU : P.underlying U = some .unsafePointer) {G : Nat → Option (List Value)} (hG : ∀ w, I w → ∀ g cells, G g = some cells → ∀ i u, cells[i]? = some u → w.cell? ⟨g, i, none⟩ = some u) {Kt : Nat → Option KSpec} (hKt : ∀ f sp, Kt f = some sp → KOk P I f sp) {N : Nat} : ∀ (d n : Nat) {o st k}, bActD Kd Ka U Kt G F T N d o st k = true → ActN ⟨P, T, n, I⟩ o st fun A => k A = true
  | 0, n, o, st, k, h => by simp [bActD] at h
  | d + 1, n, o, st, k, h => by
    have hT' : Ctx.ok ⟨P, T, n, I⟩ := hT
    have hM : ∀ n, (bNA (bActD Kd Ka U Kt G F T N d)).Ok (fun b => b = true) ⟨P, T, n, I⟩ := fun n => bNA_ok fun h => bActD_ok hT hm hF hKd hKa hU hG hKt d n h
    simp only [bActD] at h
    split at h
    · rename_i cal args ts ho
      have els := fun h => inlD_ok (X := ⟨P, T, n, I⟩) (H := fun b => b = true) hM hT' hm hF hKd hKt (xs := args.toList) (ts := ts) (N := N) (st := st) (k := k) (by rw [ho]) h
      unfold kaK at h
      split at h
      · rename_i f
        split at h
        · rename_i vs hvs
          split at h
          · rename_i r hr
            exact x_retA (X := ⟨P, T, n, I⟩) (xs := args.toList) (ts := ts) (by rw [ho]) hvs (fun w hw => hKa f vs r hr w hw) h
          · exact els h
        · exact els h
      · exact els h
    · exact xBld_ok (X := ⟨P, T, n, I⟩) (H := fun b => b = true) (hM n) hT' hU (fun h => xAppS_ok (X := ⟨P, T, n, I⟩) (H := fun b => b = true) (hM n) hT' (fun h => xtra_ok (X := ⟨P, T, n, I⟩) (H := fun b => b = true) (hM n) hT' hG h) h) h
/-- A call whose arguments are known, reckoned by the kernel. -/
def runBD (Kd : Nat → Bool) (Ka : Nat → List Value → Option AV) (U : Nat) (Kt : Nat → Option KSpec) (G : Nat → Option (List Value)) (F : Nat → Option Func) (T : List (Option Ty)) (N d : Nat) (fn : Func) (c : Code) (args : List AV) (want : AV → Bool) : Bool :=
  padK args fn.ntmps fun fr => XC (bNA (bActD Kd Ka U Kt G F T N d)) T N c ⟨fr, []⟩ fun e s => match e with
    | .normal => resK (bNA (bActD Kd Ka U Kt G F T N d)) T s fn.results.toList want
    | .ret => resK (bNA (bActD Kd Ka U Kt G F T N d)) T s fn.results.toList want
    | _ => false
theorem Ret.runBD {P : Program} {T : List (Option Ty)} {I : World → Prop} {w : World} (hI : ∀ w', Mod w w' (fun _ => False) → I w') {f : FuncId} {fn : Func} {c : Code} {args : List Value} {v : Value} {want : AV → Bool} (F : Nat → Option Func) (G : Nat → Option (List Value)) (hG : ∀ w, I w → ∀ g cells, G g = some cells → ∀ i u, cells[i]? = some u → w.cell? ⟨g, i, none⟩ = some u) (Kd : Nat → Bool) (hKd : ∀ f, Kd f = true → Quiet P f) (Ka : Nat → List Value → Option AV) (hKa : ∀ f vs R, Ka f vs = some R → ∀ w, I w → RetA P f vs w R) (U : Nat) (hU : P.underlying U = some .unsafePointer) (Kt : Nat → Option KSpec) (hKt : ∀ f sp, Kt f = some sp → KOk P I f sp) (N d : Nat) (hT : Ctx.ok ⟨P, T, 0, I⟩) (hm : P.follows .mixedOrders = true) (hF : ∀ f fn, F f = some fn → P.funcs[f]? = some fn)
    (hf : P.funcs[f]? = some fn) (hnm : (fn.name == "runtime.NumGoroutine") = false) (hb : fn.body = some c) (h : SX.runBD Kd Ka U Kt G F T N d fn c (args.map .v) want = true) (hw : ∀ a, want a = true → a = .v v) : Ret P f args w v := by
  unfold SX.runBD at h
  rw [padK_eq] at h
  have hM : (bNA (bActD Kd Ka U Kt G F T N d)).Ok (fun b => b = true) ⟨P, T, 0, I⟩ := bNA_ok fun h => bActD_ok hT hm hF hKd hKa hU hG hKt d 0 h
  obtain ⟨e, s, h1, h2⟩ := XC_ok hM hT hm c _ _ h
  have fin : (e = .normal ∨ e = .ret) ∧ ∀ E a w ρ, Rel ⟨P, T, 0, I⟩ E s a w ρ → (results fn a.tmps).run P w = .ok v w := by
    have key : resK (bNA (bActD Kd Ka U Kt G F T N d)) T s fn.results.toList want = true → ∀ E a w ρ, Rel ⟨P, T, 0, I⟩ E s a w ρ → (results fn a.tmps).run P w = .ok v w := by
      intro h2 E a w ρ hr
      obtain ⟨av, h3, h4⟩ := resK_ok (X := ⟨P, T, 0, I⟩) hM hT h2
      have := hw av h3
      subst this
      obtain ⟨u, h5, h6⟩ := h4 E a w ρ hr
      simp only [rel] at h6
      rw [← h6]
      exact h5
    split at h2
    · exact ⟨.inl rfl, key h2⟩
    · exact ⟨.inr rfl, key h2⟩
    · cases h2
  refine ⟨⟨fn, hf, hnm, by simp [hb]⟩, ?_⟩
  have hC : Calls P f args.toArray w fun e w' => e = .returned v ∧ Mod w w' fun _ => False := by
    refine calls_of_wp hf hb (wp_mono (h1.out ⟨w, fun _ => False, Base.no 0, hI, []⟩ _ w (fun _ => ⟨0, 0, none, 0, fun _ => False⟩) ⟨?_, rfl, ?_, ?_⟩) ?_)
    · have hdead : ∀ (vs : Nat → Option Nat) (ez : Nat → Nat) (ρ : Nat → Loc) (n : Nat), relL vs ez ρ (List.replicate n .dead) (List.replicate n undef) := by
        intro vs ez ρ n
        induction n with
        | zero => simp [relL]
        | succ n ih => simp only [List.replicate_succ, relL]; exact ⟨by simp [rel], ih⟩
      have := relL_append _ _ _ _ (relL_vals (vs := St.vs ⟨args.map .v ++ List.replicate (fn.ntmps - (args.map AV.v).length) .dead, []⟩) (ez := St.ez ⟨args.map .v ++ List.replicate (fn.ntmps - (args.map AV.v).length) .dead, []⟩) (ρ := fun _ => ⟨0, 0, none, 0, fun _ => False⟩) args) (hdead _ _ _ (fn.ntmps - (args.map AV.v).length))
      simpa using this
    · refine ⟨fun c k hk => ?_, fun c k b hk => ?_, fun c k b hk => ?_, fun c k b hk => ?_, fun c k hk => ?_, fun c d k l b hk => ?_, Mod.refl _ _⟩ <;> simp [getO_nil] at hk
    · intro c v hv; cases hv
    · rintro e' a' w' ⟨s', ρ', ⟨p, q⟩, hr'⟩
      subst p
      subst q
      have f1 : a'.defers = [] ∧ ∃ u, (results fn a'.tmps).run P w' = .ok u w' ∧ (Ending.returned u = .returned v ∧ Mod w w' fun _ => False) := ⟨hr'.df, v, fin.2 _ a' w' ρ' hr', rfl, hr'.heap.mod⟩
      rcases fin.1 with rfl | rfl
      · exact f1
      · exact f1
  exact hC
/-- What the kernel is asked. -/
def runFD (Kd : Nat → Bool) (Ka : Nat → List Value → Option AV) (U : Nat) (Kt : Nat → Option KSpec) (G : Nat → Option (List Value)) (F : Nat → Option Func) (T : List (Option Ty)) (N d : Nat) (fn : Func) (args : List AV) (want : AV → Bool) : Bool :=
  match fn.body with
  | some c => runBD Kd Ka U Kt G F T N d fn c args want
  | none => false
end Go.SX
set_option linter.unusedSimpArgs false
set_option linter.unusedVariables false
namespace Go.SX
/-! ### A part of memory that is told by a relation -/
section
variable {X : Ctx} {o : Oper} {st : St} {k : Actn → Prop}
theorem x_load_tab (hT : X.ok) {t : TypeId} {x : Operand} {c b off : Nat} {ck : Chunk} {F : Nat → (Nat → Prop) → World → Prop} {y : Ty} {us : List Value} (ho : o.op = .load t x) (hx : evA st.fr x = .v (.pointer (some ⟨b, off, none⟩))) (hc : getO st.ch c = some ck) (hk : ck.kind = .tab F)
    (hy : getO X.T t = some y) (hz : aggd y = false → y.size = 1) (hl : us.length = y.size) (hF : ∀ bl D w, F bl D w → ∀ i u, us[i]? = some u → w.cell? ⟨b, off + i, none⟩ = some u) (h : k (aR o st.fr [x] c ck (.v (mkVal y us)))) : ActN X o st k := by
  refine ActN.r hc (fun vs ez ρ a w ys hr hvs hez hcs hm => ?_) h
  have g1 := hr x (by simp)
  rw [hx] at g1
  simp only [rel] at g1
  unfold Chunk.mem at hm
  rw [hk] at hm
  have hload := (hT t y hy).run_load (w := w) ⟨b, off, none⟩ us hl hz (fun i u hu => by
    rw [add_none]
    exact hF _ _ _ hm.1.1 i u hu)
  exact ⟨mkVal y us, by simp [execOp, ho, g1, Instr.loadAt, Instr.sureAddr, hload, mkVal], by simp [rel]⟩

theorem run_store_one {P : Program} {w : World} {t : TypeId} {y : Ty} (hy : TyOk P t y) (hs : y.size = 1) {b off : Nat} {u v : Value} (hu : u.oneCell' = true) (hcs : u.cells.toList = [u]) (hc : w.cell? ⟨b, off, none⟩ = some v) (hf : w.frozen? ⟨b, off, none⟩ = false) :
    (storeVar t ⟨b, off, none⟩ u).run P w = .ok () (w.setCell ⟨b, off, none⟩ u) := by
  have hsz : u.cells.size = y.size := by rw [hs]; simpa using congrArg List.length hcs
  simp [storeVar, hy.run_size, hsz, hcs, storeCells, add_none, run_store P w _ u _ hu, hc, hf]

theorem x_store_tab (hT : X.ok) {t : TypeId} {x z : Operand} {c b off : Nat} {ck : Chunk} {F F' : Nat → (Nat → Prop) → World → Prop} {y : Ty} {u : Value} (ho : o.op = .store t x z) (hd : o.dst = none) (hx : evA st.fr x = .v (.pointer (some ⟨b, off, none⟩))) (hz : evA st.fr z = .v u)
    (hc : getO st.ch c = some ck) (hk : ck.kind = .tab F) (hy : getO X.T t = some y) (hs : y.size = 1) (hu : u.oneCell' = true) (hcs : u.cells.toList = [u])
    (hF : ∀ bl D w, F bl D w → D b ∧ (∃ v, w.cell? ⟨b, off, none⟩ = some v) ∧ w.frozen? ⟨b, off, none⟩ = false ∧ F' bl D (w.setCell ⟨b, off, none⟩ u)) (hst : StabT F')
    (h : k (aW o st.fr [x, z] c ck { ck with kind := .tab F' } .dead)) : ActN X o st k := by
  have hko : ck.owned = true := by simp [Chunk.owned, hk, CK.owned]
  refine ⟨_, LS.mem rfl fun st' E a w ρ hf hr => ?_, ⟨rds_fits st.fr st.ch [x, z], by simp [aW, hc]⟩, h⟩
  have hc' : getO st'.ch c = some ck := hf.c c (some ck) (by simp [aW])
  have g1 := hr.ev x
  have gz := hr.ev z
  rw [fits_ev hf (fr := st.fr) (x := x) (rds_mem (by simp)), hx] at g1
  rw [fits_ev hf (fr := st.fr) (x := z) (rds_mem (by simp)), hz] at gz
  simp only [rel] at g1 gz
  obtain ⟨ys, gy1, gy2⟩ := hr.heap.ok c ck hc'
  unfold Chunk.mem at gy2
  rw [hk] at gy2
  obtain ⟨f1, ⟨v, f2⟩, f3, f4⟩ := hF _ _ _ gy2.1.1
  have hch : ((aW o st.fr [x, z] c ck { ck with kind := .tab F' } .dead).app st').ch = setO st'.ch c { ck with kind := .tab F' } := by simp [aW, Actn.app, setAll]
  have hup : Up st'.vs ((aW o st.fr [x, z] c ck { ck with kind := .tab F' } .dead).app st').vs st'.ez ((aW o st.fr [x, z] c ck { ck with kind := .tab F' } .dead).app st').ez ρ ρ := by
    refine Up.of_eq fun d => ?_
    rw [hch]
    by_cases e : d = c
    · subst e; rw [getO_set_same, hc']; rfl
    · rw [getO_set_ne _ _ _ _ e]
  refine ⟨undef, w.setCell ⟨b, off, none⟩ u, ρ, .inr ⟨?_, hd⟩, hup, ?_, by simp [aW, rel]⟩
  · simp [execOp, ho, g1, gz, Instr.storeAt, Instr.sureAddr, run_store_one (hT t y hy) hs hu hcs f2 f3]
  · refine hr.heap.step (· = c) _ _ ρ (Mod.setCell w ⟨b, off, none⟩ u _ ⟨c, ck, rfl, hc', hko, f1⟩) ?_ hup ?_ ?_ ?_ ?_ ?_ ?_
    · intro d hd
      rw [hch]
      exact ⟨getO_set_ne _ _ _ _ hd, rfl⟩
    · rintro d k' rfl hk'
      rw [hch, getO_set_same] at hk'
      cases hk'
      exact ⟨ys, relL_up hup _ _ gy1, ⟨f4, gy2.1.2⟩, hst⟩
    · rintro d k' b' rfl hk' hb
      rw [hch, getO_set_same] at hk'
      have := hr.heap.lt d ck b' hc' hb
      simpa using this
    · rintro d k' b' rfl hk' ho' hb
      exact hr.heap.own d ck b' hc' hko hb
    · rintro d k' b' rfl hk' hb
      rw [hch, getO_set_same] at hk'
      cases hk'
      simp [Chunk.blk] at hb
    · rintro d k' rfl hk'
      rw [hch, getO_set_same] at hk'
      cases hk'
      intro w1 w2 xs hw hm
      exact ⟨⟨hm.2 _ _ _ _ hw hm.1.1, hm.1.2⟩, hm.2⟩
    · rintro d e k' l' b' rfl hk' hl' ho' hb hb'
      by_cases he : e = d
      · exact he.symm
      · rw [hch, getO_set_ne _ _ _ _ he] at hl'
        exact hr.heap.sep d e ck l' b' hc' hl' hko hb hb'

/-- A pointer to a new variable is stored into the part: the variable is of it then. -/
theorem x_store_tab_ref (hT : X.ok) {t : TypeId} {x z : Operand} {c d b off v2 ty2 es2 : Nat} {ck : Chunk} {F F' : Nat → (Nat → Prop) → World → Prop} {y : Ty} {us : List Value} (ho : o.op = .store t x z) (hd : o.dst = none) (hx : evA st.fr x = .v (.pointer (some ⟨b, off, none⟩))) (hz : evA st.fr z = .ref d v2 0)
    (hc : getO st.ch c = some ck) (hk : ck.kind = .tab F) (hc2 : getO st.ch d = some ⟨.own, ty2, es2, v2, us.map .v⟩) (hne : c ≠ d) (hy : getO X.T t = some y) (hs : y.size = 1)
    (hF : ∀ bl D w nb, F bl D w → ¬ D nb → (∀ i u, us[i]? = some u → w.cell? ⟨nb, i, none⟩ = some u) → (∀ i, i < us.length → w.frozen? ⟨nb, i, none⟩ = false) →
      D b ∧ (∃ v, w.cell? ⟨b, off, none⟩ = some v) ∧ w.frozen? ⟨b, off, none⟩ = false ∧ F' bl (fun e => D e ∨ e = nb) (w.setCell ⟨b, off, none⟩ (.pointer (some ⟨nb, 0, none⟩)))) (hst : StabT F')
    (h : k ⟨rds st.fr [x, z], [(c, some ck), (d, some ⟨.own, ty2, es2, v2, us.map .v⟩)], o.dst, .dead, [(c, ⟨.tab F', ck.ty, ck.esz, ck.ver + 1, []⟩), (d, ⟨.gone, ty2, es2, v2 + 1, []⟩)]⟩) : ActN X o st k := by
  have hko : ck.owned = true := by simp [Chunk.owned, hk, CK.owned]
  refine ⟨_, LS.mem rfl fun st' E a w ρ hf hr => ?_, ⟨rds_fits st.fr st.ch [x, z], fun i q hq => by
    simp only [List.mem_cons, Prod.mk.injEq, List.mem_nil_iff, or_false] at hq
    rcases hq with ⟨rfl, rfl⟩ | ⟨rfl, rfl⟩
    · exact hc
    · exact hc2⟩, h⟩
  have hc' : getO st'.ch c = some ck := hf.c c _ (by simp)
  have hd' : getO st'.ch d = some ⟨.own, ty2, es2, v2, us.map .v⟩ := hf.c d _ (by simp)
  have g1 := hr.ev x
  have gz := hr.ev z
  rw [fits_ev hf (fr := st.fr) (x := x) (rds_mem (by simp)), hx] at g1
  rw [fits_ev hf (fr := st.fr) (x := z) (rds_mem (by simp)), hz] at gz
  simp only [rel] at g1 gz
  obtain ⟨cur, gz1, gz2, gz3, _⟩ := gz
  have hcur : cur = v2 := by simp [St.vs, hd'] at gz1; exact gz1.symm
  have gz4 := gz3 hcur.symm
  obtain ⟨ys, gy1, gy2⟩ := hr.heap.ok c ck hc'
  unfold Chunk.mem at gy2
  rw [hk] at gy2
  obtain ⟨ys2, gd1, gd2⟩ := hr.heap.ok d _ hd'
  have hys2 : ys2 = us := relL_of_vals us ys2 gd1
  subst hys2
  obtain ⟨m1, m2, m3, m4⟩ := gd2
  rw [m1] at gz4
  have hdom2 : (ρ d).dom (ρ d).blk := hr.heap.blk d _ _ hd' rfl
  have hnb : ¬ (ρ c).dom (ρ d).blk := fun hx => hne (hr.heap.sep c d _ _ _ hc' hd' hko hx hdom2)
  obtain ⟨f1, ⟨v, f2⟩, f3, f4⟩ := hF _ _ _ (ρ d).blk gy2.1.1 hnb (fun i u hu => m3.cell i u hu) (fun i hi => m3.free i hi)
  let L1 : Loc := { ρ c with dom := fun e => (ρ c).dom e ∨ e = (ρ d).blk }
  let L2 : Loc := ⟨0, 0, none, 0, fun _ => False⟩
  have hdc : d ≠ c := fun e => hne e.symm
  have hch : ∀ (A : Actn), A.cout = [(c, ⟨.tab F', ck.ty, ck.esz, ck.ver + 1, []⟩), (d, ⟨.gone, ty2, es2, v2 + 1, []⟩)] → (A.app st').ch = setO (setO st'.ch c ⟨.tab F', ck.ty, ck.esz, ck.ver + 1, []⟩) d ⟨.gone, ty2, es2, v2 + 1, []⟩ := by
    intro A hA
    simp [Actn.app, hA, setAll]
  have hget : ∀ e, getO (setO (setO st'.ch c ⟨.tab F', ck.ty, ck.esz, ck.ver + 1, []⟩) d ⟨.gone, ty2, es2, v2 + 1, []⟩) e = if e = d then some ⟨.gone, ty2, es2, v2 + 1, []⟩ else if e = c then some ⟨.tab F', ck.ty, ck.esz, ck.ver + 1, []⟩ else getO st'.ch e := by
    intro e
    by_cases he : e = d
    · subst he; rw [getO_set_same, if_pos rfl]
    · rw [getO_set_ne _ _ _ _ he, if_neg he]
      by_cases he2 : e = c
      · subst he2; rw [getO_set_same, if_pos rfl]
      · rw [getO_set_ne _ _ _ _ he2, if_neg he2]
  generalize hA : (Actn.mk (rds st.fr [x, z]) [(c, some ck), (d, some ⟨.own, ty2, es2, v2, ys2.map .v⟩)] o.dst .dead [(c, ⟨.tab F', ck.ty, ck.esz, ck.ver + 1, []⟩), (d, ⟨.gone, ty2, es2, v2 + 1, []⟩)]) = A
  have hAc : A.cout = [(c, ⟨.tab F', ck.ty, ck.esz, ck.ver + 1, []⟩), (d, ⟨.gone, ty2, es2, v2 + 1, []⟩)] := by rw [← hA]
  have hAr : A.res = .dead := by rw [← hA]
  have hch' := hch A hAc
  have hup : Up st'.vs (A.app st').vs st'.ez (A.app st').ez ρ (upd (upd ρ c L1) d L2) := by
    intro e cur' he
    simp only [St.vs, St.ez, hch', hget] at he ⊢
    by_cases h1 : e = d
    · subst h1
      rw [hd'] at he
      simp at he
      refine ⟨v2 + 1, by simp, by omega, fun hx => by omega⟩
    · by_cases h2 : e = c
      · subst h2
        rw [hc'] at he
        simp at he
        refine ⟨ck.ver + 1, by simp [h1], by omega, fun hx => by omega⟩
      · refine ⟨cur', by simp [h1, h2, he], Nat.le_refl _, fun _ => ?_⟩
        simp [h1, h2, upd]
  have hOdom : ∀ e, (ρ d).blk = e → e < w.heap.size := fun e he => he ▸ hr.heap.lt d _ _ hd' hdom2
  refine ⟨undef, w.setCell ⟨b, off, none⟩ (.pointer (some ⟨(ρ d).blk, 0, none⟩)), upd (upd ρ c L1) d L2, .inr ⟨?_, hd⟩, hup, ?_, by rw [hAr]; simp [rel]⟩
  · simp [execOp, ho, g1, gz4, Instr.storeAt, Instr.sureAddr, run_store_one (u := .pointer (some ⟨(ρ d).blk, 0, none⟩)) (hT t y hy) hs rfl rfl f2 f3]
  · refine hr.heap.step (fun e => e = c ∨ e = d) _ _ (upd (upd ρ c L1) d L2) (Mod.setCell w ⟨b, off, none⟩ _ _ ⟨c, ck, .inl rfl, hc', hko, f1⟩) ?_ hup ?_ ?_ ?_ ?_ ?_ ?_
    · intro e he
      simp only [not_or] at he
      rw [hch', hget, if_neg he.2, if_neg he.1]
      exact ⟨rfl, by simp [upd, he.1, he.2]⟩
    · intro e k' he hk'
      rw [hch', hget] at hk'
      by_cases h1 : e = d
      · rw [if_pos h1] at hk'
        cases hk'
        exact ⟨[], by simp [relL], trivial⟩
      · rw [if_neg h1, if_pos (he.resolve_right h1)] at hk'
        cases hk'
        have h2 := he.resolve_right h1
        subst h2
        refine ⟨[], by simp [relL], ?_⟩
        have : upd (upd ρ e L1) d L2 e = L1 := by simp [upd, h1]
        rw [this]
        exact ⟨⟨f4, gy2.1.2⟩, hst⟩
    · intro e k' b' he hk' hb
      rw [hch', hget] at hk'
      by_cases h1 : e = d
      · subst h1
        simp [upd, L2] at hb
      · have h2 := he.resolve_right h1
        subst h2
        have : upd (upd ρ e L1) d L2 e = L1 := by simp [upd, h1]
        rw [this] at hb
        have hlt : b' < w.heap.size := by
          rcases hb with hb | hb
          · exact hr.heap.lt e ck b' hc' hb
          · exact hOdom b' hb.symm
        simpa using hlt
    · intro e k' b' he hk' ho' hb
      by_cases h1 : e = d
      · subst h1
        simp [upd, L2] at hb
      · have h2 := he.resolve_right h1
        subst h2
        have : upd (upd ρ e L1) d L2 e = L1 := by simp [upd, h1]
        rw [this] at hb
        rcases hb with hb | hb
        · exact hr.heap.own e ck b' hc' hko hb
        · subst hb
          exact hr.heap.own d _ _ hd' rfl hdom2
    · intro e k' b' he hk' hb
      rw [hch', hget] at hk'
      by_cases h1 : e = d
      · rw [if_pos h1] at hk'
        cases hk'
        simp [Chunk.blk] at hb
      · rw [if_neg h1, if_pos (he.resolve_right h1)] at hk'
        cases hk'
        simp [Chunk.blk] at hb
    · intro e k' he hk'
      rw [hch', hget] at hk'
      by_cases h1 : e = d
      · rw [if_pos h1] at hk'
        cases hk'
        intro w1 w2 xs _ _
        trivial
      · rw [if_neg h1, if_pos (he.resolve_right h1)] at hk'
        cases hk'
        intro w1 w2 xs hw hm
        exact ⟨⟨hm.2 _ _ _ _ hw hm.1.1, hm.1.2⟩, hm.2⟩
    · intro e e' k' l' b' he hk' hl' ho' hb hb'
      rw [hch', hget] at hk' hl'
      by_cases h1 : e = d
      · subst h1
        simp [upd, L2] at hb
      · have h2 := he.resolve_right h1
        subst h2
        have hu1 : upd (upd ρ e L1) d L2 e = L1 := by simp [upd, h1]
        rw [hu1] at hb
        by_cases h3 : e' = d
        · subst h3
          simp [upd, L2] at hb'
        · by_cases h4 : e' = e
          · exact h4.symm
          · rw [if_neg h3, if_neg h4] at hl'
            have hu2 : upd (upd ρ e L1) d L2 e' = ρ e' := by simp [upd, h3, h4]
            rw [hu2] at hb'
            rcases hb with hb | hb
            · exact hr.heap.sep e e' ck l' b' hc' hl' hko hb hb'
            · subst hb
              exact absurd (hr.heap.sep d e' _ l' _ hd' hl' rfl hdom2 hb').symm h3
end

/-! ### Opening -/
/-- A pointer's place is told. -/
def opnA (d ver b : Nat) : AV → AV
  | .ref c k off => match Nat.beq c d && Nat.beq k ver with
    | true => .v (.pointer (some ⟨b, off, none⟩))
    | false => .ref c k off
  | .v x => .v x
  | .sl c k lo n => .sl c k lo n
  | .agg l => .agg l
  | .fn f l => .fn f l
  | .ifc t a => .ifc t a
  | .tup l => .tup l
  | .dead => .dead
def opnF (d ver b : Nat) : List AV → List AV
  | [] => []
  | a :: l => opnA d ver b a :: opnF d ver b l
def F0 (b : Nat) (us : List Value) : Nat → (Nat → Prop) → World → Prop := fun bl D w => bl = b ∧ (∀ e, D e ↔ e = b) ∧ (∀ i u, us[i]? = some u → w.cell? ⟨b, i, none⟩ = some u) ∧ ∀ i, i < us.length → w.frozen? ⟨b, i, none⟩ = false
theorem F0_stab (b : Nat) (us : List Value) : StabT (F0 b us) := by
  rintro bl D w w' hw ⟨h1, h2, h3, h4⟩
  have hb := hw b ((h2 b).2 rfl)
  refine ⟨h1, h2, fun i u hu => ?_, fun i hi => ?_⟩
  · have := h3 i u hu
    simp only [World.cell?] at this ⊢
    rw [hb]; exact this
  · have := h4 i hi
    simp only [World.frozen?] at this ⊢
    rw [hb]; exact this
theorem TR.open_own {X : Ctx} {c : Code} {K : Exit → St → Prop} {st : St} {d ver : Nat} {ty : TypeId} {esz : Nat} {us : List Value} (hd : getO st.ch d = some ⟨.own, ty, esz, ver, us.map .v⟩) (hn : X.n ≤ d)
    (h : ∀ b, TR X c K ⟨opnF d ver b st.fr, setO st.ch d ⟨.tab (F0 b us), ty, esz, ver + 1, []⟩⟩) : TR X c K st := by
  refine ⟨fun E a w ρ hr => ?_⟩
  obtain ⟨ys, g1, g2⟩ := hr.heap.ok d _ hd
  have hys : ys = us := relL_of_vals us ys g1
  subst hys
  obtain ⟨m1, m2, m3, m4⟩ := g2
  have hdom : (ρ d).dom (ρ d).blk := hr.heap.blk d _ _ hd rfl
  let L : Loc := { ρ d with dom := fun e => e = (ρ d).blk }
  refine (h (ρ d).blk).out E a w (upd ρ d L) ?_
  have hup : ∀ fr, Up st.vs (St.mk fr (setO st.ch d ⟨.tab (F0 (ρ d).blk ys), ty, esz, ver + 1, []⟩)).vs st.ez (St.mk fr (setO st.ch d ⟨.tab (F0 (ρ d).blk ys), ty, esz, ver + 1, []⟩)).ez ρ (upd ρ d L) := by
    intro fr e cur he
    simp only [St.vs, St.ez] at he ⊢
    by_cases h1 : e = d
    · subst h1
      rw [hd] at he
      simp at he
      exact ⟨ver + 1, by rw [getO_set_same]; rfl, by omega, fun hx => by omega⟩
    · rw [getO_set_ne _ _ _ _ h1]
      exact ⟨cur, he, Nat.le_refl _, fun _ => ⟨by simp [upd, h1], rfl⟩⟩
  refine ⟨?_, hr.df, ?_, ?_⟩
  · have key : ∀ (l : List AV) (xs : List Value), relL st.vs st.ez ρ l xs → relL (St.mk (opnF d ver (ρ d).blk st.fr) (setO st.ch d ⟨.tab (F0 (ρ d).blk ys), ty, esz, ver + 1, []⟩)).vs (St.mk (opnF d ver (ρ d).blk st.fr) (setO st.ch d ⟨.tab (F0 (ρ d).blk ys), ty, esz, ver + 1, []⟩)).ez (upd ρ d L) (opnF d ver (ρ d).blk l) xs := by
      intro l
      induction l with
      | nil => intro xs hx; cases xs <;> simp_all [relL, opnF]
      | cons e l ih =>
        intro xs hx
        cases xs with
        | nil => simp [relL] at hx
        | cons u xs =>
          simp only [relL] at hx
          simp only [opnF, relL]
          refine ⟨?_, ih xs hx.2⟩
          have hold := rel_up (hup (opnF d ver (ρ d).blk st.fr)) _ _ hx.1
          cases e with
          | ref c' k' off' =>
            simp only [opnA]
            split
            · rename_i hq
              simp only [Bool.and_eq_true] at hq
              have e1 := Nat.eq_of_beq_eq_true hq.1
              have e2 := Nat.eq_of_beq_eq_true hq.2
              subst e1 e2
              have h1 := hx.1
              simp only [rel] at h1 ⊢
              obtain ⟨cur, q1, q2, q3, _⟩ := h1
              have hcur : cur = k' := by simp [St.vs, hd] at q1; exact q1.symm
              have := q3 hcur.symm
              rw [m1, Nat.zero_add] at this
              exact this
            · exact hold
          | _ => simpa only [opnA] using hold
    exact key _ _ hr.fr
  · refine hr.heap.step (· = d) _ w (upd ρ d L) (Mod.refl _ _) ?_ (hup _) ?_ ?_ ?_ ?_ ?_ ?_
    · intro e he
      exact ⟨getO_set_ne _ _ _ _ he, by simp [upd, he]⟩
    · rintro e k' rfl hk'
      rw [getO_set_same] at hk'
      cases hk'
      rw [upd_same]
      exact ⟨[], by simp [relL], ⟨⟨rfl, fun e => Iff.rfl, fun i u hu => m3.cell i u hu, fun i hi => m3.free i hi⟩, m1⟩, F0_stab _ _⟩
    · rintro e k' b' rfl hk' hb
      rw [upd_same] at hb
      cases hb
      exact hr.heap.lt e _ _ hd hdom
    · rintro e k' b' rfl hk' ho hb
      rw [upd_same] at hb
      cases hb
      exact hr.heap.own e _ _ hd rfl hdom
    · rintro e k' b' rfl hk' hb
      rw [getO_set_same] at hk'
      cases hk'
      simp [Chunk.blk] at hb
    · rintro e k' rfl hk'
      rw [getO_set_same] at hk'
      cases hk'
      intro w1 w2 xs hw hm
      exact ⟨⟨hm.2 _ _ _ _ hw hm.1.1, hm.1.2⟩, hm.2⟩
    · rintro e e' k' l' b' rfl hk' hl' ho' hb hb'
      by_cases he : e' = e
      · exact he.symm
      · rw [upd_same] at hb
        cases hb
        rw [getO_set_ne _ _ _ _ he] at hl'
        rw [upd_ne _ _ _ _ he] at hb'
        exact hr.heap.sep e e' _ l' _ hd hl' rfl hdom hb'
  · intro e cur he
    have hne : e ≠ d := by
      rintro rfl
      have := E.b.lt e cur he
      omega
    obtain ⟨cur', h1, h2, h3⟩ := hr.gh e cur he
    refine ⟨cur', ?_, h2, fun hx => ?_⟩
    · simp only [St.vs] at h1 ⊢
      rw [getO_set_ne _ _ _ _ hne]
      exact h1
    · obtain ⟨h4, h5⟩ := h3 hx
      refine ⟨by rw [upd_ne _ _ _ _ hne]; exact h4, ?_⟩
      simp only [St.ez] at h5 ⊢
      rw [getO_set_ne _ _ _ _ hne]
      exact h5
/-- What is told of the part is told otherwise. -/
theorem TR.ex_tab {X : Ctx} {c : Code} {K : Exit → St → Prop} {st : St} {d : Nat} {ck : Chunk} {F : Nat → (Nat → Prop) → World → Prop} {α : Type} {G : α → Nat → (Nat → Prop) → World → Prop} (hd : getO st.ch d = some ck) (hk : ck.kind = .tab F) (hF : ∀ bl D w, F bl D w → ∃ x, G x bl D w) (hG : ∀ x, StabT (G x))
    (h : ∀ x, TR X c K ⟨st.fr, setO st.ch d { ck with kind := .tab (G x) }⟩) : TR X c K st := by
  refine ⟨fun E a w ρ hr => ?_⟩
  obtain ⟨ys, g1, g2⟩ := hr.heap.ok d _ hd
  unfold Chunk.mem at g2
  rw [hk] at g2
  obtain ⟨x, hx⟩ := hF _ _ _ g2.1.1
  refine (h x).out E a w ρ ?_
  have hko : ck.owned = true := by simp [Chunk.owned, hk, CK.owned]
  have hv : ∀ e, (getO (setO st.ch d { ck with kind := .tab (G x) }) e).map (fun k => (k.ver, k.esz)) = (getO st.ch e).map (fun k => (k.ver, k.esz)) := by
    intro e
    by_cases he : e = d
    · subst he; rw [getO_set_same, hd]; rfl
    · rw [getO_set_ne _ _ _ _ he]
  have hvs : St.vs ⟨st.fr, setO st.ch d { ck with kind := .tab (G x) }⟩ = st.vs := by
    funext e
    have := congrArg (Option.map Prod.fst) (hv e)
    simpa [St.vs, Option.map_map, Function.comp_def] using this
  have hez : St.ez ⟨st.fr, setO st.ch d { ck with kind := .tab (G x) }⟩ = st.ez := by
    funext e
    have := congrArg (Option.map Prod.snd) (hv e)
    have h2 : (getO (setO st.ch d { ck with kind := .tab (G x) }) e).map (·.esz) = (getO st.ch e).map (·.esz) := by
      simpa [Option.map_map, Function.comp_def] using this
    simp [St.ez, h2]
  refine ⟨by rw [hvs, hez]; exact hr.fr, hr.df, ?_, by rw [hvs, hez]; exact hr.gh⟩
  refine hr.heap.step (· = d) _ w ρ (Mod.refl _ _) ?_ (by rw [hvs, hez]; exact Up.refl _ _ _) ?_ ?_ ?_ ?_ ?_ ?_
  · intro e he
    exact ⟨getO_set_ne _ _ _ _ he, rfl⟩
  · rintro e k' rfl hk'
    rw [getO_set_same] at hk'
    cases hk'
    rw [hvs, hez]
    exact ⟨ys, g1, ⟨hx, g2.1.2⟩, hG x⟩
  · rintro e k' b' rfl hk' hb
    exact hr.heap.lt e _ _ hd hb
  · rintro e k' b' rfl hk' ho hb
    exact hr.heap.own e _ _ hd hko hb
  · rintro e k' b' rfl hk' hb
    rw [getO_set_same] at hk'
    cases hk'
    simp [Chunk.blk] at hb
  · rintro e k' rfl hk'
    rw [getO_set_same] at hk'
    cases hk'
    intro w1 w2 xs hw hm
    exact ⟨⟨hm.2 _ _ _ _ hw hm.1.1, hm.1.2⟩, hm.2⟩
  · rintro e e' k' l' b' rfl hk' hl' ho' hb hb'
    by_cases he : e' = e
    · exact he.symm
    · rw [getO_set_ne _ _ _ _ he] at hl'
      exact hr.heap.sep e e' ck l' b' hd hl' hko hb hb'
end Go.SX
namespace Go.SX
/-- What the part says of no world. -/
theorem TR.pure_tab {X : Ctx} {c : Code} {K : Exit → St → Prop} {st : St} {d : Nat} {ck : Chunk} {F : Nat → (Nat → Prop) → World → Prop} {P : Prop} (hd : getO st.ch d = some ck) (hk : ck.kind = .tab F) (hF : ∀ bl D w, F bl D w → P)
    (h : P → TR X c K st) : TR X c K st := by
  refine ⟨fun E a w ρ hr => ?_⟩
  obtain ⟨ys, g1, g2⟩ := hr.heap.ok d _ hd
  unfold Chunk.mem at g2
  rw [hk] at g2
  exact (h (hF _ _ _ g2.1.1)).out E a w ρ hr
end Go.SX
set_option linter.unusedSimpArgs false
set_option linter.unusedVariables false
namespace Go.SX
/-! ### Calls that hand back a part of memory that is told by a relation -/
/-- What is told where a function hands back. -/
structure Fin (w0 : World) (Q : World → Value → Prop) (r : AV) (s : St) : Prop where
  out : ∀ w' ρ v, Heap w0 (fun _ => False) s w' ρ → rel s.vs s.ez ρ r v → Q w' v
structure RetQ (P : Program) (f : FuncId) (args : List Value) (w : World) (Q : World → Value → Prop) : Prop where
  has : Has P f
  run : Calls P f args.toArray w fun e w' => ∃ v, e = .returned v ∧ Mod w w' (fun _ => False) ∧ Q w' v
theorem RetQ.of {P : Program} {T : List (Option Ty)} {I : World → Prop} {w : World} (hI : ∀ w', Mod w w' (fun _ => False) → I w') {f : FuncId} {fn : Func} {c : Code} {n : Nat} {args : List Value} {Q : World → Value → Prop} (hT : Ctx.ok ⟨P, T, 0, I⟩) (hf : P.funcs[f]? = some fn) (hnm : (fn.name == "runtime.NumGoroutine") = false) (hb : fn.body = some c)
    (hn : fn.ntmps - args.length = n) (h : deadsK n [] fun ds => appK' args ds fun fr => TR ⟨P, T, 0, I⟩ c (endK ⟨P, T, 0, I⟩ fn.results.toList fun r s => Fin w Q r s) ⟨fr, []⟩) : RetQ P f args w Q := by
  rw [deadsK_eq, appK'_eq] at h
  refine ⟨⟨fn, hf, hnm, by simp [hb]⟩, ?_⟩
  refine (calls_of_TR (X := ⟨P, T, 0, I⟩) ⟨w, fun _ => False, Base.no 0, hI, []⟩ rfl (ρ := fun _ => ⟨0, 0, none, 0, fun _ => False⟩) hT hf hb ?_ ?_ ?_ h).mono ?_
  · have h1 := relL_deads (vs := St.vs ⟨args.map .v ++ deads n [], []⟩) (ez := St.ez ⟨args.map .v ++ deads n [], []⟩) (ρ := fun _ => ⟨0, 0, none, 0, fun _ => False⟩) n [] [] (by simp [relL])
    have h2 := relL_append _ _ _ _ (relL_vals (vs := St.vs ⟨args.map .v ++ deads n [], []⟩) (ez := St.ez ⟨args.map .v ++ deads n [], []⟩) (ρ := fun _ => ⟨0, 0, none, 0, fun _ => False⟩) args) h1
    simpa [hn] using h2
  · refine ⟨fun c k hk => ?_, fun c k b hk => ?_, fun c k b hk => ?_, fun c k b hk => ?_, fun c k hk => ?_, fun c d k l b hk => ?_, Mod.refl _ _⟩ <;> simp [getO_nil] at hk
  · intro c v hv; cases hv
  · rintro e w' ⟨v', r, s, ρ', rfl, hr, h1, h2, _⟩
    exact ⟨v', rfl, h2.mod, hr.out w' ρ' v' h2 h1⟩
theorem Fin.value {w0 : World} {Q : World → Value → Prop} {r : AV} {s : St} {v : Value} (hv : val r = some v) (h : ∀ w', Q w' v) : Fin w0 Q r s :=
  ⟨fun w' ρ v' _ hr => by rw [val_rel hv hr]; exact h w'⟩
theorem Fin.tab {w0 : World} {Q : World → Value → Prop} {r : AV} {s : St} {v : Value} {c : Nat} {ck : Chunk} {F : Nat → (Nat → Prop) → World → Prop} (hv : val r = some v) (hc : getO s.ch c = some ck) (hk : ck.kind = .tab F)
    (h : ∀ bl D w', F bl D w' → (∀ e, D e → w0.heap.size ≤ e ∧ e < w'.heap.size) → Q w' v) : Fin w0 Q r s :=
  ⟨fun w' ρ v' hh hr => by
    rw [val_rel hv hr]
    obtain ⟨ys, g1, g2⟩ := hh.ok c ck hc
    unfold Chunk.mem at g2
    rw [hk] at g2
    have hko : ck.owned = true := by simp [Chunk.owned, hk, CK.owned]
    refine h _ _ w' g2.1.1 fun e he => ⟨?_, hh.lt c ck e hc he⟩
    rcases hh.own c ck e hc hko he with h1 | h1
    · exact h1.elim
    · exact h1⟩
theorem Ret.toQ {P : Program} {f : FuncId} {args : List Value} {w : World} {v : Value} (h : Ret P f args w v) : RetQ P f args w fun _ u => u = v :=
  ⟨h.has, h.run.mono fun e w' ⟨h1, h2⟩ => ⟨v, h1, h2, rfl⟩⟩
section
variable {X : Ctx} {o : Oper} {st : St} {k : Actn → Prop}
/-- A call whose answer hangs on a part of memory. -/
theorem x_ret_tab {f : FuncId} {xs : List Operand} {ts : Array TypeId} {vs : List Value} {v : Value} {c : Nat} {ck : Chunk} {F : Nat → (Nat → Prop) → World → Prop} (ho : o.op = .call { callee := .value (.func f), args := xs.toArray, argTypes := ts }) (hv : vals (xs.map (evA st.fr)) = some vs)
    (hck : getO st.ch c = some ck) (hk : ck.kind = .tab F) (hc : ∀ w, X.I w → (∃ bl D, F bl D w) → Ret X.P f vs w v) (h : k (aR o st.fr xs c ck (.v v))) : ActN X o st k := by
  refine ⟨_, LS.call rfl fun st' E a w ρ hf hr => ?_, ⟨rds_fits st.fr st.ch xs, by simp [aR, hck]⟩, h⟩
  have hck' : getO st'.ch c = some ck := hf.c c (some ck) (by simp [aR])
  obtain ⟨ys, g1, g2⟩ := hr.heap.ok c ck hck'
  unfold Chunk.mem at g2
  rw [hk] at g2
  have hr' := hc w (E.inv w hr.heap.mod) ⟨_, _, g2.1.1⟩
  have hargs := args_of hv (A := aR o st.fr xs c ck (.v v)) (fun x hx => rds_mem hx) hf hr
  refine ⟨f, _, run_call hr'.has ho, ?_⟩
  rw [hargs]
  exact ret_upon hr' hr rfl rfl
/-- A call that hands back a new part of memory. -/
theorem x_retT {f : FuncId} {xs : List Operand} {ts : Array TypeId} {vs : List Value} {mk : Nat → Value} {R : AV} {d ty esz : Nat} {F : Nat → (Nat → Prop) → World → Prop} (ho : o.op = .call { callee := .value (.func f), args := xs.toArray, argTypes := ts }) (hv : vals (xs.map (evA st.fr)) = some vs)
    (hst : StabT F) (hR : ∀ vs ez ρ, vs d = some 0 → (ρ d).off = 0 → rel vs ez ρ R (mk (ρ d).blk))
    (hc : ∀ w, X.I w → RetQ X.P f vs w fun w' v => ∃ b D, v = mk b ∧ F b D w' ∧ ∀ e, D e → w.heap.size ≤ e ∧ e < w'.heap.size) (hd : getO st.ch d = none)
    (h : k (aN o st.fr xs d ⟨.tab F, ty, esz, 0, []⟩ R)) : ActN X o st k := by
  refine ⟨_, LS.call rfl fun st' E a w ρ hf hr => ?_, ⟨rds_fits st.fr st.ch xs, by simp [aN, hd]⟩, h⟩
  have hr' := hc w (E.inv w hr.heap.mod)
  have hargs := args_of hv (A := aN o st.fr xs d ⟨.tab F, ty, esz, 0, []⟩ R) (fun x hx => rds_mem hx) hf hr
  refine ⟨f, _, run_call hr'.has ho, ?_⟩
  rw [hargs]
  refine hr'.run.mono ?_
  rintro e w' ⟨v, rfl, hm, b, D, rfl, hF, hD⟩
  have hd' : getO st'.ch d = none := hf.c d none (by simp [aN])
  have hch : (aN o st.fr xs d ⟨.tab F, ty, esz, 0, []⟩ R).app st' = ⟨((aN o st.fr xs d ⟨.tab F, ty, esz, 0, []⟩ R).app st').fr, setO st'.ch d ⟨.tab F, ty, esz, 0, []⟩⟩ := by simp [aN, Actn.app, setAll]
  obtain ⟨q1, q2⟩ := heap_new hr.heap (fr := ((aN o st.fr xs d ⟨.tab F, ty, esz, 0, []⟩ R).app st').fr) (L := ⟨b, 0, none, 0, D⟩) (ck := ⟨.tab F, ty, esz, 0, []⟩) (ys := []) hd' hm hD (fun c hc => by simp [Chunk.blk] at hc)
    (fun w1 w2 ys hw hm => ⟨⟨hm.2 _ _ _ _ hw hm.1.1, hm.1.2⟩, hm.2⟩) (by simp [relL]) ⟨⟨hF, rfl⟩, hst⟩
  refine ⟨_, upd ρ d ⟨b, 0, none, 0, D⟩, rfl, by rw [hch]; exact q1, by rw [hch]; exact q2, ?_⟩
  rw [hch]
  have := hR (St.vs ⟨((aN o st.fr xs d ⟨.tab F, ty, esz, 0, []⟩ R).app st').fr, setO st'.ch d ⟨.tab F, ty, esz, 0, []⟩⟩) (St.ez ⟨((aN o st.fr xs d ⟨.tab F, ty, esz, 0, []⟩ R).app st').fr, setO st'.ch d ⟨.tab F, ty, esz, 0, []⟩⟩) (upd ρ d ⟨b, 0, none, 0, D⟩) (by simp [St.vs, getO_set_same]) (by rw [upd_same])
  rw [upd_same] at this
  exact this
end
/-- The part's place gets its name. -/
theorem TR.open_tab {X : Ctx} {c : Code} {K : Exit → St → Prop} {st : St} {d ver : Nat} {ty : TypeId} {esz : Nat} {F : Nat → (Nat → Prop) → World → Prop} (hd : getO st.ch d = some ⟨.tab F, ty, esz, ver, []⟩)
    (h : ∀ b, TR X c K ⟨opnF d ver b st.fr, setO st.ch d ⟨.tab (fun bl D w => bl = b ∧ F bl D w), ty, esz, ver, []⟩⟩) : TR X c K st := by
  refine ⟨fun E a w ρ hr => ?_⟩
  obtain ⟨ys, g1, g2⟩ := hr.heap.ok d _ hd
  obtain ⟨⟨m1, m2⟩, m3⟩ := g2
  refine (h (ρ d).blk).out E a w ρ ?_
  generalize hck : (Chunk.mk (.tab (fun bl D w => bl = (ρ d).blk ∧ F bl D w)) ty esz ver []) = ck'
  have hver : ck'.ver = ver ∧ ck'.esz = esz ∧ ck'.owned = true ∧ ck'.cells = [] := by subst hck; exact ⟨rfl, rfl, rfl, rfl⟩
  have hv : ∀ e, (getO (setO st.ch d ck') e).map (fun k => (k.ver, k.esz)) = (getO st.ch e).map (fun k => (k.ver, k.esz)) := by
    intro e
    by_cases he : e = d
    · subst he; rw [getO_set_same, hd]; simp [hver]
    · rw [getO_set_ne _ _ _ _ he]
  have hvs : ∀ fr, St.vs ⟨fr, setO st.ch d ck'⟩ = st.vs := by
    intro fr
    funext e
    have := congrArg (Option.map Prod.fst) (hv e)
    simpa [St.vs, Option.map_map, Function.comp_def] using this
  have hez : ∀ fr, St.ez ⟨fr, setO st.ch d ck'⟩ = st.ez := by
    intro fr
    funext e
    have := congrArg (Option.map Prod.snd) (hv e)
    have h2 : (getO (setO st.ch d ck') e).map (·.esz) = (getO st.ch e).map (·.esz) := by
      simpa [Option.map_map, Function.comp_def] using this
    simp [St.ez, h2]
  refine ⟨?_, hr.df, ?_, by rw [hvs, hez]; exact hr.gh⟩
  · rw [hvs, hez]
    have key : ∀ (l : List AV) (xs : List Value), relL st.vs st.ez ρ l xs → relL st.vs st.ez ρ (opnF d ver (ρ d).blk l) xs := by
      intro l
      induction l with
      | nil => intro xs hx; cases xs <;> simp_all [relL, opnF]
      | cons e l ih =>
        intro xs hx
        cases xs with
        | nil => simp [relL] at hx
        | cons u xs =>
          simp only [relL] at hx
          simp only [opnF, relL]
          refine ⟨?_, ih xs hx.2⟩
          cases e with
          | ref c' k' off' =>
            simp only [opnA]
            split
            · rename_i hq
              simp only [Bool.and_eq_true] at hq
              have e1 := Nat.eq_of_beq_eq_true hq.1
              have e2 := Nat.eq_of_beq_eq_true hq.2
              subst e1 e2
              have h1 := hx.1
              simp only [rel] at h1 ⊢
              obtain ⟨cur, q1, q2, q3, _⟩ := h1
              have hcur : cur = k' := by simp [St.vs, hd] at q1; exact q1.symm
              have := q3 hcur.symm
              rw [m2, Nat.zero_add] at this
              exact this
            · exact hx.1
          | _ => simpa only [opnA] using hx.1
    exact key _ _ hr.fr
  · refine hr.heap.step (· = d) _ w ρ (Mod.refl _ _) ?_ (by rw [hvs, hez]; exact Up.refl _ _ _) ?_ ?_ ?_ ?_ ?_ ?_
    · intro e he
      exact ⟨getO_set_ne _ _ _ _ he, rfl⟩
    · rintro e k' rfl hk'
      rw [getO_set_same] at hk'
      cases hk'
      rw [hver.2.2.2]
      subst hck
      exact ⟨[], by simp [relL], ⟨⟨rfl, m1⟩, m2⟩, fun bl D w1 w2 hw ⟨h1, h2⟩ => ⟨h1, m3 _ _ _ _ hw h2⟩⟩
    · rintro e k' b' rfl hk' hb
      exact hr.heap.lt e _ _ hd hb
    · rintro e k' b' rfl hk' ho hb
      exact hr.heap.own e _ _ hd rfl hb
    · rintro e k' b' rfl hk' hb
      rw [getO_set_same] at hk'
      cases hk'
      subst hck
      simp [Chunk.blk] at hb
    · rintro e k' rfl hk'
      rw [getO_set_same] at hk'
      cases hk'
      subst hck
      intro w1 w2 xs hw hm
      exact ⟨⟨hm.2 _ _ _ _ hw hm.1.1, hm.1.2⟩, hm.2⟩
    · rintro e e' k' l' b' rfl hk' hl' ho' hb hb'
      by_cases he : e' = e
      · exact he.symm
      · rw [getO_set_ne _ _ _ _ he] at hl'
        exact hr.heap.sep e e' _ l' _ hd hl' rfl hb hb'
end Go.SX
set_option linter.unusedSimpArgs false
set_option linter.unusedVariables false
namespace Go.SX
/-! ### A function that hands back a new row -/
theorem relL_map_v {vs ez ρ} : ∀ (us xs : List Value), relL vs ez ρ (us.map .v) xs → xs = us
  | [], [], _ => rfl
  | [], _ :: _, h => by simp [relL] at h
  | _ :: _, [], h => by simp [relL] at h
  | u :: us, x :: xs, h => by
    simp only [List.map_cons, relL, rel] at h
    rw [h.1, relL_map_v us xs h.2]
def RowQ (w0 : World) (ty : TypeId) (esz n : Nat) (us : List Value) (w' : World) (v : Value) : Prop :=
  ∃ b cap, v = .slice (some ⟨b, 0, none⟩) n cap ∧ w0.heap.size ≤ b ∧ b < w'.heap.size ∧ w'.ownsRow 0 ty esz (.slice (some ⟨b, 0, none⟩) n cap) n us
theorem Fin.row {w0 : World} {r : AV} {s : St} {c n ty esz ver : Nat} {us : List Value} {ck : Chunk} (hr : r = .sl c ver 0 n) (hc : getO s.ch c = some ck) (hck : ck = ⟨.row, ty, esz, ver, us.map .v⟩) (h0 : 0 < n) (he : 0 < esz) (hn : us.length = n * esz) :
    Fin w0 (RowQ w0 ty esz n us) r s :=
  ⟨fun w' ρ v' hh hrel => by
    subst hr hck
    obtain ⟨xs, g1, g2⟩ := hh.ok c _ hc
    have hx := relL_map_v us xs g1
    subst hx
    simp only [Chunk.mem] at g2
    obtain ⟨m1, m2, n', m3⟩ := g2
    have e : n' = n := by
      have := m3.1
      rw [hn] at this
      exact Nat.eq_of_mul_eq_mul_right he this.symm
    subst e
    simp only [rel] at hrel
    obtain ⟨cur, k1, k2, k3, k4⟩ := hrel
    have hcur : cur = ver := by simpa [St.vs, hc] using k1.symm
    obtain ⟨s1, a, s2, s3, s4⟩ := k3 hcur.symm
    have hb : (ρ c).base = some ⟨(ρ c).blk, 0, none⟩ := by
      rcases m2 with m2 | m2
      · rw [m2] at m3
        rcases m3.2 with ⟨q1, q2⟩ | ⟨g, cap, cr, q1, _⟩
        · omega
        · cases q1
      · exact m2
    have hdom : (ρ c).dom (ρ c).blk := hh.blk c _ _ hc (by simp [Chunk.blk, hb])
    refine ⟨(ρ c).blk, (ρ c).cap, ?_, ?_, hh.lt c _ _ hc hdom, ?_⟩
    · rw [s2, s4 rfl, hb, Nat.sub_zero]
    · rcases hh.own c _ _ hc rfl hdom with h1 | h1
      · exact h1.elim
      · exact h1
    · rw [← hb]; exact m3⟩
theorem RetQ.row {P : Program} {f : FuncId} {args : List Value} {w : World} {ty esz n : Nat} {us : List Value} (h : RetQ P f args w (RowQ w ty esz n us)) : RetRow P f args w ty esz n us :=
  ⟨h.has, h.run.mono fun e w' ⟨v, h1, h2, b, cap, h3, h4, h5, h6⟩ => ⟨b, cap, by rw [h1, h3], h2, h4, h5, h6⟩⟩
theorem nr_map (ms : List Nat) : ∀ l : List Value, noRefL ms (l.map .v) = true
  | [] => rfl
  | x :: l => by simp [noRefL, noRef, nr_map ms l]
theorem nr_app (ms : List Nat) : ∀ a b : List AV, noRefL ms (a ++ b) = (noRefL ms a && noRefL ms b)
  | [], b => by simp [noRefL]
  | x :: a, b => by simp [noRefL, nr_app ms a b, Bool.and_assoc]
theorem subL_all' : ∀ l : List AV, subL l 0 l.length = some l
  | [] => rfl
  | x :: l => by
    have := subL_all' l
    simp only [List.length_cons, subL, this]
end Go.SX
set_option linter.unusedSimpArgs false
set_option linter.unusedVariables false
namespace Go.SX
section
variable {X : Ctx} {o : Oper} {st : St} {k : Actn → Prop}
/-- A function value against nil. -/
theorem x_eq_fn_nil (hT : X.ok) (op : BinOp) (hop : op = .eql ∨ op = .neq) {t ty : TypeId} {x : Operand} {y : Ty} (ho : o.op = .binOp op t x (.const .nilFunc) ty) (hx : evA st.fr x = .v .nilFunc) (hy : getO X.T t = some y) (hyd : y.d = .fn)
    (h : k (aP o st.fr [x, .const .nilFunc] (.v (.bool (eqR op true))))) : ActN X o st k := by
  refine x_bin (v := .nilFunc) ho hx rfl (fun w => ?_) h
  obtain ⟨⟨dd, q1, q2⟩, _⟩ := hT t y hy
  rw [hyd] at q2
  cases dd <;> simp only [TD.is] at q2
  have hg : (eqGuard op t x (.const .nilFunc) .nilFunc .nilFunc).run X.P w = .ok () w := by rcases hop with rfl | rfl <;> simp [eqGuard]
  simp only [Sem.run_bind, hg, Result.andThen_ok]
  refine run_eqR hop ?_ rfl rfl
  rw [equal_succ]
  generalize 9999 = dep
  simp [Op.equalIn, run_underlying q1]
end
end Go.SX
set_option linter.unusedSimpArgs false
set_option linter.unusedVariables false
namespace Go.SX
open Go.ChangeShapes Go.WideShapes Go.ChangeAt Go.RowKit

/-! ### What a row's list of variables gives -/
theorem laidVars_mem {P : Program} {w : World} : ∀ {l : List (String × DataW Unit)} {ps : List MemPlace}, DataW.LaidVars P w l ps → ∀ n d, (n, d) ∈ l →
    ∃ g t cs fuel p, P.globalNamed n = some g ∧ (P.globals[g]?).map (·.type) = some t ∧ w.var? P n = some cs ∧ DataW.trod (fun _ => ()) P w 0 (fun _ => true) false fuel t cs.toList = some (d, p)
  | [], _, _, n, d, h => by simp at h
  | (m, e) :: r, ps, hl, n, d, h => by
    obtain ⟨g, t, cs, fuel, p, q, h1, h2, h3, h4, h5, _⟩ := hl
    rcases List.mem_cons.1 h with h | h
    · cases h
      exact ⟨g, t, cs, fuel, p, h1, h2, h3, h4⟩
    · exact laidVars_mem h5 n d h
theorem laidMet_of_H {P : Program} {l : List (String × DataW Unit)} {w : World} (h : laidMetH P l w) (hn : (l.filter fun x => x.2.handleName?.isSome) = []) : laidMet P l w := by
  unfold laidMetH at h
  rw [hn] at h
  exact h
theorem laid_tab {P : Program} {l : List (String × DataW Unit)} {W : World} {name : String} {k : IntKind} {zs : List Int} {g : Nat} {t e : TypeId} {n : Nat} (h : laidMet P l W) (hm : (name, Lib.tabData k zs) ∈ l)
    (hg : P.globalNamed name = some g) (hty : (P.globals[g]?).map (·.type) = some t) (ht : P.underlying t = some (.array n e)) (he : P.underlying e = some (.int k)) (hce : P.cellsOf e = 1) (hct : P.cellsOf t = n) :
    ∀ i u, (zs.map fun z => Value.int k z)[i]? = some u → W.cell? ⟨g, i, none⟩ = some u := by
  obtain ⟨ps, hl, _⟩ := h
  obtain ⟨g', t', cs, fuel, p, hg', ht', hvar, hd⟩ := laidVars_mem hl _ _ hm
  obtain rfl := Option.some.inj (hg.symm.trans hg')
  obtain rfl := Option.some.inj (hty.symm.trans ht')
  have hcs := Lib.cells_of_tab ht he hce hct hd
  have hT : Lib.TabIs P W name k zs := by
    unfold Lib.TabIs
    rw [hvar, ← hcs]
  intro i u hu
  have hi : i < zs.length := by
    rcases Nat.lt_or_ge i zs.length with h1 | h1
    · exact h1
    · simp [h1] at hu
  rw [hT.cell hg i hi]
  simp [hi] at hu
  simp [List.getD, hi, hu]

/-! ### Behind the call: true, and the arguments as they were -/
theorem trodAll_stays {H : Type} {enc : TypeId × Value → H} {P : Program} (hl : laidOutB P = true) {W W' : World} (hb : Below W.heap.size W W') : ∀ {ts : List TypeId} {vs : List Value} {ds : List (DataW H)} {ps : List MemPlace} (sp : Nat → Bool),
    (∀ t, t ∈ ts → P.readableRec t = true ∧ t < P.types.size) → DataW.TrodAll enc P W 0 (fun _ => true) true ts vs ds ps → (∀ p ∈ ps, p.block < W.heap.size) → (∀ p ∈ ps, sp p.block = true) → DataW.TrodAll enc P W' 0 sp true ts vs ds ps
  | [], [], [], _, _, _, h, _, _ => h
  | t :: ts, v :: vs, d :: ds, _, sp, ht, ⟨p, q, h1, h2, e⟩, hlt, hs => by
    subst e
    refine ⟨p, q, ?_, trodAll_stays hl hb sp (fun t ht' => ht t (List.mem_cons_of_mem _ ht')) h2 (fun x hx => hlt x (List.mem_append_right _ hx)) (fun x hx => hs x (List.mem_append_right _ hx)), rfl⟩
    obtain ⟨r1, r2⟩ := ht t (List.mem_cons_self ..)
    exact WideElems.Trod_stays hl r1 r2 h1 (fun x hx => hb.same (hlt x (List.mem_append_left _ hx))) (fun x hx => hs x (List.mem_append_left _ hx))
theorem trodAll_len {H : Type} {enc : TypeId × Value → H} {P : Program} {W : World} {b : Nat} {sp : Nat → Bool} {hd : Bool} : ∀ {ts : List TypeId} {vs : List Value} {ds : List (DataW H)} {ps : List MemPlace}, DataW.TrodAll enc P W b sp hd ts vs ds ps → ds.length = ts.length ∧ vs.length = ts.length
  | [], [], [], _, _ => ⟨rfl, rfl⟩
  | _ :: _, _ :: _, _ :: _, _, ⟨_, _, _, h2, _⟩ => by
    obtain ⟨a, b⟩ := trodAll_len h2
    exact ⟨by simp [a], by simp [b]⟩

/-- A law's answer: true, and its arguments as they were. -/
def LawSpec (s : ChangeSpec) (k : Nat) : Prop := s.vars = [] ∧ ∀ (H : Type) (ds : List (DataW H)), ds.length = k → s.fn H ds = { results := [.lit (.bool true)], args := ds }
/-- The program's parameters can be read, and are rows of its table. -/
def rowsB (P : Program) (ts : List TypeId) : Bool := ts.all fun t => P.readableRec t && decide (t < P.types.size)

theorem law_post {H : Type} {enc : TypeId × Value → H} {P : Program} {f : Func} {s : ChangeSpec} {apart fresh handsOn : Bool} {W W' : World} {args : Array Value} {ds gs : List (DataW H)} {before : List MemPlace} {tb : TypeId}
    (hl : laidOutB P = true) (hr : rowsB P f.params.toList = true) (hs : LawSpec s f.params.toList.length) (hres : f.resultTypes = #[tb]) (htb : P.underlying tb = some .bool)
    (hW : DataW.Whole enc P f.params.toList s.vars apart W args.toList ds gs before) (hm : Mod W W' fun _ => False) : s.post enc P f apart fresh handsOn false W args (.bool true) W' := by
  have hb := hm.below
  obtain ⟨hv, hfn⟩ := hs
  have hW' := hW
  obtain ⟨p, q, hA, hV, rfl, hfz, hnd⟩ := hW
  have hV' := hV
  rw [hv] at hV'
  obtain ⟨rfl, rfl⟩ := trodVars_none hV'
  have hlen := (trodAll_len hA).1
  have hspec := hfn H ds hlen
  have hlt : ∀ x ∈ p, x.block < W.heap.size := fun x hx => hW'.lt x (by simpa using hx)
  have hrow : ∀ t, t ∈ f.params.toList → P.readableRec t = true ∧ t < P.types.size := by
    intro t ht
    have := List.all_eq_true.1 hr t ht
    simpa using this
  refine ⟨ds, [], p ++ [], [], p, [], hW', ?_, ?_, ?_, hb.frame _, fun h => by cases h⟩
  · rw [hres, List.append_nil, hspec]
    exact trodAll_mk1 (shut_bool htb true)
  · rw [List.append_nil, hspec]
    exact trodAll_stays hl hb _ hrow hA hlt (fun x hx => by simpa using hlt x hx)
  · rw [hv, List.append_nil, hspec]
    rfl

/-! ### What came in, by its type -/
/-- How great the parts of what came in may be. -/
structure Small {H : Type} (B : Nat) (Sm : DataW H → Prop) : Prop where
  str : ∀ l : List UInt8, l.length ≤ maxLen → Sm (.lit (.string l)) → l.length ≤ B
  sl : ∀ el sp : List (DataW H), el.length ≤ maxLen → Sm (.slice el sp) → el.length ≤ B ∧ ∀ d, d ∈ el → Sm d
  agg : ∀ ps : List (DataW H), Sm (.agg ps) → ∀ d, d ∈ ps → Sm d
theorem Small.all {H : Type} : Small (H := H) maxLen (fun _ => True) := ⟨fun _ h _ => h, fun _ _ h _ => ⟨h, fun _ _ => trivial⟩, fun _ _ _ _ => trivial⟩
def FitS (F : TypeId → List Value → Prop) (T : List (Option Ty)) (cs : List Value) : List (Nat × TypeId) → Prop
  | [] => True
  | (off, t) :: r => (match getO T t with
    | some y => F t ((cs.drop off).take y.size)
    | none => True) ∧ FitS F T cs r
def Fit (T : List (Option Ty)) (W : World) (B : Nat) : Nat → TypeId → List Value → Prop
  | 0, _, _ => True
  | n + 1, t, cs => match getO T t with
    | none => True
    | some y => match y.d with
      | .bool => ∃ b, cs = [.bool b]
      | .int k => ∃ m, cs = [.int k m] ∧ (Lit.int k m).wf = true
      | .str => ∃ s : ByteArray, cs = [.string s] ∧ s.size ≤ B
      | .st fs => cs.length = y.size ∧ FitS (Fit T W B n) T cs fs
      | .sl e => cs = [.slice none 0 0] ∨ ∃ a m cap, cs = [.slice (some a) m cap] ∧ m ≤ cap ∧ m ≤ B ∧ cap ≤ maxLen ∧ (match getO T e with
        | none => True
        | some ye => ∀ i, i < m → ∃ xs : List Value, xs.length = ye.size ∧ (∀ j, j < ye.size → W.cell? ((a.add (i * ye.size)).add j) = xs[j]?) ∧ Fit T W B n e xs)
      | _ => True
theorem cells?_get {w : World} {a : Addr} {n : Nat} {xs : List Value} (h : w.cells? 0 a n = some xs) : xs.length = n ∧ ∀ j, j < n → w.cell? (a.add j) = xs[j]? := by
  unfold World.cells? at h
  rw [if_pos (Nat.zero_le _)] at h
  refine ⟨by simpa using Lib.mapM_length h, fun j hj => ?_⟩
  obtain ⟨b, h1, h2⟩ := Lib.mapM_at h j j (by simp [hj])
  rw [h1, h2]
theorem TyOk.cellsOf {P : Program} {t : TypeId} {y : Ty} (h : TyOk P t y) : P.cellsOf t = y.size := by
  obtain ⟨_, ⟨i, z, h1, h2, _⟩, _⟩ := h
  simp [Program.cellsOf, h1, h2]
theorem fit_of_trod {H : Type} {enc : TypeId × Value → H} {P : Program} {T : List (Option Ty)} (hT : ∀ t y, getO T t = some y → TyOk P t y) {W : World} {sp : Nat → Bool} {hd : Bool} {B : Nat} {Sm : DataW H → Prop} (hS : Small B Sm) :
    ∀ (d n : Nat) (t : TypeId) (cs : List Value) (x : DataW H × List MemPlace), DataW.trod enc P W 0 sp hd n t cs = some x → Sm x.1 → Fit T W B d t cs
  | 0, _, _, _, _, _, _ => trivial
  | dn + 1, n, t, cs, x, h, hx => by
    unfold Fit
    cases hy : getO T t with
    | none => trivial
    | some y =>
      simp only
      have ok := hT t y hy
      obtain ⟨d, hd1, hd2⟩ := ok.d
      revert hd2
      cases hyd : y.d with
      | bool =>
        intro hd2
        cases d <;> simp [TD.is] at hd2
        obtain ⟨b, h1, _⟩ := DataW.trod_bool hd1 h
        exact ⟨b, h1⟩
      | int k =>
        intro hd2
        cases d <;> simp [TD.is] at hd2
        subst hd2
        obtain ⟨m, h1, _, h2⟩ := DataW.trod_int hd1 h
        exact ⟨m, h1, h2⟩
      | str =>
        intro hd2
        cases d <;> simp [TD.is] at hd2
        obtain ⟨s, h1, hx2, h2⟩ := DataW.trod_string hd1 h
        subst hx2
        have := hS.str _ (by rw [← Lib.size_eq]; exact h2) hx
        exact ⟨s, h1, by rw [Lib.size_eq]; exact this⟩
      | st fs =>
        intro hd2
        cases d <;> simp only [TD.is] at hd2
        rename_i fs'
        obtain ⟨xs, m, hm, hxs, hl, hxl, hf⟩ := DataW.trod_struct hd1 h
        subst hxs
        have hsm := hS.agg _ hx
        refine ⟨by rw [hl, ok.cellsOf], ?_⟩
        have hf' : ∀ f, f ∈ fs'.toList → ∃ z, DataW.trod enc P W 0 sp hd m f.type ((cs.drop f.offset).take (P.cellsOf f.type)) = some z ∧ Sm z.1 := by
          intro f hmem
          obtain ⟨i, hi, rfl⟩ := List.getElem_of_mem hmem
          have h1 : i < fs'.size := by simpa using hi
          have h2 := hf i fs'[i] (by simp [h1])
          have h3 : i < xs.length := by omega
          exact ⟨xs[i], by simpa [List.getElem?_eq_getElem h3] using h2, hsm _ (List.mem_map_of_mem (List.getElem_mem h3))⟩
        clear hd1 h hl hxl hf hyd hsm hx
        generalize fs'.toList = l at hd2 hf'
        subst hd2
        induction l with
        | nil => trivial
        | cons f l ih =>
          refine ⟨?_, ih fun g hg => hf' g (List.mem_cons_of_mem _ hg)⟩
          show (match getO T f.type with | some y => Fit T W B dn f.type ((cs.drop f.offset).take y.size) | none => True)
          cases hg : getO T f.type with
          | none => trivial
          | some yf =>
            simp only
            obtain ⟨z, hz, hz2⟩ := hf' f (List.mem_cons_self ..)
            rw [(hT f.type yf hg).cellsOf] at hz
            exact fit_of_trod hT hS dn m f.type _ z hz hz2
      | sl e =>
        intro hd2
        cases d <;> simp only [TD.is] at hd2
        subst hd2
        rcases DataW.trod_slice hd1 h with ⟨h1, _⟩ | ⟨a, len, cap, elems, rest, m, hm, h1, hxe, _, h3, h4, h5, h6, _⟩
        · exact .inl h1
        · subst hxe
          obtain ⟨s1, s2⟩ := hS.sl _ _ (by simp; omega) hx
          refine .inr ⟨a, len, cap, h1, h3, by simpa [h5] using s1, h4, ?_⟩
          cases hye : getO T e with
          | none => trivial
          | some ye =>
            simp only
            intro i hi
            have h7 := h6 i hi
            rw [(hT e ye hye).cellsOf] at h7
            have hlt : i < elems.length := by omega
            cases hc : W.cells? 0 (a.add (i * ye.size)) ye.size with
            | none =>
              rw [hc] at h7
              rw [List.getElem?_eq_getElem hlt] at h7
              cases h7
            | some xs =>
              rw [hc] at h7
              obtain ⟨g1, g2⟩ := cells?_get hc
              rw [List.getElem?_eq_getElem hlt] at h7
              exact ⟨xs, g1, g2, fit_of_trod hT hS dn m e xs _ h7 (s2 _ (List.mem_map_of_mem (List.getElem_mem hlt)))⟩
      | _ => intro _; trivial

/-- An argument's value, and what it is. -/
def FitV (T : List (Option Ty)) (W : World) (B : Nat) (t : TypeId) (v : Value) : Prop := ∃ cs, Fit T W B 8 t cs ∧ v = (match (match getO T t with | some y => aggd y | none => false) with | true => .agg cs.toArray | false => cs.getD 0 undef)
def FitAll (T : List (Option Ty)) (W : World) (B : Nat) : List TypeId → List Value → Prop
  | [], [] => True
  | t :: ts, v :: vs => FitV T W B t v ∧ FitAll T W B ts vs
  | _, _ => False
theorem fitAll_cons {T : List (Option Ty)} {W : World} {B : Nat} {t : TypeId} {ts : List TypeId} {l : List Value} (h : FitAll T W B (t :: ts) l) : ∃ v vs, l = v :: vs ∧ FitV T W B t v ∧ FitAll T W B ts vs := by
  cases l with
  | nil => exact h.elim
  | cons v vs => exact ⟨v, vs, rfl, h.1, h.2⟩
theorem fitAll_nil {T : List (Option Ty)} {W : World} {B : Nat} {l : List Value} (h : FitAll T W B [] l) : l = [] := by
  cases l with
  | nil => rfl
  | cons v vs => exact h.elim
theorem fitV_of {H : Type} {enc : TypeId × Value → H} {P : Program} {T : List (Option Ty)} (hT : ∀ t y, getO T t = some y → TyOk P t y) {W : World} {sp : Nat → Bool} {hd : Bool} {r : Reach} {b : Nat} {t : TypeId} {v : Value} {d : DataW H} {ps : List MemPlace} {y : Ty} (hy : getO T t = some y)
    {B : Nat} {Sm : DataW H → Prop} (hS : Small B Sm) (hsm : Sm d) (hval : Value.okWide P W r b t v) (h : DataW.Trod enc P W 0 sp hd t v d ps) : FitV T W B t v := by
  obtain ⟨n, hn⟩ := h
  refine ⟨v.cells.toList, fit_of_trod hT hS 8 n t _ _ hn hsm, ?_⟩
  have ok := hT t y hy
  obtain ⟨dd, h1, h2⟩ := ok.d
  rw [hy]
  simp only
  unfold Value.okWide at hval
  rw [h1] at hval
  have one : (∀ cs, v ≠ .agg cs) → v = v.cells.toList.getD 0 undef := by
    intro hv
    cases v <;> first | rfl | (exact absurd rfl (hv _))
  have nagg : Cell.okWide P W r b t v → aggd y = false → v = (match aggd y with | true => .agg v.cells.toList.toArray | false => v.cells.toList.getD 0 undef) := by
    intro hc hy2
    rw [hy2]
    refine one fun cs hv => ?_
    subst hv
    unfold Cell.okWide at hc
    rw [h1] at hc
    revert h2 hy2
    unfold aggd
    cases y.d <;> cases dd <;> simp_all [TD.is, Cell.okWide, Cell.ok]
  revert h2
  unfold aggd at nagg ⊢
  cases hyd : y.d <;> cases dd <;> simp only [TD.is] <;> intro h2 <;> first
    | (exact h2.elim)
    | (obtain ⟨cs, rfl, _⟩ := hval; simp [Value.cells])
    | (simp only [hyd] at nagg; exact nagg hval trivial)
theorem fitAll_of {H : Type} {enc : TypeId × Value → H} {P : Program} {T : List (Option Ty)} (hT : ∀ t y, getO T t = some y → TyOk P t y) {W : World} {sp : Nat → Bool} {hd : Bool} {r : Reach} {b : Nat} {B : Nat} {Sm : DataW H → Prop} (hS : Small B Sm) : ∀ (ts : List TypeId) (vs : List Value) (ds : List (DataW H)) (ps : List MemPlace),
    (∀ t, t ∈ ts → ∃ y, getO T t = some y) → (∀ d, d ∈ ds → Sm d) → (∀ (j : Nat) t v, ts[j]? = some t → vs[j]? = some v → Value.okWide P W r b t v) → DataW.TrodAll enc P W 0 sp hd ts vs ds ps → FitAll T W B ts vs
  | [], [], [], _, _, _, _, _ => trivial
  | t :: ts, v :: vs, d :: ds, _, hy, hsm, hval, ⟨p, q, h1, h2, _⟩ => by
    obtain ⟨y, hy1⟩ := hy t (List.mem_cons_self ..)
    exact ⟨fitV_of hT hy1 hS (hsm d (List.mem_cons_self ..)) (hval 0 t v rfl rfl) h1, fitAll_of hT hS ts vs ds q (fun t' ht' => hy t' (List.mem_cons_of_mem _ ht')) (fun d' hd' => hsm d' (List.mem_cons_of_mem _ hd')) (fun j t' v' h3 h4 => hval (j + 1) t' v' (by simpa using h3) (by simpa using h4)) h2⟩
theorem fit_int {T : List (Option Ty)} {W : World} {t : TypeId} {v : Value} {y : Ty} {k : IntKind} {B : Nat} (hy : getO T t = some y) (hd : y.d = .int k) (h : FitV T W B t v) : ∃ n, v = .int k n ∧ (Lit.int k n).wf = true := by
  obtain ⟨cs, hf, rfl⟩ := h
  unfold Fit at hf
  rw [hy] at hf ⊢
  simp only [hd, aggd] at hf ⊢
  obtain ⟨m, rfl, hw⟩ := hf
  exact ⟨m, rfl, hw⟩
theorem fit_bool {T : List (Option Ty)} {W : World} {t : TypeId} {v : Value} {y : Ty} {B : Nat} (hy : getO T t = some y) (hd : y.d = .bool) (h : FitV T W B t v) : ∃ b, v = .bool b := by
  obtain ⟨cs, hf, rfl⟩ := h
  unfold Fit at hf
  rw [hy] at hf ⊢
  simp only [hd, aggd] at hf ⊢
  obtain ⟨b, rfl⟩ := hf
  exact ⟨b, rfl⟩
theorem fit_str {T : List (Option Ty)} {W : World} {t : TypeId} {v : Value} {y : Ty} {B : Nat} (hy : getO T t = some y) (hd : y.d = .str) (h : FitV T W B t v) : ∃ s : ByteArray, v = .string s ∧ s.size ≤ B := by
  obtain ⟨cs, hf, rfl⟩ := h
  unfold Fit at hf
  rw [hy] at hf ⊢
  simp only [hd, aggd] at hf ⊢
  obtain ⟨s, rfl, hw⟩ := hf
  exact ⟨s, rfl, hw⟩
end Go.SX
namespace Go.SX
/-- The row's facts, each reckoned apart. -/
theorem joined_of {P : Program} {f : FuncId} {fn : Func} {s : ChangeSpec} {c : OpenClaim}
    (h1 : (c.wf (OpenSpec.ofChange s) && laidOutB P && mapsRowed P && fn.params.all (P.readableRec ·) && namedTie P c.named s.vars && (c.stops == []) && (P.stops == []) && (c.knobs == []) && (P.stopKnobs == [])) = true)
    (h2 : (c.inPlace == P.inPlace f) = true) (h3 : (c.unfollowed == P.unfollowed f) = true) (h4 : (c.recurses == P.recurses f) = true) (h5 : (c.named == P.varsNamed f) = true)
    (h6 : ((c.maps == (fn.params.toList ++ s.plain.varTypes P).any (P.mapsRec ·)) && (c.ifaces == (fn.params.toList ++ s.plain.varTypes P).any (P.ifacesRec ·)) && (c.mapsOut == P.mapsAmong fn.resultTypes.toList) &&
      (c.loops == (fn.params.toList ++ s.plain.varTypes P).any (P.loopsFrom ·)) && (c.wideKeys == (fn.params.toList ++ s.plain.varTypes P ++ fn.resultTypes.toList).any (P.wideKeysFrom ·)) &&
      s.vars.all (P.varReadable ·) && fn.resultTypes.all (fun t => P.readableRec t && decide (t < P.types.size)) && (c.ifacesOut == fn.resultTypes.toList.any (P.ifacesRec ·)) && (c.loopsOut == fn.resultTypes.toList.any (P.loopsFrom ·)) && (c.plainKeys == P.plainKeys) && c.shortTexts.isNone) = true)
    (h7 : (P.stopsHeard && P.mayEnter && (c.lifted == P.liftsFinal) && (P.make == some c.make) && (c.kinds == (if c.domain.isEmpty then [] else fn.params.toList.map fun t => match P.underlying t with | some (.int k) => some k | _ => none)) && (c.pinned == c.pinnedBy) &&
      (c.veiled == (fn.params.toList ++ s.plain.varTypes P ++ fn.resultTypes.toList).any (P.veiledRec ·)) && c.veiledFits P fn.params.toList (fn.params.toList ++ s.plain.varTypes P ++ fn.resultTypes.toList)) = true) :
    joinedFacts P f fn s c = true := by
  unfold joinedFacts
  simp only [Bool.and_eq_true] at h1 h6 h7 ⊢
  simp only [h1, h2, h3, h4, h5, h6, h7, and_self, true_and, and_true]
  exact h7.1.1.1.2
end Go.SX
