/-
  What the laws of these data stand on: contracts of functions, and plain laws.
-/
import Derived.Deep.LoopGhost
import Derived.Calls
import Derived.Tactics
import Derived.Laws.World
import Derived.Laws.Rows
import Derived.Laws.AppendOwn
import Derived.Laws.MakeOwn
import Derived.Orders
import Derived.OrdersIn
import Derived.Scope
import Derived.TacticsIn
import Derived.LoopNIn
import Derived.Sort.LoopGhostIn
import Derived.Below
import Derived.KernelRfl
import Derived.Laws.Strings
import Derived.Laws.BytesArg
import Derived.Laws.Entries
import Derived.Laws.Cells
import Derived.Lib.ConvBytes
import Derived.Lib.AppendStr
import Derived.LoopN
import Derived.Laws.StructEq
import Derived.Lib.Strings
import Derived.Lib.Bytealg
import Derived.Lib.Join
import Derived.Laws.Externs
import Derived.MapKept
import Derived.WideKeyRuns
import Derived.Recover
import Derived.Test.YtbladfkakmdigaaGreatDoorRXa
set_option linter.unusedVariables false
set_option linter.unusedSimpArgs false
set_option linter.unnecessarySimpa false
set_option linter.unusedSimpArgs false
set_option linter.unusedVariables false
namespace Go.SX

def valEq : Value → Value → Bool
  | .bool a, .bool b => beqB a b
  | .int k a, .int k' b => Nat.beq (ikn k) (ikn k') && decide (a = b)
  | .string a, .string b => decide (a.data.toList = b.data.toList)
  | .pointer none, .pointer none => true
  | .slice none n c, .slice none m d => Nat.beq n m && Nat.beq c d
  | .map none, .map none => true
  | .chan none, .chan none => true
  | .nilFunc, .nilFunc => true
  | .nilIface, .nilIface => true
  | _, _ => false
theorem valEq_eq {a b : Value} (h : valEq a b = true) : a = b := by
  unfold valEq at h
  split at h <;> try (first | rfl | cases h; done)
  · rw [beqB_eq h]
  · simp only [Bool.and_eq_true, decide_eq_true_eq] at h
    rw [ikn_inj h.1, h.2]
  · simp only [decide_eq_true_eq] at h
    congr 1
    apply ByteArray.ext
    apply Array.ext'
    exact h
  · simp only [Bool.and_eq_true] at h
    rw [Nat.eq_of_beq_eq_true h.1, Nat.eq_of_beq_eq_true h.2]
def valsEq : List Value → List Value → Bool
  | [], [] => true
  | a :: l, b :: r => valEq a b && valsEq l r
  | _, _ => false
theorem valsEq_eq : ∀ {l r : List Value}, valsEq l r = true → l = r
  | [], [], _ => rfl
  | a :: l, b :: r, h => by
    simp only [valsEq, Bool.and_eq_true] at h
    rw [valEq_eq h.1, valsEq_eq h.2]
  | [], _ :: _, h => by simp [valsEq] at h
  | _ :: _, [], h => by simp [valsEq] at h
def fldsEq : List Field → List (Nat × TypeId) → Bool
  | [], [] => true
  | f :: l, p :: r => Nat.beq f.offset p.1 && Nat.beq f.type p.2 && fldsEq l r
  | _, _ => false
theorem fldsEq_eq : ∀ {l : List Field} {r : List (Nat × TypeId)}, fldsEq l r = true → l.map (fun f => (f.offset, f.type)) = r
  | [], [], _ => rfl
  | f :: l, p :: r, h => by
    simp only [fldsEq, Bool.and_eq_true] at h
    rw [List.map_cons, fldsEq_eq h.2, Nat.eq_of_beq_eq_true h.1.1, Nat.eq_of_beq_eq_true h.1.2]
  | [], _ :: _, h => by simp [fldsEq] at h
  | _ :: _, [], h => by simp [fldsEq] at h
def tdIs : TD → TypeDesc → Bool
  | .bool, .bool => true
  | .int k, .int k' => Nat.beq (ikn k) (ikn k')
  | .str, .string => true
  | .ptr e, .pointer e' => Nat.beq e e'
  | .sl e, .slice e' => Nat.beq e e'
  | .arr n e, .array n' e' => Nat.beq n n' && Nat.beq e e'
  | .st fs, .struct fs' => fldsEq fs'.toList fs
  | .ifc, .interface _ => true
  | .fn, .func _ _ _ => true
  | .oth, .struct _ => false
  | .oth, .array _ _ => false
  | .oth, _ => true
  | .mp k e, .map k' e' => Nat.beq k k' && Nat.beq e e'
  | _, _ => false
theorem tdIs_ok {a : TD} {d : TypeDesc} (h : tdIs a d = true) : a.is d := by
  unfold tdIs at h
  split at h <;> simp only [TD.is] <;> try (cases h; done)
  · exact ikn_inj h
  · exact Nat.eq_of_beq_eq_true h
  · exact Nat.eq_of_beq_eq_true h
  · simp only [Bool.and_eq_true] at h; exact ⟨Nat.eq_of_beq_eq_true h.1, Nat.eq_of_beq_eq_true h.2⟩
  · exact fldsEq_eq h
  · simp only [Bool.and_eq_true] at h; exact ⟨Nat.eq_of_beq_eq_true h.1, Nat.eq_of_beq_eq_true h.2⟩
def chkEq (P : Program) (t : TypeId) : Bool :=
  !P.stoodInHeld t && !P.eqGuardType P.depth t && (match P.underlying t with
    | some (.struct fs) => fs.toList.all fun f => f.name != "_"
    | _ => true)
def zShape (y : Ty) : Value → Bool
  | .agg _ => aggd y
  | _ => !aggd y
theorem zShape_eq {y : Ty} {z : Value} (h : zShape y z = true) (hz : z.cells.toList = y.zero) : z = mkVal y y.zero := by
  unfold zShape at h
  split at h
  · rename_i l
    simp only [Value.cells] at hz
    simp [mkVal, h, ← hz]
  · rename_i hn
    have h' : aggd y = false := by simpa using h
    have : z.cells = #[z] := by cases z <;> first | rfl | exact (hn _ rfl).elim
    rw [this] at hz
    simp [mkVal, h', ← hz]
def chkTy (P : Program) (t : TypeId) (y : Ty) : Bool :=
  match P.underlying t, P.info? t with
  | some d, some i => match i.zero with
    | some z => tdIs y.d d && Nat.beq i.size y.size && Nat.beq i.bytes y.bytes && valsEq z.cells.toList y.zero && zShape y z && (!y.eq || chkEq P t)
    | none => false
  | _, _ => false
theorem chkTy_ok {P : Program} {t : TypeId} {y : Ty} (h : chkTy P t y = true) : TyOk P t y := by
  unfold chkTy at h
  split at h
  · rename_i d i hd hi
    split at h
    · rename_i z hz
      simp only [Bool.and_eq_true] at h
      refine ⟨⟨d, hd, tdIs_ok h.1.1.1.1.1⟩, ⟨i, z, hi, Nat.eq_of_beq_eq_true h.1.1.1.1.2, Nat.eq_of_beq_eq_true h.1.1.1.2, hz, valsEq_eq h.1.1.2, zShape_eq h.1.2 (valsEq_eq h.1.1.2)⟩, fun he => ?_⟩
      have h2 := h.2
      rw [he] at h2
      simp only [Bool.not_true, Bool.false_or, chkEq, Bool.and_eq_true, Bool.not_eq_true'] at h2
      refine ⟨h2.1.1, h2.1.2, fun fs hfs f hf => ?_⟩
      have h3 := h2.2
      rw [hfs] at h3
      simp only [List.all_eq_true] at h3
      simpa using h3 f hf
    · cases h
  · cases h
def chkTys (P : Program) : Nat → List (Option Ty) → Bool
  | _, [] => true
  | i, none :: l => chkTys P (i + 1) l
  | i, some y :: l => chkTy P i y && chkTys P (i + 1) l
theorem chkTys_ok {P : Program} : ∀ (l : List (Option Ty)) (i : Nat), chkTys P i l = true → ∀ t y, getO l t = some y → TyOk P (i + t) y
  | [], i, _, t, y, h => by cases t <;> simp [getO] at h
  | x :: l, i, hc, t, y, h => by
    have hc' : chkTys P (i + 1) l = true := by
      cases x with
      | none => simpa [chkTys] using hc
      | some x => simp only [chkTys, Bool.and_eq_true] at hc; exact hc.2
    cases t with
    | zero =>
      simp only [getO] at h
      subst h
      simp only [chkTys, Bool.and_eq_true] at hc
      exact chkTy_ok hc.1
    | succ t =>
      have := chkTys_ok l (i + 1) hc' t y (by simpa [getO] using h)
      rwa [show i + 1 + t = i + (t + 1) by omega] at this
theorem Ctx.ok_of {P : Program} {T : List (Option Ty)} (h : chkTys P 0 T = true) (n : Nat) (I : World → Prop) : Ctx.ok ⟨P, T, n, I⟩ := fun t y hy => by
  have := chkTys_ok T 0 h t y hy
  simpa using this
end Go.SX
set_option linter.unusedSimpArgs false
set_option linter.unusedVariables false
namespace Go.SX

def pwK : Nat → (Int → Prop) → Prop
  | 0, k => k 1
  | 1, k => k 2
  | 2, k => k 4
  | 3, k => k 8
  | 4, k => k 16
  | 5, k => k 32
  | 6, k => k 64
  | 7, k => k 128
  | 8, k => k 256
  | 9, k => k 512
  | 10, k => k 1024
  | 11, k => k 2048
  | 12, k => k 4096
  | 13, k => k 8192
  | 14, k => k 16384
  | 15, k => k 32768
  | 16, k => k 65536
  | 17, k => k 131072
  | 18, k => k 262144
  | 19, k => k 524288
  | 20, k => k 1048576
  | 21, k => k 2097152
  | 22, k => k 4194304
  | 23, k => k 8388608
  | 24, k => k 16777216
  | 25, k => k 33554432
  | 26, k => k 67108864
  | 27, k => k 134217728
  | 28, k => k 268435456
  | 29, k => k 536870912
  | 30, k => k 1073741824
  | 31, k => k 2147483648
  | 32, k => k 4294967296
  | 33, k => k 8589934592
  | 34, k => k 17179869184
  | 35, k => k 34359738368
  | 36, k => k 68719476736
  | 37, k => k 137438953472
  | 38, k => k 274877906944
  | 39, k => k 549755813888
  | 40, k => k 1099511627776
  | 41, k => k 2199023255552
  | 42, k => k 4398046511104
  | 43, k => k 8796093022208
  | 44, k => k 17592186044416
  | 45, k => k 35184372088832
  | 46, k => k 70368744177664
  | 47, k => k 140737488355328
  | 48, k => k 281474976710656
  | 49, k => k 562949953421312
  | 50, k => k 1125899906842624
  | 51, k => k 2251799813685248
  | 52, k => k 4503599627370496
  | 53, k => k 9007199254740992
  | 54, k => k 18014398509481984
  | 55, k => k 36028797018963968
  | 56, k => k 72057594037927936
  | 57, k => k 144115188075855872
  | 58, k => k 288230376151711744
  | 59, k => k 576460752303423488
  | 60, k => k 1152921504606846976
  | 61, k => k 2305843009213693952
  | 62, k => k 4611686018427387904
  | 63, k => k 9223372036854775808
  | 64, k => k 18446744073709551616
  | n, k => k (2 ^ n)
theorem pwK_eq (n : Nat) (k : Int → Prop) (h : pwK n k) : k (2 ^ n) := by
  unfold pwK at h
  split at h <;> exact h
def shN (kd : IntKind) (b : Int) (k : Int → Prop) : Prop :=
  match b with
  | .ofNat n => match Nat.ble n kd.bits with
    | true => pwK n k
    | false => pwK kd.bits k
  | .negSucc _ => False
theorem shN_eq {kd : IntKind} {b : Int} {k : Int → Prop} (h : shN kd b k) : 0 ≤ b ∧ k (2 ^ (min b.toNat kd.bits)) := by
  unfold shN at h
  split at h
  · rename_i n
    refine ⟨by simp, ?_⟩
    split at h
    · rename_i hb
      have := Nat.le_of_ble_eq_true hb
      simpa [Nat.min_eq_left this] using pwK_eq _ _ h
    · rename_i hb
      have : kd.bits ≤ n := by
        rcases Nat.le_total n kd.bits with h1 | h1
        · rw [Nat.ble_eq_true_of_le h1] at hb; cases hb
        · exact h1
      simpa [Nat.min_eq_right this] using pwK_eq _ _ h
  · exact h.elim
theorem Sh.shrL {kd : IntKind} {a b : Int} {f : Value → Prop} (h : shN kd b fun d => Nm (a.fdiv d) fun m => f (.int kd m)) : Sh .shr kd a b f := by
  obtain ⟨h1, h2⟩ := shN_eq h
  exact ⟨h1, .inr ⟨rfl, h2.self⟩⟩
theorem Sh.shlL {kd : IntKind} {a b : Int} {f : Value → Prop} (h : shN kd b fun d => Nm (kd.wrap (a * d)) fun m => f (.int kd m)) : Sh .shl kd a b f := by
  obtain ⟨h1, h2⟩ := shN_eq h
  exact ⟨h1, .inl ⟨rfl, h2.self⟩⟩
theorem Sh.shr {kd : IntKind} {a b : Int} {f : Value → Prop} (m : Int) (h0 : 0 ≤ b) (hm : a.fdiv (2 ^ (min b.toNat kd.bits)) = m) (h : f (.int kd m)) : Sh .shr kd a b f := ⟨h0, .inr ⟨rfl, by rw [hm]; exact h⟩⟩
theorem Sh.shl {kd : IntKind} {a b : Int} {f : Value → Prop} (m : Int) (h0 : 0 ≤ b) (hm : kd.wrap (a * 2 ^ (min b.toNat kd.bits)) = m) (h : f (.int kd m)) : Sh .shl kd a b f := ⟨h0, .inl ⟨rfl, by rw [hm]; exact h⟩⟩

theorem wrap_i64 {n : Int} (h : -9223372036854775808 ≤ n ∧ n ≤ 9223372036854775807) : IntKind.i64.wrap n = n := by
  simp only [IntKind.wrap, IntKind.signed, IntKind.bits]
  simp
  omega
theorem wrap_u64 {n : Int} (h : 0 ≤ n ∧ n ≤ 18446744073709551615) : IntKind.u64.wrap n = n := by
  simp only [IntKind.wrap, IntKind.signed, IntKind.bits]
  simp
  omega
theorem wrap_u8 {n : Int} (h : 0 ≤ n ∧ n ≤ 255) : IntKind.u8.wrap n = n := by
  simp only [IntKind.wrap, IntKind.signed, IntKind.bits]
  simp
  omega
theorem wrap_u32 {n : Int} (h : 0 ≤ n ∧ n ≤ 4294967295) : IntKind.u32.wrap n = n := by
  simp only [IntKind.wrap, IntKind.signed, IntKind.bits]
  simp
  omega
theorem wrap_i32 {n : Int} (h : -2147483648 ≤ n ∧ n ≤ 2147483647) : IntKind.i32.wrap n = n := by
  simp only [IntKind.wrap, IntKind.signed, IntKind.bits]
  simp
  omega
theorem wrap_u16 {n : Int} (h : 0 ≤ n ∧ n ≤ 65535) : IntKind.u16.wrap n = n := by
  simp only [IntKind.wrap, IntKind.signed, IntKind.bits]
  simp
  omega
theorem fdiv_pos {a d : Int} (h : 0 < d) : a.fdiv d = a / d := Int.fdiv_eq_ediv_of_nonneg _ (by omega)
theorem Nm.i64 {n : Int} {f : Int → Prop} (h : -9223372036854775808 ≤ n ∧ n ≤ 9223372036854775807) (k : f n) : Nm (IntKind.i64.wrap n) f := ⟨n, wrap_i64 h, k⟩
theorem Nm.u64 {n : Int} {f : Int → Prop} (h : 0 ≤ n ∧ n ≤ 18446744073709551615) (k : f n) : Nm (IntKind.u64.wrap n) f := ⟨n, wrap_u64 h, k⟩
theorem Nm.u8 {n : Int} {f : Int → Prop} (h : 0 ≤ n ∧ n ≤ 255) (k : f n) : Nm (IntKind.u8.wrap n) f := ⟨n, wrap_u8 h, k⟩
theorem Nm.u16 {n : Int} {f : Int → Prop} (h : 0 ≤ n ∧ n ≤ 65535) (k : f n) : Nm (IntKind.u16.wrap n) f := ⟨n, wrap_u16 h, k⟩
theorem Nm.u32 {n : Int} {f : Int → Prop} (h : 0 ≤ n ∧ n ≤ 4294967295) (k : f n) : Nm (IntKind.u32.wrap n) f := ⟨n, wrap_u32 h, k⟩
theorem Nm.i32 {n : Int} {f : Int → Prop} (h : -2147483648 ≤ n ∧ n ≤ 2147483647) (k : f n) : Nm (IntKind.i32.wrap n) f := ⟨n, wrap_i32 h, k⟩
theorem Nm.fd {a d : Int} {f : Int → Prop} (h : 0 < d) (k : f (a / d)) : Nm (a.fdiv d) f := ⟨a / d, fdiv_pos h, k⟩
end Go.SX
set_option linter.unusedSimpArgs false
set_option linter.unusedVariables false
namespace Go.SX

theorem run_append_zero {P : Program} {w : World} {t ty e : TypeId} {y : Ty} (hy : TyOk P e y) (ht : P.underlying t = some (.slice e)) (base : Option Addr) (n cap : Nat) (hn : n ≤ cap) (a : Option Addr) (c : Nat) :
    (Builtin.append_ #[t, t] ty #[.slice base n cap, .slice a 0 c]).run P w = .ok (.slice base n cap) w := by
  obtain ⟨_, ⟨i, z, h1, h2, h3, h4, h5⟩, _⟩ := hy
  cases a <;> cases base <;> simp [Builtin.append_, run_underlying ht, sizeOf, typeInfo, h1, Builtin.lenOf, hn, Builtin.firstCells, loadCells, loadCellsFrom, storeCells]

theorem append_row {P : Program} {w : World} {t ty e : TypeId} {y : Ty} (hy : TyOk P e y) (ht : P.underlying t = some (.slice e)) (h0 : 0 < y.size) (hz : y.zero.length = y.size) {base : Option Addr} {blk n cap : Nat} {xs : List Value}
    (hb : base = none ∨ base = some ⟨blk, 0, none⟩) (hown : w.ownsRow 0 e y.size (.slice base n cap) n xs) {u : Value} {m : Nat} {news : List Value} (hl : news.length = m * y.size)
    (hu : (m = 0 ∧ ∃ a c, u = .slice a 0 c) ∨ ∃ a c, u = .slice (some a) m c ∧ ∀ j q, news[j]? = some q → w.cell? (a.add j) = some q) (h1 : ∀ q ∈ news, q.oneCell' = true)
    (h63 : n + m ≤ maxLen) (hby : (n + m) * y.bytes ≤ 140737488355328) :
    ∃ base' blk' cap' w', (Builtin.append_ #[t, t] ty #[.slice base n cap, u]).run P w = .ok (.slice base' (n + m) cap') w' ∧ (base' = none ∨ base' = some ⟨blk', 0, none⟩) ∧ w'.ownsRow 0 e y.size (.slice base' (n + m) cap') (n + m) (xs ++ news) ∧
      (Mod w w' fun b => base = some ⟨b, 0, none⟩) ∧ ((base' = base ∧ blk' = blk) ∨ (w.heap.size ≤ blk' ∧ blk' < w'.heap.size ∧ base' = some ⟨blk', 0, none⟩)) := by
  have hlen : (xs ++ news).length = (n + m) * y.size := by rw [List.length_append, hown.1, hl, Nat.add_mul]
  have hncap : n ≤ cap := by
    rcases hown.2 with ⟨h2, h3⟩ | ⟨g, cap', cur, h2, _, _, h3, _⟩
    · omega
    · cases h2; exact h3
  by_cases hm : m = 0
  · subst hm
    have hn0 : news = [] := List.eq_nil_of_length_eq_zero (by simpa using hl)
    subst hn0
    have hu' : ∃ a c, u = .slice a 0 c := by
      rcases hu with ⟨_, h⟩ | ⟨a, c, h, _⟩
      · exact h
      · exact ⟨some a, c, h⟩
    obtain ⟨a, c, rfl⟩ := hu'
    refine ⟨base, blk, cap, w, run_append_zero hy ht base n cap hncap a c, hb, by simpa using hown, Mod.refl _ _, .inl ⟨rfl, rfl⟩⟩
  · have hu' : ∃ a c, u = .slice (some a) m c ∧ ∀ j q, news[j]? = some q → w.cell? (a.add j) = some q := by
      rcases hu with ⟨h, _⟩ | h
      · exact (hm h).elim
      · exact h
    obtain ⟨a, c, rfl, hcell⟩ := hu'
    obtain ⟨_, ⟨i, z, i1, i2, i3, i4, i5⟩, _⟩ := hy
    have hzc : z.cells.size = i.size := by rw [i2, ← hz, ← i5.1]; simp
    have hl' : news.length = m * i.size := by rw [i2]; exact hl
    have hsmall : n + m ≤ 9223372036854775807 := by unfold maxLen at h63; omega
    have hby' : (n + m) * i.bytes ≤ 140737488355328 := by rw [i3]; exact hby
    have grown : ∀ (old : Nat) (xs' : List Value), xs' = xs → 
        (w.drew.alloc (.cells (xs'.toArray ++ news.toArray ++ Builtin.zeroCells z.cells (grownCap w (n + m) old e - (n + m))) e)).ownsRow 0 e y.size (.slice (some ⟨w.heap.size, 0, none⟩) (n + m) (grownCap w (n + m) old e)) (n + m) (xs ++ news) := by
      intro old xs' hx
      subst hx
      have hge := grownCap_ge w (n + m) old e
      have hcm : grownCap w (n + m) old e ≤ maxLen := grownCap_le_maxLen w (n + m) old e h63
      refine ownsRow_of_heap (rest := (Builtin.zeroCells z.cells (grownCap w (n + m) old e - (n + m))).toList) hlen ?_ hge hcm ?_
      · have := heap_alloc_new w.drew (.cells (xs'.toArray ++ news.toArray ++ Builtin.zeroCells z.cells (grownCap w (n + m) old e - (n + m))) e)
        simp only [World.size_drew] at this
        rw [this]
        congr 2
        apply Array.ext'
        simp
      · rw [List.length_append, hlen]
        have : (Builtin.zeroCells z.cells (grownCap w (n + m) old e - (n + m))).toList.length = (grownCap w (n + m) old e - (n + m)) * y.size := by
          have := size_zeroCells z.cells (grownCap w (n + m) old e - (n + m))
          simp only [Array.length_toList]
          rw [this, hzc, i2]
        rw [this, ← Nat.add_mul]
        congr 1
        omega
    rcases hb with hb | hb
    · subst hb
      obtain ⟨hx, ⟨hs, hn⟩ | ⟨g, cap', cur, hs, _⟩⟩ := hown
      · injection hs with _ _ hcap
        subst hn
        subst hcap
        have hx0 : xs = [] := List.eq_nil_of_length_eq_zero (by simpa using hx)
        subst hx0
        have hr := run_append_nil (P := P) w t ty e i z ht i1 i4 a m c news hl' hcell (by omega) (by omega) (by simp only [Nat.zero_add] at hby'; omega)
        have hg := grown 0 [] rfl
        simp only [Nat.zero_add, List.nil_append, Array.empty_append] at hg ⊢
        exact ⟨_, w.heap.size, _, _, hr, .inr rfl, hg, (Mod.drew w _).trans (Mod.alloc w.drew _ _) (fun _ h => .inl h), .inr ⟨Nat.le_refl _, by simp, rfl⟩⟩
      · cases hs
    · subst hb
      obtain ⟨rest, hh, hnc, hcm, hcs⟩ := ownsRow_heap hown
      by_cases hroom : n + m ≤ cap
      · have hfit : n * i.size + news.length ≤ (xs ++ rest).toArray.size := by
          rw [hl', ← Nat.add_mul]
          simp only [List.size_toArray]
          rw [hcs, i2]
          exact Nat.mul_le_mul_right _ hroom
        have hr := run_append_room (P := P) w t ty e i ht i1 blk n cap _ hh a m c news hl' hcell h1 hroom hfit
        refine ⟨_, blk, cap, _, hr, .inr rfl, ?_, ?_, .inl ⟨rfl, rfl⟩⟩
        · have e1 : ((xs ++ rest).toArray.toList.take (n * i.size) ++ news ++ (xs ++ rest).toArray.toList.drop (n * i.size + news.length)) = (xs ++ news) ++ (rest.drop news.length) := by
            have hxl : xs.length = n * i.size := by rw [i2]; exact hown.1
            simp only [List.toList_toArray]
            rw [← hxl, List.take_left, List.drop_append]
            simp
          rw [e1]
          refine ownsRow_of_heap hlen (setRow_heap w blk _ _ e _ hh) hroom hcm ?_
          have := hcs
          simp only [List.length_append] at this ⊢
          rw [List.length_drop]
          have h5 : news.length ≤ rest.length := by
            simp only [List.size_toArray, List.length_append] at hfit
            have : xs.length = n * i.size := by rw [i2]; exact hown.1
            omega
          omega
        · refine ⟨rfl, rfl, rfl, by simp, fun b hb hn => setRow_other w blk b _ (fun e => hn (by rw [e]))⟩
      · have holds : ∀ j q, xs[j]? = some q → w.cell? ((⟨blk, 0, none⟩ : Addr).add j) = some q := hown.cells (g := blk) rfl
        have hr := run_append_grow (P := P) w t ty e i z ht i1 i4 ⟨blk, 0, none⟩ n cap xs (by rw [i2]; exact hown.1) holds a m c news hl' hcell (by omega) (by omega) (growslice_fits (by omega) hby')
        exact ⟨_, w.heap.size, _, _, hr, .inr rfl, grown cap xs rfl, (Mod.drew w _).trans (Mod.alloc w.drew _ _) (fun _ h => .inl h), .inr ⟨Nat.le_refl _, by simp, rfl⟩⟩

structure Src (X : Ctx) (fr : List AV) (cr : List (Nat × Option Chunk)) (x : Operand) (esz m : Nat) (l : List AV) : Prop where
  ok : ∀ st E a w ρ, Rel X E st a w ρ → (∀ i k, (i, k) ∈ cr → getO st.ch i = k) → evA st.fr x = evA fr x →
    ∃ news, relL st.vs st.ez ρ l news ∧ ((m = 0 ∧ ∃ a' c, a.eval x = .slice a' 0 c) ∨ ∃ ad c, a.eval x = .slice (some ad) m c ∧ ∀ j q, news[j]? = some q → w.cell? (ad.add j) = some q)
  len : l.length = m * esz
  ones : l.all SX.one = true
theorem Src.sl {X : Ctx} {fr : List AV} {x : Operand} {d kd lo m : Nat} {dk : Chunk} {l : List AV} (hx : evA fr x = .sl d kd lo m) (hv : kd = dk.ver) (hk : dk.kind matches .own | .buf | .row | .ro) (hl : subL dk.cells (lo * dk.esz) (m * dk.esz) = some l) (h1 : l.all one = true) :
    Src X fr [(d, some dk)] x dk.esz m l := by
  refine ⟨fun st E a w ρ hr hc he => ?_, ?_, h1⟩
  · have hc' := hc d (some dk) (by simp)
    obtain ⟨ys, g1, g2⟩ := hr.heap.ok d dk hc'
    obtain ⟨g3, g4⟩ := relL_sub g1 hl
    have g5 := hr.ev x
    rw [he, hx] at g5
    simp only [rel] at g5
    obtain ⟨cur, q1, q2, q3, _⟩ := g5
    have hcur : cur = dk.ver := by simp [St.vs, hc'] at q1; exact q1.symm
    subst hcur
    obtain ⟨s1, ad, s2, s3, s4⟩ := q3 hv
    have hez : st.ez d = dk.esz := by simp [St.ez, hc']
    refine ⟨_, g3, ?_⟩
    by_cases hm : m = 0
    · subst hm; exact .inl ⟨rfl, _, _, s2⟩
    · have hb := mem_base hk g2 (by omega)
      have hs := s3 hm
      rw [hb] at hs
      simp only [Option.map_some, add_none] at hs
      subst hs
      refine .inr ⟨_, _, s2, fun j q hq => ?_⟩
      rw [List.getElem?_take] at hq
      split at hq
      · rw [List.getElem?_drop] at hq
        rw [add_none, hez, Nat.add_assoc]
        exact mem_cells g2 hk _ q hq
      · cases hq
  · have := (subL_spec _ _ _ _ hl)
    rw [this.1]; simp; omega
theorem Src.nil {X : Ctx} {fr : List AV} {x : Operand} {a : Option Addr} {c : Nat} (esz : Nat) (hx : evA fr x = .v (.slice a 0 c)) : Src X fr [] x esz 0 [] := by
  refine ⟨fun st E a' w ρ hr hc he => ?_, by simp, rfl⟩
  have g5 := hr.ev x
  rw [he, hx] at g5
  simp only [rel] at g5
  exact ⟨[], by simp [relL], .inl ⟨rfl, _, _, g5⟩⟩
theorem Src.ext {X : Ctx} {fr : List AV} {x : Operand} {ad : Addr} {m c esz : Nat} {news : List Value} (hx : evA fr x = .v (.slice (some ad) m c)) (hl : news.length = m * esz) (h1 : ∀ q ∈ news, q.oneCell' = true)
    (hc : ∀ w, X.I w → ∀ j q, news[j]? = some q → w.cell? (ad.add j) = some q) : Src X fr [] x esz m (news.map .v) := by
  refine ⟨fun st E a w ρ hr hcc he => ?_, by simpa using hl, ?_⟩
  · have g5 := hr.ev x
    rw [he, hx] at g5
    simp only [rel] at g5
    exact ⟨news, relL_vals _, .inr ⟨ad, c, g5, hc w (E.inv w hr.heap.mod)⟩⟩
  · simp only [List.all_map, List.all_eq_true]
    intro q hq
    exact h1 q hq

theorem relL_ones {vs ez ρ} : ∀ (l : List AV) (xs : List Value), relL vs ez ρ l xs → l.all one = true → ∀ u ∈ xs, u.oneCell' = true
  | [], [], _, _, u, hu => by simp at hu
  | [], _ :: _, h, _, _, _ => by simp [relL] at h
  | _ :: _, [], h, _, _, _ => by simp [relL] at h
  | b :: l, v :: xs, h, h1, u, hu => by
    simp only [relL] at h
    simp only [List.all_cons, Bool.and_eq_true] at h1
    rcases List.mem_cons.1 hu with rfl | hu
    · exact rel_one _ _ h.1 h1.1
    · exact relL_ones l xs h.2 h1.2 u hu

section
variable {X : Ctx} {o : Oper} {st : St} {k : Actn → Prop}
theorem x_append {t e : TypeId} {s x : Operand} {c kv n m : Nat} {ck : Chunk} {y ye : Ty} {cr : List (Nat × Option Chunk)} {l : List AV} (hT : X.ok) (ho : o.op = .call { callee := .builtin .append, args := [s, x].toArray, argTypes := [t, t].toArray })
    (hs : evA st.fr s = .sl c kv 0 n) (hc : getO st.ch c = some ck) (hk : ck.kind = .row) (hv : kv = ck.ver) (hy : getO X.T t = some y) (hyd : y.d = .sl e) (hye : getO X.T e = some ye) (hes : ye.size = ck.esz) (hty : ck.ty = e) (h0 : 0 < ye.size) (hz : ye.zero.length = ye.size)
    (hn : ck.cells.length = n * ck.esz) (hsrc : Src X st.fr cr x ck.esz m l) (hcr : ∀ i q, (i, q) ∈ cr → getO st.ch i = q) (h63 : n + m ≤ maxLen) (hby : (n + m) * ye.bytes ≤ 140737488355328)
    (h : k ⟨rds st.fr [s, x], (c, some ck) :: cr, o.dst, .sl c (ck.ver + 1) 0 (n + m), [(c, ⟨.row, e, ck.esz, ck.ver + 1, ck.cells ++ l⟩)]⟩) : ActN X o st k := by
  refine ⟨_, LS.mem rfl fun st' E a w ρ hf hr => ?_, ⟨rds_fits st.fr st.ch [s, x], ?_⟩, h⟩
  rotate_left
  · intro i q hq
    rcases List.mem_cons.1 hq with hq | hq
    · cases hq; exact hc
    · exact hcr i q hq
  have hc' : getO st'.ch c = some ck := hf.c c (some ck) (by simp)
  obtain ⟨news, w1, w2⟩ := hsrc.ok st' E a w ρ hr (fun i q hq => hf.c i q (List.mem_cons_of_mem _ hq)) (fits_ev hf (rds_mem (by simp)))
  have g1 := hr.ev s
  rw [fits_ev hf (fr := st.fr) (x := s) (rds_mem (by simp)), hs] at g1
  simp only [rel] at g1
  obtain ⟨cur, q1, q2, q3, _⟩ := g1
  have hcur : cur = ck.ver := by simp [St.vs, hc'] at q1; exact q1.symm
  subst hcur
  obtain ⟨s1, ad, s2, _, s4⟩ := q3 hv
  have had := s4 rfl
  obtain ⟨ys, gy1, gy2⟩ := hr.heap.ok c ck hc'
  have gylen := relL_len _ _ gy1
  have gm := gy2
  unfold Chunk.mem at gm
  simp only [hk] at gm
  obtain ⟨m1, m2, n', m3⟩ := gm
  have hn' : n' = n := by
    have := m3.1
    rw [← gylen, hn] at this
    exact (Nat.eq_of_mul_eq_mul_right (by omega) this).symm
  subst hn'
  obtain ⟨⟨dd, t1, t2⟩, _⟩ := hT t y hy
  rw [hyd] at t2
  cases dd <;> simp only [TD.is] at t2
  subst t2
  rw [hty, ← hes] at m3
  have hnl := relL_len _ _ w1
  obtain ⟨base', blk', cap', w', r1, r2, r3, r4, r5⟩ := append_row (ty := o.type) (hT e ye hye) t1 h0 hz m2 m3 (u := a.eval x) (m := m) (news := news) (by rw [← hnl, hsrc.len, hes]) w2 (relL_ones _ _ w1 hsrc.ones) h63 hby
  let L' : Loc := ⟨blk', 0, base', cap', fun b => base' = some ⟨b, 0, none⟩⟩
  let st'' := (Actn.mk (rds st.fr [s, x]) ((c, some ck) :: cr) o.dst (.sl c (ck.ver + 1) 0 (n' + m)) [(c, ⟨.row, e, ck.esz, ck.ver + 1, ck.cells ++ l⟩)]).app st'
  have hch : st''.ch = setO st'.ch c ⟨.row, e, ck.esz, ck.ver + 1, ck.cells ++ l⟩ := rfl
  have hup : Up st'.vs st''.vs st'.ez st''.ez ρ (upd ρ c L') := by
    intro d cur hd
    by_cases hdc : d = c
    · subst hdc
      have : cur = ck.ver := by simp [St.vs, hc'] at hd; exact hd.symm
      subst this
      exact ⟨ck.ver + 1, by simp [St.vs, hch, getO_set_same], by omega, fun e => by omega⟩
    · refine ⟨cur, ?_, Nat.le_refl _, fun _ => ⟨upd_ne _ _ _ _ hdc, ?_⟩⟩
      · simp only [St.vs, hch, getO_set_ne _ _ _ _ hdc]; exact hd
      · simp only [St.ez, hch, getO_set_ne _ _ _ _ hdc]
  have hvs : st''.vs c = some (ck.ver + 1) := by simp [St.vs, hch, getO_set_same]
  have hez : st''.ez c = ck.esz := by simp [St.ez, hch, getO_set_same]
  refine ⟨.slice base' (n' + m) cap', w', upd ρ c L', .inl ?_, hup, ?_, ?_⟩
  · refine bcall (args := [s, x]) ho (fun _ => rfl) (s := Builtin.append_ #[t, t] o.type #[a.eval s, a.eval x]) ?_
    rw [s2, had]
    exact r1
  · have ckown : ck.owned = true := by simp [Chunk.owned, hk, CK.owned]
    refine hr.heap.step (· = c) st'' w' (upd ρ c L') (r4.mono fun b hb => ⟨c, ck, rfl, hc', ckown, ?_⟩) ?_ hup ?_ ?_ ?_ ?_ ?_ ?_
    · refine hr.heap.blk c ck b hc' ?_
      simp [Chunk.blk, hk, hb]
    · intro d hd
      exact ⟨by rw [hch]; exact getO_set_ne _ _ _ _ hd, upd_ne _ _ _ _ hd⟩
    · rintro d k' rfl hk'
      rw [hch, getO_set_same] at hk'
      cases hk'
      rw [upd_same]
      refine ⟨ys ++ news, relL_append _ _ _ _ (relL_up hup _ _ gy1) (relL_up hup _ _ w1), rfl, r2, n' + m, ?_⟩
      rw [← hes]; exact r3
    · rintro d k' b rfl hk' hb
      rw [upd_same] at hb
      have hb' : base' = some ⟨b, 0, none⟩ := hb
      rw [hb'] at r3
      obtain ⟨rest, hh, _⟩ := ownsRow_heap r3
      exact (Array.getElem?_eq_some_iff.1 hh).1
    · rintro d k' b rfl hk' _ hb
      rw [upd_same] at hb
      have hb' : base' = some ⟨b, 0, none⟩ := hb
      rcases r5 with ⟨e1, e2⟩ | ⟨e1, e2, e3⟩
      · rw [e1] at hb'
        refine hr.heap.own d ck b hc' ckown (hr.heap.blk d ck b hc' ?_)
        simp [Chunk.blk, hk, hb']
      · rw [e3] at hb'; cases hb'
        exact .inr (Nat.le_trans hr.heap.mod.size e1)
    · rintro d k' b rfl hk' hb
      rw [hch, getO_set_same] at hk'
      cases hk'
      rw [upd_same] at hb ⊢
      simp only [Chunk.blk, L', Option.map_eq_some_iff] at hb
      obtain ⟨ad', hb1, hb2⟩ := hb
      rcases r2 with h2 | h2
      · rw [h2] at hb1; cases hb1
      · show base' = some ⟨b, 0, none⟩
        rw [h2] at hb1 ⊢
        cases hb1
        rw [← hb2]
    · rintro d k' rfl hk'
      rw [hch, getO_set_same] at hk'
      cases hk'
      rw [upd_same]
      rintro v1 v2 xs hs' ⟨h1, h2, nn, h3⟩
      refine ⟨h1, h2, nn, ?_⟩
      rcases h2 with h2 | h2
      · rw [show L'.base = none from h2] at h3 ⊢
        obtain ⟨p1, ⟨p2, p3⟩ | ⟨g, cp, cr', p2, _⟩⟩ := h3
        · exact ⟨p1, .inl ⟨p2, p3⟩⟩
        · cases p2
      · rw [show L'.base = some ⟨blk', 0, none⟩ from h2] at h3 ⊢
        obtain ⟨rest, p1, p2, p3, p4⟩ := ownsRow_heap h3
        exact ownsRow_of_heap h3.1 ((hs' blk' h2).trans p1) p2 p3 p4
    · rintro d e' k' l' b rfl hk' hl' _ hb hb'
      by_cases he : e' = d
      · exact he.symm
      · rw [hch, getO_set_ne _ _ _ _ he] at hl'
        rw [upd_ne _ _ _ _ he] at hb'
        rw [upd_same] at hb
        have hb1 : base' = some ⟨b, 0, none⟩ := hb
        rcases r5 with ⟨e1, e2⟩ | ⟨e1, e2, e3⟩
        · rw [e1] at hb1
          refine hr.heap.sep d e' ck l' b hc' hl' ckown (hr.heap.blk d ck b hc' ?_) hb'
          simp [Chunk.blk, hk, hb1]
        · rw [e3] at hb1; cases hb1
          have := hr.heap.lt e' l' _ hl' hb'
          omega
  · show rel st''.vs st''.ez (upd ρ c L') (.sl c (ck.ver + 1) 0 (n' + m)) _
    simp only [rel]
    refine ⟨ck.ver + 1, hvs, Nat.le_refl _, fun _ => ?_, _, _, _, rfl⟩
    rw [upd_same]
    refine ⟨?_, base', by simp [L'], fun _ => ?_, fun _ => rfl⟩
    · have := r3.2
      rcases this with ⟨p1, p2⟩ | ⟨g, cp, cr', p1, _, _, p2, _⟩
      · simp [L']; omega
      · cases p1; simpa [L'] using p2
    · show base' = base'.map _
      cases base' <;> simp [Addr.add]
end
end Go.SX
set_option linter.unusedSimpArgs false
set_option linter.unusedVariables false
namespace Go.SX

theorem stays_rowL {ty : TypeId} {esz ver : Nat} {cells : List AV} {L : Loc} (h : ∀ b, L.base = some ⟨b, 0, none⟩ → L.dom b) : (Chunk.mk .row ty esz ver cells).stays L := by
  rintro v1 v2 xs hs' ⟨h1, h2, nn, h3⟩
  refine ⟨h1, h2, nn, ?_⟩
  rcases h2 with h2 | h2
  · rw [show L.base = none from h2] at h3 ⊢
    obtain ⟨p1, ⟨p2, p3⟩ | ⟨g, cp, cr', p2, _⟩⟩ := h3
    · exact ⟨p1, .inl ⟨p2, p3⟩⟩
    · cases p2
  · rw [h2] at h3 ⊢
    obtain ⟨rest, p1, p2, p3, p4⟩ := ownsRow_heap h3
    exact ownsRow_of_heap h3.1 ((hs' L.blk (h L.blk h2)).trans p1) p2 p3 p4
theorem ownsRow_cap {w : World} {e : TypeId} {size : Nat} {base : Option Addr} {n cap : Nat} {xs : List Value} (h : w.ownsRow 0 e size (.slice base n cap) n xs) : n ≤ cap := by
  rcases h.2 with ⟨p1, p2⟩ | ⟨g, cp, cr', p1, _, _, p2, _⟩
  · omega
  · cases p1; exact p2

section
variable {X : Ctx} {o : Oper} {st : St} {k : Actn → Prop}

theorem x_append_nil {t e : TypeId} {s x : Operand} {d m c0 : Nat} {y ye : Ty} {cr : List (Nat × Option Chunk)} {l : List AV} (hT : X.ok) (ho : o.op = .call { callee := .builtin .append, args := [s, x].toArray, argTypes := [t, t].toArray })
    (hs : evA st.fr s = .v (.slice none 0 0)) (hc : getO st.ch d = none) (hy : getO X.T t = some y) (hyd : y.d = .sl e) (hye : getO X.T e = some ye) (h0 : 0 < ye.size) (hz : ye.zero.length = ye.size)
    (hsrc : Src X st.fr cr x ye.size m l) (hcr : ∀ i q, (i, q) ∈ cr → getO st.ch i = q) (h63 : m ≤ maxLen) (hby : m * ye.bytes ≤ 140737488355328)
    (h : k ⟨rds st.fr [s, x], (d, none) :: cr, o.dst, .sl d 0 0 m, [(d, ⟨.row, e, ye.size, 0, l⟩)]⟩) : ActN X o st k := by
  refine ⟨_, LS.mem rfl fun st' E a w ρ hf hr => ?_, ⟨rds_fits st.fr st.ch [s, x], ?_⟩, h⟩
  rotate_left
  · intro i q hq
    rcases List.mem_cons.1 hq with hq | hq
    · cases hq; exact hc
    · exact hcr i q hq
  have hc' : getO st'.ch d = none := hf.c d none (by simp)
  obtain ⟨news, w1, w2⟩ := hsrc.ok st' E a w ρ hr (fun i q hq => hf.c i q (List.mem_cons_of_mem _ hq)) (fits_ev hf (rds_mem (by simp)))
  have g1 := hr.ev s
  rw [fits_ev hf (fr := st.fr) (x := s) (rds_mem (by simp)), hs] at g1
  simp only [rel] at g1
  obtain ⟨⟨dd, t1, t2⟩, _⟩ := hT t y hy
  rw [hyd] at t2
  cases dd <;> simp only [TD.is] at t2
  subst t2
  have hnl := relL_len _ _ w1
  obtain ⟨base', blk', cap', w', r1, r2, r3, r4, r5⟩ := append_row (ty := o.type) (hT e ye hye) t1 h0 hz (base := none) (blk := 0) (n := 0) (cap := 0) (xs := []) (.inl rfl) (World.ownsRow_nil w 0 e ye.size) (u := a.eval x) (m := m) (news := news) (by rw [← hnl, hsrc.len]) w2 (relL_ones _ _ w1 hsrc.ones) (by simpa using h63) (by simpa using hby)
  simp only [Nat.zero_add, List.nil_append] at r1 r3
  let L' : Loc := ⟨blk', 0, base', cap', fun b => base' = some ⟨b, 0, none⟩⟩
  have hm : Mod w w' fun _ => False := r4.mono fun b hb => by cases hb
  let A : Actn := ⟨rds st.fr [s, x], (d, none) :: cr, o.dst, .sl d 0 0 m, [(d, ⟨.row, e, ye.size, 0, l⟩)]⟩
  have hch : A.app st' = ⟨(A.app st').fr, setO st'.ch d ⟨.row, e, ye.size, 0, l⟩⟩ := by simp [A, Actn.app, setAll]
  obtain ⟨q1, q2⟩ := heap_new hr.heap (fr := (A.app st').fr) (d := d) (ck := ⟨.row, e, ye.size, 0, l⟩) (L := L') (ys := news) hc' hm (fun b hb => by
      have hb' : base' = some ⟨b, 0, none⟩ := hb
      rcases r5 with ⟨e1, _⟩ | ⟨e1, e2, e3⟩
      · rw [e1] at hb'; cases hb'
      · rw [e3] at hb'; cases hb'; exact ⟨e1, e2⟩)
    (fun b hb => by
      simp only [Chunk.blk, L', Option.map_eq_some_iff] at hb
      obtain ⟨ad', hb1, hb2⟩ := hb
      rcases r2 with h2 | h2
      · rw [h2] at hb1; cases hb1
      · show base' = some ⟨b, 0, none⟩
        rw [h2] at hb1 ⊢
        cases hb1
        rw [← hb2]) (stays_rowL fun b hb => hb) w1 ⟨rfl, r2, m, r3⟩
  refine ⟨.slice base' m cap', w', upd ρ d L', .inl ?_, by rw [hch]; exact q1, by rw [hch]; exact q2, ?_⟩
  · refine bcall (args := [s, x]) ho (fun _ => rfl) (s := Builtin.append_ #[t, t] o.type #[a.eval s, a.eval x]) ?_
    rw [g1]
    exact r1
  · show rel (A.app st').vs (A.app st').ez (upd ρ d L') (.sl d 0 0 m) _
    rw [hch]
    simp only [rel]
    refine ⟨0, by simp [St.vs, getO_set_same], Nat.le_refl _, fun _ => ?_, _, _, _, rfl⟩
    rw [upd_same]
    refine ⟨by simpa [L'] using ownsRow_cap r3, base', by simp [L'], fun _ => ?_, fun _ => rfl⟩
    show base' = base'.map _
    cases base' <;> simp [Addr.add]

theorem x_make {t e d : TypeId} {lx cx : Operand} {kl kc : IntKind} {n : Nat} {y ye : Ty} {z : Value} (hT : X.ok) (ho : o.op = .makeSlice t lx cx) (hl : evA st.fr lx = .v (.int kl n)) (hcx : evA st.fr cx = .v (.int kc n))
    (hy : getO X.T t = some y) (hyd : y.d = .sl e) (hye : getO X.T e = some ye) (hz : ye.zero = [z]) (hsz : ye.size = 1) (hc : getO st.ch d = none) (hby : ye.bytes * n ≤ 281474976710656) (h63 : n ≤ maxLen)
    (h : k (aN o st.fr [lx, cx] d ⟨.row, e, 1, 0, List.replicate n (.v z)⟩ (.sl d 0 0 n))) : ActN X o st k := by
  refine ActN.new hc (fun vs ez ρ a w hr => ?_) h
  have g1 := hr lx (by simp)
  have g2 := hr cx (by simp)
  rw [hl] at g1
  rw [hcx] at g2
  simp only [rel] at g1 g2
  obtain ⟨⟨dd, t1, t2⟩, _⟩ := hT t y hy
  rw [hyd] at t2
  cases dd <;> simp only [TD.is] at t2
  subst t2
  obtain ⟨_, ⟨i, z', i1, i2, i3, i4, i5⟩, _⟩ := hT e ye hye
  replace i5 := i5.1
  have h63' : (n : Int) ≤ 9223372036854775807 := by unfold maxLen at h63; omega
  have hb' : (i.bytes : Int) * (n : Int) ≤ 281474976710656 := by
    have h : ((i.bytes * n : Nat) : Int) ≤ 281474976710656 := by rw [i3]; omega
    rwa [Int.natCast_mul] at h
  have hrun := run_make (P := X.P) w t e i z' t1 i1 i4 kl kc n n (by omega) (Int.le_refl _) hb' h63'
  rw [hz] at i5
  have hcells : (madeCells z'.cells n).toList = List.replicate n z := by
    unfold madeCells
    simp only [Array.toList_map, Array.toList_range]
    rw [List.eq_replicate_iff]
    refine ⟨by simp, fun b hb => ?_⟩
    obtain ⟨j, hj, rfl⟩ := List.mem_map.1 hb
    have hs1 : z'.cells.size = 1 := by rw [← Array.length_toList, i5]; rfl
    have : z'.cells = #[z] := by apply Array.ext'; simpa using i5
    rw [this]
    have e1 : j % (#[z] : Array Value).size = 0 := by simp [Nat.mod_one]
    rw [e1]
    rfl
  simp only [Int.toNat_natCast, i2, hsz, Nat.mul_one] at hrun
  obtain ⟨q1, q2, q3, q4, q5⟩ := new_row w e (madeCells z'.cells n) 1 n 0 (List.replicate n (.v z)) (by simp [size_madeCells]) h63
  refine ⟨.slice (some ⟨w.heap.size, 0, none⟩) n n, _, newLoc w.heap.size n, _, ?_, q1, q2, q3, q4, ?_, q5, ?_⟩
  · simp only [execOp, ho, g1, g2, Sem.run_bind, hrun, Result.andThen_ok, Sem.run_pure]
  · rw [hcells]
    have := relL_vals (vs := vs) (ez := ez) (ρ := ρ) (List.replicate n z)
    simpa using this
  · intro vs' ez' ρ' p1 p2 p3
    simp only [rel]
    refine ⟨0, p1, Nat.le_refl _, fun _ => ?_, _, _, _, rfl⟩
    rw [p3]
    exact ⟨by simp [newLoc], some ⟨w.heap.size, 0, none⟩, by simp [newLoc], fun _ => by simp [newLoc, Addr.add], fun _ => rfl⟩

def byt (ns : List Int) : List AV := ns.map fun n => .v (.int .u8 n)
theorem relL_byt {vs ez ρ} {ns : List Int} {xs : List Value} (h : relL vs ez ρ (byt ns) xs) : xs = ns.map (Value.int .u8) := by
  refine relL_of_vals (vs := vs) (ez := ez) (ρ := ρ) (ns.map (Value.int .u8)) xs ?_
  unfold byt at h
  rw [List.map_map]
  exact h
theorem x_bytes_str {s t e : TypeId} {x : Operand} {c kv lo n : Nat} {ck : Chunk} {ys y ye : Ty} {ns : List Int} (hT : X.ok) (ho : o.op = .convert s t x) (hx : evA st.fr x = .sl c kv lo n) (hc : getO st.ch c = some ck) (hv : kv = ck.ver) (hk : ck.kind matches .own | .buf | .row | .ro) (hes : ck.esz = 1)
    (hys : getO X.T s = some ys) (hysd : ys.d = .sl e) (hye : getO X.T e = some ye) (hyed : ye.d = .int .u8) (hy : getO X.T t = some y) (hyd : y.d = .str) (hl : subL ck.cells lo n = some (byt ns))
    (h : k (aR o st.fr [x] c ck (.v (.string (strOfNums ns))))) : ActN X o st k := by
  refine ActN.r hc (fun vs ez ρ a w zs hr hvs hez hcs hm => ?_) h
  have g1 := hr x (by simp)
  rw [hx] at g1
  simp only [rel] at g1
  obtain ⟨cur, q1, q2, q3, _⟩ := g1
  rw [hvs] at q1
  cases q1
  obtain ⟨s1, ad, s2, s3, s4⟩ := q3 hv
  obtain ⟨g4, g5⟩ := relL_sub hcs hl
  have g6 := relL_byt g4
  obtain ⟨⟨d1, t1, t2⟩, _⟩ := hT s ys hys
  obtain ⟨⟨d2, t3, t4⟩, _⟩ := hT t y hy
  obtain ⟨⟨d3, t5, t6⟩, _⟩ := hT e ye hye
  rw [hysd] at t2
  rw [hyd] at t4
  rw [hyed] at t6
  cases d1 <;> simp only [TD.is] at t2
  cases d2 <;> simp only [TD.is] at t4
  cases d3 <;> simp only [TD.is] at t6
  subst t2
  subst t6
  have hn : ns.length = n := by have := congrArg List.length g6; rw [g5] at this; simpa using this.symm
  refine ⟨.string (strOfNums ns), ?_, by simp [rel]⟩
  by_cases hn0 : n = 0
  · have : ns = [] := List.eq_nil_of_length_eq_zero (by omega)
    subst this
    subst hn0
    cases ad with
    | none => simp only [execOp, ho, s2, Sem.run_bind, run_convert_bytes_nil (P := X.P) w s e t1 t5 _ _ t t3, Result.andThen_ok, Sem.run_pure]; rfl
    | some ad =>
      obtain ⟨b, o1, sp⟩ := ad
      simp only [execOp, ho, s2, Sem.run_bind]
      rw [run_convert_bytes_string w s t e _ 0 _ t1 t5 t3, run_bytesToString w _ 0 _ [] (by simp [loadCells, loadCellsFrom])]
      rfl
  · have hb := mem_base hk hm (by omega)
    have hs := s3 hn0
    rw [hb] at hs
    simp only [Option.map_some, add_none] at hs
    subst hs
    have := run_convert_bytes_arg (P := X.P) w s e t1 t5 (ρ c).blk ((ρ c).off + lo * ez c) n ((ρ c).cap - lo) ns hn (fun i hi => by
      have e1 : (zs.drop lo)[i]? = some (Value.int .u8 (ns.getD i 0)) := by
        have h2 := congrArg (·[i]?) g6
        simp only [List.getElem?_map, List.getElem?_take, if_pos hi] at h2
        rw [h2]
        simp [List.getD, show i < ns.length by omega]
      rw [List.getElem?_drop] at e1
      rw [Nat.add_assoc, hez, hes, Nat.mul_one]
      exact mem_cells hm hk _ _ e1) t t3
    simp only [execOp, ho, s2, Sem.run_bind, this, Result.andThen_ok, Sem.run_pure]
theorem x_bytes_str_nil {s t e : TypeId} {x : Operand} {l c : Nat} {ys y ye : Ty} (hT : X.ok) (ho : o.op = .convert s t x) (hx : evA st.fr x = .v (.slice none l c)) 
    (hys : getO X.T s = some ys) (hysd : ys.d = .sl e) (hye : getO X.T e = some ye) (hyed : ye.d = .int .u8) (hy : getO X.T t = some y) (hyd : y.d = .str) (h : k (aP o st.fr [x] (.v (.string ByteArray.empty)))) : ActN X o st k := by
  refine ActN.p (fun vs ez ρ a w hr => ?_) h
  have g1 := hr x (by simp)
  rw [hx] at g1
  simp only [rel] at g1
  obtain ⟨⟨d1, t1, t2⟩, _⟩ := hT s ys hys
  obtain ⟨⟨d2, t3, t4⟩, _⟩ := hT t y hy
  obtain ⟨⟨d3, t5, t6⟩, _⟩ := hT e ye hye
  rw [hysd] at t2
  rw [hyd] at t4
  rw [hyed] at t6
  cases d1 <;> simp only [TD.is] at t2
  cases d2 <;> simp only [TD.is] at t4
  cases d3 <;> simp only [TD.is] at t6
  subst t2
  subst t6
  exact ⟨.string ByteArray.empty, by simp only [execOp, ho, g1, Sem.run_bind, run_convert_bytes_nil (P := X.P) w s e t1 t5 _ _ t t3, Result.andThen_ok, Sem.run_pure], by simp [rel]⟩

def sInts (s : ByteArray) : List Int := s.data.toList.map fun b => (b.toNat : Int)
theorem sInts_length (s : ByteArray) : (sInts s).length = s.size := by simp [sInts]
theorem x_str_bytes {s t e d : TypeId} {x : Operand} {u : ByteArray} {ys y ye : Ty} (hT : X.ok) (ho : o.op = .convert s t x) (hx : evA st.fr x = .v (.string u)) (hc : getO st.ch d = none)
    (hys : getO X.T s = some ys) (hysd : ys.d = .str) (hy : getO X.T t = some y) (hyd : y.d = .sl e) (hye : getO X.T e = some ye) (hyed : ye.d = .int .u8)
    (h : k (aN o st.fr [x] d ⟨.buf, e, 1, 0, byt (sInts u)⟩ (.sl d 0 0 u.size))) : ActN X o st k := by
  refine ActN.new hc (fun vs ez ρ a w hr => ?_) h
  have g1 := hr x (by simp)
  rw [hx] at g1
  simp only [rel] at g1
  obtain ⟨⟨d1, t1, t2⟩, _⟩ := hT s ys hys
  obtain ⟨⟨d2, t3, t4⟩, _⟩ := hT t y hy
  obtain ⟨⟨d3, t5, t6⟩, _⟩ := hT e ye hye
  rw [hyed] at t6
  rw [hyd] at t4
  cases d2 <;> simp only [TD.is] at t4
  cases d3 <;> simp only [TD.is] at t6
  subst t4
  subst t6
  have hrun := Lib.run_convert_string_bytes (P := X.P) w s t e u t1 t3 t5
  have hge : u.size ≤ grownCap w u.size 0 e := grownCap_ge w _ _ e
  have hnew := Lib.bytesWorld_at_new w e u
  have hbl : (Lib.bytesCells w e u).toList = (sInts u).map (Value.int .u8) ++ List.replicate (grownCap w u.size 0 e - u.size) (.int .u8 0) := by
    simp [Lib.bytesCells, sInts]
  refine ⟨.slice (some ⟨w.heap.size, 0, none⟩) u.size (grownCap w u.size 0 e), Lib.bytesWorld w e u, newLoc w.heap.size (grownCap w u.size 0 e), (sInts u).map (Value.int .u8), ?_, ?_, ?_, ?_, stays_buf, ?_, ?_, ?_⟩
  · simp only [execOp, ho, g1, Sem.run_bind, hrun, Result.andThen_ok, Sem.run_pure]
  · exact ⟨rfl, rfl, rfl, by rw [Lib.bytesWorld_size]; omega, fun b hb _ => Lib.bytesWorld_at_old w e u b hb⟩
  · intro b hb
    cases hb
    rw [Lib.bytesWorld_size]
    omega
  · intro b hb
    simp [Chunk.blk, newLoc] at hb ⊢
    exact hb.symm
  · have := relL_vals (vs := vs) (ez := ez) (ρ := ρ) ((sInts u).map (Value.int .u8))
    rw [List.map_map] at this
    exact this
  · refine ⟨rfl, rfl, ⟨List.replicate (grownCap w u.size 0 e - u.size) (.int .u8 0), ((Lib.bytesCells w e u).size, (Lib.bytesCells w e u).size + 1), ?_, .inr ?_⟩, ?_⟩
    · show (Lib.bytesWorld w e u).heap[w.heap.size]? = _
      rw [hnew]
      congr 2
      rw [← hbl]
    · have := congrArg List.length hbl
      simp only [List.length_append, List.length_map] at this ⊢
      simp only [Array.length_toList] at this
      omega
    · simp [newLoc, sInts_length]; omega
  · intro vs' ez' ρ' p1 p2 p3
    simp only [rel]
    refine ⟨0, p1, Nat.le_refl _, fun _ => ?_, _, _, _, rfl⟩
    rw [p3]
    exact ⟨by simpa [newLoc] using hge, some ⟨w.heap.size, 0, none⟩, by simp [newLoc], fun _ => by simp [newLoc, Addr.add], fun _ => rfl⟩
end

end Go.SX
set_option linter.unusedSimpArgs false
set_option linter.unusedVariables false
namespace Go.SX


def hasO : List (Option Chunk) → Nat → Bool
  | [], _ => false
  | none :: _, 0 => false
  | some _ :: _, 0 => true
  | _ :: l, n + 1 => hasO l n
theorem hasO_eq : ∀ {l : List (Option Chunk)} {n : Nat}, hasO l n = true ↔ ∃ k, getO l n = some k
  | [], n => by cases n <;> simp [hasO, getO]
  | none :: _, 0 => by simp [hasO, getO]
  | some k :: _, 0 => by simp [hasO, getO]
  | none :: l, n + 1 => by simpa [hasO, getO] using hasO_eq (l := l) (n := n)
  | some _ :: l, n + 1 => by simpa [hasO, getO] using hasO_eq (l := l) (n := n)

mutual
def refsIn (l : List (Option Chunk)) : AV → Bool
  | .ref c _ _ => hasO l c
  | .sl c _ _ _ => hasO l c
  | .mp c _ => hasO l c
  | .agg r => refsInL l r
  | .fn _ r => refsInL l r
  | .ifc _ a => refsIn l a
  | .tup r => refsInL l r
  | _ => true
def refsInL (l : List (Option Chunk)) : List AV → Bool
  | [] => true
  | a :: r => match refsIn l a with | true => refsInL l r | false => false
end
def refsInC (l : List (Option Chunk)) : List (Option Chunk) → Bool
  | [] => true
  | none :: r => refsInC l r
  | some k :: r => match refsInL l k.cells with | true => refsInC l r | false => false
theorem refsInC_get {l : List (Option Chunk)} : ∀ {r : List (Option Chunk)} {c : Nat} {k : Chunk}, refsInC l r = true → getO r c = some k → refsInL l k.cells = true
  | [], c, k, _, h => by simp [getO] at h
  | none :: r, 0, k, _, h => by simp [getO] at h
  | some k' :: r, 0, k, hn, h => by
    simp only [refsInC] at hn
    simp only [getO, Option.some.injEq] at h
    subst h
    split at hn
    · assumption
    · cases hn
  | none :: r, c + 1, k, hn, h => refsInC_get (r := r) (by simpa [refsInC] using hn) h
  | some k' :: r, c + 1, k, hn, h => by
    simp only [refsInC] at hn
    split at hn
    · exact refsInC_get (r := r) hn h
    · cases hn
mutual
theorem rel_in {l : List (Option Chunk)} {vs vs' ez ez' ρ ρ'} (h : ∀ c, hasO l c = true → vs' c = vs c ∧ ez' c = ez c ∧ ρ' c = ρ c) : ∀ (a : AV) (u : Value), refsIn l a = true → rel vs ez ρ a u → rel vs' ez' ρ' a u
  | .v _, _, _, hr => by simpa [rel] using hr
  | .dead, _, _, _ => by simp [rel]
  | .ref c k off, u, hn, hr => by
    obtain ⟨h1, h2, h3⟩ := h c (by simpa [refsIn] using hn)
    simp only [rel] at hr ⊢
    rw [h1, h3]
    exact hr
  | .sl c k lo n, u, hn, hr => by
    obtain ⟨h1, h2, h3⟩ := h c (by simpa [refsIn] using hn)
    simp only [rel] at hr ⊢
    rw [h1, h2, h3]
    exact hr
  | .mp c k, u, hn, hr => by
    obtain ⟨h1, h2, h3⟩ := h c (by simpa [refsIn] using hn)
    simp only [rel] at hr ⊢
    rw [h1, h3]
    exact hr
  | .agg r, u, hn, hr => by
    simp only [rel] at hr ⊢
    obtain ⟨xs, h1, h2⟩ := hr
    exact ⟨xs, h1, relL_in h r _ (by simpa [refsIn] using hn) h2⟩
  | .fn f r, u, hn, hr => by
    simp only [rel] at hr ⊢
    obtain ⟨xs, h1, h2⟩ := hr
    exact ⟨xs, h1, relL_in h r _ (by simpa [refsIn] using hn) h2⟩
  | .ifc t a, u, hn, hr => by
    simp only [rel] at hr ⊢
    obtain ⟨x, h1, h2⟩ := hr
    exact ⟨x, h1, rel_in h a _ (by simpa [refsIn] using hn) h2⟩
  | .tup r, u, hn, hr => by
    simp only [rel] at hr ⊢
    obtain ⟨xs, h1, h2⟩ := hr
    exact ⟨xs, h1, relL_in h r _ (by simpa [refsIn] using hn) h2⟩
theorem relL_in {l : List (Option Chunk)} {vs vs' ez ez' ρ ρ'} (h : ∀ c, hasO l c = true → vs' c = vs c ∧ ez' c = ez c ∧ ρ' c = ρ c) : ∀ (r : List AV) (xs : List Value), refsInL l r = true → relL vs ez ρ r xs → relL vs' ez' ρ' r xs
  | [], [], _, _ => by simp [relL]
  | [], _ :: _, _, hr => by simp [relL] at hr
  | _ :: _, [], _, hr => by simp [relL] at hr
  | a :: r, x :: xs, hn, hr => by
    simp only [refsInL] at hn
    simp only [relL] at hr ⊢
    split at hn
    · rename_i h1; exact ⟨rel_in h a x h1 hr.1, relL_in h r xs hn hr.2⟩
    · cases hn
end

structure Part (full part : List (Option Chunk)) : Prop where
  sub : ∀ c k, getO part c = some k → getO full c = some k
  cl : refsInC part part = true

def partB (ch : List (Option Chunk)) (ρ : Nat → Loc) (n : Nat) (h : ∀ c k, getO ch c = some k → c < n) : Base n where
  vs := St.vs ⟨[], ch⟩
  ez := St.ez ⟨[], ch⟩
  ρ := ρ
  lt := fun c v hv => by
    simp only [St.vs, Option.map_eq_some_iff] at hv
    obtain ⟨k, hk, _⟩ := hv
    exact h c k hk
def partO (ch : List (Option Chunk)) (ρ : Nat → Loc) (b : Nat) : Prop := ∃ c k, getO ch c = some k ∧ k.owned = true ∧ (ρ c).dom b

theorem heap_part {w0 : World} {O : Nat → Prop} {st : St} {w : World} {ρ : Nat → Loc} (h : Heap w0 O st w ρ) {ch0 : List (Option Chunk)} (hp : Part st.ch ch0) (fr : List AV) : Heap w (partO ch0 ρ) ⟨fr, ch0⟩ w ρ := by
  have key : ∀ c, hasO ch0 c = true → (St.mk fr ch0).vs c = st.vs c ∧ (St.mk fr ch0).ez c = st.ez c ∧ ρ c = ρ c := by
    intro c hc
    obtain ⟨k, hk⟩ := hasO_eq.1 hc
    have := hp.sub c k hk
    simp [St.vs, St.ez, hk, this]
  refine ⟨fun c k hk => ?_, fun c k b hk => h.lt c k b (hp.sub c k hk), fun c k b hk ho hb => .inl ⟨c, k, hk, ho, hb⟩, fun c k b hk => h.blk c k b (hp.sub c k hk), fun c k hk => h.stay c k (hp.sub c k hk),
    fun c d k l b hk hl => h.sep c d k l b (hp.sub c k hk) (hp.sub d l hl), Mod.refl _ _⟩
  obtain ⟨xs, h1, h2⟩ := h.ok c k (hp.sub c k hk)
  exact ⟨xs, relL_in key _ _ (refsInC_get hp.cl hk) h1, h2⟩

def ownL : Nat → List (Option Chunk) → List (Nat × Chunk)
  | _, [] => []
  | i, none :: l => ownL (i + 1) l
  | i, some k :: l => match k.owned with
    | true => (i, k) :: ownL (i + 1) l
    | false => ownL (i + 1) l
theorem ownL_mem : ∀ {l : List (Option Chunk)} {i c : Nat} {k : Chunk}, (c, k) ∈ ownL i l ↔ i ≤ c ∧ getO l (c - i) = some k ∧ k.owned = true
  | [], i, c, k => by simp [ownL, getO]
  | none :: l, i, c, k => by
    simp only [ownL]
    rw [ownL_mem]
    constructor
    · rintro ⟨h1, h2, h3⟩
      obtain ⟨d, rfl⟩ : ∃ d, c = i + 1 + d := ⟨c - (i + 1), by omega⟩
      have e1 : i + 1 + d - (i + 1) = d := by omega
      have e2 : i + 1 + d - i = d + 1 := by omega
      rw [e1] at h2
      rw [e2]
      exact ⟨by omega, h2, h3⟩
    · rintro ⟨h1, h2, h3⟩
      obtain ⟨d, rfl⟩ : ∃ d, c = i + d := ⟨c - i, by omega⟩
      have e1 : i + d - i = d := by omega
      rw [e1] at h2
      cases d with
      | zero => simp [getO] at h2
      | succ d =>
        have e2 : i + (d + 1) - (i + 1) = d := by omega
        rw [e2]
        exact ⟨by omega, h2, h3⟩
  | some q :: l, i, c, k => by
    have tl : ((c, k) ∈ ownL (i + 1) l) ↔ (i + 1 ≤ c ∧ getO (some q :: l) (c - i) = some k ∧ k.owned = true) := by
      rw [ownL_mem]
      constructor
      · rintro ⟨h1, h2, h3⟩
        obtain ⟨d, rfl⟩ : ∃ d, c = i + 1 + d := ⟨c - (i + 1), by omega⟩
        have e1 : i + 1 + d - (i + 1) = d := by omega
        have e2 : i + 1 + d - i = d + 1 := by omega
        rw [e1] at h2
        rw [e2]
        exact ⟨by omega, h2, h3⟩
      · rintro ⟨h1, h2, h3⟩
        obtain ⟨d, rfl⟩ : ∃ d, c = i + 1 + d := ⟨c - (i + 1), by omega⟩
        have e1 : i + 1 + d - (i + 1) = d := by omega
        have e2 : i + 1 + d - i = d + 1 := by omega
        rw [e2] at h2
        rw [e1]
        exact ⟨h1, h2, h3⟩
    simp only [ownL]
    cases hq : q.owned with
    | true =>
      simp only [List.mem_cons, tl, Prod.mk.injEq]
      constructor
      · rintro (⟨rfl, rfl⟩ | ⟨h1, h2, h3⟩)
        · exact ⟨Nat.le_refl _, by simp [getO], hq⟩
        · exact ⟨by omega, h2, h3⟩
      · rintro ⟨h1, h2, h3⟩
        by_cases e : c = i
        · subst e
          simp [getO] at h2
          exact .inl ⟨rfl, h2.symm⟩
        · exact .inr ⟨by omega, h2, h3⟩
    | false =>
      simp only [tl]
      constructor
      · rintro ⟨h1, h2, h3⟩
        exact ⟨by omega, h2, h3⟩
      · rintro ⟨h1, h2, h3⟩
        by_cases e : c = i
        · subst e
          simp [getO] at h2
          subst h2
          rw [hq] at h3
          cases h3
        · exact ⟨by omega, h2, h3⟩
theorem setAll_get : ∀ (r : List (Nat × Chunk)) (l : List (Option Chunk)) (c : Nat), (∃ k, (c, k) ∈ r ∧ getO (setAll l r) c = some k) ∨ ((∀ k, (c, k) ∉ r) ∧ getO (setAll l r) c = getO l c)
  | [], l, c => .inr ⟨by simp, rfl⟩
  | (i, q) :: r, l, c => by
    simp only [setAll]
    rcases setAll_get r (setO l i q) c with ⟨k, h1, h2⟩ | ⟨h1, h2⟩
    · exact .inl ⟨k, List.mem_cons_of_mem _ h1, h2⟩
    · by_cases e : c = i
      · subst e
        rw [getO_set_same] at h2
        exact .inl ⟨q, by simp, h2⟩
      · rw [getO_set_ne _ _ _ _ e] at h2
        refine .inr ⟨fun k hk => ?_, h2⟩
        rcases List.mem_cons.1 hk with hk | hk
        · cases hk; exact e rfl
        · exact h1 k hk

structure Inl (full ch0 chK ch1 : List (Option Chunk)) (r : AV) : Prop where
  sub : ∀ c k, getO chK c = some k → getO ch1 c = some k
  keep : ∀ c k, getO ch0 c = some k → ∃ k', getO chK c = some k'
  own : ∀ c k, getO chK c = some k → k.owned = false → ∃ k0, getO ch0 c = some k0 ∧ k0.owned = false ∧ k0.ver = k.ver
  new : ∀ c k, getO chK c = some k → getO ch0 c = none → getO full c = none
  refs : refsIn chK r = true
  cells : refsInC chK chK = true

theorem heap_inl {w0 : World} {O : Nat → Prop} {st : St} {w w' : World} {ρ ρ1 : Nat → Loc} {n : Nat} (h : Heap w0 O st w ρ) {ch0 chK ch1 : List (Option Chunk)} {r : AV} {v : Value} {fr1 : List AV} (hp : Part st.ch ch0) (hn : ∀ c k, getO ch0 c = some k → c < n)
    (hI : Inl st.ch ch0 chK ch1 r) (h1 : Heap w (partO ch0 ρ) ⟨fr1, ch1⟩ w' ρ1) (hup : Up (partB ch0 ρ n hn).vs (St.mk fr1 ch1).vs (partB ch0 ρ n hn).ez (St.mk fr1 ch1).ez ρ ρ1) (hv : rel (St.mk fr1 ch1).vs (St.mk fr1 ch1).ez ρ1 r v) (frF : List AV) :
    ∃ ρF, Up st.vs (St.mk frF (setAll st.ch (ownL 0 chK))).vs st.ez (St.mk frF (setAll st.ch (ownL 0 chK))).ez ρ ρF ∧ Heap w0 O ⟨frF, setAll st.ch (ownL 0 chK)⟩ w' ρF ∧
      rel (St.mk frF (setAll st.ch (ownL 0 chK))).vs (St.mk frF (setAll st.ch (ownL 0 chK))).ez ρF r v := by
  -- what the whole has at a place
  have g : ∀ c, (∃ k, getO chK c = some k ∧ k.owned = true ∧ getO (setAll st.ch (ownL 0 chK)) c = some k) ∨ ((∀ k, getO chK c = some k → k.owned = false) ∧ getO (setAll st.ch (ownL 0 chK)) c = getO st.ch c) := by
    intro c
    rcases setAll_get (ownL 0 chK) st.ch c with ⟨k, q1, q2⟩ | ⟨q1, q2⟩
    · rw [ownL_mem] at q1
      exact .inl ⟨k, by simpa using q1.2.1, q1.2.2, q2⟩
    · refine .inr ⟨fun k hk => ?_, q2⟩
      cases ho : k.owned with
      | false => rfl
      | true => exact (q1 k (ownL_mem.2 ⟨Nat.zero_le _, by simpa using hk, ho⟩)).elim
  let ρF : Nat → Loc := fun c => if hasO chK c then ρ1 c else ρ c
  have rK : ∀ c k, getO chK c = some k → ρF c = ρ1 c := fun c k hk => by
    have : hasO chK c = true := hasO_eq.2 ⟨k, hk⟩
    simp [ρF, this]
  have rN : ∀ c, (∀ k, getO chK c ≠ some k) → ρF c = ρ c := fun c hk => by
    have : hasO chK c = false := by
      cases hx : hasO chK c with
      | false => rfl
      | true => obtain ⟨k, h2⟩ := hasO_eq.1 hx; exact (hk k h2).elim
    simp [ρF, this]
  -- those that are kept and not owned
  have ro : ∀ c k, getO chK c = some k → k.owned = false → ∃ k0, getO ch0 c = some k0 ∧ getO st.ch c = some k0 ∧ k0.ver = k.ver ∧ k0.esz = k.esz ∧ ρ1 c = ρ c := by
    intro c k hk ho
    obtain ⟨k0, q1, q2, q3⟩ := hI.own c k hk ho
    refine ⟨k0, q1, hp.sub c k0 q1, q3, ?_⟩
    obtain ⟨cur, p1, p2, p3⟩ := hup c k0.ver (by simp [partB, St.vs, q1])
    have e1 : getO ch1 c = some k := hI.sub c k hk
    simp only [St.vs, e1, Option.map_some, Option.some.injEq] at p1
    obtain ⟨p4, p5⟩ := p3 (by omega)
    simp only [St.ez, partB, e1, q1, Option.map_some, Option.getD_some] at p5
    exact ⟨p5.symm, p4⟩
  -- versions, sizes and places agree at what is kept
  have agree : ∀ c, hasO chK c = true → (St.mk frF (setAll st.ch (ownL 0 chK))).vs c = (St.mk fr1 ch1).vs c ∧ (St.mk frF (setAll st.ch (ownL 0 chK))).ez c = (St.mk fr1 ch1).ez c ∧ ρF c = ρ1 c := by
    intro c hc
    obtain ⟨k, hk⟩ := hasO_eq.1 hc
    have e1 : getO ch1 c = some k := hI.sub c k hk
    refine ⟨?_, ?_, rK c k hk⟩
    · rcases g c with ⟨k', q1, q2, q3⟩ | ⟨q1, q2⟩
      · rw [hk] at q1; cases q1
        simp [St.vs, q3, e1]
      · obtain ⟨k0, p1, p2, p3, p4, p5⟩ := ro c k hk (q1 k hk)
        simp [St.vs, q2, p2, e1, p3]
    · rcases g c with ⟨k', q1, q2, q3⟩ | ⟨q1, q2⟩
      · rw [hk] at q1; cases q1
        simp [St.ez, q3, e1]
      · obtain ⟨k0, p1, p2, p3, p4, p5⟩ := ro c k hk (q1 k hk)
        simp [St.ez, q2, p2, e1, p4]
  have hupF : Up st.vs (St.mk frF (setAll st.ch (ownL 0 chK))).vs st.ez (St.mk frF (setAll st.ch (ownL 0 chK))).ez ρ ρF := by
    intro c cur hcur
    cases hx : hasO chK c with
    | false =>
      have hno : ∀ k, getO chK c ≠ some k := fun k hk => by rw [hasO_eq.2 ⟨k, hk⟩] at hx; cases hx
      rcases g c with ⟨k', q1, q2, q3⟩ | ⟨q1, q2⟩
      · exact (hno k' q1).elim
      · exact ⟨cur, by simpa [St.vs, q2] using hcur, Nat.le_refl _, fun _ => ⟨rN c hno, by simp [St.ez, q2]⟩⟩
    | true =>
      obtain ⟨a1, a2, a3⟩ := agree c hx
      obtain ⟨k, hk⟩ := hasO_eq.1 hx
      -- it was of the part
      cases h0 : getO ch0 c with
      | none =>
        have := hI.new c k hk h0
        simp [St.vs, this] at hcur
      | some k0 =>
        have e0 := hp.sub c k0 h0
        have ec : k0.ver = cur := by simpa [St.vs, e0] using hcur
        obtain ⟨cur', p1, p2, p3⟩ := hup c cur (by simp [partB, St.vs, h0, ec])
        refine ⟨cur', by rw [a1]; exact p1, p2, fun e => ?_⟩
        obtain ⟨p4, p5⟩ := p3 e
        refine ⟨by rw [a3]; exact p4, ?_⟩
        rw [a2, p5]
        simp [partB, St.ez, h0, e0]
  refine ⟨ρF, hupF, ?_, rel_in agree r v hI.refs hv⟩
  have notT : ∀ c, ¬ (∃ k, getO chK c = some k ∧ k.owned = true) → getO (setAll st.ch (ownL 0 chK)) c = getO st.ch c ∧ ρF c = ρ c := by
    intro c hc
    rcases g c with ⟨k', q1, q2, q3⟩ | ⟨q1, q2⟩
    · exact (hc ⟨k', q1, q2⟩).elim
    · refine ⟨q2, ?_⟩
      cases hx : hasO chK c with
      | false => exact rN c fun k hk => by rw [hasO_eq.2 ⟨k, hk⟩] at hx; cases hx
      | true =>
        obtain ⟨k, hk⟩ := hasO_eq.1 hx
        obtain ⟨k0, p1, p2, p3, p4, p5⟩ := ro c k hk (q1 k hk)
        rw [rK c k hk, p5]
  have atT : ∀ c k, (∃ k, getO chK c = some k ∧ k.owned = true) → getO (setAll st.ch (ownL 0 chK)) c = some k → getO chK c = some k ∧ k.owned = true ∧ getO ch1 c = some k := by
    rintro c k ⟨k', hk', ho'⟩ hk
    rcases g c with ⟨k2, q1, q2, q3⟩ | ⟨q1, q2⟩
    · rw [q3] at hk; cases hk
      exact ⟨q1, q2, hI.sub c _ q1⟩
    · rw [q1 k' hk'] at ho'; cases ho'
  refine h.step (fun c => ∃ k, getO chK c = some k ∧ k.owned = true) _ w' ρF (h1.mod.mono ?_) notT hupF ?_ ?_ ?_ ?_ ?_ ?_
  · rintro b ⟨c, k, hk, ho, hb⟩
    obtain ⟨k', hk'⟩ := hI.keep c k hk
    refine ⟨c, k, ⟨k', hk', ?_⟩, hp.sub c k hk, ho, hb⟩
    cases hx : k'.owned with
    | true => rfl
    | false =>
      obtain ⟨k0, p1, p2, _⟩ := hI.own c k' hk' hx
      rw [hk] at p1; cases p1
      rw [ho] at p2; cases p2
  · intro c k hT hk
    obtain ⟨q1, q2, q3⟩ := atT c k hT hk
    obtain ⟨xs, p1, p2⟩ := h1.ok c k q3
    rw [rK c k q1]
    exact ⟨xs, relL_in agree _ _ (refsInC_get hI.cells q1) p1, p2⟩
  · intro c k b hT hk hb
    obtain ⟨q1, q2, q3⟩ := atT c k hT hk
    rw [rK c k q1] at hb
    exact h1.lt c k b q3 hb
  · intro c k b hT hk ho hb
    obtain ⟨q1, q2, q3⟩ := atT c k hT hk
    rw [rK c k q1] at hb
    rcases h1.own c k b q3 q2 hb with ⟨d, l, p1, p2, p3⟩ | p
    · exact h.own d l b (hp.sub d l p1) p2 p3
    · exact .inr (Nat.le_trans h.mod.size p)
  · intro c k b hT hk hb
    obtain ⟨q1, q2, q3⟩ := atT c k hT hk
    rw [rK c k q1] at hb ⊢
    exact h1.blk c k b q3 hb
  · intro c k hT hk
    obtain ⟨q1, q2, q3⟩ := atT c k hT hk
    rw [rK c k q1]
    exact h1.stay c k q3
  · intro c d k l b hT hk hl _ hb hb'
    obtain ⟨q1, q2, q3⟩ := atT c k hT hk
    rw [rK c k q1] at hb
    by_cases hd : ∃ k, getO chK d = some k ∧ k.owned = true
    · obtain ⟨p1, p2, p3⟩ := atT d l hd hl
      rw [rK d l p1] at hb'
      exact h1.sep c d k l b q3 p3 q2 hb hb'
    · obtain ⟨e1, e2⟩ := notT d hd
      rw [e1] at hl
      rw [e2] at hb'
      have hlt := h.lt d l b hl hb'
      rcases h1.own c k b q3 q2 hb with ⟨d', l', p1, p2, p3⟩ | p
      · have := h.sep d' d l' l b (hp.sub d' l' p1) hl p2 p3 hb'
        subst this
        exfalso
        obtain ⟨k2, hk2⟩ := hI.keep d' l' p1
        refine hd ⟨k2, hk2, ?_⟩
        cases hx : k2.owned with
        | true => rfl
        | false =>
          obtain ⟨k0, p4, p5, _⟩ := hI.own d' k2 hk2 hx
          rw [p1] at p4; cases p4
          rw [p2] at p5; cases p5
      · omega
end Go.SX
set_option linter.unusedSimpArgs false
set_option linter.unusedVariables false
namespace Go.SX

def in0 : Nat → List (Option Chunk) → List (Nat × Option Chunk)
  | _, [] => []
  | i, none :: l => in0 (i + 1) l
  | i, some k :: l => (i, some k) :: in0 (i + 1) l
def inN : Nat → List (Option Chunk) → List (Option Chunk) → List (Nat × Option Chunk)
  | _, _, [] => []
  | i, l0, none :: l => inN (i + 1) l0 l
  | i, l0, some _ :: l => match hasO l0 i with
    | true => inN (i + 1) l0 l
    | false => (i, none) :: inN (i + 1) l0 l
theorem in0_mem : ∀ {l : List (Option Chunk)} {i c : Nat} {q : Option Chunk}, (c, q) ∈ in0 i l ↔ i ≤ c ∧ ∃ k, getO l (c - i) = some k ∧ q = some k
  | [], i, c, q => by simp [in0, getO]
  | x :: l, i, c, q => by
    have tl : ((c, q) ∈ in0 (i + 1) l) ↔ (i + 1 ≤ c ∧ ∃ k, getO (x :: l) (c - i) = some k ∧ q = some k) := by
      rw [in0_mem]
      constructor
      · rintro ⟨h1, k, h2, h3⟩
        obtain ⟨d, rfl⟩ : ∃ d, c = i + 1 + d := ⟨c - (i + 1), by omega⟩
        have e1 : i + 1 + d - (i + 1) = d := by omega
        have e2 : i + 1 + d - i = d + 1 := by omega
        rw [e1] at h2
        rw [e2]
        exact ⟨by omega, k, h2, h3⟩
      · rintro ⟨h1, k, h2, h3⟩
        obtain ⟨d, rfl⟩ : ∃ d, c = i + 1 + d := ⟨c - (i + 1), by omega⟩
        have e1 : i + 1 + d - (i + 1) = d := by omega
        have e2 : i + 1 + d - i = d + 1 := by omega
        rw [e2] at h2
        rw [e1]
        exact ⟨h1, k, h2, h3⟩
    cases x with
    | none =>
      simp only [in0, tl]
      constructor
      · rintro ⟨h1, h2⟩; exact ⟨by omega, h2⟩
      · rintro ⟨h1, k, h2, h3⟩
        refine ⟨?_, k, h2, h3⟩
        rcases Nat.lt_or_ge i c with h | h
        · omega
        · have : c - i = 0 := by omega
          rw [this] at h2
          simp [getO] at h2
    | some y =>
      simp only [in0, List.mem_cons, tl, Prod.mk.injEq]
      constructor
      · rintro (⟨rfl, rfl⟩ | ⟨h1, h2⟩)
        · exact ⟨Nat.le_refl _, y, by simp [getO], rfl⟩
        · exact ⟨by omega, h2⟩
      · rintro ⟨h1, k, h2, h3⟩
        by_cases e : c = i
        · subst e
          simp [getO] at h2
          exact .inl ⟨rfl, by rw [h3, h2]⟩
        · exact .inr ⟨by omega, k, h2, h3⟩
theorem inN_mem {l0 : List (Option Chunk)} : ∀ {l : List (Option Chunk)} {i c : Nat} {q : Option Chunk}, (c, q) ∈ inN i l0 l ↔ i ≤ c ∧ (∃ k, getO l (c - i) = some k) ∧ hasO l0 c = false ∧ q = none
  | [], i, c, q => by simp [inN, getO]
  | x :: l, i, c, q => by
    have tl : ((c, q) ∈ inN (i + 1) l0 l) ↔ (i + 1 ≤ c ∧ (∃ k, getO (x :: l) (c - i) = some k) ∧ hasO l0 c = false ∧ q = none) := by
      rw [inN_mem]
      constructor
      · rintro ⟨h1, ⟨k, h2⟩, h3⟩
        obtain ⟨d, rfl⟩ : ∃ d, c = i + 1 + d := ⟨c - (i + 1), by omega⟩
        have e1 : i + 1 + d - (i + 1) = d := by omega
        have e2 : i + 1 + d - i = d + 1 := by omega
        rw [e1] at h2
        rw [e2]
        exact ⟨by omega, ⟨k, h2⟩, h3⟩
      · rintro ⟨h1, ⟨k, h2⟩, h3⟩
        obtain ⟨d, rfl⟩ : ∃ d, c = i + 1 + d := ⟨c - (i + 1), by omega⟩
        have e1 : i + 1 + d - (i + 1) = d := by omega
        have e2 : i + 1 + d - i = d + 1 := by omega
        rw [e2] at h2
        rw [e1]
        exact ⟨h1, ⟨k, h2⟩, h3⟩
    cases x with
    | none =>
      simp only [inN, tl]
      constructor
      · rintro ⟨h1, h2⟩; exact ⟨by omega, h2⟩
      · rintro ⟨h1, ⟨k, h2⟩, h3⟩
        refine ⟨?_, ⟨k, h2⟩, h3⟩
        rcases Nat.lt_or_ge i c with h | h
        · omega
        · have : c - i = 0 := by omega
          rw [this] at h2
          simp [getO] at h2
    | some y =>
      simp only [inN]
      cases hx : hasO l0 i with
      | true =>
        simp only [tl]
        constructor
        · rintro ⟨h1, h2⟩; exact ⟨by omega, h2⟩
        · rintro ⟨h1, h2, h3, h4⟩
          refine ⟨?_, h2, h3, h4⟩
          rcases Nat.lt_or_ge i c with h | h
          · omega
          · have : c = i := by omega
            subst this
            rw [hx] at h3; cases h3
      | false =>
        simp only [List.mem_cons, tl, Prod.mk.injEq]
        constructor
        · rintro (⟨rfl, rfl⟩ | ⟨h1, h2⟩)
          · exact ⟨Nat.le_refl _, ⟨y, by simp [getO]⟩, hx, rfl⟩
          · exact ⟨by omega, h2⟩
        · rintro ⟨h1, h2, h3, h4⟩
          by_cases e : c = i
          · subst e
            exact .inl ⟨rfl, h4⟩
          · exact .inr ⟨by omega, h2, h3, h4⟩

def calleeA : AV → Option (FuncId × List AV)
  | .v (.func (.func f) ⟨[]⟩ ⟨[]⟩) => some (f, [])
  | .fn (.func f) cap => some (f, cap)
  | _ => none

theorem callee_run {P : Program} {vs ez ρ} {fv : AV} {u : Value} {f : FuncId} {cap : List AV} (h : calleeA fv = some (f, cap)) (hr : rel vs ez ρ fv u) (hh : Has P f) {o : Oper} {xs : List Operand} {cal : Operand} {ts : Array TypeId} {a : Act} {w : World}
    (ho : o.op = .call { callee := .value cal, args := xs.toArray, argTypes := ts }) (hu : a.eval cal = u) :
    ∃ cs : List Value, relL vs ez ρ cap cs ∧ (execOp a.eval o).run P w = .ok (.enter f (xs.map a.eval ++ cs).toArray) w := by
  have e : ∀ cs : Array Value, u = .func (.func f) #[] cs → (execOp a.eval o).run P w = .ok (.enter f (xs.map a.eval ++ cs.toList).toArray) w := by
    intro cs hcs
    simp only [execOp, ho, resolve, hu, hcs, Deferred.ofValue, Sem.run_bind, Sem.run_pure, Result.andThen_ok, invoke]
    have e2 : #[] ++ Array.map (fun x => a.eval x) xs.toArray ++ cs = (xs.map a.eval ++ cs.toList).toArray := by simp
    first
      | (rw [e2]; exact run_callFunc hh _ w)
      | (simp only [Array.empty_append]
         have e3 : Array.map (fun x => a.eval x) xs.toArray ++ cs = (xs.map a.eval ++ cs.toList).toArray := by simp
         rw [← e3]; exact run_callFunc hh _ w)
  unfold calleeA at h
  split at h
  · cases h
    simp only [rel] at hr
    exact ⟨[], by simp [relL], by simpa using e #[] hr⟩
  · cases h
    simp only [rel] at hr
    obtain ⟨xs', rfl, hr⟩ := hr
    exact ⟨xs'.toList, hr, e xs' rfl⟩
  · cases h

def aI (o : Oper) (fr : List AV) (xs : List Operand) (ch0 chK : List (Option Chunk)) (r : AV) : Actn := ⟨rds fr xs, in0 0 ch0 ++ inN 0 ch0 chK, o.dst, r, ownL 0 chK⟩

section
variable {X : Ctx} {o : Oper} {st : St} {k : Actn → Prop}
theorem x_inl (hT : X.ok) {f : FuncId} {fn : Func} {c : Code} {cal : Operand} {xs : List Operand} {ts : Array TypeId} {cap : List AV} {ch0 chK ch1 : List (Option Chunk)} {r : AV} {n : Nat} (ho : o.op = .call { callee := .value cal, args := xs.toArray, argTypes := ts })
    (hcal : calleeA (evA st.fr cal) = some (f, cap)) (hf : X.P.funcs[f]? = some fn) (hnm : (fn.name == "runtime.NumGoroutine") = false) (hb : fn.body = some c)
    (hn : ∀ c k, getO ch0 c = some k → c < n) (hp : Part st.ch ch0) (ha : refsInL ch0 (xs.map (evA st.fr) ++ cap) = true)
    (h : TR ⟨X.P, X.T, n, X.I⟩ c (fun e s => (e = .normal ∨ e = .ret) ∧ s.ch = ch1 ∧ ∀ E a w' ρ, Rel ⟨X.P, X.T, n, X.I⟩ E s a w' ρ → ∃ v, (results fn a.tmps).run X.P w' = .ok v w' ∧ rel s.vs s.ez ρ r v)
      ⟨(xs.map (evA st.fr) ++ cap) ++ List.replicate (fn.ntmps - (xs.map (evA st.fr) ++ cap).length) .dead, ch0⟩)
    (hI : Inl st.ch ch0 chK ch1 r) (hk : k (aI o st.fr (cal :: xs) ch0 chK r)) : ActN X o st k := by
  have hh : Has X.P f := ⟨fn, hf, hnm, by simp [hb]⟩
  refine ⟨_, LS.call rfl fun st' E a w ρ hfit hr => ?_, ⟨rds_fits st.fr st.ch (cal :: xs), ?_⟩, hk⟩
  · have hc0 : ∀ c k, getO ch0 c = some k → getO st'.ch c = some k := fun c k hk => hfit.c c (some k) (List.mem_append_left _ (in0_mem.2 ⟨Nat.zero_le _, k, by simpa using hk, rfl⟩))
    have hp' : Part st'.ch ch0 := ⟨hc0, hp.cl⟩
    have hI' : Inl st'.ch ch0 chK ch1 r := by
      refine ⟨hI.sub, hI.keep, hI.own, fun c k hk h0 => ?_, hI.refs, hI.cells⟩
      have hx : hasO ch0 c = false := by
        cases hx : hasO ch0 c with
        | false => rfl
        | true =>
          obtain ⟨k', hk'⟩ := hasO_eq.1 hx
          rw [h0] at hk'
          cases hk'
      exact hfit.c c none (List.mem_append_right _ (inN_mem.2 ⟨Nat.zero_le _, ⟨k, by simpa using hk⟩, hx, rfl⟩))
    have hev : ∀ x, x ∈ cal :: xs → evA st'.fr x = evA st.fr x := fun x hx => fits_ev hfit (fr := st.fr) (x := x) (rds_mem hx)
    have hcv := hr.ev cal
    rw [hev cal (by simp)] at hcv
    obtain ⟨cs, g1, g2⟩ := callee_run (w := w) hcal hcv hh ho rfl
    have hargs : relL st'.vs st'.ez ρ (xs.map (evA st.fr) ++ cap) (xs.map a.eval ++ cs) := by
      refine relL_append _ _ _ _ ?_ g1
      have : ∀ l : List Operand, (∀ x, x ∈ l → x ∈ cal :: xs) → relL st'.vs st'.ez ρ (l.map (evA st.fr)) (l.map a.eval) := by
        intro l
        induction l with
        | nil => intro _; simp [relL]
        | cons x l ih =>
          intro hl
          simp only [List.map_cons, relL]
          refine ⟨?_, ih fun y hy => hl y (List.mem_cons_of_mem _ hy)⟩
          rw [← hev x (hl x (by simp))]
          exact hr.ev x
      exact this xs fun x hx => List.mem_cons_of_mem _ hx
    refine ⟨f, _, g2, ?_⟩
    have key : ∀ c, hasO ch0 c = true → (St.mk ((xs.map (evA st.fr) ++ cap) ++ List.replicate (fn.ntmps - (xs.map (evA st.fr) ++ cap).length) .dead) ch0).vs c = st'.vs c ∧ (St.mk ((xs.map (evA st.fr) ++ cap) ++ List.replicate (fn.ntmps - (xs.map (evA st.fr) ++ cap).length) .dead) ch0).ez c = st'.ez c ∧ ρ c = ρ c := by
      intro c hc
      obtain ⟨k, hk⟩ := hasO_eq.1 hc
      have := hc0 c k hk
      simp [St.vs, St.ez, hk, this]
    have hargs' := relL_in key _ _ ha hargs
    have hlen := relL_len _ _ hargs
    have hdead : ∀ (vs : Nat → Option Nat) (ez : Nat → Nat) (n : Nat), relL vs ez ρ (List.replicate n .dead) (List.replicate n undef) := by
      intro vs ez n
      induction n with
      | zero => simp [relL]
      | succ n ih => simp only [List.replicate_succ, relL]; exact ⟨by simp [rel], ih⟩
    have hinv : ∀ w', Mod w w' (partO ch0 ρ) → X.I w' := fun w' hm => E.inv w' (hr.heap.mod.trans hm fun b ⟨c, k, h1, h2, h3⟩ => hr.heap.own c k b (hc0 c k h1) h2 h3)
    have hC : Calls X.P f (xs.map a.eval ++ cs).toArray w (fun e w' => ∃ v s ρ', e = .returned v ∧ s.ch = ch1 ∧ rel s.vs s.ez ρ' r v ∧ Heap w (partO ch0 ρ) s w' ρ' ∧ Up (partB ch0 ρ n hn).vs s.vs (partB ch0 ρ n hn).ez s.ez ρ ρ') := by
     refine calls_of_wp hf hb (wp_mono (wp_of_wide (h.out ⟨w, partO ch0 ρ, partB ch0 ρ n hn, hinv, [], none⟩ _ w ρ ⟨?_, rfl, heap_part hr.heap hp' _, ?_⟩)) ?_)
     · have := relL_append _ _ _ _ hargs' (hdead _ _ (fn.ntmps - (xs.map (evA st.fr) ++ cap).length))
       rw [hlen] at this ⊢
       simpa using this
     · exact Up.refl _ _ _
     · rintro e a' w' ⟨s, ρ', ⟨h1, h2, h3⟩, hr'⟩
       obtain ⟨v, q1, q2⟩ := h3 _ a' w' ρ' hr'
       have fin : a'.defers = [] ∧ ∃ v, (results fn a'.tmps).run X.P w' = .ok v w' ∧ ∃ v' s ρ', Ending.returned v = .returned v' ∧ s.ch = ch1 ∧ rel s.vs s.ez ρ' r v' ∧ Heap w (partO ch0 ρ) s w' ρ' ∧ Up (partB ch0 ρ n hn).vs s.vs (partB ch0 ρ n hn).ez s.ez ρ ρ' :=
         ⟨hr'.df, v, q1, v, s, ρ', rfl, h2, q2, hr'.heap, hr'.gh⟩
       rcases h1 with rfl | rfl
       · exact fin
       · exact fin
    refine hC.mono ?_
    · rintro e w' ⟨v, s, ρ', rfl, e1, e2, e3, e4⟩
      obtain ⟨fr1, chs⟩ := s
      simp only at e1
      subst e1
      obtain ⟨ρF, p1, p2, p3⟩ := heap_inl hr.heap hp' hn hI' e3 e4 e2 ((aI o st.fr (cal :: xs) ch0 chK r).app st').fr
      exact ⟨v, ρF, rfl, p1, p2, p3⟩
  · intro i q hq
    rcases List.mem_append.1 hq with hq | hq
    · obtain ⟨_, k, h1, rfl⟩ := in0_mem.1 hq
      exact hp.sub i k (by simpa using h1)
    · obtain ⟨_, ⟨k, h1⟩, h2, rfl⟩ := inN_mem.1 hq
      refine hI.new i k (by simpa using h1) ?_
      cases hx : getO ch0 i with
      | none => rfl
      | some k' => rw [hasO_eq.2 ⟨k', hx⟩] at h2; cases h2
end
end Go.SX
set_option linter.unusedSimpArgs false
set_option linter.unusedVariables false
namespace Go.SX


def iterK {R : Type} (M : NA R) (step : St → (Exit → St → R) → R) : Nat → St → (Exit → St → R) → R
  | 0, _, _ => M.no
  | n + 1, st, K => step st fun e s => match e with
    | .normal => iterK M step n s K
    | e => K e s

def XC {R : Type} (M : NA R) (T : List (Option Ty)) (N : Nat) : Code → St → (Exit → St → R) → R
  | .skip, st, K => K .normal st
  | .label _, st, K => K .normal st
  | .exit i, st, K => K (.exit i) st
  | .ret, st, K => K .ret st
  | .seq a b, st, K => XC M T N a st fun e s => match e with
    | .normal => XC M T N b s K
    | e => K e s
  | .cond c a b, st, K => evK st.fr c fun v => match v with
    | .v (.bool t) => M.br t fun t => match t with
      | true => XC M T N a st K
      | false => XC M T N b st K
    | _ => M.no
  | .block id c, st, K => XC M T N c st fun e s => match e with
    | .exit i => match Nat.beq i id with
      | true => K .normal s
      | false => K (.exit i) s
    | e => K e s
  | .loop c, st, K => iterK M (XC M T N c) N st K
  | .scope c, st, K => XC M T N c st fun e s => match e with
    | .goto _ => M.no
    | e => K e s
  | .region _ ops drawn, st, K => match drawn with
    | false => XS M T ops.toList 0 ops.toList st (K .normal)
    | true => XD M T ops.toList 0 ops.toList st [] (K .normal)
  | _, _, _ => M.no

section
variable {R : Type} {M : NA R} {H : R → Prop} {X : Ctx}

def Just (e : Exit) (s : St) : Exit → St → Prop := fun e' s' => e' = e ∧ s' = s
theorem TR.just {c : Code} {st s : St} {e : Exit} {K : Exit → St → Prop} (h : TR X c (Just e s) st) (k : K e s) : TR X c K st :=
  h.mono fun e' s' ⟨p, q⟩ => by subst p; subst q; exact k

theorem iterK_ok (hM : M.Ok H X) {c : Code} {step : St → (Exit → St → R) → R} (hs : ∀ st K, H (step st K) → ∃ e s, TR X c (Just e s) st ∧ H (K e s)) :
    ∀ (n : Nat) (st : St) (K : Exit → St → R), H (iterK M step n st K) → ∃ e s m, (∀ E a w ρ, Rel X E st a w ρ → Code.roundsIn (wideR E.rd) 0 X.P c (fun e' a' w' => e' = e ∧ ∃ ρ', Rel X E s a' w' ρ') m a w) ∧ H (K e s)
  | 0, _, _, h => (hM.no h).elim
  | n + 1, st, K, h => by
    simp only [iterK] at h
    obtain ⟨e, s, h1, h2⟩ := hs _ _ h
    have fin : e ≠ .normal → H (K e s) → ∃ e s m, (∀ E a w ρ, Rel X E st a w ρ → Code.roundsIn (wideR E.rd) 0 X.P c (fun e' a' w' => e' = e ∧ ∃ ρ', Rel X E s a' w' ρ') m a w) ∧ H (K e s) := by
      intro hne hk
      refine ⟨e, s, 1, fun E a w ρ hr => ?_, hk⟩
      rw [roundsIn_succ]
      refine wpIn_mono (h1.out E a w ρ hr) ?_
      rintro e' a' w' ⟨s', ρ', ⟨p, q⟩, hr'⟩
      subst p
      subst q
      cases e' with
      | normal => exact (hne rfl).elim
      | _ => exact ⟨rfl, ρ', hr'⟩
    cases e with
    | normal =>
      obtain ⟨e2, s2, m, h3, h4⟩ := iterK_ok hM hs n s K h2
      refine ⟨e2, s2, m + 1, fun E a w ρ hr => ?_, h4⟩
      rw [roundsIn_succ]
      refine wpIn_mono (h1.out E a w ρ hr) ?_
      rintro e' a' w' ⟨s', ρ', ⟨p, q⟩, hr'⟩
      subst p
      subst q
      exact h3 E a' w' ρ' hr'
    | exit i => exact fin (by simp) h2
    | goto i => exact fin (by simp) h2
    | ret => exact fin (by simp) h2
    | panic i => exact fin (by simp) h2
    | outgrown => exact fin (by simp) h2

theorem XC_ok (hM : M.Ok H X) (hT : X.ok) (hm : X.P.follows .mixedOrders = true) {N : Nat} : ∀ (c : Code) (st : St) (K : Exit → St → R), H (XC M X.T N c st K) → ∃ e s, TR X c (Just e s) st ∧ H (K e s)
  | .skip, st, K, h => ⟨.normal, st, TR.skip ⟨rfl, rfl⟩, by simpa [XC] using h⟩
  | .label l, st, K, h => ⟨.normal, st, TR.label ⟨rfl, rfl⟩, by simpa [XC] using h⟩
  | .exit i, st, K, h => ⟨.exit i, st, TR.exit ⟨rfl, rfl⟩, by simpa [XC] using h⟩
  | .ret, st, K, h => ⟨.ret, st, TR.ret ⟨rfl, rfl⟩, by simpa [XC] using h⟩
  | .seq a b, st, K, h => by
    simp only [XC] at h
    obtain ⟨e, s, h1, h2⟩ := XC_ok hM hT hm a st _ h
    cases e with
    | normal =>
      obtain ⟨e', s', h3, h4⟩ := XC_ok hM hT hm b s K h2
      exact ⟨e', s', TR.seq (h1.just h3), h4⟩
    | exit i => exact ⟨_, s, TR.seq (h1.just ⟨rfl, rfl⟩), h2⟩
    | goto i => exact ⟨_, s, TR.seq (h1.just ⟨rfl, rfl⟩), h2⟩
    | ret => exact ⟨_, s, TR.seq (h1.just ⟨rfl, rfl⟩), h2⟩
    | panic i => exact ⟨_, s, TR.seq (h1.just ⟨rfl, rfl⟩), h2⟩
    | outgrown => exact ⟨_, s, TR.seq (h1.just ⟨rfl, rfl⟩), h2⟩
  | .cond c a b, st, K, h => by
    simp only [XC, evK_eq] at h
    split at h
    · rename_i t ht
      have h := hM.br h
      cases t with
      | true =>
        obtain ⟨e, s, h1, h2⟩ := XC_ok hM hT hm a st K h
        exact ⟨e, s, TR.cond_true ht h1, h2⟩
      | false =>
        obtain ⟨e, s, h1, h2⟩ := XC_ok hM hT hm b st K h
        exact ⟨e, s, TR.cond_false ht h1, h2⟩
    · exact (hM.no h).elim
  | .block id c, st, K, h => by
    simp only [XC] at h
    obtain ⟨e, s, h1, h2⟩ := XC_ok hM hT hm c st _ h
    cases e with
    | normal => exact ⟨_, s, TR.block (h1.just ⟨rfl, rfl⟩), h2⟩
    | exit i =>
      simp only at h2
      cases hi : Nat.beq i id with
      | true =>
        rw [hi] at h2
        exact ⟨.normal, s, TR.block (h1.just (by simp only [blockK, hi]; exact ⟨rfl, rfl⟩)), h2⟩
      | false =>
        rw [hi] at h2
        exact ⟨.exit i, s, TR.block (h1.just (by simp only [blockK, hi]; exact ⟨rfl, rfl⟩)), h2⟩
    | goto i => exact ⟨_, s, TR.block (h1.just ⟨rfl, rfl⟩), h2⟩
    | ret => exact ⟨_, s, TR.block (h1.just ⟨rfl, rfl⟩), h2⟩
    | panic i => exact ⟨_, s, TR.block (h1.just ⟨rfl, rfl⟩), h2⟩
    | outgrown => exact ⟨_, s, TR.block (h1.just ⟨rfl, rfl⟩), h2⟩
  | .loop c, st, K, h => by
    simp only [XC] at h
    obtain ⟨e, s, m, h1, h2⟩ := iterK_ok hM (fun st K h => XC_ok hM hT hm c st K h) N st K h
    refine ⟨e, s, ⟨fun E a w ρ hr => wpIn_loop_rounds m ?_⟩, h2⟩
    have mono : ∀ m a w, Code.roundsIn (wideR E.rd) 0 X.P c (fun e' a' w' => e' = e ∧ ∃ ρ', Rel X E s a' w' ρ') m a w → Code.roundsIn (wideR E.rd) 0 X.P c (fun e' a' w' => ∃ st' ρ', Just e s e' st' ∧ Rel X E st' a' w' ρ') m a w := by
      intro m
      induction m with
      | zero => intro a w h; exact h
      | succ m ih =>
        intro a w h
        rw [roundsIn_succ] at h ⊢
        refine wpIn_mono h ?_
        intro e' a' w' hq
        cases e' with
        | normal => exact ih a' w' hq
        | _ =>
          obtain ⟨q1, ρ', q2⟩ := hq
          exact ⟨s, ρ', ⟨q1, rfl⟩, q2⟩
    exact mono m a w (h1 E a w ρ hr)
  | .scope c, st, K, h => by
    simp only [XC] at h
    obtain ⟨e, s, h1, h2⟩ := XC_ok hM hT hm c st _ h
    have fin : (∀ l, e ≠ .goto l) → TR X (.scope c) (Just e s) st := by
      intro hne
      refine ⟨fun E a w ρ hr => wpIn_scope_straight (wpIn_mono (h1.out E a w ρ hr) ?_)⟩
      rintro e' a' w' ⟨s', ρ', ⟨p, q⟩, hr'⟩
      subst p
      subst q
      cases e' with
      | goto l => exact (hne l rfl).elim
      | _ => exact ⟨s', ρ', ⟨rfl, rfl⟩, hr'⟩
    cases e with
    | goto l => exact (hM.no h2).elim
    | normal => exact ⟨_, s, fin (by simp), h2⟩
    | exit i => exact ⟨_, s, fin (by simp), h2⟩
    | ret => exact ⟨_, s, fin (by simp), h2⟩
    | panic i => exact ⟨_, s, fin (by simp), h2⟩
    | outgrown => exact ⟨_, s, fin (by simp), h2⟩
  | .region id ops drawn, st, K, h => by
    simp only [XC] at h
    have e : ops = ops.toList.toArray := by simp
    cases drawn with
    | false =>
      rw [e]
      exact region_ok hM hT h
    | true =>
      rw [e]
      exact drawn_ok hM hT hm h
  | .rangeFunc .., st, K, h => (hM.no (by simpa [XC] using h)).elim
  | .goto .., st, K, h => (hM.no (by simpa [XC] using h)).elim
  | .refuse .., st, K, h => (hM.no (by simpa [XC] using h)).elim
end
end Go.SX
set_option linter.unusedSimpArgs false
set_option linter.unusedVariables false
namespace Go.SX

def eqF (T : List (Option Ty)) (f : TypeId → List AV → List AV → Option Bool) (xs ys : List AV) : List (Nat × TypeId) → Option Bool
  | [] => some true
  | (off, ft) :: fs => match getO T ft with
    | some yf => match subL xs off yf.size, subL ys off yf.size with
      | some a, some b => match aggd yf || Nat.beq yf.size 1 with
        | true => match f ft a b, eqF T f xs ys fs with
          | some r, some s => some (r && s)
          | _, _ => none
        | false => none
      | _, _ => none
    | none => none
def eqC (T : List (Option Ty)) : Nat → TypeId → List AV → List AV → Option Bool
  | 0, _, _, _ => none
  | n + 1, t, xs, ys => match getO T t with
    | some y => match y.d with
      | .int _ => match xs, ys with
        | [.v (.int k a)], [.v (.int k' b)] => match Nat.beq (ikn k) (ikn k') with
          | true => some (a == b)
          | false => none
        | _, _ => none
      | .bool => match xs, ys with
        | [.v (.bool a)], [.v (.bool b)] => some (a == b)
        | _, _ => none
      | .str => match xs, ys with
        | [.v (.string a)], [.v (.string b)] => some (decide (a = b))
        | _, _ => none
      | .st fs => match y.eq with
        | true => eqF T (eqC T n) xs ys fs
        | false => none
      | _ => none
    | none => none

theorem run_part' {P : Program} {t : TypeId} {y : Ty} (h : TyOk P t y) (xs : List Value) (off : Nat) (w : World) (hlen : ((xs.drop off).take y.size).length = y.size) (hz : aggd y = false → y.size = 1) :
    (part t xs.toArray off).run P w = .ok (mkVal y ((xs.drop off).take y.size)) w := run_part h xs off w _ rfl hlen hz

theorem eqF_ok {P : Program} {T : List (Option Ty)} (hT : ∀ t y, getO T t = some y → TyOk P t y) {vs ez ρ} {w : World} : ∀ (n : Nat) (ih : ∀ (t : TypeId) (xs ys : List AV) (r : Bool), eqC T n t xs ys = some r → ∀ (us vs' : List Value), relL vs ez ρ xs us → relL vs ez ρ ys vs' → ∀ y, getO T t = some y → ∀ d, n ≤ d → (Op.equalIn d t (mkVal y us) (mkVal y vs')).run P w = .ok r w) (fs : List (Nat × TypeId)) (xs ys : List AV) (r : Bool), eqF T (eqC T n) xs ys fs = some r → ∀ (us vs' : List Value), relL vs ez ρ xs us → relL vs ez ρ ys vs' →
    ∀ d, n ≤ d → ∀ (fl : List Field), fl.map (fun f => (f.offset, f.type)) = fs → (∀ f, f ∈ fl → f.name ≠ "_") → (Op.eqFields d us.toArray vs'.toArray fl).run P w = .ok r w
  | n, ih, [], xs, ys, r, h, us, vs', hu, hv, d, hd, fl, hfl, hnm => by
    simp only [eqF, Option.some.injEq] at h
    have : fl = [] := by simpa using hfl
    subst this
    simp [Op.eqFields, h]
  | n, ih, (off, ft) :: fs, xs, ys, r, h, us, vs', hu, hv, d, hd, fl, hfl, hnm => by
    cases fl with
    | nil => simp at hfl
    | cons f fl =>
      simp only [List.map_cons, List.cons.injEq, Prod.mk.injEq] at hfl
      obtain ⟨⟨rfl, rfl⟩, hfl⟩ := hfl
      simp only [eqF] at h
      split at h
      · rename_i yf hyf
        split at h
        · rename_i a b ha hb
          split at h
          · rename_i hz
            split at h
            · rename_i r1 s1 hr1 hs1
              cases h
              obtain ⟨p1, p2⟩ := relL_sub hu ha
              obtain ⟨p3, p4⟩ := relL_sub hv hb
              have hz' : aggd yf = false → yf.size = 1 := by
                intro h0
                rw [h0] at hz
                exact Nat.eq_of_beq_eq_true (by simpa using hz)
              have hok := hT _ yf hyf
              have i1 := ih f.type a b r1 hr1 _ _ p1 p3 yf hyf d hd
              have i2 := eqF_ok hT (w := w) n ih fs xs ys s1 hs1 us vs' hu hv d hd fl hfl (fun g hg => hnm g (List.mem_cons_of_mem _ hg))
              simp only [Op.eqFields, if_pos (hnm f (by simp)), Sem.run_bind, run_part' hok us f.offset w p2 hz', run_part' hok vs' f.offset w p4 hz', Result.andThen_ok, i1]
              cases r1
              · simp
              · simp only [Bool.not_true, Bool.false_eq_true, if_false, Bool.true_and]
                exact i2
            · cases h
          · cases h
        · cases h
      · cases h
theorem eqC_ok {P : Program} {T : List (Option Ty)} (hT : ∀ t y, getO T t = some y → TyOk P t y) {vs ez ρ} {w : World} : ∀ (n : Nat) (t : TypeId) (xs ys : List AV) (r : Bool), eqC T n t xs ys = some r → ∀ (us vs' : List Value), relL vs ez ρ xs us → relL vs ez ρ ys vs' →
    ∀ y, getO T t = some y → ∀ d, n ≤ d → (Op.equalIn d t (mkVal y us) (mkVal y vs')).run P w = .ok r w
  | 0, t, xs, ys, r, h, _, _, _, _, _, _, _, _ => by simp [eqC] at h
  | n + 1, t, xs, ys, r, h, us, vs', hu, hv, y, hy, d, hd => by
    obtain ⟨d, rfl⟩ : ∃ e, d = e + 1 := ⟨d - 1, by omega⟩
    simp only [eqC, hy] at h
    obtain ⟨⟨dd, q1, q2⟩, _, q3⟩ := hT t y hy
    cases hdd : y.d with
    | int k =>
      simp only [hdd] at h
      rw [hdd] at q2
      cases dd <;> simp only [TD.is] at q2
      split at h
      · rename_i k1 a k2 b
        split at h
        · rename_i hk
          cases ikn_inj hk
          cases h
          match us, vs', hu, hv with
          | [u], [v], hu, hv =>
            simp only [relL, rel] at hu hv
            rw [hu.1, hv.1]
            have : aggd y = false := by simp [aggd, hdd]
            simp only [mkVal, this, Bool.false_eq_true, if_false, List.getD_cons_zero]
            exact run_equalIn_int w d t _ _ a b q1
        · cases h
      · cases h
    | bool =>
      simp only [hdd] at h
      rw [hdd] at q2
      cases dd <;> simp only [TD.is] at q2
      split at h
      · rename_i a b
        cases h
        match us, vs', hu, hv with
        | [u], [v], hu, hv =>
          simp only [relL, rel] at hu hv
          rw [hu.1, hv.1]
          have : aggd y = false := by simp [aggd, hdd]
          simp only [mkVal, this, Bool.false_eq_true, if_false, List.getD_cons_zero]
          exact run_equalIn_bool' w d t a b q1
      · cases h
    | str =>
      simp only [hdd] at h
      rw [hdd] at q2
      cases dd <;> simp only [TD.is] at q2
      split at h
      · rename_i a b
        cases h
        match us, vs', hu, hv with
        | [u], [v], hu, hv =>
          simp only [relL, rel] at hu hv
          rw [hu.1, hv.1]
          have : aggd y = false := by simp [aggd, hdd]
          simp only [mkVal, this, Bool.false_eq_true, if_false, List.getD_cons_zero]
          rw [run_equalIn_string w d t a b q1, beq_bytes]
      · cases h
    | st fs =>
      simp only [hdd] at h
      rw [hdd] at q2
      cases dd <;> simp only [TD.is] at q2
      rename_i fields
      split at h
      · rename_i he
        obtain ⟨e1, e2, e3⟩ := q3 he
        have : aggd y = true := by simp [aggd, hdd]
        simp only [mkVal, this, if_true]
        have hf : P.fieldsOf t = fields := by simp [Program.fieldsOf, q1]
        rw [run_equalIn_struct w d t _ _ (by rw [hf]; exact q1) e1, hf]
        refine eqF_ok hT n (fun t xs ys r h us vs' hu hv y hy d hd => eqC_ok hT n t xs ys r h us vs' hu hv y hy d hd) fs xs ys r h us vs' hu hv d (by omega) fields.toList q2 (e3 fields q1)
      · cases h
    | ptr e => simp [hdd] at h
    | sl e => simp [hdd] at h
    | arr m e => simp [hdd] at h
    | ifc => simp [hdd] at h
    | fn => simp [hdd] at h
    | oth => simp [hdd] at h
    | mp a b => simp [hdd] at h
section
variable {X : Ctx} {o : Oper} {st : St} {k : Actn → Prop}
def cellsA : AV → Option (List AV)
  | .agg l => some l
  | .v (.agg l) => some (l.toList.map .v)
  | _ => none
theorem cellsA_rel {vs ez ρ} {a : AV} {l : List AV} {u : Value} (h : cellsA a = some l) (hr : rel vs ez ρ a u) : ∃ xs : List Value, u = .agg xs.toArray ∧ relL vs ez ρ l xs := by
  unfold cellsA at h
  split at h
  · cases h
    simp only [rel] at hr
    obtain ⟨xs, rfl, hr⟩ := hr
    exact ⟨xs.toList, by simp, hr⟩
  · cases h
    simp only [rel] at hr
    subst hr
    exact ⟨_, by simp, relL_vals _⟩
  · cases h
theorem x_eq_agg (hT : X.ok) (op : BinOp) (hop : op = .eql ∨ op = .neq) {t ty : TypeId} {x y : Operand} {xs ys : List AV} {yt : Ty} {r : Bool} (ho : o.op = .binOp op t x y ty) (hx : cellsA (evA st.fr x) = some xs) (hy : cellsA (evA st.fr y) = some ys)
    (hyt : getO X.T t = some yt) (hag : aggd yt = true) (he : yt.eq = true) (hr : eqC X.T 20 t xs ys = some r) (h : k (aP o st.fr [x, y] (.v (.bool (eqR op r))))) : ActN X o st k := by
  refine ActN.p (fun vs ez ρ a w hh => ?_) h
  obtain ⟨us, e1, u1⟩ := cellsA_rel hx (hh x (by simp))
  obtain ⟨vs', e2, u2⟩ := cellsA_rel hy (hh y (by simp))
  have hq := eqC_ok hT (w := w) 20 t xs ys r hr us vs' u1 u2 yt hyt 10000 (by omega)
  simp only [mkVal, hag, if_true] at hq
  obtain ⟨_, _, q3⟩ := hT t yt hyt
  obtain ⟨_, g2, _⟩ := q3 he
  refine ⟨.bool (eqR op r), ?_, by simp [rel]⟩
  rcases hop with rfl | rfl
  · simp only [execOp, ho, e1, e2, Sem.run_bind, run_eqGuard_agg w _ t x y _ _ g2, run_eql_struct, hq, Result.andThen_ok, Sem.run_pure, eqR]
  · simp only [execOp, ho, e1, e2, Sem.run_bind, run_eqGuard_agg w _ t x y _ _ g2, run_neq_struct, hq, Result.andThen_ok, Sem.run_pure, eqR]
end
end Go.SX
set_option linter.unusedSimpArgs false
set_option linter.unusedVariables false
namespace Go.SX

def catK {R : Type} : List AV → List AV → (List AV → R) → R
  | [], l, k => k l
  | a :: r, l, k => catK r l fun x => k (a :: x)
theorem catK_eq {R : Type} : ∀ (a l : List AV) (k : List AV → R), catK a l k = k (a ++ l)
  | [], _, _ => rfl
  | a :: r, l, k => by simp only [catK]; rw [catK_eq r]; rfl
def repK {R : Type} (a : AV) : Nat → List AV → (List AV → R) → R
  | 0, l, k => k l
  | n + 1, l, k => repK a n (a :: l) k
theorem repK_eq {R : Type} (a : AV) : ∀ (n : Nat) (l : List AV) (k : List AV → R), repK a n l k = k (List.replicate n a ++ l)
  | 0, _, _ => rfl
  | n + 1, l, k => by
    simp only [repK]
    rw [repK_eq a n, List.replicate_succ']
    simp
def isRow : CK → Bool | .row => true | _ => false
theorem isRow_eq {c : CK} (h : isRow c = true) : c = .row := by cases c <;> simp [isRow] at h ⊢
def allOne : List AV → Bool
  | [] => true
  | a :: l => match one a with | true => allOne l | false => false
theorem allOne_eq : ∀ {l : List AV}, allOne l = true → l.all one = true
  | [], _ => rfl
  | a :: l, h => by
    simp only [allOne] at h
    split at h
    · rename_i h1; simp [h1, allOne_eq h]
    · cases h
def bytA : AV → Option Int
  | .v (.int .u8 n) => some n
  | _ => none
def bytL : List AV → Option (List Int)
  | [] => some []
  | a :: l => match bytA a, bytL l with
    | some n, some r => some (n :: r)
    | _, _ => none
theorem bytA_eq {a : AV} {n : Int} (h : bytA a = some n) : a = .v (.int .u8 n) := by
  unfold bytA at h
  split at h
  · cases h; rfl
  · cases h
theorem bytL_eq : ∀ {l : List AV} {ns : List Int}, bytL l = some ns → l = byt ns
  | [], ns, h => by simp [bytL] at h; subst h; rfl
  | a :: l, ns, h => by
    simp only [bytL] at h
    split at h
    · rename_i n r h1 h2
      cases h
      rw [bytA_eq h1, bytL_eq h2]
      rfl
    · cases h
def sIntsK {R : Type} : List UInt8 → (List AV → R) → R
  | [], k => k []
  | b :: l, k => sIntsK l fun r => k (.v (.int .u8 (b.toNat : Int)) :: r)
theorem sIntsK_eq {R : Type} : ∀ (l : List UInt8) (k : List AV → R), sIntsK l k = k (l.map fun b => .v (.int .u8 (b.toNat : Int)))
  | [], _ => rfl
  | b :: l, k => by simp only [sIntsK]; rw [sIntsK_eq l]; rfl
theorem sIntsK_byt {R : Type} (u : ByteArray) (k : List AV → R) : sIntsK u.data.toList k = k (byt (sInts u)) := by
  rw [sIntsK_eq]
  simp [byt, sInts, Function.comp_def]
def isU8D : TD → Bool | .int .u8 => true | _ => false
theorem isU8D_eq {d : TD} (h : isU8D d = true) : d = .int .u8 := by unfold isU8D at h; split at h <;> simp_all

def dropV : List Value → Nat → List Value
  | l, 0 => l
  | [], _ + 1 => []
  | _ :: l, n + 1 => dropV l n
theorem dropV_eq : ∀ (l : List Value) (n : Nat), dropV l n = l.drop n
  | l, 0 => by cases l <;> rfl
  | [], _ + 1 => rfl
  | _ :: l, n + 1 => dropV_eq l n
def takeV {R : Type} (no : R) : List Value → Nat → (List Value → R) → R
  | _, 0, k => k []
  | [], _ + 1, _ => no
  | a :: l, n + 1, k => takeV no l n fun r => k (a :: r)
theorem takeV_ok {R : Type} {H : R → Prop} {no : R} (hn : ¬ H no) : ∀ (l : List Value) (n : Nat) (k : List Value → R), H (takeV no l n k) → (l.take n).length = n ∧ H (k (l.take n))
  | l, 0, k, h => by
    have : H (k []) := by cases l <;> exact h
    simpa using this
  | [], n + 1, k, h => (hn h).elim
  | a :: l, n + 1, k, h => by
    simp only [takeV] at h
    have := takeV_ok hn l n _ h
    simpa using this
def mkVK {R : Type} (y : Ty) (l : List Value) (k : Value → R) : R :=
  match aggd y with
  | true => k (.agg ⟨l⟩)
  | false => match l with
    | a :: _ => k a
    | [] => k undef
theorem mkVK_eq {R : Type} (y : Ty) (l : List Value) (k : Value → R) : mkVK y l k = k (mkVal y l) := by
  unfold mkVK mkVal
  cases aggd y with
  | true => simp
  | false => cases l <;> simp

section
variable {R : Type} (M : NA R) (G : Nat → Option (List Value)) (T : List (Option Ty)) (o : Oper) (st : St) (k : Actn → R)

def xIaP (t : TypeId) (x i : Operand) : R := evK st.fr x fun a => evK st.fr i fun b =>
  match a, b, getO T t with
  | .v (.pointer (some ⟨bl, o1, none⟩)), .v (.int kd q), some y => match y.d with
    | .arr n e => match getO T e with
      | some ye => M.need (0 ≤ q ∧ q < n) (M.nat (o1 + q.toNat * ye.size) fun o2 => k (aP o st.fr [x, i] (.v (.pointer (some ⟨bl, o2, none⟩)))))
      | none => M.no
    | _ => M.no
  | _, _, _ => M.no
def xLoadG (t : TypeId) (x : Operand) : R := evK st.fr x fun a =>
  match a, getO T t with
  | .v (.pointer (some ⟨bl, o1, none⟩)), some y => match G bl with
    | some cells => chk M (aggd y || Nat.beq y.size 1) (takeV M.no (dropV cells o1) y.size fun l => mkVK y l fun u => k (aP o st.fr [x] (.v u)))
    | none => M.no
  | _, _ => M.no
def srcK (b : AV) (esz : Nat) (kk : List (Nat × Option Chunk) → Nat → List AV → R) : R :=
  match b with
  | .sl d kd lo m => match getO st.ch d with
    | some dk => chk M (rdK dk.kind && Nat.beq dk.esz esz) (Ver M kd dk (M.ld (subL dk.cells (lo * dk.esz) (m * dk.esz)) fun l => chk M (allOne l) (kk [(d, some dk)] m l)))
    | none => M.no
  | .v (.slice _ m _) => match m with
    | 0 => kk [] 0 []
    | _ => M.no
  | _ => M.no
def xApp (s x : Operand) (t : TypeId) : R := evK st.fr s fun a => evK st.fr x fun b =>
  match getO T t with
  | some y => match y.d with
    | .sl e => match getO T e with
      | some ye => chk M (szNe ye && Nat.beq ye.zero.length ye.size) (srcK M st b ye.size fun cr m l => match a with
        | .sl c kv lo n => match lo, getO st.ch c with
          | 0, some ck => chk M (isRow ck.kind && Nat.beq ye.size ck.esz && Nat.beq ck.ty e && Nat.beq ck.cells.length (n * ck.esz)) (Ver M kv ck (M.need (n + m ≤ maxLen ∧ (n + m) * ye.bytes ≤ 140737488355328)
              (catK ck.cells l fun cells => M.nat (n + m) fun nm => M.nat (ck.ver + 1) fun v1 => M.nat ck.esz fun es => k ⟨rds st.fr [s, x], (c, some ck) :: cr, o.dst, .sl c v1 0 nm, [(c, ⟨.row, e, es, v1, cells⟩)]⟩)))
          | _, _ => M.no
        | .v (.slice none n0 c0) => match n0, c0, o.dst with
          | 0, 0, some d => M.ix d st.ch fun d => match getO st.ch d with
            | none => M.need (m ≤ maxLen ∧ m * ye.bytes ≤ 140737488355328) (k ⟨rds st.fr [s, x], (d, none) :: cr, o.dst, .sl d 0 0 m, [(d, ⟨.row, e, ye.size, 0, l⟩)]⟩)
            | some _ => M.no
          | _, _, _ => M.no
        | _ => M.no)
      | none => M.no
    | _ => M.no
  | none => M.no
def xCv (s t : TypeId) (x : Operand) : R := evK st.fr x fun a =>
  match getO T s, getO T t with
  | some ys, some y => match ys.d, y.d with
    | .sl e, .str => match getO T e with
      | some ye => chk M (isU8D ye.d) (match a with
        | .sl c kv lo n => match getO st.ch c with
          | some ck => chk M (rdK ck.kind && Nat.beq ck.esz 1) (Ver M kv ck (M.ld (subL ck.cells lo n) fun l => match bytL l with
            | some ns => M.byt ns fun u => k (aR o st.fr [x] c ck (.v (.string u)))
            | none => M.no))
          | none => M.no
        | .v (.slice none _ _) => k (aP o st.fr [x] (.v (.string ByteArray.empty)))
        | _ => M.no)
      | none => M.no
    | .str, .sl e => match getO T e, o.dst with
      | some ye, some d => chk M (isU8D ye.d) (match a with
        | .v (.string u) => M.ix d st.ch fun d => match getO st.ch d with
          | none => sIntsK u.data.toList fun l => k (aN o st.fr [x] d ⟨.buf, e, 1, 0, l⟩ (.sl d 0 0 u.size))
          | some _ => M.no
        | _ => M.no)
      | _, _ => M.no
    | _, _ => M.no
  | _, _ => M.no
def xMake (t : TypeId) (lx cx : Operand) : R := evK st.fr lx fun a => evK st.fr cx fun b =>
  match getO T t, o.dst with
  | some y, some d => match y.d with
    | .sl e => match getO T e with
      | some ye => match a, b with
        | .v (.int _ n), .v (.int _ n') => match n, n' with
          | .ofNat n, .ofNat n' => chk M (Nat.beq n n' && Nat.beq ye.size 1) (match ye.zero with
            | [z] => M.need (ye.bytes * n ≤ 281474976710656 ∧ n ≤ maxLen) (M.ix d st.ch fun d => match getO st.ch d with
              | none => repK (.v z) n [] fun l => k (aN o st.fr [lx, cx] d ⟨.row, e, 1, 0, l⟩ (.sl d 0 0 n))
              | some _ => M.no)
            | _ => M.no)
          | _, _ => M.no
        | _, _ => M.no
      | none => M.no
    | _ => M.no
  | _, _ => M.no
def xEqS (op : BinOp) (t : TypeId) (x y : Operand) : R := evK st.fr x fun a => evK st.fr y fun b =>
  match cellsA a, cellsA b, getO T t with
  | some xs, some ys, some yt => chk M (eqlike op && aggd yt && yt.eq) (match eqC T 20 t xs ys with
    | some r => k (aP o st.fr [x, y] (.v (.bool (eqR op r))))
    | none => M.no)
  | _, _, _ => M.no
def xMin (x y : Operand) : R := evK st.fr x fun a => evK st.fr y fun b =>
  match a, b with
  | .v (.int p m), .v (.int _ n) => M.br (decide (n < m)) fun t => match t with
    | true => k (aP o st.fr [x, y] (.v (.int p n)))
    | false => k (aP o st.fr [x, y] (.v (.int p m)))
  | _, _ => M.no
def xtra : R :=
  match o.op with
  | .binOp op t x y _ => xEqS M T o st k op t x y
  | .convert s t x => xCv M T o st k s t x
  | .makeSlice t lx cx => xMake M T o st k t lx cx
  | .indexAddr t x i => xIaP M T o st k t x i
  | .load t x => xLoadG M G T o st k t x
  | .call { callee := .builtin .append, args, argTypes } => match args.toList, argTypes.toList with
    | [s, x], [t, t'] => chk M (Nat.beq t t') (xApp M T o st k s x t)
    | _, _ => M.no
  | .call { callee := .builtin .min, args, .. } => match args.toList with
    | [x, y] => xMin M o st k x y
    | _ => M.no
  | _ => M.no
end

section
variable {R : Type} {M : NA R} {H : R → Prop} {X : Ctx} {o : Oper} {st : St} {k : Actn → R}

theorem srcK_ok (hM : M.Ok H X) {x : Operand} {esz : Nat} {kk : List (Nat × Option Chunk) → Nat → List AV → R} (h : H (srcK M st (evA st.fr x) esz kk)) :
    ∃ cr m l, Src X st.fr cr x esz m l ∧ (∀ i q, (i, q) ∈ cr → getO st.ch i = q) ∧ H (kk cr m l) := by
  unfold srcK at h
  split at h
  · rename_i d kd lo m hx
    split at h
    · rename_i dk hd
      obtain ⟨h1, h⟩ := chk_eq hM h
      obtain ⟨h2, h⟩ := Ver_eq hM h
      obtain ⟨l, h3, h⟩ := hM.ld h
      obtain ⟨h4, h⟩ := chk_eq hM h
      simp only [Bool.and_eq_true] at h1
      have e := Nat.eq_of_beq_eq_true h1.2
      rw [← e]
      exact ⟨_, _, _, Src.sl hx h2 (rdK_eq h1.1) h3 (allOne_eq h4), fun i q hq => by simp at hq; rw [hq.1, hq.2, hd], h⟩
    · exact (hM.no h).elim
  · rename_i a m c hx
    split at h
    · exact ⟨_, _, _, Src.nil esz hx, by simp, h⟩
    · exact (hM.no h).elim
  · exact (hM.no h).elim
theorem xApp_ok (hM : M.Ok H X) (hT : X.ok) {s x : Operand} {t : TypeId} (ho : o.op = .call { callee := .builtin .append, args := [s, x].toArray, argTypes := [t, t].toArray }) (h : H (xApp M X.T o st k s x t)) : ActN X o st fun A => H (k A) := by
  unfold xApp at h
  simp only [evK_eq] at h
  split at h
  · rename_i y hy
    split at h
    · rename_i e hyd
      split at h
      · rename_i ye hye
        obtain ⟨h1, h⟩ := chk_eq hM h
        simp only [Bool.and_eq_true] at h1
        obtain ⟨cr, m, l, s1, s2, h⟩ := srcK_ok hM h
        split at h
        · rename_i c kv lo n hs
          split at h
          · rename_i ck hc
            obtain ⟨h2, h⟩ := chk_eq hM h
            simp only [Bool.and_eq_true] at h2
            obtain ⟨h3, h⟩ := Ver_eq hM h
            obtain ⟨h4, h⟩ := hM.need h
            rw [catK_eq] at h
            have h := hM.nat (hM.nat (hM.nat h))
            have e1 := Nat.eq_of_beq_eq_true h2.1.1.2
            exact x_append hT ho hs hc (isRow_eq h2.1.1.1) h3 hy hyd hye e1 (Nat.eq_of_beq_eq_true h2.1.2) (Nat.pos_of_ne_zero (szNe_eq h1.1)) (Nat.eq_of_beq_eq_true h1.2) (Nat.eq_of_beq_eq_true h2.2) (e1 ▸ s1) s2 h4.1 h4.2 h
          · exact (hM.no h).elim
        · rename_i n0 c0 hs
          split at h
          · rename_i d' hd
            obtain ⟨d, h⟩ := hM.ix h
            split at h
            · rename_i hc
              obtain ⟨h4, h⟩ := hM.need h
              exact x_append_nil (c0 := 0) hT ho hs hc hy hyd hye (Nat.pos_of_ne_zero (szNe_eq h1.1)) (Nat.eq_of_beq_eq_true h1.2) s1 s2 h4.1 h4.2 h
            · exact (hM.no h).elim
          · exact (hM.no h).elim
        · exact (hM.no h).elim
      · exact (hM.no h).elim
    · exact (hM.no h).elim
  · exact (hM.no h).elim
theorem xCv_ok (hM : M.Ok H X) (hT : X.ok) {s t : TypeId} {x : Operand} (ho : o.op = .convert s t x) (h : H (xCv M X.T o st k s t x)) : ActN X o st fun A => H (k A) := by
  unfold xCv at h
  simp only [evK_eq] at h
  split at h
  · rename_i ys y hys hy
    split at h
    · rename_i e hysd hyd
      split at h
      · rename_i ye hye
        obtain ⟨h1, h⟩ := chk_eq hM h
        split at h
        · rename_i c kv lo n hx
          split at h
          · rename_i ck hc
            obtain ⟨h2, h⟩ := chk_eq hM h
            simp only [Bool.and_eq_true] at h2
            obtain ⟨h3, h⟩ := Ver_eq hM h
            obtain ⟨l, h4, h⟩ := hM.ld h
            split at h
            · rename_i ns hns
              exact x_bytes_str hT ho hx hc h3 (rdK_eq h2.1) (Nat.eq_of_beq_eq_true h2.2) hys hysd hye (isU8D_eq h1) hy hyd (by rw [h4, bytL_eq hns]) (hM.byt h)
            · exact (hM.no h).elim
          · exact (hM.no h).elim
        · rename_i l c hx
          exact x_bytes_str_nil hT ho hx hys hysd hye (isU8D_eq h1) hy hyd h
        · exact (hM.no h).elim
      · exact (hM.no h).elim
    · rename_i e hysd hyd
      split at h
      · rename_i ye d' hye hd
        obtain ⟨h1, h⟩ := chk_eq hM h
        split at h
        · rename_i u hx
          obtain ⟨d, h⟩ := hM.ix h
          split at h
          · rename_i hc
            rw [sIntsK_byt] at h
            exact x_str_bytes hT ho hx hc hys hysd hy hyd hye (isU8D_eq h1) h
          · exact (hM.no h).elim
        · exact (hM.no h).elim
      · exact (hM.no h).elim
    · exact (hM.no h).elim
  · exact (hM.no h).elim
theorem xMake_ok (hM : M.Ok H X) (hT : X.ok) {t : TypeId} {lx cx : Operand} (ho : o.op = .makeSlice t lx cx) (h : H (xMake M X.T o st k t lx cx)) : ActN X o st fun A => H (k A) := by
  unfold xMake at h
  simp only [evK_eq] at h
  split at h
  · rename_i y d' hy hd
    split at h
    · rename_i e hyd
      split at h
      · rename_i ye hye
        split at h
        · rename_i k1 n1 k2 n2 hl hc
          split at h
          · rename_i n n'
            obtain ⟨h1, h'⟩ := chk_eq hM h
            clear h
            have h := h'; clear h'
            simp only [Bool.and_eq_true] at h1
            have e1 := Nat.eq_of_beq_eq_true h1.1
            subst e1
            split at h
            · rename_i z hz
              obtain ⟨h2, h⟩ := hM.need h
              obtain ⟨d, h⟩ := hM.ix h
              split at h
              · rename_i hcc
                rw [repK_eq, List.append_nil] at h
                exact x_make hT ho hl hc hy hyd hye hz (Nat.eq_of_beq_eq_true h1.2) hcc h2.1 h2.2 h
              · exact (hM.no h).elim
            · exact (hM.no h).elim
          · exact (hM.no h).elim
        · exact (hM.no h).elim
      · exact (hM.no h).elim
    · exact (hM.no h).elim
  · exact (hM.no h).elim
theorem xEqS_ok (hM : M.Ok H X) (hT : X.ok) {op : BinOp} {t ty : TypeId} {x y : Operand} (ho : o.op = .binOp op t x y ty) (h : H (xEqS M X.T o st k op t x y)) : ActN X o st fun A => H (k A) := by
  unfold xEqS at h
  simp only [evK_eq] at h
  split at h
  · rename_i xs ys yt hx hy hyt
    obtain ⟨h1, h⟩ := chk_eq hM h
    simp only [Bool.and_eq_true] at h1
    split at h
    · rename_i r hr
      exact x_eq_agg hT op (eqlike_eq h1.1.1) ho hx hy hyt h1.1.2 h1.2 hr h
    · exact (hM.no h).elim
  · exact (hM.no h).elim
theorem xIaP_ok (hM : M.Ok H X) (hT : X.ok) {t : TypeId} {x i : Operand} (ho : o.op = .indexAddr t x i) (h : H (xIaP M X.T o st k t x i)) : ActN X o st fun A => H (k A) := by
  unfold xIaP at h
  simp only [evK_eq] at h
  split at h
  · rename_i bl o1 kd q y hx hi hy
    split at h
    · rename_i n e hyd
      split at h
      · rename_i ye hye
        obtain ⟨hb, h⟩ := hM.need h
        have h := hM.nat h
        refine ActN.p (fun vs ez ρ a w hr => ?_) h
        have g1 := hr x (by simp)
        have g2 := hr i (by simp)
        rw [hx] at g1
        rw [hi] at g2
        simp only [rel] at g1 g2
        obtain ⟨⟨dd, h1, h2⟩, _⟩ := hT t y hy
        rw [hyd] at h2
        cases dd <;> simp only [TD.is] at h2
        obtain ⟨rfl, rfl⟩ := h2
        refine ⟨.pointer (some ((⟨bl, o1, none⟩ : Addr).add (q.toNat * ye.size))), ?_, by simp [rel, add_none]⟩
        simp [execOp, ho, g1, g2, Instr.indexAt, asIntOf, run_underlying h1, Instr.sureAddr, hb, (hT _ ye hye).run_size]
      · exact (hM.no h).elim
    · exact (hM.no h).elim
  · exact (hM.no h).elim
theorem xLoadG_ok (hM : M.Ok H X) (hT : X.ok) {G : Nat → Option (List Value)} (hG : ∀ w, X.I w → ∀ g cells, G g = some cells → ∀ i u, cells[i]? = some u → w.cell? ⟨g, i, none⟩ = some u) {t : TypeId} {x : Operand} (ho : o.op = .load t x) (h : H (xLoadG M G X.T o st k t x)) : ActN X o st fun A => H (k A) := by
  unfold xLoadG at h
  simp only [evK_eq] at h
  split at h
  · rename_i bl o1 y hx hy
    split at h
    · rename_i cells hg
      obtain ⟨h1, h⟩ := chk_eq hM h
      obtain ⟨h2, h⟩ := takeV_ok hM.no _ _ _ h
      rw [mkVK_eq] at h
      rw [dropV_eq] at h h2
      refine x_load_ext ho hx (fun w hw => ?_) h
      refine (hT t y hy).run_load _ _ h2 (aggz h1) fun i u hu => ?_
      rw [add_none]
      refine hG w hw bl cells hg _ u ?_
      rw [List.getElem?_take] at hu
      split at hu
      · rwa [List.getElem?_drop] at hu
      · cases hu
    · exact (hM.no h).elim
  · exact (hM.no h).elim
theorem xMin_ok (hM : M.Ok H X) {x y : Operand} {ts : Array TypeId} (ho : o.op = .call { callee := .builtin .min, args := [x, y].toArray, argTypes := ts }) (h : H (xMin M o st k x y)) : ActN X o st fun A => H (k A) := by
  unfold xMin at h
  simp only [evK_eq] at h
  split at h
  · rename_i p m q n hx hy
    have h := hM.br h
    have key : ∀ r, (r = if n < m then n else m) → H (k (aP o st.fr [x, y] (.v (.int p r)))) → ActN X o st fun A => H (k A) := by
      intro r hr h
      refine ActN.p (fun vs ez ρ a w hh => ?_) h
      have g1 := hh x (by simp)
      have g2 := hh y (by simp)
      rw [hx] at g1
      rw [hy] at g2
      simp only [rel] at g1 g2
      refine ⟨.int p r, bcall ho (fun _ => rfl) (s := Builtin.min_ ts o.type ([x, y].map a.eval).toArray) ?_, by simp [rel]⟩
      simp [Builtin.min_, g1, g2, Builtin.min2, hr]
    by_cases hlt : n < m
    · rw [decide_eq_true hlt] at h
      exact key n (by rw [if_pos hlt]) h
    · rw [decide_eq_false hlt] at h
      exact key m (by rw [if_neg hlt]) h
  · exact (hM.no h).elim
theorem xtra_ok (hM : M.Ok H X) (hT : X.ok) {G : Nat → Option (List Value)} (hG : ∀ w, X.I w → ∀ g cells, G g = some cells → ∀ i u, cells[i]? = some u → w.cell? ⟨g, i, none⟩ = some u) (h : H (xtra M G X.T o st k)) : ActN X o st fun A => H (k A) := by
  unfold xtra at h
  split at h
  · rename_i ho; exact xEqS_ok hM hT ho h
  · rename_i ho; exact xCv_ok hM hT ho h
  · rename_i ho; exact xMake_ok hM hT ho h
  · rename_i ho; exact xIaP_ok hM hT ho h
  · rename_i ho; exact xLoadG_ok hM hT hG ho h
  · rename_i args ts ho
    split at h
    · rename_i s x t t' hx ht
      obtain ⟨h1, h'⟩ := chk_eq hM h
      clear h
      have h := h'; clear h'
      have e := Nat.eq_of_beq_eq_true h1
      subst e
      refine xApp_ok hM hT ?_ h
      rw [ho, ← hx, ← ht]
    · exact (hM.no h).elim
  · rename_i args ts ho
    split at h
    · rename_i x y hx
      refine xMin_ok hM (ts := ts) ?_ h
      rw [ho, ← hx]
    · exact (hM.no h).elim
  · exact (hM.no h).elim
end
end Go.SX
set_option linter.unusedSimpArgs false
set_option linter.unusedVariables false
namespace Go.SX

def forceN {R : Type} (n : Nat) (k : Nat → R) : R := match n with | 0 => k 0 | n + 1 => k (Nat.succ n)
theorem forceN_eq {R : Type} (n : Nat) (k : Nat → R) : forceN n k = k n := by cases n <;> rfl
def forceI {R : Type} (e : Int) (k : Int → R) : R := match e with
  | .ofNat n => forceN n fun n => k (.ofNat n)
  | .negSucc n => forceN n fun n => k (.negSucc n)
theorem forceI_eq {R : Type} (n : Int) (k : Int → R) : forceI n k = k n := by cases n <;> simp [forceI, forceN_eq]
def forceB {R : Type} : List UInt8 → (List UInt8 → R) → R
  | [], k => k []
  | b :: l, k => forceN b.toNat fun n => forceB l fun r => k (UInt8.ofNat n :: r)
theorem forceB_eq {R : Type} : ∀ (l : List UInt8) (k : List UInt8 → R), forceB l k = k l
  | [], _ => rfl
  | b :: l, k => by simp only [forceB, forceN_eq]; rw [forceB_eq l]; simp
def bEqL : List UInt8 → List UInt8 → Bool
  | [], [] => true
  | a :: l, b :: r => match Nat.beq a.toNat b.toNat with
    | true => bEqL l r
    | false => false
  | _, _ => false
theorem bEqL_eq : ∀ (l r : List UInt8), bEqL l r = decide (l = r)
  | [], [] => by simp [bEqL]
  | [], b :: r => by simp [bEqL]
  | a :: l, [] => by simp [bEqL]
  | a :: l, b :: r => by
    simp only [bEqL]
    cases h : Nat.beq a.toNat b.toNat with
    | true =>
      have e : a = b := UInt8.toNat_inj.1 (Nat.eq_of_beq_eq_true h)
      simp only [bEqL_eq l r, e, List.cons.injEq, true_and]
    | false =>
      have : a ≠ b := by rintro rfl; simp at h
      simp [this]
def lenK {α R : Type} : List α → Nat → (Nat → R) → R
  | [], n, k => k n
  | _ :: l, n, k => forceN (n + 1) fun m => lenK l m k
theorem lenK_eq {α R : Type} : ∀ (l : List α) (n : Nat) (k : Nat → R), lenK l n k = k (n + l.length)
  | [], _, _ => rfl
  | _ :: l, n, k => by
    simp only [lenK, forceN_eq]
    rw [lenK_eq l]
    congr 1
    simp
    omega

def bNA (act : Oper → St → (Actn → Bool) → Bool) : NA Bool where
  no := false
  br t f := match t with | true => f true | false => f false
  int := forceI
  nat := forceN
  cat a b f := forceB (a.data.toList ++ b.data.toList) fun l => f ⟨⟨l⟩⟩
  ext a l h f := forceB ((a.data.toList.drop l).take (h - l)) fun l => f ⟨⟨l⟩⟩
  seq a b f := match bEqL a.data.toList b.data.toList with | true => f true | false => f false
  byt ns f := forceB (ns.map fun n => UInt8.ofNat n.toNat) fun l => f ⟨⟨l⟩⟩
  need p i r := match i with | .isTrue _ => r | .isFalse _ => false
  ld o f := match o with | some l => f l | none => false
  sh op kd a b f := match b with
    | .ofNat n => match op with
      | .shl => forceI (kd.wrap (a * ((2 ^ min n kd.bits : Nat) : Int))) fun m => f (.int kd m)
      | .shr => forceI (a.fdiv ((2 ^ min n kd.bits : Nat) : Int)) fun m => f (.int kd m)
      | _ => false
    | .negSucc _ => false
  act := act
  ix _ ch k := lenK ch 0 k

theorem bNA_ok {X : Ctx} {act : Oper → St → (Actn → Bool) → Bool} (ha : ∀ {o st k}, act o st k = true → ActN X o st fun A => k A = true) : (bNA act).Ok (fun b => b = true) X where
  no := by simp [bNA]
  br := by intro t f h; cases t <;> exact h
  int := by intro e f h; simpa [bNA, forceI_eq] using h
  nat := by intro e f h; simpa [bNA, forceN_eq] using h
  cat := by
    intro a b f h
    simp only [bNA, forceB_eq] at h
    have e : (⟨⟨a.data.toList ++ b.data.toList⟩⟩ : ByteArray) = a ++ b := by
      apply ByteArray.ext
      apply Array.ext'
      simp
    rw [e] at h
    exact h
  ext := by
    intro a l h f hh
    simp only [bNA, forceB_eq] at hh
    have e : (⟨⟨(a.data.toList.drop l).take (h - l)⟩⟩ : ByteArray) = a.extract l h := by
      apply ByteArray.ext
      apply Array.ext'
      have := Lib.extract_toList a l h
      rw [ByteArray.toList_eq] at this
      simpa using this.symm
    rw [e] at hh
    exact hh
  seq := by
    intro a b f h
    simp only [bNA, bEqL_eq] at h
    have e : decide (a.data.toList = b.data.toList) = decide (a = b) := by
      by_cases hab : a = b
      · subst hab; simp
      · have : a.data.toList ≠ b.data.toList := fun e => hab (ByteArray.ext (Array.ext' e))
        rw [decide_eq_false hab, decide_eq_false this]
    rw [e] at h
    cases hd : decide (a = b) <;> rw [hd] at h <;> exact h
  byt := by intro ns f h; simp only [bNA, forceB_eq] at h; exact h
  need := by
    intro p i r h
    simp only [bNA] at h
    cases i with
    | isTrue hp => exact ⟨hp, h⟩
    | isFalse hp => cases h
  ld := by
    intro o f h
    simp only [bNA] at h
    cases o with
    | none => cases h
    | some l => exact ⟨l, rfl, h⟩
  sh := by
    intro op kd a b f h
    simp only [bNA] at h
    split at h
    · rename_i n
      refine ⟨by simp, ?_⟩
      have e : ((2 ^ min n kd.bits : Nat) : Int) = (2 : Int) ^ (min n kd.bits) := by simp
      split at h
      · rw [forceI_eq, e] at h; exact .inl ⟨rfl, h⟩
      · rw [forceI_eq, e] at h; exact .inr ⟨rfl, h⟩
      · cases h
    · cases h
  act := ha
  ix := by intro d ch k h; simp only [bNA, lenK_eq] at h; exact ⟨_, h⟩

def blankK {R : Type} : List (Option Chunk) → (List (Option Chunk) → R) → R
  | [], k => k []
  | _ :: l, k => blankK l fun r => k (none :: r)
def blankL : List (Option Chunk) → List (Option Chunk)
  | [] => []
  | _ :: l => none :: blankL l
theorem blankK_eq {R : Type} : ∀ (l : List (Option Chunk)) (k : List (Option Chunk) → R), blankK l k = k (blankL l)
  | [], _ => rfl
  | _ :: l, k => by simp only [blankK]; rw [blankK_eq l]; rfl
theorem blankL_get : ∀ (l : List (Option Chunk)) (c : Nat), getO (blankL l) c = none
  | [], c => by cases c <;> rfl
  | _ :: l, 0 => rfl
  | _ :: l, c + 1 => blankL_get l c
mutual
def refsA : AV → List Nat → List Nat
  | .ref c _ _, acc => c :: acc
  | .sl c _ _ _, acc => c :: acc
  | .mp c _, acc => c :: acc
  | .agg l, acc => refsAL l acc
  | .fn _ l, acc => refsAL l acc
  | .ifc _ a, acc => refsA a acc
  | .tup l, acc => refsAL l acc
  | _, acc => acc
def refsAL : List AV → List Nat → List Nat
  | [], acc => acc
  | a :: l, acc => refsA a (refsAL l acc)
end
def reachK {R : Type} (M : NA R) (full : List (Option Chunk)) : Nat → List Nat → List (Option Chunk) → (List (Option Chunk) → R) → R
  | 0, _, _, _ => M.no
  | n + 1, work, part, k => match work with
    | [] => k part
    | c :: rest => match hasO part c with
      | true => reachK M full n rest part k
      | false => match getO full c with
        | some ck => setOK part c ck fun part => reachK M full n (refsAL ck.cells rest) part k
        | none => M.no
theorem reachK_ok {R : Type} {M : NA R} {H : R → Prop} {X : Ctx} (hM : M.Ok H X) {full : List (Option Chunk)} : ∀ (n : Nat) (work : List Nat) (part : List (Option Chunk)) (k : List (Option Chunk) → R), (∀ c q, getO part c = some q → getO full c = some q) → H (reachK M full n work part k) →
    ∃ part', (∀ c q, getO part' c = some q → getO full c = some q) ∧ H (k part')
  | 0, _, _, _, _, h => (hM.no h).elim
  | n + 1, work, part, k, hp, h => by
    simp only [reachK] at h
    split at h
    · exact ⟨part, hp, h⟩
    · rename_i c rest
      split at h
      · exact reachK_ok hM n rest part k hp h
      · split at h
        · rename_i ck hck
          rw [setOK_eq] at h
          refine reachK_ok hM n _ _ k (fun d q hd => ?_) h
          by_cases e : d = c
          · subst e
            rw [getO_set_same] at hd
            cases hd
            exact hck
          · rw [getO_set_ne _ _ _ _ e] at hd
            exact hp d q hd
        · exact (hM.no h).elim

def hdO {α : Type} : List (Option α) → Option α
  | [] => none
  | x :: _ => x
def tlO {α : Type} : List (Option α) → List (Option α)
  | [] => []
  | _ :: l => l
theorem getO_hd {α : Type} (l : List (Option α)) : getO l 0 = hdO l := by cases l <;> rfl
theorem getO_tl {α : Type} (l : List (Option α)) (c : Nat) : getO l (c + 1) = getO (tlO l) c := by cases l <;> cases c <;> rfl
def okAt (f a b : Option Chunk) : Bool :=
  match a, b with
  | some k0, some k => match k.owned with
    | true => true
    | false => !k0.owned && Nat.beq k0.ver k.ver
  | some _, none => false
  | none, some k => match f with
    | none => k.owned
    | some _ => false
  | none, none => true
def inlB0 : List (Option Chunk) → List (Option Chunk) → Bool
  | _, [] => true
  | full, b :: r => match okAt (hdO full) none b with | true => inlB0 (tlO full) r | false => false
def inlB : List (Option Chunk) → List (Option Chunk) → List (Option Chunk) → Bool
  | full, [], r => inlB0 full r
  | full, a :: l, r => match okAt (hdO full) a (hdO r) with | true => inlB (tlO full) l (tlO r) | false => false
theorem inlB0_ok : ∀ (full r : List (Option Chunk)), inlB0 full r = true → ∀ c, okAt (getO full c) none (getO r c) = true
  | full, [], _, c => by cases c <;> rfl
  | full, b :: r, h, c => by
    simp only [inlB0] at h
    split at h
    · rename_i h1
      cases c with
      | zero => rw [getO_hd]; exact h1
      | succ c => rw [getO_tl full]; exact inlB0_ok _ r h c
    · cases h
theorem inlB_ok : ∀ (full l r : List (Option Chunk)), inlB full l r = true → ∀ c, okAt (getO full c) (getO l c) (getO r c) = true
  | full, [], r, h, c => by rw [getO_nil]; exact inlB0_ok full r h c
  | full, a :: l, r, h, c => by
    simp only [inlB] at h
    split at h
    · rename_i h1
      cases c with
      | zero => rw [getO_hd full, getO_hd r]; exact h1
      | succ c => rw [getO_tl full, getO_tl r]; exact inlB_ok _ l _ h c
    · cases h
theorem inl_of {full ch0 chK ch1 : List (Option Chunk)} {r : AV} (hsub : ∀ c k, getO chK c = some k → getO ch1 c = some k) (hr : refsIn chK r = true) (hc : refsInC chK chK = true) (hb : inlB full ch0 chK = true) : Inl full ch0 chK ch1 r := by
  have key := inlB_ok full ch0 chK hb
  refine ⟨hsub, fun c k hk => ?_, fun c k hk ho => ?_, fun c k hk h0 => ?_, hr, hc⟩
  · have := key c
    rw [hk] at this
    cases hx : getO chK c with
    | none => rw [hx] at this; cases this
    | some k' => exact ⟨k', rfl⟩
  · have := key c
    rw [hk] at this
    cases hx : getO ch0 c with
    | none =>
      rw [hx] at this
      cases hf : getO full c <;> rw [hf] at this <;> simp only [okAt] at this
      · rw [ho] at this; cases this
      · cases this
    | some k0 =>
      rw [hx] at this
      simp only [okAt, ho, Bool.and_eq_true, Bool.not_eq_true'] at this
      exact ⟨k0, rfl, this.1, Nat.eq_of_beq_eq_true this.2⟩
  · have := key c
    rw [hk, h0] at this
    cases hf : getO full c with
    | none => rfl
    | some q => rw [hf] at this; cases this
def takeK {R : Type} : Nat → List (Option Chunk) → (List (Option Chunk) → R) → R
  | 0, _, k => k []
  | _, [], k => k []
  | n + 1, a :: l, k => takeK n l fun r => k (a :: r)
theorem takeK_eq {R : Type} : ∀ (n : Nat) (l : List (Option Chunk)) (k : List (Option Chunk) → R), takeK n l k = k (l.take n)
  | 0, l, k => by cases l <;> rfl
  | n + 1, [], _ => rfl
  | n + 1, a :: l, k => by simp only [takeK]; rw [takeK_eq n l]; rfl
theorem getO_take {α : Type} : ∀ (n : Nat) (l : List (Option α)) (c : Nat) (k : α), getO (l.take n) c = some k → getO l c = some k
  | 0, l, c, k, h => by simp [getO] at h
  | n + 1, [], c, k, h => by simpa using h
  | n + 1, a :: l, 0, k, h => by simpa [getO] using h
  | n + 1, a :: l, c + 1, k, h => by
    simp only [List.take_succ_cons, getO] at h ⊢
    exact getO_take n l c k h
def padD {R : Type} : Nat → (List AV → R) → R
  | 0, k => k []
  | n + 1, k => padD n fun r => k (.dead :: r)
theorem padD_eq {R : Type} : ∀ (n : Nat) (k : List AV → R), padD n k = k (List.replicate n .dead)
  | 0, _ => rfl
  | n + 1, k => by simp only [padD]; rw [padD_eq n]; rfl
def padK {R : Type} : List AV → Nat → (List AV → R) → R
  | [], n, k => padD n k
  | a :: l, 0, k => padK l 0 fun r => k (a :: r)
  | a :: l, n + 1, k => padK l n fun r => k (a :: r)
theorem padK_eq {R : Type} : ∀ (l : List AV) (n : Nat) (k : List AV → R), padK l n k = k (l ++ List.replicate (n - l.length) .dead)
  | [], n, k => by simp [padK, padD_eq]
  | a :: l, 0, k => by simp only [padK]; rw [padK_eq l]; simp
  | a :: l, n + 1, k => by simp only [padK]; rw [padK_eq l]; simp
def endI {R : Type} (M : NA R) (full ch0 ch1 : List (Option Chunk)) (n : Nat) (r : AV) (k : List (Option Chunk) → R) : R :=
  takeK n ch1 fun chT => match refsIn chT r && refsInC chT chT with
    | true => chk M (inlB full ch0 chT) (k chT)
    | false => chk M (refsIn ch1 r && refsInC ch1 ch1 && inlB full ch0 ch1) (k ch1)
theorem endI_ok {R : Type} {M : NA R} {H : R → Prop} {X : Ctx} (hM : M.Ok H X) {full ch0 ch1 : List (Option Chunk)} {n : Nat} {r : AV} {k : List (Option Chunk) → R} (h : H (endI M full ch0 ch1 n r k)) : ∃ chK, Inl full ch0 chK ch1 r ∧ H (k chK) := by
  unfold endI at h
  rw [takeK_eq] at h
  split at h
  · rename_i hx
    simp only [Bool.and_eq_true] at hx
    obtain ⟨h1, h⟩ := chk_eq hM h
    exact ⟨_, inl_of (fun c k hk => getO_take n ch1 c k hk) hx.1 hx.2 h1, h⟩
  · obtain ⟨h1, h⟩ := chk_eq hM h
    simp only [Bool.and_eq_true] at h1
    exact ⟨_, inl_of (fun c k hk => hk) h1.1.1 h1.1.2 h1.2, h⟩
theorem getO_lt {α : Type} : ∀ (l : List (Option α)) (c : Nat) (k : α), getO l c = some k → c < l.length
  | [], c, k, h => by simp [getO] at h
  | a :: l, 0, k, h => by simp
  | a :: l, c + 1, k, h => by
    have := getO_lt l c k (by simpa [getO] using h)
    simp
    omega

def KSpec := List AV → List (Option Chunk) → Option (List (Nat × Option Chunk) × AV)
structure KOk (P : Program) (I : World → Prop) (f : FuncId) (sp : KSpec) : Prop where
  fits : ∀ args ch cin r, sp args ch = some (cin, r) → ∀ i q, (i, q) ∈ cin → getO ch i = q
  run : ∀ args ch cin r, sp args ch = some (cin, r) → ∀ (st' : St), (∀ i q, (i, q) ∈ cin → getO st'.ch i = q) → ∀ (vals : List Value) (w : World) (ρ : Nat → Loc), relL st'.vs st'.ez ρ args vals →
    (∀ c k, getO st'.ch c = some k → ∃ xs, relL st'.vs st'.ez ρ k.cells xs ∧ k.mem w (ρ c) xs) → (∀ c k b, getO st'.ch c = some k → (ρ c).dom b → b < w.heap.size) → (∀ c k b, getO st'.ch c = some k → k.blk (ρ c) = some b → (ρ c).dom b) → I w →
    ∃ v, rel st'.vs st'.ez ρ r v ∧ ((callFunc f vals.toArray).run P w = .ok (.value v) w ∨ (Has P f ∧ Calls P f vals.toArray w fun e w' => e = .returned v ∧ Mod w w' fun _ => False))

def inlK {R : Type} (M : NA R) (Kt : Nat → Option KSpec) (F : Nat → Option Func) (T : List (Option Ty)) (N : Nat) (o : Oper) (st : St) (cal : Operand) (xs : List Operand) (k : Actn → R) : R :=
  evK st.fr cal fun fv => match calleeA fv with
    | none => M.no
    | some (f, cap) => evLK st.fr xs fun as => catK as cap fun args => match (match Kt f with | some sp => sp args st.ch | none => none) with
      | some (cin, r) => k ⟨rds st.fr (cal :: xs), cin, o.dst, r, []⟩
      | none => match F f with
      | none => M.no
      | some fn => match fn.body with
        | none => M.no
        | some c => chk M (!(fn.name == "runtime.NumGoroutine")) (lenK st.ch 0 fun n =>
          blankK st.ch fun b => reachK M st.ch 1000000 (refsAL args []) b fun ch0 => chk M (refsInC ch0 ch0 && refsInL ch0 args) (
          padK args fn.ntmps fun fr => XC M T N c ⟨fr, ch0⟩ fun e s => match e with
            | .normal => resK M T s fn.results.toList fun r => endI M st.ch ch0 s.ch n r fun chK => k (aI o st.fr (cal :: xs) ch0 chK r)
            | .ret => resK M T s fn.results.toList fun r => endI M st.ch ch0 s.ch n r fun chK => k (aI o st.fr (cal :: xs) ch0 chK r)
            | _ => M.no))

theorem x_known {X : Ctx} {o : Oper} {st : St} {k : Actn → Prop} {f : FuncId} {sp : KSpec} {cal : Operand} {xs : List Operand} {ts : Array TypeId} {cap : List AV} {cin : List (Nat × Option Chunk)} {r : AV} (hK : KOk X.P X.I f sp)
    (ho : o.op = .call { callee := .value cal, args := xs.toArray, argTypes := ts }) (hcal : calleeA (evA st.fr cal) = some (f, cap)) (hsp : sp (xs.map (evA st.fr) ++ cap) st.ch = some (cin, r))
    (hk : k ⟨rds st.fr (cal :: xs), cin, o.dst, r, []⟩) : ActN X o st k := by
  let A : Actn := ⟨rds st.fr (cal :: xs), cin, o.dst, r, []⟩
  refine ⟨A, ?_, ⟨rds_fits st.fr st.ch (cal :: xs), hK.fits _ _ _ _ hsp⟩, hk⟩
  -- what the arguments are, and what the call does
  have args : ∀ (st' : St) E a w ρ, A.Fits st' → Rel X E st' a w ρ → ∃ cs : List Value, relL st'.vs st'.ez ρ (xs.map (evA st.fr) ++ cap) (xs.map a.eval ++ cs) ∧ (execOp a.eval o).run X.P w = (callFunc f (xs.map a.eval ++ cs).toArray).run X.P w := by
    intro st' E a w ρ hfit hr
    have hev : ∀ x, x ∈ cal :: xs → evA st'.fr x = evA st.fr x := fun x hx => fits_ev hfit (fr := st.fr) (x := x) (rds_mem hx)
    have hcv := hr.ev cal
    rw [hev cal (by simp)] at hcv
    have e : ∀ cs : Array Value, a.eval cal = .func (.func f) #[] cs → (execOp a.eval o).run X.P w = (callFunc f (xs.map a.eval ++ cs.toList).toArray).run X.P w := by
      intro cs hcs
      simp only [execOp, ho, resolve, hcs, Deferred.ofValue, Sem.run_bind, Sem.run_pure, Result.andThen_ok, invoke]
      have e2 : #[] ++ Array.map (fun x => a.eval x) xs.toArray ++ cs = (xs.map a.eval ++ cs.toList).toArray := by simp
      first
        | (rw [e2])
        | (simp only [Array.empty_append]
           have e3 : Array.map (fun x => a.eval x) xs.toArray ++ cs = (xs.map a.eval ++ cs.toList).toArray := by simp
           rw [← e3])
    have hcs : ∃ cs : List Value, relL st'.vs st'.ez ρ cap cs ∧ a.eval cal = .func (.func f) #[] cs.toArray := by
      revert hcal
      generalize evA st.fr cal = fv at hcv
      intro hcal
      unfold calleeA at hcal
      split at hcal
      · cases hcal
        simp only [rel] at hcv
        exact ⟨[], by simp [relL], hcv⟩
      · cases hcal
        simp only [rel] at hcv
        obtain ⟨xs', h1, h2⟩ := hcv
        exact ⟨xs'.toList, h2, by simpa using h1⟩
      · cases hcal
    obtain ⟨cs, h1, h2⟩ := hcs
    refine ⟨cs, relL_append _ _ _ _ ?_ h1, by simpa using e cs.toArray h2⟩
    have : ∀ l : List Operand, (∀ x, x ∈ l → x ∈ cal :: xs) → relL st'.vs st'.ez ρ (l.map (evA st.fr)) (l.map a.eval) := by
      intro l
      induction l with
      | nil => intro _; simp [relL]
      | cons x l ih =>
        intro hl
        simp only [List.map_cons, relL]
        refine ⟨?_, ih fun y hy => hl y (List.mem_cons_of_mem _ hy)⟩
        rw [← hev x (hl x (by simp))]
        exact hr.ev x
    exact this xs fun x hx => List.mem_cons_of_mem _ hx
  refine ⟨rfl, fun st' E a w ρ hfit hr K Q hkk => ?_⟩
  obtain ⟨cs, h1, h2⟩ := args st' E a w ρ hfit hr
  obtain ⟨v, h3, h4⟩ := hK.run _ _ _ _ hsp st' hfit.c _ w ρ h1 (fun c k hc => hr.heap.ok c k hc) (fun c k b => hr.heap.lt c k b) (fun c k b => hr.heap.blk c k b) (E.inv w hr.heap.mod)
  have hch : (A.app st').ch = st'.ch := by simp [A, Actn.app, setAll]
  have hst : (A.app st').vs = st'.vs ∧ (A.app st').ez = st'.ez := by simp [St.vs, St.ez, hch, funext_iff]
  have fin : ∀ w', Mod w w' (fun _ => False) → K (a.put o.dst v) w' := by
    intro w' hm
    refine hkk _ _ ρ ⟨?_, by rw [put_defers]; exact hr.df, ?_, by rw [hst.1, hst.2]; exact hr.gh⟩
    · rw [hst.1, hst.2]
      exact relL_put hr.fr h3
    · have h5 := hr.heap.grow hm
      obtain ⟨g1, g2, g3, g4, g5, g6, g7⟩ := h5
      exact ⟨fun c k hk => by rw [hch] at hk; rw [hst.1, hst.2]; exact g1 c k hk, fun c k b hk => by rw [hch] at hk; exact g2 c k b hk, fun c k b hk => by rw [hch] at hk; exact g3 c k b hk,
        fun c k b hk => by rw [hch] at hk; exact g4 c k b hk, fun c k hk => by rw [hch] at hk; exact g5 c k hk, fun c d k l b hk hl => by rw [hch] at hk hl; exact g6 c d k l b hk hl, g7⟩
  rcases h4 with h4 | ⟨hh, h4⟩
  · refine opIn (h2.trans h4) (fun d h => by cases h) ?_
    rw [Oper.upon_value]
    exact fin w (Mod.refl _ _)
  · refine opIn (h2.trans (run_callFunc hh _ _)) (fun d h => by cases h) ?_
    rw [Oper.upon_enter]
    refine h4.mono ?_
    rintro e w' ⟨rfl, hm⟩
    exact fin w' hm

theorem inlK_ok {R : Type} {M : NA R} {H : R → Prop} {X : Ctx} (hM : ∀ n, M.Ok H ⟨X.P, X.T, n, X.I⟩) (hT : X.ok) (hm : X.P.follows .mixedOrders = true) {F : Nat → Option Func} (hF : ∀ f fn, F f = some fn → X.P.funcs[f]? = some fn) {Kt : Nat → Option KSpec} (hKt : ∀ f sp, Kt f = some sp → KOk X.P X.I f sp) {N : Nat} {o : Oper} {st : St} {cal : Operand} {xs : List Operand} {ts : Array TypeId} {k : Actn → R}
    (ho : o.op = .call { callee := .value cal, args := xs.toArray, argTypes := ts }) (h : H (inlK M Kt F X.T N o st cal xs k)) : ActN X o st fun A => H (k A) := by
  have hM' : M.Ok H X := hM X.n
  unfold inlK at h
  rw [evK_eq] at h
  split at h
  · exact (hM'.no h).elim
  · rename_i f cap hcal
    rw [evLK_eq, catK_eq] at h
    split at h
    · rename_i cin r hsp
      cases hkt : Kt f with
      | none => rw [hkt] at hsp; cases hsp
      | some sp =>
        rw [hkt] at hsp
        exact x_known (hKt f sp hkt) ho hcal hsp h
    ·
      split at h
      · exact (hM'.no h).elim
      · rename_i fn hfn
        split at h
        · exact (hM'.no h).elim
        · rename_i c hb
          obtain ⟨h1, h⟩ := chk_eq hM' h
          rw [lenK_eq, blankK_eq] at h
          obtain ⟨ch0, h2, h⟩ := reachK_ok hM' _ _ _ _ (fun c q hc => by rw [blankL_get] at hc; cases hc) h
          obtain ⟨h3, h⟩ := chk_eq hM' h
          simp only [Bool.and_eq_true] at h3
          rw [padK_eq] at h
          have hT' : Ctx.ok ⟨X.P, X.T, 0 + st.ch.length, X.I⟩ := hT
          obtain ⟨e, s, h4, h⟩ := XC_ok (X := ⟨X.P, X.T, 0 + st.ch.length, X.I⟩) (hM _) hT' hm c _ _ h
          have hn : ∀ c k, getO ch0 c = some k → c < 0 + st.ch.length := fun c k hk => by
            have := getO_lt _ _ _ (h2 c k hk)
            omega
          have fin : e = .normal ∨ e = .ret → H (resK M X.T s fn.results.toList fun r => endI M st.ch ch0 s.ch (0 + st.ch.length) r fun chK => k (aI o st.fr (cal :: xs) ch0 chK r)) → ActN X o st fun A => H (k A) := by
            intro he h
            obtain ⟨r, h5, h6⟩ := resK_ok (X := ⟨X.P, X.T, 0 + st.ch.length, X.I⟩) (hM _) hT' (fn := fn) h
            obtain ⟨chK, h7, h8⟩ := endI_ok hM' h5
            exact x_inl hT ho hcal (hF f fn hfn) (by simpa using h1) hb hn ⟨h2, h3.1⟩ h3.2 (h4.just ⟨he, rfl, h6⟩) h7 h8
          split at h
          · exact fin (.inl rfl) h
          · exact fin (.inr rfl) h
          · exact (hM'.no h).elim

def bAct (Kt : Nat → Option KSpec) (G : Nat → Option (List Value)) (F : Nat → Option Func) (T : List (Option Ty)) (N : Nat) : Nat → Oper → St → (Actn → Bool) → Bool
  | 0 => fun _ _ _ => false
  | d + 1 => fun o st k => match o.op with
    | .call { callee := .value cal, args, .. } => inlK (bNA (bAct Kt G F T N d)) Kt F T N o st cal args.toList k
    | _ => xtra (bNA (bAct Kt G F T N d)) G T o st k
theorem bAct_ok {P : Program} {T : List (Option Ty)} {I : World → Prop} (hT : Ctx.ok ⟨P, T, 0, I⟩) (hm : P.follows .mixedOrders = true) {F : Nat → Option Func} (hF : ∀ f fn, F f = some fn → P.funcs[f]? = some fn) {G : Nat → Option (List Value)} (hG : ∀ w, I w → ∀ g cells, G g = some cells → ∀ i u, cells[i]? = some u → w.cell? ⟨g, i, none⟩ = some u) {Kt : Nat → Option KSpec} (hKt : ∀ f sp, Kt f = some sp → KOk P I f sp) {N : Nat} : ∀ (d n : Nat) {o st k}, bAct Kt G F T N d o st k = true → ActN ⟨P, T, n, I⟩ o st fun A => k A = true
  | 0, n, o, st, k, h => by simp [bAct] at h
  | d + 1, n, o, st, k, h => by
    have hT' : Ctx.ok ⟨P, T, n, I⟩ := hT
    have hM : ∀ n, (bNA (bAct Kt G F T N d)).Ok (fun b => b = true) ⟨P, T, n, I⟩ := fun n => bNA_ok fun h => bAct_ok hT hm hF hG hKt d n h
    simp only [bAct] at h
    split at h
    · rename_i cal args ts ho
      exact inlK_ok (X := ⟨P, T, n, I⟩) (H := fun b => b = true) hM hT' hm hF hKt (xs := args.toList) (ts := ts) (by rw [ho]) h
    · exact xtra_ok (X := ⟨P, T, n, I⟩) (H := fun b => b = true) (hM n) hT' hG h

def runB (Kt : Nat → Option KSpec) (G : Nat → Option (List Value)) (F : Nat → Option Func) (T : List (Option Ty)) (N d : Nat) (fn : Func) (c : Code) (args : List AV) (want : AV → Bool) : Bool :=
  padK args fn.ntmps fun fr => XC (bNA (bAct Kt G F T N d)) T N c ⟨fr, []⟩ fun e s => match e with
    | .normal => resK (bNA (bAct Kt G F T N d)) T s fn.results.toList want
    | .ret => resK (bNA (bAct Kt G F T N d)) T s fn.results.toList want
    | _ => false
theorem Ret.runB {P : Program} {T : List (Option Ty)} {I : World → Prop} {w : World} (hI : ∀ w', Mod w w' (fun _ => False) → I w') {f : FuncId} {fn : Func} {c : Code} {args : List Value} {v : Value} {want : AV → Bool} (F : Nat → Option Func) (G : Nat → Option (List Value)) (hG : ∀ w, I w → ∀ g cells, G g = some cells → ∀ i u, cells[i]? = some u → w.cell? ⟨g, i, none⟩ = some u) (Kt : Nat → Option KSpec) (hKt : ∀ f sp, Kt f = some sp → KOk P I f sp) (N d : Nat) (hT : Ctx.ok ⟨P, T, 0, I⟩) (hm : P.follows .mixedOrders = true) (hF : ∀ f fn, F f = some fn → P.funcs[f]? = some fn)
    (hf : P.funcs[f]? = some fn) (hnm : (fn.name == "runtime.NumGoroutine") = false) (hb : fn.body = some c) (h : SX.runB Kt G F T N d fn c (args.map .v) want = true) (hw : ∀ a, want a = true → a = .v v) : Ret P f args w v := by
  unfold SX.runB at h
  rw [padK_eq] at h
  have hM : (bNA (bAct Kt G F T N d)).Ok (fun b => b = true) ⟨P, T, 0, I⟩ := bNA_ok fun h => bAct_ok hT hm hF hG hKt d 0 h
  obtain ⟨e, s, h1, h2⟩ := XC_ok hM hT hm c _ _ h
  have fin : (e = .normal ∨ e = .ret) ∧ ∀ E a w ρ, Rel ⟨P, T, 0, I⟩ E s a w ρ → (results fn a.tmps).run P w = .ok v w := by
    have key : resK (bNA (bAct Kt G F T N d)) T s fn.results.toList want = true → ∀ E a w ρ, Rel ⟨P, T, 0, I⟩ E s a w ρ → (results fn a.tmps).run P w = .ok v w := by
      intro h2 E a w ρ hr
      obtain ⟨av, h3, h4⟩ := resK_ok (X := ⟨P, T, 0, I⟩) hM hT h2
      have := hw av h3
      subst this
      obtain ⟨u, h5, h6⟩ := h4 E a w ρ hr
      simp only [rel] at h6
      rw [← h6]
      exact h5
    split at h2
    · exact ⟨.inl rfl, key h2⟩
    · exact ⟨.inr rfl, key h2⟩
    · cases h2
  refine ⟨⟨fn, hf, hnm, by simp [hb]⟩, ?_⟩
  have hC : Calls P f args.toArray w fun e w' => e = .returned v ∧ Mod w w' fun _ => False := by
    refine calls_of_wp hf hb (wp_mono (wp_of_wide (h1.out ⟨w, fun _ => False, Base.no 0, hI, [], none⟩ _ w (fun _ => ⟨0, 0, none, 0, fun _ => False⟩) ⟨?_, rfl, ?_, ?_⟩)) ?_)
    · have hdead : ∀ (vs : Nat → Option Nat) (ez : Nat → Nat) (ρ : Nat → Loc) (n : Nat), relL vs ez ρ (List.replicate n .dead) (List.replicate n undef) := by
        intro vs ez ρ n
        induction n with
        | zero => simp [relL]
        | succ n ih => simp only [List.replicate_succ, relL]; exact ⟨by simp [rel], ih⟩
      have := relL_append _ _ _ _ (relL_vals (vs := St.vs ⟨args.map .v ++ List.replicate (fn.ntmps - (args.map AV.v).length) .dead, []⟩) (ez := St.ez ⟨args.map .v ++ List.replicate (fn.ntmps - (args.map AV.v).length) .dead, []⟩) (ρ := fun _ => ⟨0, 0, none, 0, fun _ => False⟩) args) (hdead _ _ _ (fn.ntmps - (args.map AV.v).length))
      simpa using this
    · refine ⟨fun c k hk => ?_, fun c k b hk => ?_, fun c k b hk => ?_, fun c k b hk => ?_, fun c k hk => ?_, fun c d k l b hk => ?_, Mod.refl _ _⟩ <;> simp [getO_nil] at hk
    · intro c v hv; cases hv
    · rintro e' a' w' ⟨s', ρ', ⟨p, q⟩, hr'⟩
      subst p
      subst q
      have f1 : a'.defers = [] ∧ ∃ u, (results fn a'.tmps).run P w' = .ok u w' ∧ (Ending.returned u = .returned v ∧ Mod w w' fun _ => False) := ⟨hr'.df, v, fin.2 _ a' w' ρ' hr', rfl, hr'.heap.mod⟩
      rcases fin.1 with rfl | rfl
      · exact f1
      · exact f1
  exact hC
def runF (Kt : Nat → Option KSpec) (G : Nat → Option (List Value)) (F : Nat → Option Func) (T : List (Option Ty)) (N d : Nat) (fn : Func) (args : List AV) (want : AV → Bool) : Bool :=
  match fn.body with
  | some c => runB Kt G F T N d fn c args want
  | none => false
def wantB (b : Bool) : AV → Bool
  | .v (.bool t) => beqB t b
  | _ => false
theorem wantB_eq {b : Bool} : ∀ a, wantB b a = true → a = .v (.bool b) := by
  intro a h
  unfold wantB at h
  split at h
  · rw [beqB_eq h]
  · cases h
end Go.SX
set_option linter.unusedSimpArgs false
set_option linter.unusedVariables false
namespace Go.SX
def strL : List AV → Option (List ByteArray)
  | [] => some []
  | a :: l => match a with
    | .v (.string s) => match strL l with
      | some r => some (s :: r)
      | none => none
    | _ => none
def kJoin : KSpec := fun args ch => match args with
  | [.sl c kv lo n, .v (.string sep)] => match getO ch c with
    | some ck => match rdK ck.kind && Nat.beq kv ck.ver && Nat.beq ck.esz 1 with
      | true => match subL ck.cells lo n with
        | some l => match strL l with
          | some ss => match Nat.ble n 140737488355328 && Nat.ble (Lib.join (ss.map (·.data.toList)) sep.data.toList).length 140737488355328 with
            | true => some ([(c, some ck)], .v (.string ⟨⟨Lib.join (ss.map (·.data.toList)) sep.data.toList⟩⟩))
            | false => none
          | none => none
        | none => none
      | false => none
    | none => none
  | _ => none
def kIndexByteString : KSpec := fun args _ => match args with
  | [.v (.string s), .v (.int .u8 c)] => some ([], .v (.int .i64 (Lib.indexByte s.data.toList (UInt8.ofNat c.toNat))))
  | _ => none
def kCountString : KSpec := fun args _ => match args with
  | [.v (.string s), .v (.int .u8 c)] => some ([], .v (.int .i64 ((Lib.countByte s.data.toList (UInt8.ofNat c.toNat) : Nat) : Int)))
  | _ => none

theorem run_extern {P : Program} {f : FuncId} {fn : Func} {e : Array Value → Sem Value} (hf : P.funcs[f]? = some fn) (hn : (fn.name == "runtime.NumGoroutine") = false) (hb : fn.body.isNone = true) (hx : Extern.findNext fn = none) (he : Extern.find fn = some e) {args : Array Value} {v : Value} {w : World}
    (hr : (e args).run P w = .ok v w) : (callFunc f args).run P w = .ok (.value v) w := by
  rw [run_callFunc_extern hf hn hb hx he, hr]
  rfl
theorem kIndexByteString_ok {P : Program} {I : World → Prop} {f : FuncId} {fn : Func} (hf : P.funcs[f]? = some fn) (hn : (fn.name == "runtime.NumGoroutine") = false) (hb : fn.body.isNone = true) (hx : Extern.findNext fn = none) (he : Extern.find fn = some Extern.BytealgIndexByte.indexByte) : KOk P I f kIndexByteString where
  fits := by
    intro args ch cin r h i q hq
    unfold kIndexByteString at h
    split at h
    · cases h; simp at hq
    · cases h
  run := by
    intro args ch cin r h st' _ vals w ρ hv _ _ _ _
    unfold kIndexByteString at h
    split at h
    · rename_i s c
      cases h
      match vals, hv with
      | [u, v], hv =>
        simp only [relL, rel] at hv
        obtain ⟨rfl, rfl, _⟩ := hv
        exact ⟨_, by simp only [rel], .inl (run_extern hf hn hb hx he (Lib.run_indexByteString s c w))⟩
    · cases h
theorem kCountString_ok {P : Program} {I : World → Prop} {f : FuncId} {fn : Func} (hf : P.funcs[f]? = some fn) (hn : (fn.name == "runtime.NumGoroutine") = false) (hb : fn.body.isNone = true) (hx : Extern.findNext fn = none) (he : Extern.find fn = some Extern.BytealgCount.count) : KOk P I f kCountString where
  fits := by
    intro args ch cin r h i q hq
    unfold kCountString at h
    split at h
    · cases h; simp at hq
    · cases h
  run := by
    intro args ch cin r h st' _ vals w ρ hv _ _ _ _
    unfold kCountString at h
    split at h
    · rename_i s c
      cases h
      match vals, hv with
      | [u, v], hv =>
        simp only [relL, rel] at hv
        obtain ⟨rfl, rfl, _⟩ := hv
        exact ⟨_, by simp only [rel], .inl (run_extern hf hn hb hx he (Lib.run_countString s c w))⟩
    · cases h

theorem strL_rel {vs ez ρ} : ∀ (l : List AV) (ss : List ByteArray) (xs : List Value), strL l = some ss → relL vs ez ρ l xs → xs = ss.map Value.string
  | [], ss, [], h, _ => by simp [strL] at h; subst h; rfl
  | [], _, _ :: _, _, h => by simp [relL] at h
  | _ :: _, _, [], _, h => by simp [relL] at h
  | a :: l, ss, x :: xs, h, hr => by
    simp only [strL] at h
    split at h
    · rename_i s
      cases hl : strL l with
      | none => simp [hl] at h
      | some r =>
        simp only [hl, Option.some.injEq] at h
        subst h
        simp only [relL, rel] at hr
        rw [hr.1, strL_rel l r xs hl hr.2]
        rfl
    · cases h
theorem cell_lt {w : World} {b i : Nat} {u : Value} (h : w.cell? ⟨b, i, none⟩ = some u) : b < w.heap.size := by
  rcases Nat.lt_or_ge b w.heap.size with h1 | h1
  · exact h1
  · simp [World.cell?, Array.getElem?_eq_none h1] at h
theorem kJoin_ok {P : Program} {I : World → Prop} {f : FuncId} (hh : Has P f)
    (h0 : ∀ (a : Option Addr) (c : Nat) (sep : ByteArray) (w : World), Calls P f #[.slice a 0 c, .string sep] w fun e w' => e = .returned (.string ⟨#[]⟩) ∧ w' = w)
    (hJ : ∀ (bk o c : Nat) (xs : List ByteArray) (sep : ByteArray) (w : World), (∀ (j : Nat) x, xs[j]? = some x → w.cell? ⟨bk, o + j, none⟩ = some (.string x)) → bk < w.heap.size → xs.length ≤ 140737488355328 → xs.length ≤ c →
      (Lib.join (xs.map (·.data.toList)) sep.data.toList).length ≤ 140737488355328 →
      Calls P f #[.slice (some ⟨bk, o, none⟩) xs.length c, .string sep] w fun e w' => e = .returned (.string ⟨(Lib.join (xs.map (·.data.toList)) sep.data.toList).toArray⟩) ∧ RowKit.Below w.heap.size w w') : KOk P I f kJoin := by
  have key : ∀ args ch cin r, kJoin args ch = some (cin, r) → ∃ c kv lo n sep ck l ss, args = [.sl c kv lo n, .v (.string sep)] ∧ getO ch c = some ck ∧ rdK ck.kind = true ∧ kv = ck.ver ∧ ck.esz = 1 ∧ subL ck.cells lo n = some l ∧ strL l = some ss ∧ n ≤ 140737488355328 ∧
      (Lib.join (ss.map (·.data.toList)) sep.data.toList).length ≤ 140737488355328 ∧ cin = [(c, some ck)] ∧ r = .v (.string ⟨⟨Lib.join (ss.map (·.data.toList)) sep.data.toList⟩⟩) := by
    intro args ch cin r h
    unfold kJoin at h
    split at h
    · rename_i c kv lo n sep
      split at h
      · rename_i ck hc
        split at h
        · rename_i hk
          split at h
          · rename_i l hl
            split at h
            · rename_i ss hs
              split at h
              · rename_i hb
                cases h
                simp only [Bool.and_eq_true] at hk hb
                exact ⟨c, kv, lo, n, sep, ck, l, ss, rfl, hc, hk.1.1, Nat.eq_of_beq_eq_true hk.1.2, Nat.eq_of_beq_eq_true hk.2, hl, hs, Nat.le_of_ble_eq_true hb.1, Nat.le_of_ble_eq_true hb.2, rfl, rfl⟩
              · cases h
            · cases h
          · cases h
        · cases h
      · cases h
    · cases h
  refine ⟨fun args ch cin r h i q hq => ?_, fun args ch cin r h st' hcin vals w ρ hv hmem hlt hblk _ => ?_⟩
  · obtain ⟨c, kv, lo, n, sep, ck, l, ss, _, hc, _, _, _, _, _, _, _, rfl, _⟩ := key _ _ _ _ h
    simp at hq
    rw [hq.1, hq.2, hc]
  · obtain ⟨c, kv, lo, n, sep, ck, l, ss, rfl, _, hk, hver, hes, hl, hs, hn, hjl, rfl, rfl⟩ := key _ _ _ _ h
    have hc : getO st'.ch c = some ck := hcin c (some ck) (by simp)
    match vals, hv with
    | [u, v], hv =>
      simp only [relL] at hv
      obtain ⟨hu, hv, _⟩ := hv
      simp only [rel] at hu hv
      subst hv
      obtain ⟨cur, g1, g2, g3, _⟩ := hu
      have hcur : cur = ck.ver := by simp [St.vs, hc] at g1; exact g1.symm
      subst hcur
      obtain ⟨s1, ad, s2, s3, s4⟩ := g3 hver
      obtain ⟨ys, m1, m2⟩ := hmem c ck hc
      obtain ⟨m3, m4⟩ := relL_sub m1 hl
      have m5 := strL_rel _ _ _ hs m3
      have hlen : ss.length = n := by
        have := congrArg List.length m5
        rw [m4] at this
        simpa using this.symm
      refine ⟨.string ⟨⟨Lib.join (ss.map (·.data.toList)) sep.data.toList⟩⟩, by simp only [rel], .inr ⟨hh, ?_⟩⟩
      have hez : st'.ez c = 1 := by simp [St.ez, hc, hes]
      subst s2
      by_cases hn0 : n = 0
      · subst hn0
        have : ss = [] := List.eq_nil_of_length_eq_zero hlen
        subst this
        refine (h0 ad _ sep w).mono ?_
        rintro e w' ⟨rfl, rfl⟩
        exact ⟨by simp [Lib.join], Mod.refl _ _⟩
      · have hb := mem_base (rdK_eq hk) m2 (by omega)
        have hs3 := s3 hn0
        rw [hb] at hs3
        simp only [Option.map_some, add_none] at hs3
        subst hs3
        have hcells : ∀ (j : Nat) x, ss[j]? = some x → w.cell? ⟨(ρ c).blk, (ρ c).off + lo * st'.ez c + j, none⟩ = some (.string x) := by
          intro j x hx
          have e1 := congrArg (·[j]?) m5
          simp only [List.getElem?_map, hx, Option.map_some, List.getElem?_take] at e1
          split at e1
          · rw [List.getElem?_drop] at e1
            rw [hez, Nat.mul_one, Nat.add_assoc]
            exact mem_cells m2 (rdK_eq hk) _ _ e1
          · cases e1
        obtain ⟨x0, hx0⟩ : ∃ x, ss[0]? = some x := by
          cases ss with
          | nil => simp at hlen; omega
          | cons x _ => exact ⟨x, rfl⟩
        have := hJ (ρ c).blk ((ρ c).off + lo * st'.ez c) ((ρ c).cap - lo) ss sep w hcells (cell_lt (hcells 0 x0 hx0)) (by omega) (by omega) hjl
        rw [hlen] at this
        refine this.mono ?_
        rintro e w' ⟨rfl, hbl⟩
        exact ⟨by simp, Mod.of_below hbl _⟩
end Go.SX
set_option linter.unusedSimpArgs false
set_option linter.unusedVariables false
namespace Go.SX

def aggOf (T : List (Option Ty)) (t : TypeId) : Bool := match getO T t with | some y => aggd y | none => false
def keyD (T : List (Option Ty)) (t : TypeId) (a : AV) : Option (List AV) :=
  match aggOf T t, a with
  | true, .agg l => some l
  | true, .v (.agg l) => some (l.toList.map .v)
  | false, .v x => some [.v x]
  | _, _ => none
theorem keyD_rel {T : List (Option Ty)} {t : TypeId} {a : AV} {l : List AV} {y : Ty} (hy : getO T t = some y) (h : keyD T t a = some l) {vs ez ρ} {u : Value} (hr : rel vs ez ρ a u) : ∃ us, u = mkVal y us ∧ relL vs ez ρ l us := by
  unfold keyD aggOf at h
  rw [hy] at h
  simp only at h
  split at h
  · rename_i hg
    cases h
    simp only [rel] at hr
    obtain ⟨xs, rfl, h2⟩ := hr
    exact ⟨xs.toList, by simp [mkVal, hg], h2⟩
  · rename_i hg
    cases h
    simp only [rel] at hr
    subst hr
    exact ⟨_, by simp [mkVal, hg], relL_vals _⟩
  · rename_i hg
    cases h
    simp only [rel] at hr
    subst hr
    exact ⟨[u], by simp [mkVal, hg], by simp [relL, rel]⟩
  · cases h
def chkF (T : List (Option Ty)) (f : TypeId → List AV → Bool) (xs : List AV) : List (Nat × TypeId) → Bool
  | [] => true
  | (off, ft) :: fs => match getO T ft with
    | some yf => match subL xs off yf.size with
      | some a => match aggd yf || Nat.beq yf.size 1 with
        | true => match f ft a with
          | true => chkF T f xs fs
          | false => false
        | false => false
      | none => false
    | none => false
def chkC (T : List (Option Ty)) : Nat → TypeId → List AV → Bool
  | 0, _, _ => false
  | n + 1, t, xs => match getO T t with
    | some y => match y.d with
      | .int _ | .bool | .str => true
      | .st fs => match y.eq with
        | true => chkF T (chkC T n) xs fs
        | false => false
      | _ => false
    | none => false
theorem chkC_ok {P : Program} {T : List (Option Ty)} (hT : ∀ t y, getO T t = some y → TyOk P t y) {vs ez ρ} {w : World} (em : Bool) : ∀ (n : Nat) (t : TypeId) (xs : List AV), chkC T n t xs = true → ∀ (us : List Value), relL vs ez ρ xs us → ∀ y, getO T t = some y → ∀ d, n ≤ d → (Instr.checkKey em d t (mkVal y us)).run P w = .ok () w
  | 0, _, _, h => by simp [chkC] at h
  | n + 1, t, xs, h => by
    intro us hu y hy d hd
    obtain ⟨d, rfl⟩ : ∃ e, d = e + 1 := ⟨d - 1, by omega⟩
    simp only [chkC, hy] at h
    obtain ⟨⟨dd, q1, q2⟩, _, q3⟩ := hT t y hy
    cases hdd : y.d with
    | int k =>
      rw [hdd] at q2
      cases dd <;> simp only [TD.is] at q2
      simp [Instr.checkKey, run_underlying q1]
    | bool =>
      rw [hdd] at q2
      cases dd <;> simp only [TD.is] at q2
      simp [Instr.checkKey, run_underlying q1]
    | str =>
      rw [hdd] at q2
      cases dd <;> simp only [TD.is] at q2
      simp [Instr.checkKey, run_underlying q1]
    | st fs =>
      simp only [hdd] at h
      rw [hdd] at q2
      cases dd <;> simp only [TD.is] at q2
      rename_i fields
      split at h
      · rename_i he
        obtain ⟨e1, e2, e3⟩ := q3 he
        have hag : aggd y = true := by simp [aggd, hdd]
        simp only [mkVal, hag, if_true]
        rw [Instr.checkKey]
        simp only [Sem.run_bind, run_underlying q1, Result.andThen_ok]
        rw [← Array.forIn_toList]
        have hn := e3 fields q1
        clear q1 e1 e2 e3 hdd he q3
        generalize fields.toList = L at q2 hn
        subst q2
        induction L with
        | nil => simp
        | cons f L ih =>
          simp only [List.map_cons, chkF] at h
          split at h
          · rename_i yf hyf
            split at h
            · rename_i a ha
              split at h
              · rename_i hz
                split at h
                · rename_i hc
                  obtain ⟨p1, p2⟩ := relL_sub hu ha
                  have hz' : aggd yf = false → yf.size = 1 := by
                    intro h0
                    rw [h0] at hz
                    exact Nat.eq_of_beq_eq_true (by simpa using hz)
                  have i1 := chkC_ok hT (w := w) em n f.type a hc _ p1 yf hyf d (by omega)
                  simp only [List.forIn_cons, Sem.run_bind, hn f (by simp), ne_eq, not_false_eq_true, if_true, Result.andThen_ok, run_part' (hT _ yf hyf) us f.offset w p2 hz', i1, Sem.run_pure]
                  exact ih (fun g hg => hn g (List.mem_cons_of_mem _ hg)) h
                · cases h
              · cases h
            · cases h
          · cases h
      · cases h
    | ptr e => simp [hdd] at h
    | sl e => simp [hdd] at h
    | arr m e => simp [hdd] at h
    | ifc => simp [hdd] at h
    | fn => simp [hdd] at h
    | oth => simp [hdd] at h
    | mp a b => simp [hdd] at h

def primEq : AV → AV → Bool
  | .v (.int k a), .v (.int j b) => Nat.beq (ikn k) (ikn j) && (a == b)
  | .v (.string a), .v (.string b) => bEqL a.data.toList b.data.toList
  | .v (.bool a), .v (.bool b) => beqB a b
  | _, _ => false
def primEqL : List AV → List AV → Bool
  | [], [] => true
  | a :: l, b :: r => match primEq a b with
    | true => primEqL l r
    | false => false
  | _, _ => false
def isPrim : Value → Bool
  | .int .. | .string _ | .bool _ => true
  | _ => false
theorem primEq_eq {a b : AV} (h : primEq a b = true) : ∃ x, a = .v x ∧ b = .v x ∧ isPrim x = true := by
  unfold primEq at h
  split at h
  · rename_i k a j b
    simp only [Bool.and_eq_true, beq_iff_eq] at h
    cases ikn_inj h.1
    cases h.2
    exact ⟨_, rfl, rfl, rfl⟩
  · rename_i a b
    rw [bEqL_eq] at h
    have : a = b := by
      have h2 : a.data.toList = b.data.toList := by simpa using h
      obtain ⟨⟨x⟩⟩ := a
      obtain ⟨⟨y⟩⟩ := b
      cases h2
      rfl
    cases this
    exact ⟨_, rfl, rfl, rfl⟩
  · rename_i a b
    cases beqB_eq h
    exact ⟨_, rfl, rfl, rfl⟩
  · cases h
theorem primEqL_eq : ∀ {l r : List AV}, primEqL l r = true → ∃ xs : List Value, l = xs.map .v ∧ r = xs.map .v ∧ ∀ x, x ∈ xs → isPrim x = true
  | [], [], _ => ⟨[], rfl, rfl, by simp⟩
  | a :: l, b :: r, h => by
    simp only [primEqL] at h
    split at h
    · rename_i h1
      obtain ⟨x, e1, e2, hx⟩ := primEq_eq h1
      obtain ⟨xs, e3, e4, hxs⟩ := primEqL_eq h
      exact ⟨x :: xs, by simp [e1, e3], by simp [e2, e4], fun y hy => by rcases List.mem_cons.1 hy with rfl | hy; exact hx; exact hxs y hy⟩
    · cases h
  | [], _ :: _, h => by cases h
  | _ :: _, [], h => by cases h
theorem sameBits_prim {x : Value} (h : isPrim x = true) (n : Nat) : Instr.sameBits n x x = true := by
  unfold isPrim at h
  split at h
  · cases n <;> simp [Instr.sameBits]
  · cases n <;> simp [Instr.sameBits, MapKept.bytes_beq]
  · cases n <;> simp [Instr.sameBits]
  · cases h
theorem sameBits_mk (y : Ty) (us : List Value) (h : ∀ x, x ∈ us → isPrim x = true) (h1 : aggd y = false → us ≠ []) (n : Nat) : Instr.sameBits (n + 1) (mkVal y us) (mkVal y us) = true := by
  unfold mkVal
  cases hg : aggd y with
  | true =>
    simp only [if_true, Instr.sameBits]
    simp
    intro a b hab
    have := List.of_mem_zip hab
    have key : ∀ (l : List Value), (∀ x ∈ l, isPrim x = true) → (a, b) ∈ l.zip l → Instr.sameBits n a b = true := by
      intro l
      induction l with
      | nil => simp
      | cons x l ih =>
        intro hl hm
        simp only [List.zip_cons_cons, List.mem_cons, Prod.mk.injEq] at hm
        rcases hm with ⟨rfl, rfl⟩ | hm
        · exact sameBits_prim (hl _ (by simp)) n
        · exact ih (fun x hx => hl x (by simp [hx])) hm
    exact key us h hab
  | false =>
    cases us with
    | nil => exact (h1 hg rfl).elim
    | cons u us => simpa using sameBits_prim (h u (by simp)) (n + 1)
def hdA : List AV → Bool | [] => false | _ => true
def findM (T : List (Option Ty)) (kt : TypeId) (key : List AV) : List AV → Nat → Option (Option (Nat × AV × AV))
  | [], _ => some none
  | k :: v :: b :: r, i => match keyD T kt k with
    | some kc => match eqC T 20 kt key kc with
      | some true => match primEqL key kc && hdA key with
        | true => some (some (i, v, b))
        | false => none
      | some false => findM T kt key r (i + 1)
      | none => none
    | none => none
  | _, _ => none
def outM (es : List MapEntry) : Option (Nat × AV × AV) → Option (Nat × Value)
  | none => none
  | some (i, _) => some (i, match es[i]? with | some e => e.val | none => undef)
theorem findAsking_ok {P : Program} {T : List (Option Ty)} (hT : ∀ t y, getO T t = some y → TyOk P t y) {vs ez ρ} {w : World} {kt : TypeId} {y : Ty} (hy : getO T kt = some y) {key : List AV} {us : List Value} (hu : relL vs ez ρ key us) :
    ∀ (es : List MapEntry) (cells : List AV) (i : Nat) (r : Option (Nat × AV × AV)), relL vs ez ρ cells (mapCells es) → findM T kt key cells i = some r →
      (Instr.findAsking kt (mkVal y us) es i).run P w = .ok (match r with | none => none | some (j, _) => some (j, match es[j - i]? with | some e => e.val | none => undef)) w ∧
      (∀ j v b, r = some (j, v, b) → i ≤ j ∧ ∃ e, es[j - i]? = some e ∧ rel vs ez ρ v e.val ∧ rel vs ez ρ b (goInt e.born) ∧ e.key = mkVal y us ∧ ∀ n, Instr.sameBits (n + 1) (mkVal y us) (mkVal y us) = true)
  | [], cells, i, r, hc, h => by
    cases cells with
    | nil =>
      simp only [findM, Option.some.injEq] at h
      subst h
      exact ⟨by simp [Instr.findAsking], by simp⟩
    | cons _ _ => simp [mapCells, relL] at hc
  | e :: es, cells, i, r, hc, h => by
    match cells, hc, h with
    | k :: v :: b :: rest, hc, h =>
      simp only [mapCells, relL] at hc
      simp only [findM] at h
      split at h
      · rename_i kc hkc
        obtain ⟨ks, hk1, hk2⟩ := keyD_rel hy hkc hc.1
        split at h
        · rename_i heq
          split at h
          · rename_i hp
            cases h
            simp only [Bool.and_eq_true] at hp
            have := eqC_ok hT (w := w) 20 kt key kc true heq us ks hu hk2 y hy Op.maxDepth (by decide)
            rw [← hk1] at this
            obtain ⟨xs, q1, q2, q3⟩ := primEqL_eq hp.1
            have e1 : us = xs := relL_of_vals _ _ (q1 ▸ hu)
            have e2 : ks = xs := relL_of_vals _ _ (q2 ▸ hk2)
            refine ⟨by simp [Instr.findAsking, Op.equal, this], fun j v' b' hj => ?_⟩
            cases hj
            refine ⟨Nat.le_refl _, e, by simp, hc.2.1, hc.2.2.1, by rw [hk1, e1, e2], fun n => sameBits_mk y us (e1 ▸ q3) (fun _ h0 => ?_) n⟩
            rw [h0] at e1
            subst e1
            simp at q1
            subst q1
            simp [hdA] at hp
          · cases h
        · rename_i heq
          have := eqC_ok hT (w := w) 20 kt key kc false heq us ks hu hk2 y hy Op.maxDepth (by decide)
          rw [← hk1] at this
          obtain ⟨g1, g2⟩ := findAsking_ok (w := w) hT hy hu es rest (i + 1) r hc.2.2.2 h
          have g3 : ∀ j v b, r = some (j, v, b) → i + 1 ≤ j := fun j v b hj => (g2 j v b hj).1
          refine ⟨?_, fun j v b hj => ?_⟩
          · simp only [Instr.findAsking, Op.equal, Sem.run_bind, this, Result.andThen_ok, Bool.false_eq_true, if_false, g1]
            cases r with
            | none => rfl
            | some r =>
              obtain ⟨j, v', b'⟩ := r
              have := g3 j v' b' rfl
              have e3 : j - i = (j - (i + 1)) + 1 := by omega
              simp only [e3, List.getElem?_cons_succ]
          · obtain ⟨g4, e', g5, g6⟩ := g2 j v b hj
            have e3 : j - i = (j - (i + 1)) + 1 := by omega
            exact ⟨by omega, e', by rw [e3, List.getElem?_cons_succ]; exact g5, g6⟩
        · cases h
      · cases h
    | [], hc, _ => simp [mapCells, relL] at hc
    | [_], hc, _ => simp [mapCells, relL] at hc
    | [_, _], hc, _ => simp [mapCells, relL] at hc

def atM (es : List MapEntry) (i : Nat) (r : Option (Nat × AV × AV)) : Option (Nat × Value) :=
  match r with
  | none => none
  | some (j, _) => some (j, match es[j - i]? with | some e => e.val | none => undef)
theorem atM_step (e : MapEntry) (es : List MapEntry) (i : Nat) (r : Option (Nat × AV × AV)) (h : ∀ j v b, r = some (j, v, b) → i + 1 ≤ j) : atM (e :: es) i r = atM es (i + 1) r := by
  cases r with
  | none => rfl
  | some r =>
    obtain ⟨j, v', b'⟩ := r
    have := h j v' b' rfl
    have e3 : j - i = (j - (i + 1)) + 1 := by omega
    simp only [atM, e3, List.getElem?_cons_succ]
theorem findNow_ok {T : List (Option Ty)} {vs ez ρ} {kt : TypeId} {y : Ty} (hy : getO T kt = some y) {d : TypeDesc} (hd : y.d.is d) (hs : (y.d = .str ∨ y.d = .bool) ∨ ∃ k, y.d = .int k) {key : List AV} {us : List Value} (hu : relL vs ez ρ key us) :
    ∀ (es : List MapEntry) (cells : List AV) (i : Nat) (r : Option (Nat × AV × AV)), relL vs ez ρ cells (mapCells es) → findM T kt key cells i = some r →
      Instr.findNow d (mkVal y us) es i = some (atM es i r) ∧ ∀ j v b, r = some (j, v, b) → i ≤ j
  | [], cells, i, r, hc, h => by
    cases cells with
    | nil =>
      simp only [findM, Option.some.injEq] at h
      subst h
      exact ⟨rfl, by simp⟩
    | cons _ _ => simp [mapCells, relL] at hc
  | e :: es, cells, i, r, hc, h => by
    match cells, hc, h with
    | k :: v :: b :: rest, hc, h =>
      simp only [mapCells, relL] at hc
      simp only [findM] at h
      have hg : aggd y = false := by
        rcases hs with (hs | hs) | ⟨q, hs⟩ <;> simp [aggd, hs]
      have same : ∀ kc ks t, e.key = mkVal y ks → relL vs ez ρ kc ks → eqC T 20 kt key kc = some t → Instr.sameNow d (mkVal y us) e.key = some t := by
        intro kc ks t h1 h2 h3
        rw [h1]
        simp only [mkVal, hg, Bool.false_eq_true, if_false]
        simp only [eqC, hy] at h3
        rcases hs with (hs | hs) | ⟨q, hs⟩
        · rw [hs] at h3 hd
          cases d <;> simp only [TD.is] at hd
          simp only at h3
          split at h3
          · rename_i a b _
            cases h3
            match us, ks, hu, h2 with
            | [u], [v], hu, hv =>
              simp only [relL, rel] at hu hv
              simp only [List.getD_cons_zero]
              rw [hu.1, hv.1]
              simp only [Instr.sameNow]
              congr 1
              have := MapKept.bytes_beq a b
              by_cases hab : a = b
              · rw [this.2 hab, decide_eq_true hab]
              · have h4 : (a == b) = false := by
                  cases h5 : (a == b) with
                  | false => rfl
                  | true => exact (hab (this.1 h5)).elim
                simp [h4, hab]
          · cases h3
        · rw [hs] at h3 hd
          cases d <;> simp only [TD.is] at hd
          simp only at h3
          split at h3
          · rename_i a b
            cases h3
            match us, ks, hu, h2 with
            | [u], [v], hu, hv =>
              simp only [relL, rel] at hu hv
              simp only [List.getD_cons_zero]
              rw [hu.1, hv.1]
              rfl
          · cases h3
        · rw [hs] at h3 hd
          cases d <;> simp only [TD.is] at hd
          simp only at h3
          split at h3
          · rename_i k1 a k2 b
            split at h3
            · rename_i hk
              cases ikn_inj hk
              cases h3
              match us, ks, hu, h2 with
              | [u], [v], hu, hv =>
                simp only [relL, rel] at hu hv
                simp only [List.getD_cons_zero]
                rw [hu.1, hv.1]
                simp [Instr.sameNow]
            · cases h3
          · cases h3
      split at h
      · rename_i kc hkc
        obtain ⟨ks, hk1, hk2⟩ := keyD_rel hy hkc hc.1
        split at h
        · rename_i heq
          split at h
          · cases h
            refine ⟨by simp [Instr.findNow, same kc ks true hk1 hk2 heq, atM], fun j v' b' hj => ?_⟩
            cases hj
            exact Nat.le_refl _
          · cases h
        · rename_i heq
          obtain ⟨g1, g2⟩ := findNow_ok hy hd hs hu es rest (i + 1) r hc.2.2.2 h
          refine ⟨?_, fun j v b hj => by have := g2 j v b hj; omega⟩
          rw [atM_step e es i r g2]
          simp only [Instr.findNow, same kc ks false hk1 hk2 heq]
          exact g1
        · cases h
      · cases h
    | [], hc, _ => simp [mapCells, relL] at hc
    | [_], hc, _ => simp [mapCells, relL] at hc
    | [_, _], hc, _ => simp [mapCells, relL] at hc
theorem findKey_ok {P : Program} {T : List (Option Ty)} (hT : ∀ t y, getO T t = some y → TyOk P t y) {vs ez ρ} {w : World} {kt : TypeId} {y : Ty} (hy : getO T kt = some y) {key : List AV} {us : List Value} (hu : relL vs ez ρ key us) {em : Nat} (hc0 : chkC T em kt key = true)
    (es : List MapEntry) (cells : List AV) (r : Option (Nat × AV × AV)) (hc : relL vs ez ρ cells (mapCells es)) (h : findM T kt key cells 0 = some r) :
      (Instr.findKey kt (mkVal y us) es).run P w = .ok (atM es 0 r) w ∧
      (∀ j v b, r = some (j, v, b) → ∃ e, es[j]? = some e ∧ rel vs ez ρ v e.val ∧ rel vs ez ρ b (goInt e.born) ∧ e.key = mkVal y us ∧ ∀ n, Instr.sameBits (n + 1) (mkVal y us) (mkVal y us) = true) := by
  obtain ⟨g1, g2⟩ := findAsking_ok (w := w) hT hy hu es cells 0 r hc h
  refine ⟨?_, fun j v b hj => by obtain ⟨_, e, h1, h2⟩ := g2 j v b hj; exact ⟨e, by simpa using h1, h2⟩⟩
  obtain ⟨⟨d, q1, q2⟩, _, _⟩ := hT kt y hy
  cases em with
  | zero => simp [chkC] at hc0
  | succ em =>
    simp only [chkC, hy] at hc0
    have plain : ((y.d = .str ∨ y.d = .bool) ∨ ∃ k, y.d = .int k) → (Instr.findKey kt (mkVal y us) es).run P w = .ok (atM es 0 r) w := fun hs => by
      obtain ⟨n1, _⟩ := findNow_ok hy q2 hs hu es cells 0 r hc h
      exact MapKept.run_findKey q1 n1
    cases hdd : y.d with
    | int k => exact plain (.inr ⟨k, hdd⟩)
    | bool => exact plain (.inl (.inr hdd))
    | str => exact plain (.inl (.inl hdd))
    | st fs =>
      rw [hdd] at q2
      cases d <;> simp only [TD.is] at q2
      rw [run_findKey_eq w (by simp [q1])]
      exact g1
    | _ => simp [hdd] at hc0

section
variable {X : Ctx} {o : Oper} {st : St} {k : Actn → Prop}
def setM (w : World) (b : Nat) (es : Array MapEntry) (clock : Nat) : World := { w with heap := w.heap.setIfInBounds b (.map es clock) }
theorem setM_mod (w : World) (b : Nat) (es : Array MapEntry) (clock : Nat) : Mod w (setM w b es clock) (· = b) :=
  ⟨rfl, rfl, rfl, by simp [setM], fun c hc hn => by simp [setM, Array.getElem?_setIfInBounds, Ne.symm hn]⟩
theorem setM_heap {w : World} {b : Nat} (hb : b < w.heap.size) (es : Array MapEntry) (clock : Nat) : (setM w b es clock).heap[b]? = some (.map es clock) := by
  simp [setM, hb]
theorem ActN.upd {xs : List Operand} {c : Nat} {ck : Chunk} {l : List AV} {r : AV} (hc : getO st.ch c = some ck) (hk : ck.kind = .map)
    (h : ∀ vs ez ρ (a : Act) w (es : Array MapEntry) (clock : Nat) cells, (∀ x, x ∈ xs → rel vs ez ρ (evA st.fr x) (a.eval x)) → vs c = some ck.ver → ck.cells = cells → relL vs ez ρ cells (goInt clock :: mapCells es.toList) → w.heap[(ρ c).blk]? = some (.map es clock) →
      ∃ v es' clock', ((execOp a.eval o).run X.P w = .ok (.value v) (setM w (ρ c).blk es' clock') ∨ ((execOp a.eval o).run X.P w = .ok .skip (setM w (ρ c).blk es' clock') ∧ o.dst = none)) ∧ relL vs ez ρ l (goInt clock' :: mapCells es'.toList) ∧ rel vs ez ρ r v)
    (hk2 : k (aW o st.fr xs c ck { ck with cells := l } r)) : ActN X o st k := by
  refine ⟨_, LS.mem rfl fun st' E a w ρ hf hr => ?_, ⟨rds_fits st.fr st.ch xs, by simp [aW, hc]⟩, hk2⟩
  have hc' : getO st'.ch c = some ck := hf.c c (some ck) (by simp [aW])
  obtain ⟨ys, gy1, gy2⟩ := hr.heap.ok c ck hc'
  have gy3 : MapB w (ρ c).blk ys := by
    have := gy2
    unfold Chunk.mem at this
    rw [hk] at this
    exact this
  obtain ⟨es, clock, hb, hys⟩ := gy3
  have hblt : (ρ c).blk < w.heap.size := by
    rcases Nat.lt_or_ge (ρ c).blk w.heap.size with h1 | h1
    · exact h1
    · simp [Array.getElem?_eq_none h1] at hb
  obtain ⟨v, es', clock', h1, h2, h3⟩ := h st'.vs st'.ez ρ a w es clock ck.cells (fun x hx => by
    rw [← fits_ev hf (fr := st.fr) (x := x) (rds_mem hx)]
    exact hr.ev x) (by simp [St.vs, hc']) rfl (hys ▸ gy1) hb
  have hch : ((aW o st.fr xs c ck { ck with cells := l } r).app st').ch = setO st'.ch c { ck with cells := l } := by simp [aW, Actn.app, setAll]
  have hup : Up st'.vs ((aW o st.fr xs c ck { ck with cells := l } r).app st').vs st'.ez ((aW o st.fr xs c ck { ck with cells := l } r).app st').ez ρ ρ := by
    refine Up.of_eq fun d => ?_
    rw [hch]
    by_cases e : d = c
    · subst e; rw [getO_set_same, hc']; rfl
    · rw [getO_set_ne _ _ _ _ e]
  have hblk : ck.blk (ρ c) = some (ρ c).blk := by simp [Chunk.blk, hk]
  have hown : ck.owned = true := by simp [Chunk.owned, CK.owned, hk]
  refine ⟨v, _, ρ, h1, hup, ?_, rel_up hup _ _ h3⟩
  refine hr.heap.step (· = c) _ _ ρ ((setM_mod w (ρ c).blk es' clock').mono ?_) ?_ hup ?_ ?_ ?_ ?_ ?_ ?_
  · rintro b rfl
    exact ⟨c, ck, rfl, hc', hown, hr.heap.blk c ck _ hc' hblk⟩
  · intro d hd
    rw [hch]
    exact ⟨getO_set_ne _ _ _ _ hd, rfl⟩
  · rintro d k' rfl hk'
    rw [hch, getO_set_same] at hk'
    cases hk'
    refine ⟨_, relL_up hup _ _ h2, ?_⟩
    unfold Chunk.mem
    simp only [hk]
    exact ⟨es', clock', setM_heap hblt es' clock', rfl⟩
  · rintro d k' b rfl hk' hb'
    exact Nat.lt_of_lt_of_le (hr.heap.lt d ck b hc' hb') (setM_mod w (ρ d).blk es' clock').size
  · rintro d k' b rfl hk' ho' hb'
    exact hr.heap.own d ck b hc' hown hb'
  · rintro d k' b rfl hk' hb'
    rw [hch, getO_set_same] at hk'
    cases hk'
    exact hr.heap.blk d ck b hc' (by simpa [Chunk.blk] using hb')
  · rintro d k' rfl hk'
    rw [hch, getO_set_same] at hk'
    cases hk'
    have := hr.heap.stay d ck hc'
    intro w1 w2 xs hw hm
    have hb2 := hw (ρ d).blk (hr.heap.blk d ck _ hc' hblk)
    unfold Chunk.mem at hm ⊢
    simp only [hk] at hm ⊢
    obtain ⟨e1, c1, h1, h2⟩ := hm
    exact ⟨e1, c1, by rw [hb2]; exact h1, h2⟩
  · rintro d e k' l' b rfl hk' hl' ho hb1 hb2
    rw [hch] at hl'
    by_cases he : e = d
    · exact he.symm
    · rw [getO_set_ne _ _ _ _ he] at hl'
      exact hr.heap.sep d e ck l' b hc' hl' hown hb1 hb2
theorem x_makeMap {t d : TypeId} (ho : o.op = .makeMap t none) (hc : getO st.ch d = none) (h : k (aN o st.fr [] d ⟨.map, t, 0, 0, [.v (goInt 0)]⟩ (.mp d 0))) : ActN X o st k := by
  refine ActN.new hc (fun vs ez ρ a w _ => ?_) h
  refine ⟨.map (some w.heap.size), w.alloc (.map #[] 0), newLoc w.heap.size 0, [goInt 0], ?_, Mod.alloc w _ _, ?_, ?_, ?_, by simp [relL, rel], ?_, ?_⟩
  · simp [execOp, ho, Instr.makeMap]
  · rintro b rfl
    exact ⟨Nat.le_refl _, by simp⟩
  · rintro b hb
    simpa [Chunk.blk, newLoc] using hb.symm
  · intro w1 w2 xs hw hm
    have hb2 := hw w.heap.size rfl
    unfold Chunk.mem at hm ⊢
    simp only [newLoc] at hm ⊢
    obtain ⟨e1, c1, h1, h2⟩ := hm
    exact ⟨e1, c1, by rw [hb2]; exact h1, h2⟩
  · exact ⟨#[], 0, heap_alloc_new w _, rfl⟩
  · intro vs' ez' ρ' h1 h2 h3
    simp only [rel]
    refine ⟨0, h1, Nat.le_refl _, fun _ => ?_, _, rfl⟩
    rw [h3]; rfl
end
end Go.SX
set_option linter.unusedSimpArgs false
set_option linter.unusedVariables false
namespace Go.SX
section
variable {X : Ctx} {o : Oper} {st : St} {k : Actn → Prop}
theorem x_eq_sl_nil (hT : X.ok) {t ty e : TypeId} {x z : Operand} {y : Ty} {a : Option Addr} {n c n' c' : Nat} (op : BinOp) (hop : op = .eql ∨ op = .neq) (ho : o.op = .binOp op t x z ty) (hx : evA st.fr x = .v (.slice a n c)) (hz : evA st.fr z = .v (.slice none n' c')) (hy : getO X.T t = some y) (hyd : y.d = .sl e)
    (h : k (aP o st.fr [x, z] (.v (.bool (eqR op a.isNone))))) : ActN X o st k := by
  refine x_bin ho hx hz (fun w => ?_) h
  obtain ⟨⟨dd, q1, q2⟩, _⟩ := hT t y hy
  rw [hyd] at q2
  cases dd <;> simp only [TD.is] at q2
  have hg : eqGuard op t x z (.slice a n c) (.slice none n' c') = pure () := by rcases hop with rfl | rfl <;> rfl
  rw [hg]
  simp only [Sem.run_bind, Sem.run_pure, Result.andThen_ok]
  refine run_eqR hop ?_ rfl rfl
  rw [equal_succ]
  generalize 9999 = dep
  cases a <;> simp [Op.equalIn, run_underlying q1]
end
end Go.SX
set_option linter.unusedSimpArgs false
set_option linter.unusedVariables false
namespace Go.SX
theorem mapCells_append (a b : List MapEntry) : mapCells (a ++ b) = mapCells a ++ mapCells b := by
  induction a with
  | nil => rfl
  | cons e a ih => simp [mapCells, ih]
def putM : List AV → Nat → AV → List AV
  | k :: _ :: b :: r, 0, a => k :: a :: b :: r
  | k :: v :: b :: r, i + 1, a => k :: v :: b :: putM r i a
  | l, _, _ => l
theorem putM_rel {vs ez ρ} {a : AV} {u : Value} (ha : rel vs ez ρ a u) (f : MapEntry → MapEntry) (hf : ∀ e, (f e).val = u ∧ (f e).born = e.born) : ∀ (es : List MapEntry) (cells : List AV) (i : Nat), relL vs ez ρ cells (mapCells es) → (∀ e, es[i]? = some e → (f e).key = e.key) → relL vs ez ρ (putM cells i a) (mapCells (es.modify i f))
  | [], cells, i, h, _ => by
    cases cells with
    | nil => cases i <;> simpa [putM, List.modify_nil] using h
    | cons _ _ => simp [mapCells, relL] at h
  | e :: es, cells, i, h, hk => by
    match cells, h with
    | k :: v :: b :: rest, h =>
      simp only [mapCells, relL] at h
      cases i with
      | zero =>
        simp only [putM, List.modify_zero_cons, mapCells, relL, (hf e).1, (hf e).2, hk e (by simp)]
        exact ⟨h.1, ha, h.2.2⟩
      | succ i =>
        simp only [putM, List.modify_succ_cons, mapCells, relL]
        exact ⟨h.1, h.2.1, h.2.2.1, putM_rel ha f hf es rest i h.2.2.2 (fun e he => hk e (by simpa using he))⟩
    | [], h => simp [mapCells, relL] at h
    | [_], h => simp [mapCells, relL] at h
    | [_, _], h => simp [mapCells, relL] at h
def delM : List AV → Nat → List AV
  | _ :: _ :: _ :: r, 0 => r
  | k :: v :: b :: r, i + 1 => k :: v :: b :: delM r i
  | l, _ => l
theorem delM_rel {vs ez ρ} : ∀ (es : List MapEntry) (cells : List AV) (i : Nat), relL vs ez ρ cells (mapCells es) → relL vs ez ρ (delM cells i) (mapCells (es.eraseIdx i))
  | [], cells, i, h => by
    cases cells with
    | nil => cases i <;> simpa [delM] using h
    | cons _ _ => simp [mapCells, relL] at h
  | e :: es, cells, i, h => by
    match cells, h with
    | k :: v :: b :: rest, h =>
      simp only [mapCells, relL] at h
      cases i with
      | zero => simpa [delM] using h.2.2.2
      | succ i =>
        simp only [delM, List.eraseIdx_cons_succ, mapCells, relL]
        exact ⟨h.1, h.2.1, h.2.2.1, delM_rel es rest i h.2.2.2⟩
    | [], h => simp [mapCells, relL] at h
    | [_], h => simp [mapCells, relL] at h
    | [_, _], h => simp [mapCells, relL] at h
def intA : AV → Option Int
  | .v (.int .i64 n) => some n
  | _ => none
theorem intA_eq {a : AV} {n : Int} (h : intA a = some n) : a = .v (.int .i64 n) := by
  unfold intA at h
  split at h
  · cases h; rfl
  · cases h
def bornM : List AV → Int → Nat → Option Nat
  | _ :: _ :: b :: r, m, i => match intA b with
    | some n => match n == m with
      | true => some i
      | false => bornM r m (i + 1)
    | none => none
  | _, _, _ => none
theorem bornM_ok {vs ez ρ} {m : Int} {p : MapEntry → Bool} (hp : ∀ e, p e = ((e.born : Int) == m)) : ∀ (es : List MapEntry) (cells : List AV) (i j : Nat), relL vs ez ρ cells (mapCells es) → bornM cells m i = some j → i ≤ j ∧ es.findIdx? p = some (j - i)
  | [], cells, i, j, h, hb => by
    cases cells with
    | nil => simp [bornM] at hb
    | cons _ _ => simp [mapCells, relL] at h
  | e :: es, cells, i, j, h, hb => by
    match cells, h, hb with
    | k :: v :: b :: rest, h, hb =>
      simp only [mapCells, relL] at h
      simp only [bornM] at hb
      split at hb
      · rename_i n hn0
        have hn : (e.born : Int) = n := by
          have := h.2.2.1
          rw [intA_eq hn0] at this
          simp only [rel, goInt, Value.int.injEq, true_and] at this
          exact this
        split at hb
        · rename_i hnm
          cases hb
          refine ⟨Nat.le_refl _, ?_⟩
          rw [List.findIdx?_cons, hp, hn, hnm]
          simp
        · rename_i hnm
          obtain ⟨g1, g2⟩ := bornM_ok hp es rest (i + 1) j h.2.2.2 hb
          refine ⟨by omega, ?_⟩
          rw [List.findIdx?_cons, hp, hn, hnm, g2]
          simp
          omega
      · cases hb
    | [], h, _ => simp [mapCells, relL] at h
    | [_], h, _ => simp [mapCells, relL] at h
    | [_, _], h, _ => simp [mapCells, relL] at h
def snoc {α : Type} : List α → List α → List α
  | [], r => r
  | a :: l, r => a :: snoc l r
theorem snoc_eq {α : Type} : ∀ (l r : List α), snoc l r = l ++ r
  | [], _ => rfl
  | a :: l, r => by simp [snoc, snoc_eq l r]
section
variable {X : Ctx} {o : Oper} {st : St} {k : Actn → Prop}
def lkA (ok : Bool) (v : AV) (b : Bool) : AV := match ok with
  | true => .tup [v, .v (.bool b)]
  | false => v
theorem mp_addr {vs ez ρ} {c kv : Nat} {ck : Chunk} {u : Value} (h : rel vs ez ρ (.mp c kv) u) (hv : vs c = some ck.ver) (e : kv = ck.ver) : u = .map (some (ρ c).blk) := by
  simp only [rel] at h
  obtain ⟨cur, h1, h2, h3, _⟩ := h
  rw [hv] at h1
  cases h1
  exact h3 e
theorem mp_mem {w : World} {ck : Chunk} {L : Loc} {ys : List Value} (hk : ck.kind = .map) (h : ck.mem w L ys) : MapB w L.blk ys := by
  unfold Chunk.mem at h
  rw [hk] at h
  exact h
theorem mp_und {P : Program} {t kt et : TypeId} {y : Ty} (h : TyOk P t y) (hd : y.d = .mp kt et) : P.underlying t = some (.map kt et) := by
  obtain ⟨⟨d, q1, q2⟩, _, _⟩ := h
  rw [hd] at q2
  cases d <;> simp only [TD.is] at q2
  rw [q1, q2.1, q2.2]
def lkR (ok : Bool) (z : AV) : Option (Nat × AV × AV) → AV
  | some (_, v, _) => lkA ok v true
  | none => lkA ok z false
def storeM (cl : Int) (rest : List AV) (key a : AV) : Option (Nat × AV × AV) → List AV
  | some (i, _, _) => .v (.int .i64 cl) :: putM rest i a
  | none => .v (.int .i64 (cl + 1)) :: snoc rest [key, a, .v (.int .i64 cl)]
def entC (cl : Int) (rest : List AV) (key z : AV) : Option (Nat × AV × AV) → List AV
  | some _ => .v (.int .i64 cl) :: rest
  | none => .v (.int .i64 (cl + 1)) :: snoc rest [key, z, .v (.int .i64 cl)]
def entR (cl : Int) (z : AV) : Option (Nat × AV × AV) → AV
  | some (_, v, b) => .tup [v, b]
  | none => .tup [z, .v (.int .i64 cl)]
theorem x_lookup (hT : X.ok) {t kt et : TypeId} {m key : Operand} {ok : Bool} {c kv : Nat} {ck : Chunk} {kc rest : List AV} {cl : AV} {r : Option (Nat × AV × AV)} {y ykt ye : Ty} (ho : o.op = .lookup t m key ok) (hm : evA st.fr m = .mp c kv) (hc : getO st.ch c = some ck) (hv : kv = ck.ver) (hk : ck.kind = .map)
    (hy : getO X.T t = some y) (hyd : y.d = .mp kt et) (hkt : getO X.T kt = some ykt) (het : getO X.T et = some ye) (hkd : keyD X.T kt (evA st.fr key) = some kc) (hch : chkC X.T 20 kt kc = true) (hcl : ck.cells = cl :: rest) (hf : findM X.T kt kc rest 0 = some r)
    (h : k (aR o st.fr [m, key] c ck (lkR ok (.v (mkVal ye ye.zero)) r))) : ActN X o st k := by
  refine ActN.r hc (fun vs ez ρ a w ys g hvs _ gy gm => ?_) h
  have gmp := mp_addr (g m (by simp) |> fun h => hm ▸ h) hvs hv
  obtain ⟨es, clock, hb, hys⟩ := mp_mem hk gm
  rw [hcl, hys] at gy
  simp only [relL] at gy
  obtain ⟨us, hu1, hu2⟩ := keyD_rel hkt hkd (g key (by simp))
  have hck := fun em => chkC_ok hT (w := w) em 20 kt kc hch us hu2 ykt hkt 10000 (by decide)
  obtain ⟨f1, f2⟩ := findKey_ok hT (w := w) hkt hu2 hch es.toList rest r gy.2 hf
  have hund := mp_und (hT t y hy) hyd
  cases r with
  | none =>
    refine ⟨_, by simp only [execOp, ho, Instr.lookup, Sem.run_bind, run_underlying hund, Result.andThen_ok, gmp, MapKept.run_getObj_map hb, hu1, hck, f1, atM, (hT et ye het).run_zeroV, Sem.run_pure]; rfl, ?_⟩
    cases ok <;> simp [lkR, lkA, rel, relL]
  | some r =>
    obtain ⟨j, v, b⟩ := r
    obtain ⟨e, e1, e2, _⟩ := f2 j v b rfl
    refine ⟨_, by simp only [execOp, ho, Instr.lookup, Sem.run_bind, run_underlying hund, Result.andThen_ok, gmp, MapKept.run_getObj_map hb, hu1, hck, f1, atM, Sem.run_pure]; rfl, ?_⟩
    simp only [Nat.sub_zero, e1]
    cases ok
    · simpa [lkR, lkA] using e2
    · simp [lkR, lkA, rel, relL, e2]
theorem x_mapUpdate (hT : X.ok) {t kt et : TypeId} {m key z : Operand} {c kv : Nat} {ck : Chunk} {kc rest : List AV} {cl : Int} {r : Option (Nat × AV × AV)} {y ykt : Ty} (ho : o.op = .mapUpdate t m key z ∨ o.op = .insert t m key z) (hd : o.dst = none) (hm : evA st.fr m = .mp c kv) (hc : getO st.ch c = some ck) (hv : kv = ck.ver) (hk : ck.kind = .map)
    (hy : getO X.T t = some y) (hyd : y.d = .mp kt et) (hkt : getO X.T kt = some ykt) (hkd : keyD X.T kt (evA st.fr key) = some kc) (hch : chkC X.T 20 kt kc = true) (hcl : ck.cells = .v (.int .i64 cl) :: rest) (hf : findM X.T kt kc rest 0 = some r)
    (h : k (aW o st.fr [m, key, z] c ck { ck with cells := storeM cl rest (evA st.fr key) (evA st.fr z) r } .dead)) : ActN X o st k := by
  refine ActN.upd hc hk (fun vs ez ρ a w es clock cells g hvs hce gy hb => ?_) h
  have gmp := mp_addr (g m (by simp) |> fun h => hm ▸ h) hvs hv
  rw [← hce, hcl] at gy
  simp only [relL] at gy
  have hclk : (clock : Int) = cl := by
    have := gy.1
    simp only [rel, goInt, Value.int.injEq, true_and] at this
    exact this
  obtain ⟨us, hu1, hu2⟩ := keyD_rel hkt hkd (g key (by simp))
  have hck := fun em => chkC_ok hT (w := w) em 20 kt kc hch us hu2 ykt hkt 10000 (by decide)
  obtain ⟨f1, f2⟩ := findKey_ok hT (w := w) hkt hu2 hch es.toList rest r gy.2 hf
  have hund := mp_und (hT t y hy) hyd
  have gz := g z (by simp)
  have gk := g key (by simp)
  cases r with
  | none =>
    have hrun : (Instr.mapUpdate t (a.eval m) (a.eval key) (a.eval z)).run X.P w = .ok () (setM w (ρ c).blk (es.push { key := a.eval key, val := a.eval z, born := clock }) (clock + 1)) := by
      simp only [Instr.mapUpdate, Sem.run_bind, run_underlying hund, Result.andThen_ok, gmp, MapKept.run_getObj_map hb, hu1, hck, f1, atM, MapKept.run_setObj_map _ hb]
      rfl
    refine ⟨undef, es.push { key := a.eval key, val := a.eval z, born := clock }, clock + 1, .inr ⟨?_, hd⟩, ?_, by simp [rel]⟩
    · rcases ho with ho | ho <;> simp [execOp, ho, hrun]
    · simp only [storeM, relL, snoc_eq, Array.toList_push, mapCells_append]
      refine ⟨?_, relL_append _ _ _ _ gy.2 ?_⟩
      · simp [rel, goInt, ← hclk]
      · simp only [mapCells, relL]
        exact ⟨gk, gz, by simp [rel, goInt, ← hclk], trivial⟩
  | some r =>
    obtain ⟨j, v, b⟩ := r
    obtain ⟨e, e1, e2, e3, e4, e5⟩ := f2 j v b rfl
    have e1' : es[j]? = some e := by simpa using e1
    have hrun : (Instr.mapUpdate t (a.eval m) (a.eval key) (a.eval z)).run X.P w = .ok () (setM w (ρ c).blk (es.modify j fun e => { e with key := a.eval key, val := a.eval z }) clock) := by
      have hst : (Instr.keyThatStays e.key (mkVal ykt us)).run X.P w = .ok (mkVal ykt us) w := by
        simp [Instr.keyThatStays, e4, e5]
      simp only [Instr.mapUpdate, Sem.run_bind, run_underlying hund, Result.andThen_ok, gmp, MapKept.run_getObj_map hb, hu1, hck, f1, atM, e1', Option.map_some, Option.getD_some, hst, MapKept.run_setObj_map _ hb]
      rfl
    refine ⟨undef, es.modify j fun e => { e with key := a.eval key, val := a.eval z }, clock, .inr ⟨?_, hd⟩, ?_, by simp [rel]⟩
    · rcases ho with ho | ho <;> simp [execOp, ho, hrun]
    · simp only [storeM, relL, Array.toList_modify]
      refine ⟨by simp [rel, goInt, hclk], putM_rel gz (fun e => { e with key := a.eval key, val := a.eval z }) (fun e => ⟨rfl, rfl⟩) _ _ _ gy.2 (fun e' he' => ?_)⟩
      rw [e1] at he'
      cases he'
      rw [e4, hu1]
theorem x_mapEntry (hT : X.ok) {t kt et : TypeId} {m key : Operand} {c kv : Nat} {ck : Chunk} {kc rest : List AV} {cl : Int} {r : Option (Nat × AV × AV)} {y ykt ye : Ty} (ho : o.op = .mapEntry t m key) (hm : evA st.fr m = .mp c kv) (hc : getO st.ch c = some ck) (hv : kv = ck.ver) (hk : ck.kind = .map)
    (hy : getO X.T t = some y) (hyd : y.d = .mp kt et) (hkt : getO X.T kt = some ykt) (het : getO X.T et = some ye) (hkd : keyD X.T kt (evA st.fr key) = some kc) (hch : chkC X.T 20 kt kc = true) (hcl : ck.cells = .v (.int .i64 cl) :: rest) (hf : findM X.T kt kc rest 0 = some r)
    (h : k (aW o st.fr [m, key] c ck { ck with cells := entC cl rest (evA st.fr key) (.v (mkVal ye ye.zero)) r } (entR cl (.v (mkVal ye ye.zero)) r))) : ActN X o st k := by
  refine ActN.upd hc hk (fun vs ez ρ a w es clock cells g hvs hce gy hb => ?_) h
  have gmp := mp_addr (g m (by simp) |> fun h => hm ▸ h) hvs hv
  rw [← hce, hcl] at gy
  simp only [relL] at gy
  have hclk : (clock : Int) = cl := by
    have := gy.1
    simp only [rel, goInt, Value.int.injEq, true_and] at this
    exact this
  obtain ⟨us, hu1, hu2⟩ := keyD_rel hkt hkd (g key (by simp))
  have hck := fun em => chkC_ok hT (w := w) em 20 kt kc hch us hu2 ykt hkt 10000 (by decide)
  obtain ⟨f1, f2⟩ := findKey_ok hT (w := w) hkt hu2 hch es.toList rest r gy.2 hf
  have hund := mp_und (hT t y hy) hyd
  have gk := g key (by simp)
  cases r with
  | none =>
    refine ⟨.tuple #[mkVal ye ye.zero, goInt clock], es.push { key := a.eval key, val := mkVal ye ye.zero, born := clock }, clock + 1, .inl ?_, ?_, ?_⟩
    · simp only [execOp, ho, Instr.mapEntry, Sem.run_bind, run_underlying hund, Result.andThen_ok, gmp, MapKept.run_getObj_map hb, hu1, hck, f1, atM, (hT et ye het).run_zeroV, MapKept.run_setObj_map _ hb, Sem.run_pure]
      rfl
    · simp only [entC, relL, snoc_eq, Array.toList_push, mapCells_append]
      refine ⟨?_, relL_append _ _ _ _ gy.2 ?_⟩
      · simp [rel, goInt, ← hclk]
      · simp only [mapCells, relL]
        exact ⟨gk, by simp [rel], by simp [rel, goInt, ← hclk], trivial⟩
    · simp [entR, rel, relL, goInt, hclk]
  | some r =>
    obtain ⟨j, v, b⟩ := r
    obtain ⟨e, e1, e2, e3, e4, e5⟩ := f2 j v b rfl
    have e1' : es[j]? = some e := by simpa using e1
    have hst : (Instr.keyThatStays e.key (mkVal ykt us)).run X.P w = .ok (mkVal ykt us) w := by
      simp [Instr.keyThatStays, e4, e5]
    refine ⟨.tuple #[e.val, goInt e.born], es.modify j fun e => { e with key := a.eval key }, clock, .inl ?_, ?_, ?_⟩
    · simp only [execOp, ho, Instr.mapEntry, Sem.run_bind, run_underlying hund, Result.andThen_ok, gmp, MapKept.run_getObj_map hb, hu1, hck, f1, atM, e1, e1', Option.map_some, Option.getD_some, hst, MapKept.run_setObj_map _ hb, Sem.run_pure, Nat.sub_zero]
      rfl
    · simp only [entC, relL, Array.toList_modify]
      refine ⟨by simp [rel, goInt, hclk], ?_⟩
      have : es.toList.modify j (fun e => { e with key := a.eval key }) = es.toList := by
        apply List.ext_getElem?
        intro i
        rw [List.getElem?_modify]
        by_cases hi : j = i
        · subst hi
          rw [e1]
          simp only [if_true, Option.map_some, hu1, ← e4]
          rfl
        · simp [hi]
      rw [this]
      exact gy.2
    · simp [entR, rel, relL, e2, e3]
theorem x_entryStore (hT : X.ok) {t : TypeId} {m s z : Operand} {c kv : Nat} {ck : Chunk} {rest : List AV} {cl n : Int} {j : Nat} (ho : o.op = .entryStore t m s z) (hd : o.dst = none) (hm : evA st.fr m = .mp c kv) (hc : getO st.ch c = some ck) (hv : kv = ck.ver) (hk : ck.kind = .map)
    (hs : evA st.fr s = .v (.int .i64 n)) (hcl : ck.cells = .v (.int .i64 cl) :: rest) (hf : bornM rest n 0 = some j)
    (h : k (aW o st.fr [m, s, z] c ck { ck with cells := .v (.int .i64 cl) :: putM rest j (evA st.fr z) } .dead)) : ActN X o st k := by
  refine ActN.upd hc hk (fun vs ez ρ a w es clock cells g hvs hce gy hb => ?_) h
  have gmp := mp_addr (g m (by simp) |> fun h => hm ▸ h) hvs hv
  rw [← hce, hcl] at gy
  simp only [relL] at gy
  have gs := g s (by simp)
  rw [hs] at gs
  simp only [rel] at gs
  have gz := g z (by simp)
  obtain ⟨b1, b2⟩ := bornM_ok (p := fun e => (e.born : Int) == n) (fun e => rfl) es.toList rest 0 j gy.2 hf
  have b3 : es.findIdx? (fun e => (e.born : Int) == n) = some j := by
    have e : es = es.toList.toArray := by simp
    rw [e, List.findIdx?_toArray]
    simpa using b2
  have hrun : (Instr.entryStore t (a.eval m) (a.eval s) (a.eval z)).run X.P w = .ok () (setM w (ρ c).blk (es.modify j fun e => { e with val := a.eval z }) clock) := by
    simp only [Instr.entryStore, Sem.run_bind, Result.andThen_ok, gmp, MapKept.run_getObj_map hb, gs, asInt, asIntOf, Sem.run_pure, b3, MapKept.run_setObj_map _ hb]
    rfl
  refine ⟨undef, es.modify j fun e => { e with val := a.eval z }, clock, .inr ⟨by simp [execOp, ho, hrun], hd⟩, ?_, by simp [rel]⟩
  simp only [relL, Array.toList_modify]
  exact ⟨gy.1, putM_rel gz (fun e => { e with val := a.eval z }) (fun e => ⟨rfl, rfl⟩) _ _ _ gy.2 (fun _ _ => rfl)⟩

def delR (rest : List AV) : Option (Nat × AV × AV) → List AV
  | some (i, _, _) => delM rest i
  | none => rest
theorem x_delete (hT : X.ok) {t t2 kt et : TypeId} {m key : Operand} {c kv : Nat} {ck : Chunk} {kc rest : List AV} {cl : Int} {r : Option (Nat × AV × AV)} {y ykt : Ty} (ho : o.op = .call { callee := .builtin .delete, args := [m, key].toArray, argTypes := [t, t2].toArray }) (hm : evA st.fr m = .mp c kv) (hc : getO st.ch c = some ck) (hv : kv = ck.ver) (hk : ck.kind = .map)
    (hy : getO X.T t = some y) (hyd : y.d = .mp kt et) (hkt : getO X.T kt = some ykt) (hkd : keyD X.T kt (evA st.fr key) = some kc) (hch : chkC X.T 20 kt kc = true) (hcl : ck.cells = .v (.int .i64 cl) :: rest) (hf : findM X.T kt kc rest 0 = some r)
    (h : k (aW o st.fr [m, key] c ck { ck with cells := .v (.int .i64 cl) :: delR rest r } .dead)) : ActN X o st k := by
  refine ActN.upd hc hk (fun vs ez ρ a w es clock cells g hvs hce gy hb => ?_) h
  have gmp := mp_addr (g m (by simp) |> fun h => hm ▸ h) hvs hv
  rw [← hce, hcl] at gy
  simp only [relL] at gy
  obtain ⟨us, hu1, hu2⟩ := keyD_rel hkt hkd (g key (by simp))
  have hck := fun em => chkC_ok hT (w := w) em 20 kt kc hch us hu2 ykt hkt 10000 (by decide)
  obtain ⟨f1, f2⟩ := findKey_ok hT (w := w) hkt hu2 hch es.toList rest r gy.2 hf
  have hund := mp_und (hT t y hy) hyd
  have hcall : ∀ w', (Builtin.delete_ [t, t2].toArray o.type ([m, key].map a.eval).toArray).run X.P w = .ok (.tuple #[]) w' → (execOp a.eval o).run X.P w = .ok (.value (.tuple #[])) w' := fun w' hw =>
    bcall ho (fun _ => rfl) hw
  cases r with
  | none =>
    refine ⟨.tuple #[], es, clock, .inl (hcall _ ?_), ?_, by simp [rel]⟩
    · simp only [Builtin.delete_, List.map_cons, List.map_nil, List.getElem?_toArray, List.getElem?_cons_zero, List.getElem?_cons_succ, Sem.run_bind, run_underlying hund, Result.andThen_ok, gmp, MapKept.run_getObj_map hb, hu1, hck, f1, atM, MapKept.run_setObj_map _ hb, Sem.run_pure]
      rfl
    · simp only [delR, relL]
      exact gy
  | some r =>
    obtain ⟨j, v, b⟩ := r
    obtain ⟨e, e1, _⟩ := f2 j v b rfl
    have hj : j < es.size := by
      rcases Nat.lt_or_ge j es.size with h1 | h1
      · exact h1
      · rw [List.getElem?_eq_none (by simpa using h1)] at e1; cases e1
    refine ⟨.tuple #[], es.eraseIdx j hj, clock, .inl (hcall _ ?_), ?_, by simp [rel]⟩
    · simp only [Builtin.delete_, List.map_cons, List.map_nil, List.getElem?_toArray, List.getElem?_cons_zero, List.getElem?_cons_succ, Sem.run_bind, run_underlying hund, Result.andThen_ok, gmp, MapKept.run_getObj_map hb, hu1, hck, f1, atM, MapKept.run_setObj_map _ hb, Sem.run_pure, Array.eraseIdxIfInBounds, dif_pos hj]
      rfl
    · simp only [delR, relL, Array.toList_eraseIdx]
      exact ⟨gy.1, delM_rel _ _ _ gy.2⟩
def lenM : List AV → Nat → Option Nat
  | [], n => some n
  | _ :: _ :: _ :: r, n => lenM r (n + 1)
  | _, _ => none
theorem lenM_ok {vs ez ρ} : ∀ (es : List MapEntry) (cells : List AV) (n m : Nat), relL vs ez ρ cells (mapCells es) → lenM cells n = some m → m = n + es.length
  | [], cells, n, m, h, hl => by
    cases cells with
    | nil => simp [lenM] at hl; simp [hl]
    | cons _ _ => simp [mapCells, relL] at h
  | e :: es, cells, n, m, h, hl => by
    match cells, h, hl with
    | k :: v :: b :: rest, h, hl =>
      simp only [mapCells, relL] at h
      simp only [lenM] at hl
      rw [lenM_ok es rest (n + 1) m h.2.2.2 hl]
      simp; omega
    | [], h, _ => simp [mapCells, relL] at h
    | [_], h, _ => simp [mapCells, relL] at h
    | [_, _], h, _ => simp [mapCells, relL] at h
theorem x_len_map (hT : X.ok) {t kt et : TypeId} {m : Operand} {c kv n : Nat} {ck : Chunk} {rest : List AV} {cl : AV} {y : Ty} (ho : o.op = .call { callee := .builtin .len, args := [m].toArray, argTypes := [t].toArray }) (hm : evA st.fr m = .mp c kv) (hc : getO st.ch c = some ck) (hv : kv = ck.ver) (hk : ck.kind = .map)
    (hy : getO X.T t = some y) (hyd : y.d = .mp kt et) (hcl : ck.cells = cl :: rest) (hn : lenM rest 0 = some n) (h : k (aR o st.fr [m] c ck (.v (.int .i64 n)))) : ActN X o st k := by
  refine ActN.r hc (fun vs ez ρ a w ys g hvs _ gy gm => ?_) h
  have gmp := mp_addr (g m (by simp) |> fun h => hm ▸ h) hvs hv
  obtain ⟨es, clock, hb, hys⟩ := mp_mem hk gm
  rw [hcl, hys] at gy
  simp only [relL] at gy
  have hund := mp_und (hT t y hy) hyd
  have hl := lenM_ok _ _ _ _ gy.2 hn
  refine ⟨.int .i64 n, bcall ho (fun _ => rfl) (s := Builtin.len_ [t].toArray o.type ([m].map a.eval).toArray) ?_, by simp [rel]⟩
  simp [Builtin.len_, run_underlying hund, gmp, MapKept.run_getObj_map hb, goInt, hl]
end
def isMapK : CK → Bool
  | .map => true
  | _ => false
theorem isMapK_eq {c : CK} (h : isMapK c = true) : c = .map := by cases c <;> first | rfl | cases h
section
variable {R : Type} (M : NA R) (T : List (Option Ty)) (o : Oper) (st : St) (k : Actn → R)
def mpK (t : TypeId) (m key : Operand) (kk : Nat → Chunk → Int → List AV → AV → AV → Option (Nat × AV × AV) → R) (els : R) : R := evK st.fr m fun a => match a with
  | .mp c kv => match getO T t with
    | some y => match y.d with
      | .mp kt et => match getO T kt, getO T et, getO st.ch c with
        | some _, some ye, some ck => chk M (isMapK ck.kind && Nat.beq kv ck.ver) (evK st.fr key fun b => match keyD T kt b with
          | some kc => chk M (chkC T 20 kt kc) (match ck.cells with
            | cl :: rest => match intA cl with
              | some n => match findM T kt kc rest 0 with
                | some r => kk c ck n rest b (.v (mkVal ye ye.zero)) r
                | none => M.no
              | none => M.no
            | [] => M.no)
          | none => M.no)
        | _, _, _ => M.no
      | _ => M.no
    | none => M.no
  | _ => els
def putMK : List AV → Nat → AV → (List AV → R) → R
  | k1 :: _ :: b :: r, 0, a, k => k (k1 :: a :: b :: r)
  | k1 :: v :: b :: r, i + 1, a, k => putMK r i a fun r => k (k1 :: v :: b :: r)
  | l, _, _, k => k l
theorem putMK_eq {R : Type} : ∀ (l : List AV) (i : Nat) (a : AV) (k : List AV → R), putMK l i a k = k (putM l i a)
  | k1 :: v1 :: b :: r, 0, a, k => rfl
  | k1 :: v :: b :: r, i + 1, a, k => by simp only [putMK, putM]; rw [putMK_eq r i a]
  | [], i, a, k => by cases i <;> rfl
  | [_], i, a, k => by cases i <;> rfl
  | [_, _], i, a, k => by cases i <;> rfl
def delMK : List AV → Nat → (List AV → R) → R
  | _ :: _ :: _ :: r, 0, k => k r
  | k1 :: v :: b :: r, i + 1, k => delMK r i fun r => k (k1 :: v :: b :: r)
  | l, _, k => k l
theorem delMK_eq {R : Type} : ∀ (l : List AV) (i : Nat) (k : List AV → R), delMK l i k = k (delM l i)
  | k1 :: v1 :: b :: r, 0, k => rfl
  | k1 :: v :: b :: r, i + 1, k => by simp only [delMK, delM]; rw [delMK_eq r i]
  | [], i, k => by cases i <;> rfl
  | [_], i, k => by cases i <;> rfl
  | [_, _], i, k => by cases i <;> rfl
def xMap (els : R) : R :=
  match o.op with
  | .makeMap t none => match o.dst with
    | some d => M.ix d st.ch fun d => match getO st.ch d with
      | none => k (aN o st.fr [] d ⟨.map, t, 0, 0, [.v (.int .i64 0)]⟩ (.mp d 0))
      | some _ => M.no
    | none => M.no
  | .lookup t m key ok => mpK M T st t m key (fun c ck n rest b z r => match r with
      | some (_, v, _) => match ok with
        | true => k (aR o st.fr [m, key] c ck (.tup [v, .v (.bool true)]))
        | false => k (aR o st.fr [m, key] c ck v)
      | none => match ok with
        | true => k (aR o st.fr [m, key] c ck (.tup [z, .v (.bool false)]))
        | false => k (aR o st.fr [m, key] c ck z)) els
  | .mapUpdate t m key z => match o.dst with
    | none => mpK M T st t m key (fun c ck n rest b _ r => evK st.fr z fun a => match r with
      | some (i, _, _) => putMK rest i a fun l => withC ck (.v (.int .i64 n) :: l) fun ck' => k (aW o st.fr [m, key, z] c ck ck' .dead)
      | none => catK rest [b, a, .v (.int .i64 n)] fun l => M.int (n + 1) fun n1 => withC ck (.v (.int .i64 n1) :: l) fun ck' => k (aW o st.fr [m, key, z] c ck ck' .dead)) els
    | some _ => M.no
  | .insert t m key z => match o.dst with
    | none => mpK M T st t m key (fun c ck n rest b _ r => evK st.fr z fun a => match r with
      | some (i, _, _) => putMK rest i a fun l => withC ck (.v (.int .i64 n) :: l) fun ck' => k (aW o st.fr [m, key, z] c ck ck' .dead)
      | none => catK rest [b, a, .v (.int .i64 n)] fun l => M.int (n + 1) fun n1 => withC ck (.v (.int .i64 n1) :: l) fun ck' => k (aW o st.fr [m, key, z] c ck ck' .dead)) els
    | some _ => M.no
  | .mapEntry t m key => mpK M T st t m key (fun c ck n rest b z r => match r with
      | some (_, v, i) => withC ck (.v (.int .i64 n) :: rest) fun ck' => k (aW o st.fr [m, key] c ck ck' (.tup [v, i]))
      | none => catK rest [b, z, .v (.int .i64 n)] fun l => M.int (n + 1) fun n1 => withC ck (.v (.int .i64 n1) :: l) fun ck' => k (aW o st.fr [m, key] c ck ck' (.tup [z, .v (.int .i64 n)]))) els
  | .entryStore t m s z => evK st.fr m fun a => match a with
    | .mp c kv => match o.dst, getO st.ch c, intA (evA st.fr s) with
      | none, some ck, some n => chk M (isMapK ck.kind && Nat.beq kv ck.ver) (match ck.cells with
        | cl :: rest => match intA cl with
          | some nc => match bornM rest n 0 with
            | some j => evK st.fr z fun b => putMK rest j b fun l => withC ck (.v (.int .i64 nc) :: l) fun ck' => k (aW o st.fr [m, s, z] c ck ck' .dead)
            | none => M.no
          | none => M.no
        | [] => M.no)
      | _, _, _ => M.no
    | _ => els
  | .call { callee := .builtin .delete, args, argTypes } => match args.toList, argTypes.toList with
    | [m, key], [t, _] => mpK M T st t m key (fun c ck n rest b z r => match r with
      | some (i, _, _) => delMK rest i fun l => withC ck (.v (.int .i64 n) :: l) fun ck' => k (aW o st.fr [m, key] c ck ck' .dead)
      | none => withC ck (.v (.int .i64 n) :: rest) fun ck' => k (aW o st.fr [m, key] c ck ck' .dead)) els
    | _, _ => els
  | .call { callee := .builtin .len, args, argTypes } => match args.toList, argTypes.toList with
    | [m], [t] => evK st.fr m fun a => match a with
      | .mp c kv => match getO T t, getO st.ch c with
        | some y, some ck => match y.d with
          | .mp _ _ => chk M (isMapK ck.kind && Nat.beq kv ck.ver) (match ck.cells with
            | _ :: rest => match lenM rest 0 with
              | some n => M.nat n fun n => k (aR o st.fr [m] c ck (.v (.int .i64 n)))
              | none => M.no
            | [] => M.no)
          | _ => M.no
        | _, _ => M.no
      | _ => els
    | _, _ => els
  | .binOp op t x z _ => evK st.fr x fun a => match a with
    | .v (.slice a _ _) => evK st.fr z fun b => match b with
      | .v (.slice none _ _) => chk M (eqlike op && tyIs T t isSlD) (k (aP o st.fr [x, z] (.v (.bool (eqR op a.isNone)))))
      | _ => els
    | _ => els
  | _ => els
end
section
variable {R : Type} {M : NA R} {H : R → Prop} {X : Ctx} {o : Oper} {st : St} {k : Actn → R}
theorem mpK_ok (hM : M.Ok H X) {t : TypeId} {m key : Operand} {kk : Nat → Chunk → Int → List AV → AV → AV → Option (Nat × AV × AV) → R} {els : R} (h : H (mpK M X.T st t m key kk els)) :
    H els ∨ ∃ c kv ck y kt et ykt ye kc n rest r, evA st.fr m = .mp c kv ∧ getO st.ch c = some ck ∧ kv = ck.ver ∧ ck.kind = .map ∧ getO X.T t = some y ∧ y.d = .mp kt et ∧ getO X.T kt = some ykt ∧ getO X.T et = some ye ∧ keyD X.T kt (evA st.fr key) = some kc ∧ chkC X.T 20 kt kc = true ∧ ck.cells = .v (.int .i64 n) :: rest ∧ findM X.T kt kc rest 0 = some r ∧ H (kk c ck n rest (evA st.fr key) (.v (mkVal ye ye.zero)) r) := by
  unfold mpK at h
  rw [evK_eq] at h
  split at h
  · rename_i c kv hm
    split at h
    · rename_i y hy
      split at h
      · rename_i kt et hyd
        split at h
        · rename_i ykt ye ck hkt het hc
          obtain ⟨h1, h⟩ := chk_eq hM h
          simp only [Bool.and_eq_true] at h1
          rw [evK_eq] at h
          split at h
          · rename_i kc hkd
            obtain ⟨h2, h⟩ := chk_eq hM h
            split at h
            · rename_i cl rest hcl
              split at h
              · rename_i n hn
                split at h
                · rename_i r hr
                  rw [intA_eq hn] at hcl
                  exact .inr ⟨c, kv, ck, y, kt, et, ykt, ye, kc, n, rest, r, hm, hc, Nat.eq_of_beq_eq_true h1.2, isMapK_eq h1.1, hy, hyd, hkt, het, hkd, h2, hcl, hr, h⟩
                · exact (hM.no h).elim
              · exact (hM.no h).elim
            · exact (hM.no h).elim
          · exact (hM.no h).elim
        · exact (hM.no h).elim
      · exact (hM.no h).elim
    · exact (hM.no h).elim
  · exact .inl h
theorem xMapU_ok (hM : M.Ok H X) (hT : X.ok) {t : TypeId} {m key z : Operand} (ho : o.op = .mapUpdate t m key z ∨ o.op = .insert t m key z) (hd : o.dst = none) {els : R} (hels : H els → ActN X o st fun A => H (k A))
    (h : H (mpK M X.T st t m key (fun c ck n rest b _ r => evK st.fr z fun a => match r with
      | some (i, _, _) => putMK rest i a fun l => withC ck (.v (.int .i64 n) :: l) fun ck' => k (aW o st.fr [m, key, z] c ck ck' .dead)
      | none => catK rest [b, a, .v (.int .i64 n)] fun l => M.int (n + 1) fun n1 => withC ck (.v (.int .i64 n1) :: l) fun ck' => k (aW o st.fr [m, key, z] c ck ck' .dead)) els)) : ActN X o st fun A => H (k A) := by
  rcases mpK_ok hM h with h | ⟨c, kv, ck, y, kt, et, ykt, ye, kc, n, rest, r, h1, h2, h3, h4, h5, h6, h7, h8, h9, h10, h11, h12, h⟩
  · exact hels h
  · refine x_mapUpdate hT ho hd h1 h2 h3 h4 h5 h6 h7 h9 h10 h11 h12 ?_
    rw [evK_eq] at h
    cases r with
    | none =>
      simp only [catK_eq] at h
      have h := hM.int h
      rw [withC_eq] at h
      simpa [storeM, snoc_eq] using h
    | some r =>
      obtain ⟨i, v, b⟩ := r
      simp only [putMK_eq, withC_eq] at h
      simpa [storeM] using h
theorem xMap_ok (hM : M.Ok H X) (hT : X.ok) {els : R} (hels : H els → ActN X o st fun A => H (k A)) (h : H (xMap M X.T o st k els)) : ActN X o st fun A => H (k A) := by
  unfold xMap at h
  split at h
  · rename_i t ho
    split at h
    · rename_i d0 hd
      obtain ⟨d, h⟩ := hM.ix h
      split at h
      · rename_i hc
        exact x_makeMap ho hc h
      · exact (hM.no h).elim
    · exact (hM.no h).elim
  · rename_i t m key ok ho
    rcases mpK_ok hM h with h | ⟨c, kv, ck, y, kt, et, ykt, ye, kc, n, rest, r, h1, h2, h3, h4, h5, h6, h7, h8, h9, h10, h11, h12, h⟩
    · exact hels h
    · refine x_lookup hT ho h1 h2 h3 h4 h5 h6 h7 h8 h9 h10 h11 h12 ?_
      cases r with
      | none => cases ok <;> exact h
      | some r => cases ok <;> exact h
  · rename_i t m key z ho
    split at h
    · rename_i hd
      exact xMapU_ok hM hT (.inl ho) hd hels h
    · exact (hM.no h).elim
  · rename_i t m key z ho
    split at h
    · rename_i hd
      exact xMapU_ok hM hT (.inr ho) hd hels h
    · exact (hM.no h).elim
  · rename_i t m key ho
    rcases mpK_ok hM h with h | ⟨c, kv, ck, y, kt, et, ykt, ye, kc, n, rest, r, h1, h2, h3, h4, h5, h6, h7, h8, h9, h10, h11, h12, h⟩
    · exact hels h
    · refine x_mapEntry hT ho h1 h2 h3 h4 h5 h6 h7 h8 h9 h10 h11 h12 ?_
      cases r with
      | none =>
        simp only [catK_eq] at h
        have h := hM.int h
        rw [withC_eq] at h
        simpa [entC, entR, snoc_eq] using h
      | some r =>
        obtain ⟨i, v, b⟩ := r
        simp only [withC_eq] at h
        simpa [entC, entR] using h
  · rename_i t m s z ho
    rw [evK_eq] at h
    split at h
    · rename_i c kv hm
      split at h
      · rename_i ck n hd hc hs
        obtain ⟨h1, h⟩ := chk_eq hM h
        simp only [Bool.and_eq_true] at h1
        split at h
        · rename_i cl rest hcl
          split at h
          · rename_i nc hnc
            split at h
            · rename_i j hj
              rw [intA_eq hnc] at hcl
              rw [evK_eq, putMK_eq, withC_eq] at h
              exact x_entryStore hT ho hd hm hc (Nat.eq_of_beq_eq_true h1.2) (isMapK_eq h1.1) (intA_eq hs) hcl hj h
            · exact (hM.no h).elim
          · exact (hM.no h).elim
        · exact (hM.no h).elim
      · exact (hM.no h).elim
    · exact hels h
  · rename_i args ts ho
    split at h
    · rename_i m key t t2 ha hts
      have ho' : o.op = .call { callee := .builtin .delete, args := [m, key].toArray, argTypes := [t, t2].toArray } := by
        rw [ho, ← ha]
        congr 2
        exact congrArg List.toArray hts
      rcases mpK_ok hM h with h | ⟨c, kv, ck, y, kt, et, ykt, ye, kc, n, rest, r, h1, h2, h3, h4, h5, h6, h7, h8, h9, h10, h11, h12, h⟩
      · exact hels h
      · refine x_delete hT ho' h1 h2 h3 h4 h5 h6 h7 h9 h10 h11 h12 ?_
        cases r with
        | none =>
          simp only [withC_eq] at h
          simpa [delR] using h
        | some r =>
          obtain ⟨i, v, b⟩ := r
          simp only [delMK_eq, withC_eq] at h
          simpa [delR] using h
    · exact hels h
  · rename_i args ts ho
    split at h
    · rename_i m t ha hts
      have ho' : o.op = .call { callee := .builtin .len, args := [m].toArray, argTypes := [t].toArray } := by
        rw [ho, ← ha]
        congr 2
        exact congrArg List.toArray hts
      rw [evK_eq] at h
      split at h
      · rename_i c kv hm
        split at h
        · rename_i y ck hy hc
          split at h
          · rename_i kt et hyd
            obtain ⟨h1, h⟩ := chk_eq hM h
            simp only [Bool.and_eq_true] at h1
            split at h
            · rename_i cl rest hcl
              split at h
              · rename_i n hn
                have h := hM.nat h
                exact x_len_map hT ho' hm hc (Nat.eq_of_beq_eq_true h1.2) (isMapK_eq h1.1) hy hyd hcl hn h
              · exact (hM.no h).elim
            · exact (hM.no h).elim
          · exact (hM.no h).elim
        · exact (hM.no h).elim
      · exact hels h
    · exact hels h
  · rename_i op t x z ty ho
    rw [evK_eq] at h
    split at h
    · rename_i a n c hx
      rw [evK_eq] at h
      split at h
      · rename_i n' c' hz
        obtain ⟨h1, h⟩ := chk_eq hM h
        simp only [Bool.and_eq_true] at h1
        obtain ⟨y, hy, hyd⟩ := tyIs_eq h1.2
        obtain ⟨e, hyd⟩ := isSlD_eq hyd
        exact x_eq_sl_nil hT op (eqlike_eq h1.1) ho hx hz hy hyd h
      · exact hels h
    · exact hels h
  · exact hels h
end
end Go.SX
set_option linter.unusedSimpArgs false
set_option linter.unusedVariables false
namespace Go.SX
theorem XS_okT {R : Type} {M : NA R} {H : R → Prop} {X : Ctx} {all : List Oper} (hM : M.Ok H X) (hT : X.ok) (tail : List Oper) : ∀ (rest : List Oper) (i : Nat) (st : St) (K : St → R), H (XS M X.T all i rest st K) → ∃ stF, H (K stF) ∧ ∀ (Q : Exit → Act → World → Prop) E a w ρ, Rel X E st a w ρ →
    (∀ a' w' ρ', Rel X E stF a' w' ρ' → wpListIn (wideR E.rd) 0 X.P all.toArray Q tail a' w') → wpListIn (wideR E.rd) 0 X.P all.toArray Q (rest ++ tail) a w
  | [], _, st, K, h => ⟨st, h, fun Q E a w ρ hr hq => hq a w ρ hr⟩
  | o :: rest, i, st, K, h => by
    have run : H (xop M X.T o st fun A => brA M (isG i all) A fun A => appK A st fun st' => XS M X.T all (i + 1) rest st' K) → ∃ stF, H (K stF) ∧ ∀ (Q : Exit → Act → World → Prop) E a w ρ, Rel X E st a w ρ →
        (∀ a' w' ρ', Rel X E stF a' w' ρ' → wpListIn (wideR E.rd) 0 X.P all.toArray Q tail a' w') → o.wpIn (wideR E.rd) 0 X.P a w (wpListIn (wideR E.rd) 0 X.P all.toArray Q (rest ++ tail)) Q := by
      intro h
      obtain ⟨A, h1, h2, h3⟩ := xop_ok hM hT h
      have h4 := brA_eq hM h3
      rw [appK_eq] at h4
      obtain ⟨stF, h5, h6⟩ := XS_okT hM hT tail rest _ _ K h4
      exact ⟨stF, h5, fun Q E a w ρ hr hq => h1.run st E a w ρ h2 hr _ _ fun a' w' ρ' hr' => h6 Q E a' w' ρ' hr' hq⟩
    simp only [XS] at h
    rw [List.cons_append]
    cases hg : o.guard with
    | none =>
      simp only [hg] at h
      obtain ⟨stF, h5, h6⟩ := run h
      exact ⟨stF, h5, fun Q E a w ρ hr hq => wpList_run (by simp [Region.wanted, hg]) (h6 Q E a w ρ hr hq)⟩
    | some jw =>
      obtain ⟨j, want⟩ := jw
      simp only [hg] at h
      obtain ⟨oj, d, hj, hd, ⟨b, hb, h⟩ | ⟨l, hb, h⟩⟩ := gval_ok hM h
      rotate_left
      · rw [appK_eq] at h
        obtain ⟨stF, h5, h6⟩ := XS_okT hM hT tail rest _ _ K h
        refine ⟨stF, h5, fun Q E a w ρ hr hq => ?_⟩
        have hw := wanted_tup hr hg hj hd hb
        unfold wpListIn
        rw [if_neg (by rw [hw]; simp)]
        exact ⟨fun _ _ => trivial, h6 Q E _ w ρ (rel_undef hr o []) hq⟩
      cases he : beqB b want with
      | true =>
        simp only [he] at h
        have e := beqB_eq he
        obtain ⟨stF, h5, h6⟩ := run h
        exact ⟨stF, h5, fun Q E a w ρ hr hq => wpList_run (by rw [wanted_of hr hg hj hd hb, e]; simp) (h6 Q E a w ρ hr hq)⟩
      | false =>
        simp only [he] at h
        have e := beqB_ne he
        rw [appK_eq] at h
        obtain ⟨stF, h5, h6⟩ := XS_okT hM hT tail rest _ _ K h
        refine ⟨stF, h5, fun Q E a w ρ hr hq => ?_⟩
        have hw := wanted_of hr hg hj hd hb
        unfold wpListIn
        rw [if_neg (by rw [hw]; simpa using e)]
        exact ⟨fun _ _ => trivial, h6 Q E _ w ρ (rel_undef hr o []) hq⟩
structure Quiet (P : Program) (f : FuncId) : Prop where
  has : Has P f
  run : ∀ (args : Array Value) (w : World), args.size = 2 → CallsD P f args .returning w fun e u w' => (∃ v, e = .returned v) ∧ u = .returning ∧ Mod w w' fun _ => False
theorem relL_deadN {vs ez ρ} : ∀ (l : List Value), relL vs ez ρ (List.replicate l.length .dead) l
  | [] => by simp [relL]
  | x :: l => by
    simp only [List.length_cons, List.replicate_succ, relL]
    exact ⟨by simp [rel], relL_deadN l⟩
theorem Rel.grow {X : Ctx} {E : Env X} {st : St} {a : Act} {w w' : World} {ρ : Nat → Loc} (h : Rel X E st a w ρ) (hm : Mod w w' fun _ => False) : Rel X E st a w' ρ := ⟨h.fr, h.df, h.heap.grow hm, h.gh⟩
structure BodyOk (X : Ctx) (fn : Func) (c : Code) (ch1 : List (Option Chunk)) (r : AV) (st : St) : Prop where
  out : ∀ (E : Env X), E.ds = [] ∧ E.rd = none → ∀ a w ρ, Rel X E st a w ρ → ∀ R : Ending → World → Prop, (∀ v s w' ρ', s.ch = ch1 → rel s.vs s.ez ρ' r v → Heap E.w0 E.O s w' ρ' → Up E.b.vs s.vs E.b.ez s.ez E.b.ρ ρ' → R (.returned v) w') → c.wp X.P (bodyPostD X.P fn R) a w
def Env.put {X : Ctx} (E : Env X) (ds : List Deferred) : Env X := ⟨E.w0, E.O, E.b, E.inv, ds, E.rd⟩
section
variable {X : Ctx} {o : Oper} {st : St} {k : Actn → Prop}
theorem x_inlD (hT : X.ok) {f : FuncId} {fn : Func} {c : Code} {cal : Operand} {xs : List Operand} {ts : Array TypeId} {cap : List AV} {ch0 chK ch1 : List (Option Chunk)} {r : AV} {n : Nat} (ho : o.op = .call { callee := .value cal, args := xs.toArray, argTypes := ts })
    (hcal : calleeA (evA st.fr cal) = some (f, cap)) (hf : X.P.funcs[f]? = some fn) (hnm : (fn.name == "runtime.NumGoroutine") = false) (hb : fn.body = some c)
    (hn : ∀ c k, getO ch0 c = some k → c < n) (hp : Part st.ch ch0) (ha : refsInL ch0 (xs.map (evA st.fr) ++ cap) = true)
    (h : BodyOk ⟨X.P, X.T, n, X.I⟩ fn c ch1 r ⟨(xs.map (evA st.fr) ++ cap) ++ List.replicate (fn.ntmps - (xs.map (evA st.fr) ++ cap).length) .dead, ch0⟩)
    (hI : Inl st.ch ch0 chK ch1 r) (hk : k (aI o st.fr (cal :: xs) ch0 chK r)) : ActN X o st k := by
  have hh : Has X.P f := ⟨fn, hf, hnm, by simp [hb]⟩
  refine ⟨_, LS.call rfl fun st' E a w ρ hfit hr => ?_, ⟨rds_fits st.fr st.ch (cal :: xs), ?_⟩, hk⟩
  · have hc0 : ∀ c k, getO ch0 c = some k → getO st'.ch c = some k := fun c k hk => hfit.c c (some k) (List.mem_append_left _ (in0_mem.2 ⟨Nat.zero_le _, k, by simpa using hk, rfl⟩))
    have hp' : Part st'.ch ch0 := ⟨hc0, hp.cl⟩
    have hI' : Inl st'.ch ch0 chK ch1 r := by
      refine ⟨hI.sub, hI.keep, hI.own, fun c k hk h0 => ?_, hI.refs, hI.cells⟩
      have hx : hasO ch0 c = false := by
        cases hx : hasO ch0 c with
        | false => rfl
        | true =>
          obtain ⟨k', hk'⟩ := hasO_eq.1 hx
          rw [h0] at hk'
          cases hk'
      exact hfit.c c none (List.mem_append_right _ (inN_mem.2 ⟨Nat.zero_le _, ⟨k, by simpa using hk⟩, hx, rfl⟩))
    have hev : ∀ x, x ∈ cal :: xs → evA st'.fr x = evA st.fr x := fun x hx => fits_ev hfit (fr := st.fr) (x := x) (rds_mem hx)
    have hcv := hr.ev cal
    rw [hev cal (by simp)] at hcv
    obtain ⟨cs, g1, g2⟩ := callee_run (w := w) hcal hcv hh ho rfl
    have hargs : relL st'.vs st'.ez ρ (xs.map (evA st.fr) ++ cap) (xs.map a.eval ++ cs) := by
      refine relL_append _ _ _ _ ?_ g1
      have : ∀ l : List Operand, (∀ x, x ∈ l → x ∈ cal :: xs) → relL st'.vs st'.ez ρ (l.map (evA st.fr)) (l.map a.eval) := by
        intro l
        induction l with
        | nil => intro _; simp [relL]
        | cons x l ih =>
          intro hl
          simp only [List.map_cons, relL]
          refine ⟨?_, ih fun y hy => hl y (List.mem_cons_of_mem _ hy)⟩
          rw [← hev x (hl x (by simp))]
          exact hr.ev x
      exact this xs fun x hx => List.mem_cons_of_mem _ hx
    refine ⟨f, _, g2, ?_⟩
    have key : ∀ c, hasO ch0 c = true → (St.mk ((xs.map (evA st.fr) ++ cap) ++ List.replicate (fn.ntmps - (xs.map (evA st.fr) ++ cap).length) .dead) ch0).vs c = st'.vs c ∧ (St.mk ((xs.map (evA st.fr) ++ cap) ++ List.replicate (fn.ntmps - (xs.map (evA st.fr) ++ cap).length) .dead) ch0).ez c = st'.ez c ∧ ρ c = ρ c := by
      intro c hc
      obtain ⟨k, hk⟩ := hasO_eq.1 hc
      have := hc0 c k hk
      simp [St.vs, St.ez, hk, this]
    have hargs' := relL_in key _ _ ha hargs
    have hlen := relL_len _ _ hargs
    have hdead : ∀ (vs : Nat → Option Nat) (ez : Nat → Nat) (n : Nat), relL vs ez ρ (List.replicate n .dead) (List.replicate n undef) := by
      intro vs ez n
      induction n with
      | zero => simp [relL]
      | succ n ih => simp only [List.replicate_succ, relL]; exact ⟨by simp [rel], ih⟩
    have hinv : ∀ w', Mod w w' (partO ch0 ρ) → X.I w' := fun w' hm => E.inv w' (hr.heap.mod.trans hm fun b ⟨c, k, h1, h2, h3⟩ => hr.heap.own c k b (hc0 c k h1) h2 h3)
    have hC : Calls X.P f (xs.map a.eval ++ cs).toArray w (fun e w' => ∃ v s ρ', e = .returned v ∧ s.ch = ch1 ∧ rel s.vs s.ez ρ' r v ∧ Heap w (partO ch0 ρ) s w' ρ' ∧ Up (partB ch0 ρ n hn).vs s.vs (partB ch0 ρ n hn).ez s.ez ρ ρ') := by
     refine calls_of_wp_defers hf hb (h.out ⟨w, partO ch0 ρ, partB ch0 ρ n hn, hinv, [], none⟩ ⟨rfl, rfl⟩ _ w ρ ⟨?_, rfl, heap_part hr.heap hp' _, ?_⟩ _ fun v s w' ρ' q1 q2 q3 q4 => ⟨v, s, ρ', rfl, q1, q2, q3, q4⟩)
     · have := relL_append _ _ _ _ hargs' (hdead _ _ (fn.ntmps - (xs.map (evA st.fr) ++ cap).length))
       rw [hlen] at this ⊢
       simpa using this
     · exact Up.refl _ _ _
    refine hC.mono ?_
    · rintro e w' ⟨v, s, ρ', rfl, e1, e2, e3, e4⟩
      obtain ⟨fr1, chs⟩ := s
      simp only at e1
      subst e1
      obtain ⟨ρF, p1, p2, p3⟩ := heap_inl hr.heap hp' hn hI' e3 e4 e2 ((aI o st.fr (cal :: xs) ch0 chK r).app st').fr
      exact ⟨v, ρF, rfl, p1, p2, p3⟩
  · intro i q hq
    rcases List.mem_append.1 hq with hq | hq
    · obtain ⟨_, k, h1, rfl⟩ := in0_mem.1 hq
      exact hp.sub i k (by simpa using h1)
    · obtain ⟨_, ⟨k, h1⟩, h2, rfl⟩ := inN_mem.1 hq
      refine hI.new i k (by simpa using h1) ?_
      cases hx : getO ch0 i with
      | none => rfl
      | some k' => rw [hasO_eq.2 ⟨k', hx⟩] at h2; cases h2
end
theorem body_defer {X : Ctx} {fn : Func} {c0 c1 : Code} {id : Nat} {all pre : List Oper} {od : Oper} {cal : Operand} {ts : Array TypeId} {g : FuncId} {cap : List AV} {ch1 : List (Option Chunk)} {r : AV} {st s0 sF s1 : St} {e1 : Exit}
    (hall : all = pre ++ [od]) (hod : od.op = .defer { callee := .value cal, args := #[], argTypes := ts }) (hog : od.guard = none) (hodst : od.dst = none) (hc : calleeA (evA sF.fr cal) = some (g, cap)) (hcl : cap.length = 2) (hq : Quiet X.P g)
    (h0 : TR X c0 (fun e s => e = .normal ∧ s = s0) st)
    (hp : ∀ (Q : Exit → Act → World → Prop) E a w ρ, Rel X E s0 a w ρ → (∀ a' w' ρ', Rel X E sF a' w' ρ' → wpListIn (wideR E.rd) 0 X.P all.toArray Q [od] a' w') → wpListIn (wideR E.rd) 0 X.P all.toArray Q (pre ++ [od]) a w)
    (h1 : TR X c1 (fun e s => e = e1 ∧ s = s1) sF) (he1 : e1 = .normal ∨ e1 = .ret) (hch : s1.ch = ch1)
    (hres : ∀ E a w' ρ, Rel X E s1 a w' ρ → ∃ v, (results fn a.tmps).run X.P w' = .ok v w' ∧ rel s1.vs s1.ez ρ r v) : BodyOk X fn (.seq c0 (.seq (.region id all.toArray false) c1)) ch1 r st := by
  refine ⟨fun E hE a w ρ hr R hR => ?_⟩
  obtain ⟨Ew0, EO, Eb, Einv, Eds, Erd⟩ := E
  obtain ⟨rfl, rfl⟩ : Eds = [] ∧ Erd = none := hE
  refine wp_of_wide (wpIn_seq (wpIn_mono (h0.out _ a w ρ hr) ?_))
  rintro e a0 w0 ⟨s, ρ0, ⟨rfl, rfl⟩, hr0⟩
  refine wpIn_seq (wpIn_region_lit ?_)
  have key : wpListIn (wideR none) 0 X.P all.toArray (Exit.then (c1.wpIn (wideR none) 0 X.P (bodyPostD X.P fn R)) (bodyPostD X.P fn R)) (pre ++ [od]) a0 w0 := by
    refine hp _ _ a0 w0 ρ0 hr0 fun a2 w2 ρ2 hr2 => ?_
    refine wpList_run (by simp [Region.wanted, hog]) ?_
    -- the call that is put off
    have hcv := hr2.ev cal
    obtain ⟨cs, hcs, hev⟩ : ∃ cs : Array Value, cs.size = 2 ∧ a2.eval cal = .func (.func g) #[] cs := by
      unfold calleeA at hc
      split at hc
      · cases hc
        simp at hcl
      · rename_i f' cap' hfn
        cases hc
        rw [hfn] at hcv
        simp only [rel] at hcv
        obtain ⟨xs, h2, h3⟩ := hcv
        refine ⟨xs, ?_, h2⟩
        have := relL_len _ _ h3
        simp at this
        omega
      · cases hc
    have hx : (execOp a2.eval od).run X.P w2 = .ok (.defer { target := .fn (.func g) cs, args := #[] }) w2 := by
      simp [execOp, hod, resolve, hev, Deferred.ofValue]
    refine ⟨fun _ _ => trivial, ?_⟩
    rw [show Oper.semAt (wideR none).round a2.eval od = execOp a2.eval od from Oper.semAt_none _ _, hx, Oper.uponIn_defer, hodst]
    show wpListIn (wideR none) 0 X.P all.toArray _ [] { a2 with defers := _ } w2
    have hd2 : a2.defers = [] := hr2.df
    unfold wpListIn
    show c1.wpIn (wideR none) 0 X.P (bodyPostD X.P fn R) { a2 with defers := { target := .fn (.func g) cs, args := #[] } :: a2.defers } w2
    rw [hd2]
    have hr3 : Rel X (Env.put ⟨Ew0, EO, Eb, Einv, [], none⟩ [{ target := .fn (.func g) cs, args := #[] }]) sF { a2 with defers := [{ target := .fn (.func g) cs, args := #[] }] } w2 ρ2 := ⟨hr2.fr, rfl, hr2.heap, hr2.gh⟩
    refine wpIn_mono (h1.out _ _ w2 ρ2 hr3) ?_
    rintro e a3 w3 ⟨s, ρ3, ⟨rfl, rfl⟩, hr4⟩
    have fin : Leaves X.P fn a3.tmps R a3.defers .returning w3 := by
      have hd3 : a3.defers = [{ target := .fn (.func g) cs, args := #[] }] := hr4.df
      rw [hd3]
      refine leaves_cons (by simp) (f := g) (args := #[] ++ cs) (by simp only [invoke]; exact run_callFunc hq.has _ _) ?_
      refine (hq.run (#[] ++ cs) w3 (by simpa using hcs)).mono ?_
      rintro e' u' w4 ⟨⟨v, rfl⟩, rfl, hm⟩
      have hr5 := hr4.grow hm
      obtain ⟨u, q1, q2⟩ := hres _ a3 w4 ρ3 hr5
      exact ⟨u, q1, hR u s w4 ρ3 hch q2 hr5.heap hr5.gh⟩
    rcases he1 with rfl | rfl
    · exact fin
    · exact fin
  rw [hall] at key ⊢
  exact key
theorem quiet_take {P : Program} {T : List (Option Ty)} (hT : Ctx.ok ⟨P, T, 0, fun _ => True⟩) {f : FuncId} {fn : Func} {c1 : Code} {i0 : Nat} {o0 o1 : Oper} {ts : Array TypeId} (hf : P.funcs[f]? = some fn) (hnm : (fn.name == "runtime.NumGoroutine") = false)
    (hb : fn.body = some (.seq (.region i0 #[o0, o1] false) c1)) (h0 : o0.op = .call { callee := .builtin .recover, args := #[], argTypes := ts }) (g0 : o0.guard = none) (d0 : o0.dst = some 6) (h1 : o1.op = .assign (.tmp 6)) (g1 : o1.guard = none) (d1 : o1.dst = some 2) (hn : 8 ≤ fn.ntmps) (hr : fn.results = #[])
    (h : TR ⟨P, T, 0, fun _ => True⟩ c1 (fun e _ => e = .normal) ⟨setF (setF (List.replicate fn.ntmps .dead) 6 (.v .nilIface)) 2 (.v .nilIface), []⟩) : Quiet P f := by
  refine ⟨⟨fn, hf, hnm, by simp [hb]⟩, fun args w hs => callsD_of_wpS hf hb fun c₀ cs hu => wpS_seq (wpS_region ?_)⟩
  have hsz : (args ++ Array.replicate (fn.ntmps - args.size) undef).size = fn.ntmps := by simp; omega
  generalize args ++ Array.replicate (fn.ntmps - args.size) undef = tm at hsz
  have hx0 : ∀ a : Act, (execOp a.eval o0).run P w = .ok .recover w := fun a => by simp [execOp, h0, resolve, invoke, builtin]
  have hrec : recoverD (c₀ :: cs) = none := by simp [recoverD, hu]
  have hx1 : ∀ a : Act, (execOp a.eval o1).run P w = .ok (.value (a.eval (.tmp 6))) w := fun a => by simp [execOp, h1]
  show wpOpsS P #[o0, o1] _ [0, 1] _ _ _
  simp only [wpOpsS, List.getElem?_toArray, List.getElem?_cons_zero, List.getElem?_cons_succ, Region.wanted, g0, g1, if_true, hx0, hrec, hx1, Oper.upon_value, d0, d1, Act.put]
  simp only [Exit.thenS]
  have ev6 : Act.eval { tmps := tm.setIfInBounds 6 .nilIface, defers := [] } (.tmp 6) = .nilIface := by
    simp only [Act.eval]
    simp [Array.getD_eq_getD_getElem?, Array.getElem?_setIfInBounds, show 6 < tm.size by omega]
  rw [ev6]
  refine wpS_of_wp (wp_mono (wp_of_wide (h.out ⟨w, fun _ => False, Base.no 0, fun _ _ => trivial, [], none⟩ _ w (fun _ => ⟨0, 0, none, 0, fun _ => False⟩) ⟨?_, rfl, ?_, ?_⟩)) ?_)
  · have := relL_deadN (vs := St.vs ⟨setF (setF (List.replicate fn.ntmps .dead) 6 (.v .nilIface)) 2 (.v .nilIface), []⟩) (ez := St.ez ⟨setF (setF (List.replicate fn.ntmps .dead) 6 (.v .nilIface)) 2 (.v .nilIface), []⟩) (ρ := fun _ => ⟨0, 0, none, 0, fun _ => False⟩) tm.toList
    rw [show tm.toList.length = fn.ntmps by simpa using hsz] at this
    have h2 := relL_set _ _ 6 (.v .nilIface) .nilIface this (by simp [rel])
    have h3 := relL_set _ _ 2 (.v .nilIface) .nilIface h2 (by simp [rel])
    simpa using h3
  · refine ⟨fun c k hk => ?_, fun c k b hk => ?_, fun c k b hk => ?_, fun c k b hk => ?_, fun c k hk => ?_, fun c d k l b hk => ?_, Mod.refl _ _⟩ <;> simp [getO_nil] at hk
  · intro c v hv; cases hv
  · rintro e a' w' ⟨s, ρ', rfl, hr'⟩
    refine ⟨hr'.df, .returning, by rw [← hu], ?_⟩
    have hres : (results fn a'.tmps).run P w' = .ok (.tuple #[]) w' := by simp [results, hr]
    exact ⟨_, hres, ⟨_, rfl⟩, rfl, hr'.heap.mod⟩
def splitLast : List Oper → List Oper → Option (List Oper × Oper)
  | _, [] => none
  | acc, [o] => some (acc, o)
  | acc, o :: r => splitLast (acc ++ [o]) r
theorem splitLast_eq : ∀ (l acc pre : List Oper) (o : Oper), splitLast acc l = some (pre, o) → acc ++ l = pre ++ [o]
  | [], _, _, _, h => by simp [splitLast] at h
  | [x], acc, pre, o, h => by
    simp only [splitLast, Option.some.injEq, Prod.mk.injEq] at h
    rw [h.1, h.2]
  | x :: y :: r, acc, pre, o, h => by
    simp only [splitLast] at h
    have := splitLast_eq (y :: r) (acc ++ [x]) pre o h
    simpa using this
structure DPat where
  c0 : Code
  id : Nat
  all : List Oper
  pre : List Oper
  od : Oper
  cal : Operand
  ts : Array TypeId
  c1 : Code
def dpat : Code → Option DPat
  | .seq c0 (.seq (.region id ops false) c1) => match splitLast [] ops.toList with
    | some (pre, od) => match od.op, od.guard, od.dst with
      | .defer { callee := .value cal, args, argTypes }, none, none => match args.toList with
        | [] => some ⟨c0, id, ops.toList, pre, od, cal, argTypes, c1⟩
        | _ => none
      | _, _, _ => none
    | none => none
  | _ => none
theorem dpat_eq {c : Code} {p : DPat} (h : dpat c = some p) : c = .seq p.c0 (.seq (.region p.id p.all.toArray false) p.c1) ∧ p.all = p.pre ++ [p.od] ∧ p.od.op = .defer { callee := .value p.cal, args := #[], argTypes := p.ts } ∧ p.od.guard = none ∧ p.od.dst = none := by
  unfold dpat at h
  split at h
  · rename_i c0 id ops c1
    split at h
    · rename_i pre od hs
      have e := splitLast_eq _ _ _ _ hs
      split at h
      · rename_i cal args ts ho hg hd
        split at h
        · rename_i ha
          cases h
          have ha2 : args = #[] := by
            have := congrArg List.toArray ha
            simpa using this
          subst ha2
          exact ⟨by simp, by simpa using e, ho, hg, hd⟩
        · cases h
      · cases h
    · cases h
  · cases h
def inlD {R : Type} (M : NA R) (Kd : Nat → Bool) (Kt : Nat → Option KSpec) (F : Nat → Option Func) (T : List (Option Ty)) (N : Nat) (o : Oper) (st : St) (cal : Operand) (xs : List Operand) (k : Actn → R) : R :=
  evK st.fr cal fun fv => match calleeA fv with
    | none => M.no
    | some (f, cap) => evLK st.fr xs fun as => catK as cap fun args => match (match Kt f with | some sp => sp args st.ch | none => none) with
      | some (cin, r) => k ⟨rds st.fr (cal :: xs), cin, o.dst, r, []⟩
      | none => match F f with
      | none => M.no
      | some fn => match fn.body with
        | none => M.no
        | some c => chk M (!(fn.name == "runtime.NumGoroutine")) (lenK st.ch 0 fun n =>
          blankK st.ch fun b => reachK M st.ch 1000000 (refsAL args []) b fun ch0 => chk M (refsInC ch0 ch0 && refsInL ch0 args) (
          padK args fn.ntmps fun fr => match dpat c with
            | none => XC M T N c ⟨fr, ch0⟩ fun e s => match e with
              | .normal => resK M T s fn.results.toList fun r => endI M st.ch ch0 s.ch n r fun chK => k (aI o st.fr (cal :: xs) ch0 chK r)
              | .ret => resK M T s fn.results.toList fun r => endI M st.ch ch0 s.ch n r fun chK => k (aI o st.fr (cal :: xs) ch0 chK r)
              | _ => M.no
            | some p => XC M T N p.c0 ⟨fr, ch0⟩ fun e s => match e with
              | .normal => XS M T p.all 0 p.pre s fun s => evK s.fr p.cal fun gv => match calleeA gv with
                | none => M.no
                | some (g, gcap) => chk M (Kd g && Nat.beq gcap.length 2) (XC M T N p.c1 s fun e s => match e with
                  | .normal => resK M T s fn.results.toList fun r => endI M st.ch ch0 s.ch n r fun chK => k (aI o st.fr (cal :: xs) ch0 chK r)
                  | .ret => resK M T s fn.results.toList fun r => endI M st.ch ch0 s.ch n r fun chK => k (aI o st.fr (cal :: xs) ch0 chK r)
                  | _ => M.no)
              | _ => M.no))
theorem inlD_ok {R : Type} {M : NA R} {H : R → Prop} {X : Ctx} (hM : ∀ n, M.Ok H ⟨X.P, X.T, n, X.I⟩) (hT : X.ok) (hm : X.P.follows .mixedOrders = true) {F : Nat → Option Func} (hF : ∀ f fn, F f = some fn → X.P.funcs[f]? = some fn) {Kd : Nat → Bool} (hKd : ∀ f, Kd f = true → Quiet X.P f) {Kt : Nat → Option KSpec} (hKt : ∀ f sp, Kt f = some sp → KOk X.P X.I f sp) {N : Nat} {o : Oper} {st : St} {cal : Operand} {xs : List Operand} {ts : Array TypeId} {k : Actn → R}
    (ho : o.op = .call { callee := .value cal, args := xs.toArray, argTypes := ts }) (h : H (inlD M Kd Kt F X.T N o st cal xs k)) : ActN X o st fun A => H (k A) := by
  have hM' : M.Ok H X := hM X.n
  unfold inlD at h
  rw [evK_eq] at h
  split at h
  · exact (hM'.no h).elim
  · rename_i f cap hcal
    rw [evLK_eq, catK_eq] at h
    split at h
    · rename_i cin r hsp
      cases hkt : Kt f with
      | none => rw [hkt] at hsp; cases hsp
      | some sp =>
        rw [hkt] at hsp
        exact x_known (hKt f sp hkt) ho hcal hsp h
    ·
      split at h
      · exact (hM'.no h).elim
      · rename_i fn hfn
        split at h
        · exact (hM'.no h).elim
        · rename_i c hb
          obtain ⟨h1, h⟩ := chk_eq hM' h
          rw [lenK_eq, blankK_eq] at h
          obtain ⟨ch0, h2, h⟩ := reachK_ok hM' _ _ _ _ (fun c q hc => by rw [blankL_get] at hc; cases hc) h
          obtain ⟨h3, h⟩ := chk_eq hM' h
          simp only [Bool.and_eq_true] at h3
          rw [padK_eq] at h
          have hT' : Ctx.ok ⟨X.P, X.T, 0 + st.ch.length, X.I⟩ := hT
          have hn : ∀ c k, getO ch0 c = some k → c < 0 + st.ch.length := fun c k hk => by
            have := getO_lt _ _ _ (h2 c k hk)
            omega
          split at h
          · obtain ⟨e, s, h4, h⟩ := XC_ok (X := ⟨X.P, X.T, 0 + st.ch.length, X.I⟩) (hM _) hT' hm c _ _ h
            have fin : e = .normal ∨ e = .ret → H (resK M X.T s fn.results.toList fun r => endI M st.ch ch0 s.ch (0 + st.ch.length) r fun chK => k (aI o st.fr (cal :: xs) ch0 chK r)) → ActN X o st fun A => H (k A) := by
              intro he h
              obtain ⟨r, h5, h6⟩ := resK_ok (X := ⟨X.P, X.T, 0 + st.ch.length, X.I⟩) (hM _) hT' (fn := fn) h
              obtain ⟨chK, h7, h8⟩ := endI_ok hM' h5
              exact x_inl hT ho hcal (hF f fn hfn) (by simpa using h1) hb hn ⟨h2, h3.1⟩ h3.2 (h4.just ⟨he, rfl, h6⟩) h7 h8
            split at h
            · exact fin (.inl rfl) h
            · exact fin (.inr rfl) h
            · exact (hM'.no h).elim
          · rename_i p hp
            obtain ⟨e1, e2, e3, e4, e5⟩ := dpat_eq hp
            obtain ⟨e, s, h4, h⟩ := XC_ok (X := ⟨X.P, X.T, 0 + st.ch.length, X.I⟩) (hM _) hT' hm p.c0 _ _ h
            split at h
            · obtain ⟨sF, h, h5⟩ := XS_okT (X := ⟨X.P, X.T, 0 + st.ch.length, X.I⟩) (hM _) hT' [p.od] p.pre 0 _ _ h
              rw [evK_eq] at h
              split at h
              · exact (hM'.no h).elim
              · rename_i g gcap hg
                obtain ⟨h6, h⟩ := chk_eq hM' h
                simp only [Bool.and_eq_true] at h6
                obtain ⟨e', s', h7, h⟩ := XC_ok (X := ⟨X.P, X.T, 0 + st.ch.length, X.I⟩) (hM _) hT' hm p.c1 _ _ h
                have fin : e' = .normal ∨ e' = .ret → H (resK M X.T s' fn.results.toList fun r => endI M st.ch ch0 s'.ch (0 + st.ch.length) r fun chK => k (aI o st.fr (cal :: xs) ch0 chK r)) → ActN X o st fun A => H (k A) := by
                  intro he h
                  obtain ⟨r, h8, h9⟩ := resK_ok (X := ⟨X.P, X.T, 0 + st.ch.length, X.I⟩) (hM _) hT' (fn := fn) h
                  obtain ⟨chK, h10, h11⟩ := endI_ok hM' h8
                  refine x_inlD hT ho hcal (hF f fn hfn) (by simpa using h1) hb hn ⟨h2, h3.1⟩ h3.2 ?_ h10 h11
                  rw [e1]
                  exact body_defer (X := ⟨X.P, X.T, 0 + st.ch.length, X.I⟩) e2 e3 e4 e5 hg (Nat.eq_of_beq_eq_true h6.2) (hKd g h6.1) h4 h5 h7 he rfl h9
                split at h
                · exact fin (.inl rfl) h
                · exact fin (.inr rfl) h
                · exact (hM'.no h).elim
            · exact (hM'.no h).elim
end Go.SX
