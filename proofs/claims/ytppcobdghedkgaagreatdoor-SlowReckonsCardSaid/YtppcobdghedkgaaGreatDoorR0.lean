import Derived.Test.YtppcobdghedkgaaGreatDoorV2
/- What is told of operations on two numbers of which nothing is known, case by case, and that it is right. Conditions: those of each case. -/
namespace Go.Proofs.YtppcobdghedkgaaGreatDoor
open Go Ev
set_option linter.unusedVariables false
set_option linter.unusedSimpArgs false
noncomputable def lookT (l : List (Nat × AV × AV × AV)) (c : Nat) (x y : AV) : Option AV :=
  List.rec (motive := fun _ => Option AV) none (fun e _ ih => Bool.rec (motive := fun _ => Option AV) ih (some e.2.2.2) (an2 (Nat.beq c e.1) (an2 (aveq x e.2.1) (aveq y e.2.2.1)))) l
noncomputable abbrev T0 : Ev.Told := ⟨fun _ _ _ => none⟩
abbrev V0 : TokV := ⟨fun _ => none, fun _ => none⟩
theorem O0 : @ToldOK V0 T0 := @ToldOK.mk V0 T0 fun _ _ _ _ h => by cases h
theorem lookT_mem {c : Nat} {x y v : AV} : ∀ {l : List (Nat × AV × AV × AV)}, lookT l c x y = some v → (c, x, y, v) ∈ l
  | [], h => by cases h
  | e :: l, h => by
    have h : Bool.rec (motive := fun _ => Option AV) (lookT l c x y) (some e.2.2.2) (an2 (Nat.beq c e.1) (an2 (aveq x e.2.1) (aveq y e.2.2.1))) = some v := h
    cases hc : an2 (Nat.beq c e.1) (an2 (aveq x e.2.1) (aveq y e.2.2.1)) with
    | false => rw [hc] at h; exact .tail _ (lookT_mem h)
    | true =>
      rw [hc] at h
      injection h with h9
      clear h
      obtain ⟨h1, h2⟩ := @an2_inv T0 V0 O0 _ _ hc
      obtain ⟨h2, h3⟩ := @an2_inv T0 V0 O0 _ _ h2
      have e1 := @beq_nat T0 V0 O0 _ _ h1
      have e2 := @aveq_eq T0 V0 O0 _ _ h2
      have e3 := @aveq_eq T0 V0 O0 _ _ h3
      obtain ⟨ec, ex, ey, ev⟩ := e
      simp only at e1 e2 e3 h9
      subst e1; subst e2; subst e3; subst h9
      exact .head _
def tok (i : Nat) : AV := .ref 13 i 0 0 0 0
def i3 (n : Nat) : AV := .num 3 (.ofNat n)
def m1 : AV := .num 3 (.negSucc 0)
def eqs : List (Nat × AV × AV × AV) := [(10, tok 2, tok 2, tt)]
def shs : List (Nat × AV × AV × AV) := (5, tok 1, i3 63, tok 3) :: (107, tok 0, .nil, tok 4) :: (107, tok 1, .nil, tok 5) :: (4, tok 5, .num 7 (.ofNat 64), tok 6) :: eqs
def tbs (j : Nat) : List (Nat × AV × AV × AV) := match j with
  | 0 => (0, tok 0, tok 1, tok 2) :: eqs
  | 1 => (1, tok 0, tok 1, tok 2) :: eqs
  | 2 => (2, tok 0, tok 1, tok 2) :: eqs
  | 30 => [(10, tok 1, i3 0, tt)]
  | 31 => (10, tok 1, i3 0, ff) :: (10, tok 1, m1, tt) :: (98, tok 0, .nil, tok 2) :: (1, i3 0, tok 0, tok 2) :: eqs
  | 32 => (10, tok 1, i3 0, ff) :: (10, tok 1, m1, ff) :: (3, tok 0, tok 1, tok 2) :: eqs
  | 42 => (10, tok 1, i3 0, ff) :: (10, tok 1, m1, ff) :: (4, tok 0, tok 1, tok 2) :: eqs
  | 6 => (5, tok 0, tok 1, tok 2) :: eqs
  | 7 => (6, tok 0, tok 1, tok 2) :: eqs
  | 8 => (7, tok 0, tok 1, tok 2) :: eqs
  | 9 => (8, tok 0, tok 3, tok 2) :: (8, tok 4, tok 6, tok 7) :: (103, tok 7, .nil, tok 2) :: shs
  | 100 => (9, tok 0, tok 3, tok 2) :: (15, tok 0, i3 0, tt) :: (9, tok 4, tok 6, tok 7) :: (103, tok 7, .nil, tok 2) :: shs
  | 101 => (9, tok 0, tok 3, tok 2) :: (15, tok 0, i3 0, ff) :: (97, tok 4, .nil, tok 8) :: (9, tok 8, tok 6, tok 9) :: (97, tok 9, .nil, tok 10) :: (103, tok 10, .nil, tok 2) :: shs
  | _ => []
noncomputable abbrev TT (c : Nat) : Ev.Told := ⟨lookT (tbs c)⟩
abbrev tkv (l : List (IntKind × Int)) : TokV := ⟨fun i => l[i]?, fun _ => none⟩
section
variable [TokV] {x y v : AV} {q q' : IntKind} {a b : Int} {V : Value}
theorem s_op {c : Nat} {op : BinOp} (hlt : c < 16) (h10 : c ≠ 10) (h11 : c ≠ 11) (hc : opOf c = some op) (hx : tv x = some (.int q a)) (hy : tv y = some (.int q' b)) (hv : tv v = some V) (hrun : ∀ (P : Program) (w : World) (t : TypeId), (binOp op t (.int q a) (.int q' b)).run P w = .ok V w) : Sound c x y v :=
  ⟨fun op' h => (by rw [hc] at h; injection h with h; subst h; exact ⟨q, q', a, b, V, hx, hy, hv, hrun⟩), fun h => absurd h h10, fun h => absurd h h11, fun h => (by omega), fun h => (by omega), fun h => (by omega), fun h => (by omega), fun q h => (by omega)⟩
theorem s_eq (hx : tv x = some (.int q a)) (hy : tv y = some (.int q b)) (hv : tv v = some (.bool (a == b))) : Sound 10 x y v :=
  ⟨fun op' h => (by cases h), fun _ => ⟨q, a, b, hx, hy, hv⟩, fun h => (by omega), fun h => (by omega), fun h => (by omega), fun h => (by omega), fun h => (by omega), fun q h => (by omega)⟩
theorem s_neg (hx : tv x = some (.int q a)) (hv : tv v = some V) (hrun : ∀ (P : Program) (w : World), (Op.unary .neg (.int q a)).run P w = .ok V w) : Sound 98 x y v :=
  ⟨fun op' h => (by cases h), fun h => (by omega), fun h => (by omega), fun h => (by omega), fun h => (by omega), fun _ => ⟨q, a, V, hx, hv, hrun⟩, fun h => (by omega), fun q h => (by omega)⟩
theorem s_xor (hx : tv x = some (.int q a)) (hv : tv v = some V) (hrun : ∀ (P : Program) (w : World), (Op.unary .xor (.int q a)).run P w = .ok V w) : Sound 97 x y v :=
  ⟨fun op' h => (by cases h), fun h => (by omega), fun h => (by omega), fun h => (by omega), fun h => (by omega), fun h => (by omega), fun _ => ⟨q, a, V, hx, hv, hrun⟩, fun q h => (by omega)⟩
theorem s_u64 (hx : tv x = some (.int q a)) (hv : tv v = some (.int .u64 (IntKind.u64.wrap a))) : Sound 107 x y v :=
  ⟨fun op' h => (by cases h), fun h => (by omega), fun h => (by omega), fun h => (by omega), fun h => (by omega), fun h => (by omega), fun h => (by omega), fun k h => (by obtain rfl : k = 7 := (by omega); exact ⟨q, a, hx, hv⟩)⟩
theorem s_i64 (hx : tv x = some (.int q a)) (hv : tv v = some (.int .i64 (IntKind.i64.wrap a))) : Sound 103 x y v :=
  ⟨fun op' h => (by cases h), fun h => (by omega), fun h => (by omega), fun h => (by omega), fun h => (by omega), fun h => (by omega), fun h => (by omega), fun k h => (by obtain rfl : k = 3 := (by omega); exact ⟨q, a, hx, hv⟩)⟩
end
/-! ### arithmetic -/
theorem wrapI (n : Int) : IntKind.i64.wrap n = (n + 9223372036854775808) % 18446744073709551616 - 9223372036854775808 := IntKind.wrap_i64 n
theorem wrapU (n : Int) : IntKind.u64.wrap n = n % 18446744073709551616 := IntKind.wrap_u64 n
theorem and63 (b : Int) : IntKind.i64.wrap ((BitVec.ofInt IntKind.i64.bits b &&& BitVec.ofInt IntKind.i64.bits 63).toNat : Nat) = b % 64 := by
  have h1 : (BitVec.ofInt IntKind.i64.bits b &&& BitVec.ofInt IntKind.i64.bits 63).toNat = (b % 18446744073709551616).toNat % 64 := by
    rw [BitVec.toNat_and, BitVec.toNat_ofInt, BitVec.toNat_ofInt]
    show (b % 18446744073709551616).toNat &&& 63 = _
    exact Nat.and_two_pow_sub_one_eq_mod _ 6
  rw [h1, wrapI]
  omega
theorem rem64 (b : Int) : (IntKind.u64.wrap b).tmod 64 = b % 64 := by
  rw [wrapU, Int.tmod_eq_emod_of_nonneg (by omega)]
  omega
theorem shl_same (a p : Int) : IntKind.i64.wrap (IntKind.u64.wrap (IntKind.u64.wrap a * p)) = IntKind.i64.wrap (a * p) := by
  rw [wrapI, wrapI, wrapU, wrapU]
  have h : (a % 18446744073709551616 * p) % 18446744073709551616 = (a * p) % 18446744073709551616 := by rw [Int.mul_emod, Int.emod_emod_of_dvd _ (Int.dvd_refl _), ← Int.mul_emod]
  generalize a % 18446744073709551616 * p = u at h ⊢
  generalize a * p = w at h ⊢
  omega
theorem fdiv_range {a p : Int} (h0 : 0 ≤ a) (hp : 1 ≤ p) : 0 ≤ a.fdiv p ∧ a.fdiv p ≤ a := by
  rw [Int.fdiv_eq_ediv_of_nonneg _ (by omega)]
  refine ⟨Int.ediv_nonneg h0 (by omega), ?_⟩
  exact Int.ediv_le_self _ h0
theorem shr_pos {a p : Int} (h0 : 0 ≤ a) (h1 : a < 9223372036854775808) (hp : 1 ≤ p) : IntKind.i64.wrap ((IntKind.u64.wrap a).fdiv p) = a.fdiv p := by
  have e : IntKind.u64.wrap a = a := by rw [wrapU]; omega
  rw [e, wrapI]
  have := fdiv_range h0 hp
  omega
theorem shr_neg {a p : Int} (h0 : a < 0) (h1 : -9223372036854775808 ≤ a) (hp : 1 ≤ p) : IntKind.i64.wrap (IntKind.u64.wrap (-1 - (IntKind.u64.wrap (-1 - IntKind.u64.wrap a)).fdiv p)) = a.fdiv p := by
  have e : IntKind.u64.wrap (-1 - IntKind.u64.wrap a) = -1 - a := by rw [wrapU, wrapU]; omega
  rw [e]
  have h2 := fdiv_range (a := -1 - a) (by omega) hp
  have h3 : a.fdiv p = -1 - (-1 - a).fdiv p := by
    rw [Int.fdiv_eq_ediv_of_nonneg _ (by omega), Int.fdiv_eq_ediv_of_nonneg _ (by omega)]
    have e1 := Int.mul_ediv_add_emod (-1 - a) p
    have e2 := Int.emod_nonneg (-1 - a) (show p ≠ 0 by omega)
    have e3 := Int.emod_lt_of_pos (-1 - a) (show 0 < p by omega)
    have : a = (p - 1 - (-1 - a) % p) + p * (-1 - (-1 - a) / p) := by
      rw [Int.mul_sub]; omega
    rw [this, Int.add_mul_ediv_left _ _ (by omega), Int.ediv_eq_zero_of_lt (by omega) (by omega), ← this]
    omega
  rw [h3, wrapI, wrapU]
  omega
end Go.Proofs.YtppcobdghedkgaaGreatDoor
