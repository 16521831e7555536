import Derived.Test.YtkngccfjaelcgaaGreatDoorV2
/- What is told of operations on numbers of which nothing is known (how deep, or how often), and that it is right. Conditions: those of each case. -/
namespace Go.Proofs.YtkngccfjaelcgaaGreatDoor
open Go Ev
set_option linter.unusedVariables false
set_option linter.unusedSimpArgs false
noncomputable def lookT (l : List (Nat × AV × AV × AV)) (c : Nat) (x y : AV) : Option AV :=
  List.rec (motive := fun _ => Option AV) none (fun e _ ih => Bool.rec (motive := fun _ => Option AV) ih (some e.2.2.2) (an2 (Nat.beq c e.1) (an2 (aveq x e.2.1) (aveq y e.2.2.1)))) l
noncomputable abbrev T0 : Ev.Told := ⟨fun _ _ _ => none⟩
abbrev V0 : TokV := ⟨fun _ => none, fun _ => none⟩
theorem O0 : @ToldOK V0 T0 := @ToldOK.mk V0 T0 fun _ _ _ _ h => by cases h
theorem lookT_mem {c : Nat} {x y v : AV} : ∀ {l : List (Nat × AV × AV × AV)}, lookT l c x y = some v → (c, x, y, v) ∈ l
  | [], h => by cases h
  | e :: l, h => by
    have h : Bool.rec (motive := fun _ => Option AV) (lookT l c x y) (some e.2.2.2) (an2 (Nat.beq c e.1) (an2 (aveq x e.2.1) (aveq y e.2.2.1))) = some v := h
    cases hc : an2 (Nat.beq c e.1) (an2 (aveq x e.2.1) (aveq y e.2.2.1)) with
    | false => rw [hc] at h; exact .tail _ (lookT_mem h)
    | true =>
      rw [hc] at h
      injection h with h9
      clear h
      obtain ⟨h1, h2⟩ := @an2_inv T0 V0 O0 _ _ hc
      obtain ⟨h2, h3⟩ := @an2_inv T0 V0 O0 _ _ h2
      have e1 := @beq_nat T0 V0 O0 _ _ h1
      have e2 := @aveq_eq T0 V0 O0 _ _ h2
      have e3 := @aveq_eq T0 V0 O0 _ _ h3
      obtain ⟨ec, ex, ey, ev⟩ := e
      simp only at e1 e2 e3 h9
      subst e1; subst e2; subst e3; subst h9
      exact .head _
def tok (i : Nat) : AV := .ref 13 i 0 0 0 0
def ii3 (n : Nat) : AV := .num 3 (.ofNat n)
abbrev tkv (f : Nat → Option (IntKind × Int)) : TokV := ⟨f, fun _ => none⟩
section
variable [TokV] {x y v : AV} {q q' : IntKind} {a b : Int} {V : Value}
theorem s_op {c : Nat} {op : BinOp} (hlt : c < 16) (h10 : c ≠ 10) (h11 : c ≠ 11) (hc : opOf c = some op) (hx : tv x = some (.int q a)) (hy : tv y = some (.int q' b)) (hv : tv v = some V) (hrun : ∀ (P : Program) (w : World) (t : TypeId), (binOp op t (.int q a) (.int q' b)).run P w = .ok V w) : Sound c x y v :=
  ⟨fun op' h => (by rw [hc] at h; injection h with h; subst h; exact ⟨q, q', a, b, V, hx, hy, hv, hrun⟩), fun h => absurd h h10, fun h => absurd h h11, fun h => (by omega), fun h => (by omega), fun h => (by omega), fun h => (by omega), fun q h => (by omega)⟩
theorem s_eq (hx : tv x = some (.int q a)) (hy : tv y = some (.int q b)) (hv : tv v = some (.bool (a == b))) : Sound 10 x y v :=
  ⟨fun op' h => (by cases h), fun _ => ⟨q, a, b, hx, hy, hv⟩, fun h => (by omega), fun h => (by omega), fun h => (by omega), fun h => (by omega), fun h => (by omega), fun q h => (by omega)⟩
theorem s_i64 (hx : tv x = some (.int q a)) (hv : tv v = some (.int .i64 (IntKind.i64.wrap a))) : Sound 103 x y v :=
  ⟨fun op' h => (by cases h), fun h => (by omega), fun h => (by omega), fun h => (by omega), fun h => (by omega), fun h => (by omega), fun h => (by omega), fun k h => (by obtain rfl : k = 3 := (by omega); exact ⟨q, a, hx, hv⟩)⟩
end
theorem wrapI (n : Int) : IntKind.i64.wrap n = (n + 9223372036854775808) % 18446744073709551616 - 9223372036854775808 := IntKind.wrap_i64 n
/-! ### the depth is not known: 1 + r -/
def tb1 (fr : Nat) : List (Nat × AV × AV × AV) := (0, ii3 1, tok 0, tok 1) :: (12, tok 1, ii3 1, ff) :: (14, tok 1, ii3 256, ff) :: (13, ii3 fr, tok 1, tt) :: (List.range fr).map fun k => (15, ii3 k, tok 1, ff)
noncomputable abbrev TA (fr : Nat) : Ev.Told := ⟨lookT (tb1 fr)⟩
abbrev va (r : Int) : Nat → Option (IntKind × Int) := fun i => match i with | 0 => some (.i64, r) | 1 => some (.i64, r + 1) | _ => none
theorem told1 {r : Int} {fr : Nat} (h0 : 0 ≤ r) (h1 : r < 60) (hf : (fr : Int) ≤ r + 1) : @ToldOK (tkv (va r)) (TA fr) := @ToldOK.mk (tkv (va r)) (TA fr) fun c x y v hh => by
  letI : TokV := tkv (va r)
  have hm := lookT_mem hh
  unfold tb1 at hm
  have e1 : tv (tok 1) = some (.int .i64 (r + 1)) := rfl
  rcases List.mem_cons.1 hm with h | hm
  · injection h with h2 h; injection h with h3 h; injection h with h4 h5; subst h2; subst h3; subst h4; subst h5
    exact s_op (op := .add) (q := .i64) (q' := .i64) (a := 1) (b := r) (V := .int .i64 (r + 1)) (by omega) (by omega) (by omega) rfl rfl rfl rfl fun P w t => by
      have : IntKind.i64.wrap (1 + r) = r + 1 := by rw [wrapI]; omega
      simp [binOp, Op.intArith, this]
  rcases List.mem_cons.1 hm with h | hm
  · injection h with h2 h; injection h with h3 h; injection h with h4 h5; subst h2; subst h3; subst h4; subst h5
    exact s_op (op := .lss) (q := .i64) (q' := .i64) (a := r + 1) (b := 1) (V := .bool false) (by omega) (by omega) (by omega) rfl e1 rfl rfl fun P w t => by
      have : ¬ (r + 1 < 1) := by omega
      simp [binOp, Op.intCmp, this]
  rcases List.mem_cons.1 hm with h | hm
  · injection h with h2 h; injection h with h3 h; injection h with h4 h5; subst h2; subst h3; subst h4; subst h5
    exact s_op (op := .gtr) (q := .i64) (q' := .i64) (a := r + 1) (b := 256) (V := .bool false) (by omega) (by omega) (by omega) rfl e1 rfl rfl fun P w t => by
      have : ¬ (256 < r + 1) := by omega
      simp [binOp, Op.intCmp, this]
  rcases List.mem_cons.1 hm with h | hm
  · injection h with h2 h; injection h with h3 h; injection h with h4 h5; subst h2; subst h3; subst h4; subst h5
    exact s_op (op := .leq) (q := .i64) (q' := .i64) (a := (fr : Int)) (b := r + 1) (V := .bool true) (by omega) (by omega) (by omega) rfl rfl e1 rfl fun P w t => by
      simp [binOp, Op.intCmp, hf]
  · obtain ⟨k, hk, h⟩ := List.mem_map.1 hm
    have hk := List.mem_range.1 hk
    injection h with h2 h; injection h with h3 h; injection h with h4 h5; subst h2; subst h3; subst h4; subst h5
    exact s_op (op := .geq) (q := .i64) (q' := .i64) (a := (k : Int)) (b := r + 1) (V := .bool false) (by omega) (by omega) (by omega) rfl rfl e1 rfl fun P w t => by
      have : ¬ (r + 1 ≤ (k : Int)) := by omega
      simp [binOp, Op.intCmp, this]
/-! ### how often is not known -/
def tb2 (d c q : Nat) : List (Nat × AV × AV × AV) := (103, tok 0, .nil, tok 0) :: (0, tok 0, ii3 c, tok 100) :: (0, tok 0, ii3 1, tok 101) :: (13, tok 100, ii3 d, ff) :: (List.range q).flatMap fun k => [(10, tok k, ii3 0, ff), (1, tok k, ii3 1, tok (k + 1))]
noncomputable abbrev TB (d c q : Nat) : Ev.Told := ⟨lookT (tb2 d c q)⟩
abbrev vb (n : Int) (c : Nat) : Nat → Option (IntKind × Int) := fun i => if i = 100 then some (.i64, n + c) else if i = 101 then some (.i64, n + 1) else some (.i64, n - i)
theorem told2 {n : Int} {d c q : Nat} (h0 : 0 ≤ n) (h1 : n < 100) (hc : c < 10) (hq : (q : Int) ≤ n) (hq2 : q < 99) (hd : (d : Int) < n + c) : @ToldOK (tkv (vb n c)) (TB d c q) := @ToldOK.mk (tkv (vb n c)) (TB d c q) fun c' x y v hh => by
  letI : TokV := tkv (vb n c)
  have hm := lookT_mem hh
  unfold tb2 at hm
  have ek : ∀ k, k < 100 → tv (tok k) = some (.int .i64 (n - k)) := fun k hk => by
    show (vb n c k).map _ = _
    simp [vb, show ¬ k = 100 by omega, show ¬ k = 101 by omega]
  have e0 : tv (tok 0) = some (.int .i64 n) := by rw [ek 0 (by omega)]; simp
  have eG : tv (tok 101) = some (.int .i64 (n + 1)) := rfl
  have eF : tv (tok 100) = some (.int .i64 (n + c)) := rfl
  rcases List.mem_cons.1 hm with h | hm
  · injection h with h2 h; injection h with h3 h; injection h with h4 h5; subst h2; subst h3; subst h4; subst h5
    exact s_i64 e0 (by rw [e0]; have : IntKind.i64.wrap n = n := by rw [wrapI]; omega
                       rw [this])
  rcases List.mem_cons.1 hm with h | hm
  · injection h with h2 h; injection h with h3 h; injection h with h4 h5; subst h2; subst h3; subst h4; subst h5
    exact s_op (op := .add) (q := .i64) (q' := .i64) (a := n) (b := (c : Int)) (V := .int .i64 (n + c)) (by omega) (by omega) (by omega) rfl e0 rfl eF fun P w t => by
      have : IntKind.i64.wrap (n + c) = n + c := by rw [wrapI]; omega
      simp [binOp, Op.intArith, this]
  rcases List.mem_cons.1 hm with h | hm
  · injection h with h2 h; injection h with h3 h; injection h with h4 h5; subst h2; subst h3; subst h4; subst h5
    exact s_op (op := .add) (q := .i64) (q' := .i64) (a := n) (b := 1) (V := .int .i64 (n + 1)) (by omega) (by omega) (by omega) rfl e0 rfl eG fun P w t => by
      have : IntKind.i64.wrap (n + 1) = n + 1 := by rw [wrapI]; omega
      simp [binOp, Op.intArith, this]
  rcases List.mem_cons.1 hm with h | hm
  · injection h with h2 h; injection h with h3 h; injection h with h4 h5; subst h2; subst h3; subst h4; subst h5
    exact s_op (op := .leq) (q := .i64) (q' := .i64) (a := n + c) (b := (d : Int)) (V := .bool false) (by omega) (by omega) (by omega) rfl eF rfl rfl fun P w t => by
      have : ¬ (n + c ≤ (d : Int)) := by omega
      simp [binOp, Op.intCmp, this]
  · obtain ⟨k, hk, hm⟩ := List.mem_flatMap.1 hm
    have hk := List.mem_range.1 hk
    rcases List.mem_cons.1 hm with h | hm
    · injection h with h2 h; injection h with h3 h; injection h with h4 h5; subst h2; subst h3; subst h4; subst h5
      exact s_eq (q := .i64) (a := n - k) (b := 0) (ek k (by omega)) rfl (by
        have : (n - (k : Int) == 0) = false := by rw [beq_eq_false_iff_ne]; omega
        rw [this]; rfl)
    rcases List.mem_cons.1 hm with h | hm
    · injection h with h2 h; injection h with h3 h; injection h with h4 h5; subst h2; subst h3; subst h4; subst h5
      exact s_op (op := .sub) (q := .i64) (q' := .i64) (a := n - k) (b := 1) (V := .int .i64 (n - ((k + 1 : Nat) : Int))) (by omega) (by omega) (by omega) rfl (ek k (by omega)) rfl (ek (k + 1) (by omega)) fun P w t => by
        have : IntKind.i64.wrap (n - k - 1) = n - ((k + 1 : Nat) : Int) := by rw [wrapI]; omega
        simp only [binOp, Op.intArith, this]; simp
    · cases hm
end Go.Proofs.YtkngccfjaelcgaaGreatDoor
