import Derived.Test.YtkngccfjaelcgaaGreatDoorV2
/- What is told of operations on numbers of which nothing is known, and that it is right. Conditions: none of its own. -/
namespace Go.Proofs.YtkngccfjaelcgaaGreatDoor
open Go Ev
set_option linter.unusedVariables false
set_option linter.unusedSimpArgs false
noncomputable def lookT (l : List (Nat × AV × AV × AV)) (c : Nat) (x y : AV) : Option AV :=
  List.rec (motive := fun _ => Option AV) none (fun e _ ih => Bool.rec (motive := fun _ => Option AV) ih (some e.2.2.2) (an2 (Nat.beq c e.1) (an2 (aveq x e.2.1) (aveq y e.2.2.1)))) l
noncomputable abbrev T0 : Ev.Told := ⟨fun _ _ _ => none⟩
abbrev V0 : TokV := ⟨fun _ => none, fun _ => none⟩
theorem O0 : @ToldOK V0 T0 := @ToldOK.mk V0 T0 fun _ _ _ _ h => by cases h
theorem lookT_mem {c : Nat} {x y v : AV} : ∀ {l : List (Nat × AV × AV × AV)}, lookT l c x y = some v → (c, x, y, v) ∈ l
  | [], h => by cases h
  | e :: l, h => by
    have h : Bool.rec (motive := fun _ => Option AV) (lookT l c x y) (some e.2.2.2) (an2 (Nat.beq c e.1) (an2 (aveq x e.2.1) (aveq y e.2.2.1))) = some v := h
    cases hc : an2 (Nat.beq c e.1) (an2 (aveq x e.2.1) (aveq y e.2.2.1)) with
    | false => rw [hc] at h; exact .tail _ (lookT_mem h)
    | true =>
      rw [hc] at h
      injection h with h9
      clear h
      obtain ⟨h1, h2⟩ := @an2_inv T0 V0 O0 _ _ hc
      obtain ⟨h2, h3⟩ := @an2_inv T0 V0 O0 _ _ h2
      have e1 := @beq_nat T0 V0 O0 _ _ h1
      have e2 := @aveq_eq T0 V0 O0 _ _ h2
      have e3 := @aveq_eq T0 V0 O0 _ _ h3
      obtain ⟨ec, ex, ey, ev⟩ := e
      simp only at e1 e2 e3 h9
      subst e1; subst e2; subst e3; subst h9
      exact .head _
def tok (i : Nat) : AV := .ref 13 i 0 0 0 0
def ii3 (n : Nat) : AV := .num 3 (.ofNat n)
def tbs : List (Nat × AV × AV × AV) := [(10, tok 0, tok 0, tt), (10, tok 1, tok 1, tt), (10, tok 2, tok 2, tt)]
noncomputable abbrev TT : Ev.Told := ⟨lookT tbs⟩
abbrev tkv (l : List (IntKind × Int)) : TokV := ⟨fun i => l[i]?, fun _ => none⟩
section
variable [TokV] {x y v : AV} {q q' : IntKind} {a b : Int} {V : Value}
theorem s_op {c : Nat} {op : BinOp} (hlt : c < 16) (h10 : c ≠ 10) (h11 : c ≠ 11) (hc : opOf c = some op) (hx : tv x = some (.int q a)) (hy : tv y = some (.int q' b)) (hv : tv v = some V) (hrun : ∀ (P : Program) (w : World) (t : TypeId), (binOp op t (.int q a) (.int q' b)).run P w = .ok V w) : Sound c x y v :=
  ⟨fun op' h => (by rw [hc] at h; injection h with h; subst h; exact ⟨q, q', a, b, V, hx, hy, hv, hrun⟩), fun h => absurd h h10, fun h => absurd h h11, fun h => (by omega), fun h => (by omega), fun h => (by omega), fun h => (by omega), fun q h => (by omega)⟩
theorem s_eq (hx : tv x = some (.int q a)) (hy : tv y = some (.int q b)) (hv : tv v = some (.bool (a == b))) : Sound 10 x y v :=
  ⟨fun op' h => (by cases h), fun _ => ⟨q, a, b, hx, hy, hv⟩, fun h => (by omega), fun h => (by omega), fun h => (by omega), fun h => (by omega), fun h => (by omega), fun q h => (by omega)⟩
end
def vals (a b c : Int) : List (IntKind × Int) := [(.i64, a), (.i64, b), (.i64, c)]
theorem all_ok {l : List (IntKind × Int)} (h : ∀ e ∈ tbs, @Sound (tkv l) e.1 e.2.1 e.2.2.1 e.2.2.2) : @ToldOK (tkv l) TT := @ToldOK.mk (tkv l) TT fun c' x y v hh => h _ (lookT_mem hh)
theorem fm {α : Type} {p : α → Prop} {a : α} {l : List α} (h1 : p a) (h2 : ∀ x ∈ l, p x) : ∀ x ∈ a :: l, p x := fun x hx => by
  rcases List.mem_cons.1 hx with rfl | h
  · exact h1
  · exact h2 x h
theorem fn {α : Type} {p : α → Prop} : ∀ x ∈ ([] : List α), p x := fun x h => by cases h
theorem told_ok {a b c : Int} : @ToldOK (tkv (vals a b c)) TT := all_ok (by
  letI : TokV := tkv (vals a b c)
  exact fm (s_eq (q := .i64) (a := a) (b := a) rfl rfl (by rw [beq_self_eq_true]; rfl))
    (fm (s_eq (q := .i64) (a := b) (b := b) rfl rfl (by rw [beq_self_eq_true]; rfl))
    (fm (s_eq (q := .i64) (a := c) (b := c) rfl rfl (by rw [beq_self_eq_true]; rfl)) fn)))
end Go.Proofs.YtkngccfjaelcgaaGreatDoor
