import Derived.Test.YtpalciklgbabeaaGreatDoorER0
/- What is told at two arguments that are slices of ints, and that it is right. Conditions: those of each case. -/
namespace Go.Proofs.YtpalciklgbabeaaGreatDoor
open Go Ev
set_option linter.unusedVariables false
set_option linter.unusedSimpArgs false
def resK2 (q : Nat) : Option AV := bif Nat.beq (q % 2) 1 then none else some (unkv (q / 2))
def elem2 (f g : Nat → Int) (e : Nat) : Int := if e % 8192 = 0 then f (e / 8192) else if e % 8192 = 1 then g (e / 8192) else 0
def kd2 (f g : Nat → Int) (e : Nat) : Nat := (elem2 f g e % 8).toNat
abbrev V2 (s0 s1 : ArgS) : TokV :=
  ⟨fun i => some (.i64, if i % 2 = 0 then elem2 s0.es s1.es (i / 2) else fieldN (kd2 s0.es s1.es (i / 2 / 4)) (i / 2 % 4)), fun e => some (sbytes (fS (kd2 s0.es s1.es e))), fun b => if b = 0 then some s0 else if b = 1 then some s1 else none⟩
theorem told2 {s0 s1 : ArgS} : @ToldOK (V2 s0 s1) TE := @ToldOK.mk (V2 s0 s1) TE
  (fun c x y v h => by
    letI : TokV := V2 s0 s1
    obtain ⟨rfl, rfl, ⟨rfl, i, e, o, l, k, rfl⟩ | ⟨rfl, i, e, o, l, k, rfl⟩⟩ := tbE_inv h
    · exact s_eq (q := .i64) (a := _) (b := _) rfl rfl (by rw [beq_self_eq_true]; rfl)
    · refine s_eqs (a := sbytes (fS (kd2 s0.es s1.es i))) (b := sbytes (fS (kd2 s0.es s1.es i))) rfl rfl ?_
      rw [show (sbytes (fS (kd2 s0.es s1.es i)) == sbytes (fS (kd2 s0.es s1.es i))) = true from by rw [MapKept.bytes_beq]]
      rfl)
  (fun b x hx i hi => by
    letI : TokV := V2 s0 s1
    have hx2 : (if b = 0 then some s0 else if b = 1 then some s1 else none) = some x := hx
    show some (IntKind.i64, if 2 * (b + 8192 * i) % 2 = 0 then elem2 s0.es s1.es (2 * (b + 8192 * i) / 2) else _) = _
    rw [if_pos (by omega), show 2 * (b + 8192 * i) / 2 = b + 8192 * i by omega]
    unfold elem2
    split at hx2
    · rename_i h; subst h; obtain rfl := Option.some.inj hx2
      rw [if_pos (by omega), show (0 + 8192 * i) / 8192 = i by omega]
    · split at hx2
      · rename_i h; subst h; obtain rfl := Option.some.inj hx2
        rw [if_neg (by omega), if_pos (by omega), show (1 + 8192 * i) / 8192 = i by omega]
      · cases hx2)
theorem ref13b {s0 s1 : ArgS} (ι : Rn) (e : Nat) : ∀ r, r < 4 → @refV (V2 s0 s1) ι 13 (2 * (4 * e + r) + 1) 0 0 0 0 = some (.int .i64 (fieldN (kd2 s0.es s1.es e) r)) := fun r hr => by
  have : (V2 s0 s1).tk (2 * (4 * e + r) + 1) = some (.i64, fieldN (kd2 s0.es s1.es e) r) := by
    show some (IntKind.i64, if (2 * (4 * e + r) + 1) % 2 = 0 then _ else fieldN (kd2 s0.es s1.es ((2 * (4 * e + r) + 1) / 2 / 4)) ((2 * (4 * e + r) + 1) / 2 % 4)) = _
    rw [if_neg (by omega), show (2 * (4 * e + r) + 1) / 2 / 4 = e by omega, show (2 * (4 * e + r) + 1) / 2 % 4 = r by omega]
  simp only [refV, this, Option.map_some]
theorem resK2_ok {s0 s1 : ArgS} {q : Nat} {v : AV} (h : resK2 q = some v) : (V2 s0 s1).tk q = some (.i64, elem2 s0.es s1.es (q / 2)) ∧ ∀ ι : Rn, @toV (V2 s0 s1) ι v = some (kindV (kd2 s0.es s1.es (q / 2))) := by
  letI : TokV := V2 s0 s1
  unfold resK2 at h
  cases h1 : Nat.beq (q % 2) 1 with
  | true => rw [h1] at h; cases h
  | false =>
    rw [h1] at h
    have hq : q % 2 = 0 := by
      have : q % 2 ≠ 1 := fun e => by rw [e] at h1; cases h1
      omega
    have h : some (unkv (q / 2)) = some v := h
    injection h with h
    subst h
    refine ⟨by show some (IntKind.i64, if q % 2 = 0 then _ else _) = _; rw [if_pos hq], fun ι => ?_⟩
    have hs := fS_ok (kd2 s0.es s1.es (q / 2))
    have r0 := ref13b (s0 := s0) (s1 := s1) ι (q / 2)
    have r1 : @refV (V2 s0 s1) ι 14 (q / 2) 0 0 0 0 = some (.string (sbytes (fS (kd2 s0.es s1.es (q / 2))))) := rfl
    show toV ι (unkv (q / 2)) = _
    simp only [unkv, toV, toT, r1]
    rw [show 2 * (4 * (q / 2)) + 1 = 2 * (4 * (q / 2) + 0) + 1 by omega, r0 0 (by omega), r0 1 (by omega), r0 2 (by omega)]
    rfl
/-! ### the arguments -/
def aS (b L C : Nat) : AV := .ref 16 b 0 0 L C
def aN : AV := .ref 2 0 0 0 0 0
def args3 (x y : AV) : AV := .cons x (.cons y (.cons (.ref 12 0 0 0 0 0) .nil))
/-- how an argument stands for a slice -/
def Stands (b : Nat) (av : AV) (v : Value) (s : ArgS) (w : World) : Prop :=
  (av = aN ∧ v = .slice none 0 0 ∧ s.len = 0) ∨ (av = aS b s.len s.cap ∧ v = .slice (some s.addr) s.len s.cap ∧ ∀ i, i < s.len → w.cell? (s.addr.add i) = some (.int .i64 (s.es i)))
theorem Stands.val {b : Nat} {av : AV} {v : Value} {s : ArgS} {w : World} (h : Stands b av v s w) {T : TokV} (ι : Rn) (hs : T.sl b = some s) : @toV T ι av = some v := by
  letI : TokV := T
  have hs : TokV.sl b = some s := hs
  rcases h with ⟨rfl, rfl, _⟩ | ⟨rfl, rfl, _⟩
  · rfl
  · simp [aS, toV, refV, hs]
theorem Stands.cell {b : Nat} {av : AV} {v : Value} {s : ArgS} {w : World} (h : Stands b av v s w) {i : Nat} (hi : i < s.len) : w.cell? (s.addr.add i) = some (.int .i64 (s.es i)) := by
  rcases h with ⟨_, _, h⟩ | ⟨_, _, h⟩
  · omega
  · exact h i hi
def insN (x : Int) : Ev.Tok := fun b => match b with
  | 0 => some (.i64, x)
  | _ => none
/-- the run of a case is the call's -/
theorem one2 {P : Program} {f : FuncId} {tab : Bt FnD} {a0 : Int} {x y : AV} {v0 v1 : Value} {s0 s1 : ArgS} {w : World} (h0 : Stands 0 x v0 s0 w) (h1 : Stands 1 y v1 s1 w) (hT : @TabOK (V2 s0 s1) P (insN a0) tab)
    (h : isT (run tab 1000 noY f (args3 x y) .leaf 0) = true) :
    Calls P f #[v0, v1, .int .i64 a0] w fun e w' => e = .returned (.bool true) ∧ Frm (rn0 (insN a0)) w w' := by
  letI : Ev.Told := TE
  letI : TokV := V2 s0 s1
  haveI : ToldOK := told2
  refine law_okA hT ?_ h w ?_
  · have e0 := h0.val (rn0 (insN a0)) (T := V2 s0 s1) rfl
    have e1 := h1.val (rn0 (insN a0)) (T := V2 s0 s1) rfl
    simp [args3, toT, e0, e1]
    simp [toV, refV, rn0, insN]
  · intro b' x hx i hi
    have hx2 : (if b' = 0 then some s0 else if b' = 1 then some s1 else none) = some x := hx
    refine ⟨?_, fun _ _ _ h => by cases h⟩
    split at hx2
    · obtain rfl := Option.some.inj hx2; exact h0.cell hi
    · split at hx2
      · obtain rfl := Option.some.inj hx2; exact h1.cell hi
      · cases hx2
/-- the shapes of the first argument -/
theorem shapes0 {x : AV} {v : Value} {s : ArgS} {w : World} (h : Stands 0 x v s w) (hc : s.len ≤ s.cap) :
    x = aN ∨ (∃ C, x = aS 0 0 C) ∨ (∃ C, x = aS 0 1 (C + 1)) ∨ (∃ C, x = aS 0 2 C) ∨ (∃ C, x = aS 0 3 C) ∨ (∃ C, x = aS 0 4 C) ∨ ∃ L C, x = aS 0 (L + 5) C := by
  rcases h with ⟨rfl, _⟩ | ⟨rfl, _⟩
  · exact .inl rfl
  · right
    generalize s.len = len at *
    generalize s.cap = cap at *
    have hl : len = 0 ∨ len = 1 ∨ len = 2 ∨ len = 3 ∨ len = 4 ∨ ∃ L, len = L + 5 := by
      by_cases h : 5 ≤ len
      · exact .inr (.inr (.inr (.inr (.inr ⟨len - 5, by omega⟩))))
      · omega
    rcases hl with rfl | rfl | rfl | rfl | rfl | ⟨L, rfl⟩
    · exact .inl ⟨_, rfl⟩
    · exact .inr (.inl ⟨cap - 1, by rw [show cap - 1 + 1 = cap by omega]⟩)
    · exact .inr (.inr (.inl ⟨_, rfl⟩))
    · exact .inr (.inr (.inr (.inl ⟨_, rfl⟩)))
    · exact .inr (.inr (.inr (.inr (.inl ⟨_, rfl⟩))))
    · exact .inr (.inr (.inr (.inr (.inr ⟨_, _, rfl⟩))))
/-- those of the second -/
theorem shapes1 {x : AV} {v : Value} {s : ArgS} {w : World} (h : Stands 1 x v s w) :
    x = aN ∨ (∃ C, x = aS 1 0 C) ∨ (∃ C, x = aS 1 1 C) ∨ (∃ C, x = aS 1 2 C) ∨ ∃ L C, x = aS 1 (L + 3) C := by
  rcases h with ⟨rfl, _⟩ | ⟨rfl, _⟩
  · exact .inl rfl
  · right
    generalize s.len = len at *
    have hl : len = 0 ∨ len = 1 ∨ len = 2 ∨ ∃ L, len = L + 3 := by
      by_cases h : 3 ≤ len
      · exact .inr (.inr (.inr ⟨len - 3, by omega⟩))
      · omega
    rcases hl with rfl | rfl | rfl | ⟨L, rfl⟩
    · exact .inl ⟨_, rfl⟩
    · exact .inr (.inl ⟨_, rfl⟩)
    · exact .inr (.inr (.inl ⟨_, rfl⟩))
    · exact .inr (.inr (.inr ⟨_, _, rfl⟩))
end Go.Proofs.YtpalciklgbabeaaGreatDoor
