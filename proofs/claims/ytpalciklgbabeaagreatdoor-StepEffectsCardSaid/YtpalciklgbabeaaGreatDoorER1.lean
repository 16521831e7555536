import Derived.Test.YtpalciklgbabeaaGreatDoorER0
import Derived.ChangeSlices
/- A law over an int and a slice of ints, of which the first four count by their remainder by 8: its cases are laid together. Conditions: none of its own. -/
namespace Go.Proofs.YtpalciklgbabeaaGreatDoor
open Go Ev
set_option linter.unusedVariables false
set_option linter.unusedSimpArgs false
def argsE (b L C : Nat) : AV := .cons (.ref 12 0 0 0 0 0) (.cons (.ref 16 b 0 0 L C) .nil)
def argsN : AV := .cons (.ref 12 0 0 0 0 0) (.cons (.ref 2 0 0 0 0 0) .nil)
def ini (n : Nat) : D4 := match n with | 0 => ⟨0, 0, 0, 0⟩ | 1 => ⟨8, 0, 0, 0⟩ | 2 => ⟨8, 8, 0, 0⟩ | 3 => ⟨8, 8, 8, 0⟩ | _ => ⟨8, 8, 8, 8⟩
def ins (x : Int) : Ev.Tok := fun b => match b with
  | 0 => some (.i64, x)
  | _ => none
theorem ini_ok {n : Nat} (h : n ≤ 4) : (ini n).Ok := by
  rcases (by omega : n = 0 ∨ n = 1 ∨ n = 2 ∨ n = 3 ∨ n = 4) with rfl | rfl | rfl | rfl | rfl <;> exact ⟨by decide, by decide, by decide, by decide⟩
theorem ini_at {n j : Nat} (h : n ≤ 4) (hj : j < 4) : (ini n).at j = if j < n then 8 else 0 := by
  rcases (by omega : n = 0 ∨ n = 1 ∨ n = 2 ∨ n = 3 ∨ n = 4) with rfl | rfl | rfl | rfl | rfl <;> rcases (by omega : j = 0 ∨ j = 1 ∨ j = 2 ∨ j = 3) with rfl | rfl | rfl | rfl <;> rfl
/-- what the slice holds, and 0 behind it -/
def esOf (len : Nat) (zs : List Int) : Nat → Int := fun i => if i < len then zs.getD i 0 else 0
theorem pick {ev : Nat → Bool} {ws : List Nat} {n len : Nat} {zs : List Int} (hn : n ≤ 4) (hl : n = len ∨ (n = 4 ∧ 4 ≤ len)) (h : chkE ev ws n (ini n) = true) : ∃ b, ev b = true ∧ b < 8192 ∧ good b (esOf len zs) := by
  refine chk_ok ws n (ini n) hn (ini_ok hn) (fun j hj => by rw [ini_at hn (by omega), if_pos hj]) (fun j hj hj4 hd => ?_) h
  rw [ini_at hn hj4, if_neg (by omega)] at hd ⊢
  unfold esOf
  rw [if_neg (by omega)]; rfl
/-- the run of a case is the call's -/
theorem one {P : Program} {f : FuncId} {tab : Bt FnD} {a0 : Int} {a : Addr} {len cap b : Nat} {zs : List Int} (hb : b < 8192) (hT : @TabOK (VS b ⟨a, len, cap, esOf len zs⟩) P (ins a0) tab)
    (h : isT (run tab 1000 noY f (argsE b len cap) .leaf 0) = true) (w : World) (hz : len ≤ zs.length) (hc : ∀ i, i < zs.length → w.cell? (a.add i) = some (.int .i64 (zs.getD i 0))) :
    Calls P f #[.int .i64 a0, .slice (some a) len cap] w fun e w' => e = .returned (.bool true) ∧ Frm (rn0 (ins a0)) w w' := by
  letI : Ev.Told := TE
  letI : TokV := VS b ⟨a, len, cap, esOf len zs⟩
  haveI : ToldOK := told_ok hb
  refine law_okA hT ?_ h w ?_
  · have e : TokV.sl b = some (⟨a, len, cap, esOf len zs⟩ : ArgS) := by
      show (if b = b then _ else none) = _
      rw [if_pos rfl]
    simp [argsE, toT, toV, refV, rn0, ins, e]
  · intro b' x hx i hi
    have hx2 : (if b' = b then some (⟨a, len, cap, esOf len zs⟩ : ArgS) else none) = some x := hx
    split at hx2
    · obtain rfl := Option.some.inj hx2
      refine ⟨?_, fun _ _ _ h => by cases h⟩
      have hi : i < len := hi
      show w.cell? (a.add i) = some (.int .i64 (esOf len zs i))
      unfold esOf
      rw [if_pos hi]
      exact hc i (by omega)
    · cases hx2
/-- the nil slice -/
theorem oneN {P : Program} {f : FuncId} {tab : Bt FnD} {a0 : Int} (hT : @TabOK (VS 0 ⟨⟨0, 0, none⟩, 0, 0, fun _ => 0⟩) P (ins a0) tab) (h : isT (run tab 1000 noY f argsN .leaf 0) = true) (w : World) :
    Calls P f #[.int .i64 a0, .slice none 0 0] w fun e w' => e = .returned (.bool true) ∧ Frm (rn0 (ins a0)) w w' := by
  letI : Ev.Told := TE
  letI : TokV := VS 0 ⟨⟨0, 0, none⟩, 0, 0, fun _ => 0⟩
  haveI : ToldOK := told_ok (by omega)
  refine law_okA hT ?_ h w ?_
  · simp [argsN, toT, toV, refV, rn0, ins]
  · intro b' x hx i hi
    have hx2 : (if b' = 0 then some (⟨⟨0, 0, none⟩, 0, 0, fun _ => 0⟩ : ArgS) else none) = some x := hx
    split at hx2
    · obtain rfl := Option.some.inj hx2
      exact absurd hi (by show ¬ i < 0; omega)
    · cases hx2
/-- all lengths -/
theorem allLen {P : Program} {f : FuncId} {tab : Bt FnD} {ws : List Nat} {a0 : Int} {a : Addr} {len cap : Nat} {zs : List Int} (hT : ∀ (b : Nat) (s : ArgS), b < 8192 → good b s.es → @TabOK (VS b s) P (ins a0) tab)
    (h0 : ∀ C, chkE (fun b => isT (run tab 1000 noY f (argsE b 0 C) .leaf 0)) ws 0 (ini 0) = true) (h1 : ∀ C, chkE (fun b => isT (run tab 1000 noY f (argsE b 1 C) .leaf 0)) ws 1 (ini 1) = true)
    (h2 : ∀ C, chkE (fun b => isT (run tab 1000 noY f (argsE b 2 C) .leaf 0)) ws 2 (ini 2) = true) (h3 : ∀ C, chkE (fun b => isT (run tab 1000 noY f (argsE b 3 C) .leaf 0)) ws 3 (ini 3) = true)
    (h4 : ∀ C, chkE (fun b => isT (run tab 1000 noY f (argsE b 4 C) .leaf 0)) ws 4 (ini 4) = true) (h5 : ∀ L C, chkE (fun b => isT (run tab 1000 noY f (argsE b (L + 5) C) .leaf 0)) ws 4 (ini 4) = true)
    (w : World) (hz : len ≤ zs.length) (hc : ∀ i, i < zs.length → w.cell? (a.add i) = some (.int .i64 (zs.getD i 0))) :
    Calls P f #[.int .i64 a0, .slice (some a) len cap] w fun e w' => e = .returned (.bool true) ∧ Frm (rn0 (ins a0)) w w' := by
  have key : ∃ b, isT (run tab 1000 noY f (argsE b len cap) .leaf 0) = true ∧ b < 8192 ∧ good b (esOf len zs) := by
    have hl : len = 0 ∨ len = 1 ∨ len = 2 ∨ len = 3 ∨ len = 4 ∨ ∃ L, len = L + 5 := by
      by_cases h : 5 ≤ len
      · exact .inr (.inr (.inr (.inr (.inr ⟨len - 5, by omega⟩))))
      · omega
    rcases hl with rfl | rfl | rfl | rfl | rfl | ⟨L, rfl⟩
    · exact pick (by omega) (.inl rfl) (h0 cap)
    · exact pick (by omega) (.inl rfl) (h1 cap)
    · exact pick (by omega) (.inl rfl) (h2 cap)
    · exact pick (by omega) (.inl rfl) (h3 cap)
    · exact pick (by omega) (.inl rfl) (h4 cap)
    · exact pick (by omega) (.inr ⟨rfl, by omega⟩) (h5 L cap)
  obtain ⟨b, k1, k2, k3⟩ := key
  exact one k2 (hT b _ k2 k3) k1 w hz hc
end Go.Proofs.YtpalciklgbabeaaGreatDoor
