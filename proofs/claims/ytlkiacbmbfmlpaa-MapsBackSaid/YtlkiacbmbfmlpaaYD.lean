import Derived.Test.YtlkiacbmbfmlpaaYC
import Derived.Test.YtlkiacbmbfmlpaaYP
/- The rules together; loops; numbers. -/
namespace Ev
open Go
set_option linter.unusedSectionVars false
set_option linter.unusedVariables false
set_option linter.unusedSimpArgs false
variable [Told] [TokV] [ToldOK]
/-! ### loops -/
noncomputable def loop (b : DC) (y : Yh) (ih : Ih) : Nat → KD := Nat.rec (motive := fun _ => KD) (fun _ _ _ => .err 8) (fun _ rec e t n => b y ih e t n rec)
theorem loop_rec (b : DC) (y : Yh) (ih : Ih) (F : Nat) (e : T AV) (t : H) (n : Nat) : (Nat.rec (motive := fun _ => T AV → H → Nat → Out) (fun _ _ _ => .err 8) (fun _ rec e t n => b y ih e t n rec) F : T AV → H → Nat → Out) e t n = loop b y ih F e t n := rfl
theorem cLoop_eq (b : DC) (y : Yh) (ih : Ih) (e : T AV) (t : H) (n : Nat) (k : KD) : cLoop b y ih e t n k = loop b y ih fuelL e t n := by
  unfold cLoop
  exact loop_rec b y ih fuelL e t n
theorem loop_ind {b : DC} {y : Yh} {ih : Ih} (Q : Out → Prop) (Inv : Nat → T AV → H → Nat → Prop)
    (step : ∀ m e t n (rec : KD), Inv m e t n → (∀ m' e' t' n', m' < m → Inv m' e' t' n' → Q (rec e' t' n')) → Q (b y ih e t n rec)) :
    ∀ f m e t n, Inv m e t n → m < f → Q (loop b y ih f e t n) := by
  intro f
  induction f with
  | zero => intro m e t n _ h; omega
  | succ f ihf =>
    intro m e t n hi hf
    exact step m e t n _ hi fun m' e' t' n' hm hi' => ihf m' e' t' n' hi' (by omega)
/-! ### calls -/
def Rt (tab : Bt FnD) (k : Nat) (ih : Ih) : Prop := ∃ f, k ≤ f ∧ ih = run tab f
theorem Rt.mono {tab : Bt FnD} {k j : Nat} {ih : Ih} (h : Rt tab k ih) (hj : j ≤ k) : Rt tab j ih := by
  obtain ⟨f, h1, h2⟩ := h; exact ⟨f, by omega, h2⟩
theorem call {tab : Bt FnD} {k f : Nat} {s : FnD} {ih : Ih} (h : Rt tab (k + 1) ih) (hg : tab.get f = some s) {P : AV → H → Nat → Prop} {a : AV} {t : H} {n : Nat}
    (hs : ∀ ih', Rt tab k ih' → ∃ v t' n', s noY ih' a t n = .ok v t' n' ∧ P v t' n') : ∃ v t' n', (∀ kk, C ih f a t n kk = kk v t' n') ∧ P v t' n' := by
  obtain ⟨g, h1, rfl⟩ := h
  obtain ⟨g, rfl⟩ : ∃ g', g = g' + 1 := ⟨g - 1, by omega⟩
  obtain ⟨v, t', n', h2, h3⟩ := hs (run tab g) ⟨g, by omega, rfl⟩
  refine ⟨v, t', n', fun kk => ?_, h3⟩
  apply C_ok
  show tag f (Option.rec (motive := fun _ => Out) (.err 98) (fun d => d noY (run tab g) a t n) (tab.get f)) = _
  rw [hg]
  show tag f (s noY (run tab g) a t n) = _
  rw [h2]; rfl
/-! ### numbers -/
theorem ble_ff (n m : Nat) : Nat.ble n m = false ↔ m < n := by
  rw [Bool.eq_false_iff]
  constructor
  · intro h
    rcases Nat.lt_or_ge m n with h' | h'
    · exact h'
    · exact absurd (Nat.ble_eq_true_of_le h') h
  · intro h e
    have := Nat.le_of_ble_eq_true e
    omega
theorem beq_no (n m : Nat) : Nat.beq n m = false ↔ n ≠ m := by
  constructor
  · intro h e
    subst e
    rw [Nat.beq_refl] at h
    cases h
  · exact fun h => Bt.beq_false h
section
variable {q : Nat} {a b : Int} {k : K}
theorem tk2_num (c : Nat) (x y : AV) (d : Out) (q q' : Nat) (a b : Int) : tk2 c (.num q a) (.num q' b) d k = d := rfl
theorem tk1_num (c : Nat) (d : Out) (q : Nat) (a : Int) : tk1 c (.num q a) d k = d := rfl
theorem ar2_num (c q : Nat) (a b : Int) (f : Nat → Int → Int → Out) : ar2 c (.num q a) (.num q b) k f = f q a b := by
  show (Bool.rec (motive := fun _ => Out) (.err 30) (f q a b) (Nat.beq q q) : Out) = _
  rw [Nat.beq_refl]
theorem nn_or {a b : Int} {f : Nat → Nat → Out} {s r : Out} (hs : s = r) (hf : ∀ m n : Nat, a = m → b = n → f m n = r) : nn a b f s = r := by
  cases a with
  | negSucc m => exact hs
  | ofNat m =>
    cases b with
    | negSucc n => exact hs
    | ofNat n => exact hf m n rfl rfl
theorem br_t {α : Type} (x y : α) : (Bool.rec (motive := fun _ => α) x y true : α) = y := rfl
theorem cmp_gen {f : AV → AV → K → Out} {p : Int → Int → Prop} [∀ a b, Decidable (p a b)] {c : Nat} {g : Nat → Nat → Bool} {x1 x2 : Out → Out → Out}
    (hq : q < 8) {pf : AV → AV → K → Out} (hp : ∀ k : K, pf (.num q a) (.num q b) k = k (bL (p a b)))
    (hf : f (.num q a) (.num q b) k = Bool.rec (motive := fun _ => Out) (pf (.num q a) (.num q b) k) (nn a b (fun m n => bif g m n then k tt else k ff) (pf (.num q a) (.num q b) k)) (Nat.ble q 7))
    (hg : ∀ m n : Nat, g m n = true ↔ p m n) : f (.num q a) (.num q b) k = k (bL (p a b)) := by
  rw [hf, show Nat.ble q 7 = true from Nat.ble_eq_true_of_le (by omega)]
  show nn a b _ _ = _
  refine nn_or (hp k) fun m n hm hn => ?_
  subst hm; subst hn
  show (bif g m n then k tt else k ff) = k (bL (p m n))
  by_cases h : g m n = true
  · rw [h]; exact congrArg k (by unfold bL; rw [if_pos ((hg m n).1 h)]; rfl)
  · rw [Bool.eq_false_iff.2 h]; exact congrArg k (by unfold bL; rw [if_neg fun hp => h ((hg m n).2 hp)]; rfl)
theorem br_bif (b : Bool) (x y : Out) : (Bool.rec (motive := fun _ => Out) x y b : Out) = bif b then y else x := by cases b <;> rfl
theorem br_bif' (b : Bool) (x y : Out) : (Bool.rec (motive := fun _ => Out) y x b : Out) = bif !b then y else x := by cases b <;> rfl
theorem q11_num (hq : q < 8) : q11 (.num q a) (.num q b) k = k (bL (a ≠ b)) := by
  refine cmp_gen (p := fun a b => a ≠ b) (c := 0) (x1 := fun a _ => a) (x2 := fun a _ => a) hq (pf := pNeq) (g := fun m n => !Nat.beq m n) (fun k => ?_) ?_ (fun m n => ?_)
  · unfold pNeq; rw [two_num hq, nB_bL, ibeq_eq]; exact congrArg k (bL_congr (by simp))
  · unfold q11; rw [ar2_num]; congr 2; funext m n; cases Nat.beq m n <;> rfl
  · simp [beq_no]; omega
theorem q12_num (hq : q < 8) : q12 (.num q a) (.num q b) k = k (bL (a < b)) := by
  refine cmp_gen (p := fun a b => a < b) (c := 0) (x1 := fun a _ => a) (x2 := fun a _ => a) hq (pf := pLss) (g := fun m n => !Nat.ble n m) (fun k => ?_) ?_ (fun m n => ?_)
  · unfold pLss; rw [two_num hq, nB_bL, ile_eq]; exact congrArg k (bL_congr (by simp))
  · unfold q12; rw [ar2_num]; congr 2; funext m n; cases Nat.ble n m <;> rfl
  · simp [Nat.ble_eq, ble_ff]
theorem q13_num (hq : q < 8) : q13 (.num q a) (.num q b) k = k (bL (a ≤ b)) := by
  refine cmp_gen (p := fun a b => a ≤ b) (c := 0) (x1 := fun a _ => a) (x2 := fun a _ => a) hq (pf := pLeq) (g := fun m n => Nat.ble m n) (fun k => ?_) ?_ (fun m n => ?_)
  · unfold pLeq; rw [two_num hq, pB_bL, ile_eq]; exact congrArg k (bL_congr (by simp))
  · unfold q13; rw [ar2_num]; congr 2; funext m n; cases Nat.ble m n <;> rfl
  · simp [Nat.ble_eq, ble_ff]
theorem q14_num (hq : q < 8) : q14 (.num q a) (.num q b) k = k (bL (b < a)) := by
  refine cmp_gen (p := fun a b => b < a) (c := 0) (x1 := fun a _ => a) (x2 := fun a _ => a) hq (pf := pGtr) (g := fun m n => !Nat.ble m n) (fun k => ?_) ?_ (fun m n => ?_)
  · unfold pGtr; rw [two_num hq, nB_bL, ile_eq]; exact congrArg k (bL_congr (by simp))
  · unfold q14; rw [ar2_num]; congr 2; funext m n; cases Nat.ble m n <;> rfl
  · simp [Nat.ble_eq, ble_ff]
theorem q15_num (hq : q < 8) : q15 (.num q a) (.num q b) k = k (bL (b ≤ a)) := by
  refine cmp_gen (p := fun a b => b ≤ a) (c := 0) (x1 := fun a _ => a) (x2 := fun a _ => a) hq (pf := pGeq) (g := fun m n => Nat.ble n m) (fun k => ?_) ?_ (fun m n => ?_)
  · unfold pGeq; rw [two_num hq, pB_bL, ile_eq]; exact congrArg k (bL_congr (by simp))
  · unfold q15; rw [ar2_num]; congr 2; funext m n; cases Nat.ble n m <;> rfl
  · simp [Nat.ble_eq, ble_ff]
theorem wrap3 {z : Int} (h : -9223372036854775808 ≤ z ∧ z < 9223372036854775808) : (Ev.kind 3).wrap z = z := by
  show IntKind.i64.wrap z = z
  unfold IntKind.wrap IntKind.bits IntKind.signed
  simp
  omega
theorem inL_eq {q s : Nat} {d : Out} (h : d = k (.num q (.ofNat s))) : inL q s k d = k (.num q (.ofNat s)) := by
  unfold inL
  rw [h]; cases Nat.ble (Nat.succ s) (lim1 q) <;> rfl
theorem q0_3 (h : -9223372036854775808 ≤ a + b ∧ a + b < 9223372036854775808) : q0 (.num 3 a) (.num 3 b) k = k (.num 3 (a + b)) := by
  unfold q0; rw [ar2_num]
  have hp : pAdd (.num 3 a) (.num 3 b) k = k (.num 3 (a + b)) := by
    unfold pAdd; rw [two_num (by omega), pI_eq, wrapI_eq, show Int.add a b = a + b from rfl, wrap3 h]
  refine nn_or hp fun m n hm hn => ?_
  subst hm; subst hn
  rw [forceN_eq]
  exact inL_eq hp
theorem q1_3 (h : -9223372036854775808 ≤ a - b ∧ a - b < 9223372036854775808) : q1 (.num 3 a) (.num 3 b) k = k (.num 3 (a - b)) := by
  unfold q1; rw [ar2_num]
  have hp : pSub (.num 3 a) (.num 3 b) k = k (.num 3 (a - b)) := by
    unfold pSub; rw [two_num (by omega), pI_eq, wrapI_eq, show Int.sub a b = a - b from rfl, wrap3 h]
  refine nn_or hp fun m n hm hn => ?_
  subst hm; subst hn
  cases hb : Nat.ble n m with
  | false => exact hp
  | true =>
    have hle := Nat.le_of_ble_eq_true hb
    show forceN (Nat.sub m n) (fun s => inL 3 s k (pSub _ _ k)) = _
    rw [forceN_eq]
    have e : ((m : Int) - (n : Int)) = Int.ofNat (Nat.sub m n) := by show _ = ((m - n : Nat) : Int); omega
    rw [inL_eq (hp.trans (by rw [e])), e]
end
end Ev
