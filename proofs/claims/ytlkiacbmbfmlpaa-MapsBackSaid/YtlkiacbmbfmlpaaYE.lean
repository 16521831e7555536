import Derived.Test.YtlkiacbmbfmlpaaYD
/- More rules: guards, parts, cuts, numbers. -/
namespace Ev
open Go
set_option linter.unusedSectionVars false
set_option linter.unusedVariables false
set_option linter.unusedSimpArgs false
variable [Told] [TokV] [ToldOK]
theorem gd_t (p : Prop) [Decidable p] (x : KH → Out) (t : H) (n : Nat) (k : KH) : gd (bL p) true x t n k = if p then x k else k unit t n := by
  unfold bL; by_cases h : p
  · rw [if_pos h, if_pos h]; rfl
  · rw [if_neg h, if_neg h]; rfl
theorem gd_f (p : Prop) [Decidable p] (x : KH → Out) (t : H) (n : Nat) (k : KH) : gd (bL p) false x t n k = if p then k unit t n else x k := by
  unfold bL; by_cases h : p
  · rw [if_pos h, if_pos h]; rfl
  · rw [if_neg h, if_neg h]; rfl
theorem pPick_bL (p : Prop) [Decidable p] (a b : AV) (k : K) : pPick (bL p) a b k = if p then k a else k b := by
  unfold pPick; exact vbool_bL p _ _
theorem pNot_bL (p : Prop) [Decidable p] (k : K) : pNot (bL p) k = k (bL ¬ p) := by
  unfold pNot; rw [vbool_bL]; by_cases h : p
  · rw [if_pos h]; exact congrArg k (by unfold bL; rw [if_neg (fun hn => hn h)]; rfl)
  · rw [if_neg h]; exact congrArg k (by unfold bL; rw [if_pos h]; rfl)
theorem parts_1_0 {a v : AV} {k : K} (h : cellsK v = fun f => f (.cons v .nil)) : parts1 (.cons a .nil) 0 1 v k = k (.cons v .nil) := by unfold parts1; rw [h]; rfl
theorem parts_2_0 {a b v : AV} {k : K} (h : cellsK v = fun f => f (.cons v .nil)) : parts1 (.cons a (.cons b .nil)) 0 1 v k = k (.cons v (.cons b .nil)) := by unfold parts1; rw [h]; rfl
theorem parts_2_1 {a b v : AV} {k : K} (h : cellsK v = fun f => f (.cons v .nil)) : parts1 (.cons a (.cons b .nil)) 1 1 v k = k (.cons a (.cons v .nil)) := by unfold parts1; rw [h]; rfl
theorem parts_3_0 {a b c v : AV} {k : K} (h : cellsK v = fun f => f (.cons v .nil)) : parts1 (.cons a (.cons b (.cons c .nil))) 0 1 v k = k (.cons v (.cons b (.cons c .nil))) := by unfold parts1; rw [h]; rfl
theorem parts_3_1 {a b c v : AV} {k : K} (h : cellsK v = fun f => f (.cons v .nil)) : parts1 (.cons a (.cons b (.cons c .nil))) 1 1 v k = k (.cons a (.cons v (.cons c .nil))) := by unfold parts1; rw [h]; rfl
theorem parts_3_2 {a b c v : AV} {k : K} (h : cellsK v = fun f => f (.cons v .nil)) : parts1 (.cons a (.cons b (.cons c .nil))) 2 1 v k = k (.cons a (.cons b (.cons v .nil))) := by unfold parts1; rw [h]; rfl
theorem parts_4_0 {a b c d v : AV} {k : K} (h : cellsK v = fun f => f (.cons v .nil)) : parts1 (.cons a (.cons b (.cons c (.cons d .nil)))) 0 1 v k = k (.cons v (.cons b (.cons c (.cons d .nil)))) := by unfold parts1; rw [h]; rfl
theorem parts_4_1 {a b c d v : AV} {k : K} (h : cellsK v = fun f => f (.cons v .nil)) : parts1 (.cons a (.cons b (.cons c (.cons d .nil)))) 1 1 v k = k (.cons a (.cons v (.cons c (.cons d .nil)))) := by unfold parts1; rw [h]; rfl
theorem parts_4_2 {a b c d v : AV} {k : K} (h : cellsK v = fun f => f (.cons v .nil)) : parts1 (.cons a (.cons b (.cons c (.cons d .nil)))) 2 1 v k = k (.cons a (.cons b (.cons v (.cons d .nil)))) := by unfold parts1; rw [h]; rfl
theorem parts_4_3 {a b c d v : AV} {k : K} (h : cellsK v = fun f => f (.cons v .nil)) : parts1 (.cons a (.cons b (.cons c (.cons d .nil)))) 3 1 v k = k (.cons a (.cons b (.cons c (.cons v .nil)))) := by unfold parts1; rw [h]; rfl
theorem pExt_0 (x : Nat) (a r : AV) (k : K) : pExt 0 (.com 1 x (.cons a r)) k = k a := rfl
theorem pExt_1 (x : Nat) (a b r : AV) (k : K) : pExt 1 (.com 1 x (.cons a (.cons b r))) k = k b := rfl
theorem ck_bL (p : Prop) [Decidable p] : cellsK (bL p) = fun f => f (.cons (bL p) .nil) := rfl
/-- is a slice the nil one? -/
theorem isNil_sl {g b e o l c m : Nat} (hm : tbl1 g = m) (x y : Out) : isNil 1 (.ref g b e o l c) x y = bO (Nat.beq (Nat.div m 2) 1) (bO (Nat.beq (Nat.mod m 2) 1) x y) (.err 37) := by
  unfold isNil; rw [nilc_ref, hm]
theorem pEqN_sl {t : H} {sz : Nat} {s : AV} {xs : List AV} (h : Sl t sz s xs) (k : K) : pEqN 1 s (.ref 2 0 0 0 0 0) k = k (bL (s = .ref 2 0 0 0 0 0)) := by
  obtain ⟨_, _, t2, t3, t4, t5, t6, _, _, _, _, _, _, _, _, _, t16, _⟩ := tbl1_ok
  have hne : ∀ {g b e o l c : Nat}, g ≠ 2 → k (bL (AV.ref g b e o l c = .ref 2 0 0 0 0 0)) = k ff := fun hg => congrArg k (by unfold bL; rw [if_neg (fun e => hg (by injection e))]; rfl)
  have hyes : k (bL (AV.ref 2 0 0 0 0 0 = .ref 2 0 0 0 0 0)) = k tt := congrArg k (by unfold bL; rw [if_pos rfl]; rfl)
  have go : ∀ {g b e o l c : Nat}, tbl1 g = 2 → pEqN 1 (.ref g b e o l c) (.ref 2 0 0 0 0 0) k = k ff := fun hg => by
    unfold pEqN; rw [isNil_sl hg, isNil_sl t2, isNil_sl t2]; rfl
  cases h with
  | nil => rw [hyes]; unfold pEqN; rw [isNil_sl t2, isNil_sl t2, isNil_sl t2]; rfl
  | row hg hb hl hc hx =>
    rw [hne (by omega)]
    rcases hg with rfl | rfl
    · exact go t3
    · exact go t4
  | arg hl he hx hc => rw [hne (by omega)]; exact go t16
  | fin hg =>
    rw [hne (by omega)]
    rcases hg with rfl | rfl
    · exact go t5
    · exact go t6
/-- a cut of a slice -/
theorem pSlV_sl {t : H} {sz : Nat} {s : AV} {xs : List AV} (h : Sl t sz s xs) (h5 : ∀ b e o l c, s ≠ .ref 5 b e o l c) (hz : 0 < sz) {l u : Nat} (h1 : l ≤ u) (h2 : u * sz ≤ xs.length) : ∃ s', (∀ k, pSlV sz s (some (.num 3 (.ofNat l))) (some (.num 3 (.ofNat u))) none t k = k s') ∧ Sl t sz s' ((xs.drop (l * sz)).take ((u - l) * sz)) ∧ (∀ b ∈ bk s', b ∈ bk s) ∧ ∀ b e o l c, s' = .ref 5 b e o l c → ∃ b e o l c, s = .ref 4 b e o l c := by
  have hlen0 : xs.length = 0 → (xs.drop (l * sz)).take ((u - l) * sz) = [] := fun h0 => by
    have : xs = [] := by simpa using h0
    subst this; simp
  cases h with
  | nil =>
    have hu : u = 0 := by
      rcases Nat.eq_zero_or_pos u with h | h
      · exact h
      · have := Nat.mul_pos h hz; simp at h2; omega
    subst hu
    have : l = 0 := by omega
    subst this
    exact ⟨.ref 2 0 0 0 0 0, fun k => rfl, by simpa using Sl.nil, fun b hb => (by cases hb), fun _ _ _ _ _ h => by cases h⟩
  | fin hg =>
    rename_i g b e o len cap
    have hu : u = 0 := by
      rcases Nat.eq_zero_or_pos u with h | h
      · exact h
      · have := Nat.mul_pos h hz; simp at h2; omega
    subst hu
    have : l = 0 := by omega
    subst this
    rcases hg with rfl | rfl
    · exact absurd rfl (h5 b e o len cap)
    · exact ⟨.ref 6 b e o len 0, fun k => rfl, by simpa using Sl.fin (.inr rfl), fun b hb => (by cases hb), fun _ _ _ _ _ h => by cases h⟩
  | row hg hb hl hc hx =>
    rename_i g b e o len cap
    obtain ⟨c, nc, ep, hgt⟩ := hb
    have hul : u ≤ len := by rw [hl] at h2; exact Nat.le_of_mul_le_mul_right h2 hz
    have hsub := hx.sub (l * sz) ((u - l) * sz)
    have hsl : ((xs.drop (l * sz)).take ((u - l) * sz)).length = (u - l) * sz := by
      have h1' : l * sz ≤ u * sz := Nat.mul_le_mul_right _ h1
      rw [List.length_take, List.length_drop, Nat.sub_mul]; omega
    have e1 : ∀ k, pSlV sz (.ref g b e o len cap) (some (.num 3 (.ofNat l))) (some (.num 3 (.ofNat u))) none t k = szOk sz g b l t (cut sz g b e o cap l u cap false k) := by
      intro k
      unfold pSlV
      rcases hg with rfl | rfl <;> rfl
    have e2 : ∀ k, szOk sz g b l t k = k := by
      intro k
      unfold szOk
      rcases hg with rfl | rfl
      · rfl
      · show bO (Nat.beq l 0) k (withRow t b fun sz' _ _ _ => bO (Nat.beq sz sz') k (.err 63)) = k
        rw [withRow_ok hgt, Nat.beq_refl]
        cases Nat.beq l 0 <;> rfl
    have e3 : ∀ k, cut sz g b e o cap l u cap false k = bO (Nat.beq cap l) (bO (Nat.beq g 3) (k (.ref 3 b e o 0 0)) (bO (Nat.beq l 0) (k (.ref 4 b e o 0 0)) (k (.ref 5 b e o l 0)))) (k (.ref g b e (o + l * sz) (u - l) (cap - l))) := by
      intro k
      unfold cut
      rw [Nat.ble_eq_true_of_le (show u ≤ cap by omega), Nat.ble_eq_true_of_le h1, Nat.ble_eq_true_of_le (Nat.le_refl cap)]
      simp only [forceN_eq]
      rfl
    by_cases hcl : cap = l
    · have hlu : u = l := by omega
      have hnil : (xs.drop (l * sz)).take ((u - l) * sz) = [] := by rw [hlu, Nat.sub_self, Nat.zero_mul, List.take_zero]
      rw [hnil]
      rcases hg with rfl | rfl
      · exact ⟨.ref 3 b e o 0 0, fun k => by rw [e1, e2, e3, hcl, Nat.beq_refl]; rfl, .row (.inl rfl) ⟨c, nc, ep, hgt⟩ (by simp) (Nat.le_refl _) (fun i x h => by simp at h), fun b hb => (by simpa [bk] using hb), fun _ _ _ _ _ h => by cases h⟩
      · by_cases h0 : l = 0
        · subst h0
          exact ⟨.ref 4 b e o 0 0, fun k => by rw [e1, e2, e3, hcl, Nat.beq_refl]; rfl, .row (.inr rfl) ⟨c, nc, ep, hgt⟩ (by simp) (Nat.le_refl _) (fun i x h => by simp at h), fun b hb => (by simpa [bk] using hb), fun _ _ _ _ _ h => by cases h⟩
        · exact ⟨.ref 5 b e o l 0, fun k => by rw [e1, e2, e3, hcl, Nat.beq_refl, Bt.beq_false h0]; rfl, .fin (.inl rfl), fun b hb => (by simp [bk] at hb), fun _ _ _ _ _ _ => ⟨_, _, _, _, _, rfl⟩⟩
    · refine ⟨.ref g b e (o + l * sz) (u - l) (cap - l), fun k => by rw [e1, e2, e3, Bt.beq_false hcl], .row hg ⟨c, nc, ep, hgt⟩ hsl (by omega) hsub, fun b' hb => ?_, fun _ _ _ _ _ h => ?_⟩
      · rcases hg with rfl | rfl <;> simpa [bk] using hb
      · rcases hg with rfl | rfl <;> cases h
  | arg hl he hx hc =>
    rename_i b e o len cap
    have hul : u ≤ len := by rw [hl] at h2; exact Nat.le_of_mul_le_mul_right h2 hz
    have hsl : ((xs.drop (l * sz)).take ((u - l) * sz)).length = (u - l) * sz := by
      have h1' : l * sz ≤ u * sz := Nat.mul_le_mul_right _ h1
      rw [List.length_take, List.length_drop, Nat.sub_mul]; omega
    have e1 : ∀ k, pSlV sz (.ref 16 b e o len cap) (some (.num 3 (.ofNat l))) (some (.num 3 (.ofNat u))) none t k = bO (Nat.beq cap l) (k (.ref 16 b e o 0 0)) (adA b e o (l * sz) fun e' o' => k (.ref 16 b e' o' (u - l) (cap - l))) := by
      intro k
      unfold pSlV
      show bO (Nat.blt cap cap) (.err 49) (bO (Nat.blt cap u) (.err 49) (bO (Nat.blt u l) (.err 49) _)) = _
      rw [blt_f (Nat.le_refl cap), blt_f (show u ≤ cap by omega), blt_f h1]
      simp only [forceN_eq]
      rfl
    have hget : ∀ i x, ((xs.drop (l * sz)).take ((u - l) * sz))[i]? = some x → Told.ar b (o + l * sz + i) = some x := fun i x hi => by
      rw [List.getElem?_take] at hi
      split at hi
      · rw [List.getElem?_drop] at hi
        have := hx _ x hi
        rwa [show o + (l * sz + i) = o + l * sz + i by omega] at this
      · cases hi
    by_cases hcl : cap = l
    · have hlu : u = l := by omega
      have hnil : (xs.drop (l * sz)).take ((u - l) * sz) = [] := by rw [hlu, Nat.sub_self, Nat.zero_mul, List.take_zero]
      rw [hnil]
      exact ⟨.ref 16 b e o 0 0, fun k => by rw [e1, hcl, Nat.beq_refl], .arg (by simp) (fun h => by simp at h) (fun i x h => by simp at h) (Nat.le_refl _), fun b hb => (by simp [bk] at hb), fun _ _ _ _ _ h => by cases h⟩
    · by_cases h0 : l * sz = 0
      · refine ⟨.ref 16 b e o (u - l) (cap - l), fun k => by rw [e1, Bt.beq_false hcl, adA_eq, if_pos h0], .arg hsl (fun hne => ?_) (fun i x hi => by have := hget i x hi; rwa [h0, Nat.add_zero] at this) (by omega), fun b hb => (by simp [bk] at hb), fun _ _ _ _ _ h => by cases h⟩
        refine he ?_
        rw [hsl] at hne
        intro h'
        have : u - l ≠ 0 := fun e => by rw [e] at hne; simp at hne
        have := Nat.mul_pos (show 0 < u by omega) hz
        omega
      · exact ⟨.ref 16 b 0 (o + l * sz) (u - l) (cap - l), fun k => by rw [e1, Bt.beq_false hcl, adA_eq, if_neg h0], .arg hsl (fun _ => rfl) hget (by omega), fun b hb => (by simp [bk] at hb), fun _ _ _ _ _ h => by cases h⟩
/-! ### numbers, more -/
theorem ofN_eq (a b : Nat) : (Int.ofNat a = Int.ofNat b) = (a = b) := propext ⟨Int.ofNat.inj, fun h => by rw [h]⟩
theorem ofN_ne (a b : Nat) : (Int.ofNat a ≠ Int.ofNat b) = (a ≠ b) := by rw [ne_eq, ofN_eq]
theorem ofN_lt (a b : Nat) : (Int.ofNat a < Int.ofNat b) = (a < b) := propext Int.ofNat_lt
theorem ofN_le (a b : Nat) : (Int.ofNat a ≤ Int.ofNat b) = (a ≤ b) := propext Int.ofNat_le
theorem q0_n {a b : Nat} {k : K} (h : a + b < 9223372036854775808) : q0 (.num 3 (.ofNat a)) (.num 3 (.ofNat b)) k = k (.num 3 (.ofNat (a + b))) := q0_3 (a := .ofNat a) (b := .ofNat b) (by simp; omega)
theorem q1_n {a b : Nat} {k : K} (h : b ≤ a) (h2 : a < 9223372036854775808) : q1 (.num 3 (.ofNat a)) (.num 3 (.ofNat b)) k = k (.num 3 (.ofNat (a - b))) :=
  (q1_3 (a := .ofNat a) (b := .ofNat b) (by simp; omega)).trans (by rw [show (Int.ofNat a - Int.ofNat b) = Int.ofNat (a - b) by simp; omega])
section
variable {q q' : Nat} {a b : Int} {k : K}
theorem kind_lt {q : Nat} : True := trivial
theorem pConvT_num (hq : q' < 8) : pConvT q (.num q' a) k = k (.num q ((Ev.kind q).wrap a)) := by
  show pConv q (.num q' a) k = _
  unfold pConv
  show bO (Nat.blt q' 8) (pI q (wrapI q a) k) (.err 14) = _
  rw [blt_t hq, pI_eq, wrapI_eq]
theorem wrap4 (z : Int) : (Ev.kind 4).wrap z = z % 256 := by
  show IntKind.u8.wrap z = _
  unfold IntKind.wrap IntKind.bits IntKind.signed; simp
theorem wrap7 (z : Int) : (Ev.kind 7).wrap z = z % 18446744073709551616 := by
  show IntKind.u64.wrap z = _
  unfold IntKind.wrap IntKind.bits IntKind.signed; simp
theorem q2_3 (h : -9223372036854775808 ≤ a * b ∧ a * b < 9223372036854775808) : q2 (.num 3 a) (.num 3 b) k = k (.num 3 (a * b)) := by
  unfold q2; rw [ar2_num]
  have hp : pMul (.num 3 a) (.num 3 b) k = k (.num 3 (a * b)) := by
    unfold pMul; rw [two_num (by omega), pI_eq, wrapI_eq, show Int.mul a b = a * b from rfl, wrap3 h]
  refine nn_or hp fun m n hm hn => ?_
  subst hm; subst hn
  rw [forceN_eq]
  exact inL_eq hp
theorem q3_3 (hb : b ≠ 0) (h : -9223372036854775808 ≤ a.tdiv b ∧ a.tdiv b < 9223372036854775808) : q3 (.num 3 a) (.num 3 b) k = k (.num 3 (a.tdiv b)) := by
  show pQuo (.num 3 a) (.num 3 b) k = _
  unfold pQuo; rw [two_num (by omega), ibeq_eq, show (b == 0) = false by simpa using hb]
  show pI 3 (wrapI 3 (a.tdiv b)) k = _
  rw [pI_eq, wrapI_eq, wrap3 h]
theorem q4_3 (hb : b ≠ 0) : q4 (.num 3 a) (.num 3 b) k = k (.num 3 (a.tmod b)) := by
  show pRem (.num 3 a) (.num 3 b) k = _
  unfold pRem; rw [two_num (by omega), ibeq_eq, show (b == 0) = false by simpa using hb]
  show pI 3 (a.tmod b) k = _
  rw [pI_eq]
theorem vnat_q (hq : q < 8) (n : Nat) (f : Nat → Out) : vnat (.num q (.ofNat n)) f = f n := by
  unfold vnat vint vnum
  show bO (Nat.blt q 8) _ _ = _
  rw [blt_t hq]
theorem q8_num (hq : q < 8) (hq' : q' < 8) {n : Nat} (hn : n ≤ 8 ∨ (q = 3 ∧ n ≤ 64)) : q8 (.num q a) (.num q' (.ofNat n)) k = k (.num q ((Ev.kind q).wrap (a * 2 ^ n))) := by
  show pShl (.num q a) (.num q' (.ofNat n)) k = _
  unfold pShl vint vnum
  show bO (Nat.blt q 8) _ _ = _
  rw [blt_t hq]
  show vnat (.num q' (.ofNat n)) _ = _
  rw [vnat_q hq']
  have e : Int.mul a (Int.ofNat (Nat.pow 2 n)) = a * 2 ^ n := by
    show a * ((2 ^ n : Nat) : Int) = _
    rw [Int.natCast_pow]; rfl
  by_cases h8 : n ≤ 8
  · rw [Nat.ble_eq_true_of_le h8]
    show pI q (wrapI q (Int.mul a (Int.ofNat (Nat.pow 2 n)))) k = _
    rw [pI_eq, wrapI_eq, e]
  · obtain ⟨rfl, h64⟩ := hn.resolve_left h8
    rw [ble_f (by omega), Nat.ble_eq_true_of_le h64]
    show pI 3 (wrapI 3 (Int.mul a (Int.ofNat (Nat.pow 2 n)))) k = _
    rw [pI_eq, wrapI_eq, e]
theorem q9_num (hq : q < 8) (hq' : q' < 8) {m n : Nat} (hn : n ≤ 8 ∨ (q = 3 ∧ n ≤ 64)) : q9 (.num q (.ofNat m)) (.num q' (.ofNat n)) k = k (.num q (.ofNat (m / 2 ^ n))) := by
  show pShr (.num q (.ofNat m)) (.num q' (.ofNat n)) k = _
  unfold pShr vint vnum
  show bO (Nat.blt q 8) _ _ = _
  rw [blt_t hq]
  show vnat (.num q' (.ofNat n)) _ = _
  rw [vnat_q hq']
  by_cases h8 : n ≤ 8
  · rw [Nat.ble_eq_true_of_le h8]
    show pI q (Int.ofNat (Nat.div m (Nat.pow 2 n))) k = _
    rw [pI_eq]; rfl
  · obtain ⟨rfl, h64⟩ := hn.resolve_left h8
    rw [ble_f (by omega), Nat.ble_eq_true_of_le h64]
    show pI 3 (Int.ofNat (Nat.div m (Nat.pow 2 n))) k = _
    rw [pI_eq]; rfl
theorem q6_num (hq : q < 8) {m n : Nat} : q6 (.num q (.ofNat m)) (.num q (.ofNat n)) k = k (.num q ((Ev.kind q).wrap (.ofNat (m ||| n)))) := by
  show pBit Nat.lor (.num q (.ofNat m)) (.num q (.ofNat n)) k = _
  unfold pBit; rw [two_num hq]
  show pI q (wrapI q (Int.ofNat (Nat.lor m n))) k = _
  rw [pI_eq, wrapI_eq]; rfl
theorem q5_num (hq : q < 8) {m n : Nat} : q5 (.num q (.ofNat m)) (.num q (.ofNat n)) k = k (.num q ((Ev.kind q).wrap (.ofNat (m &&& n)))) := by
  show pBit Nat.land (.num q (.ofNat m)) (.num q (.ofNat n)) k = _
  unfold pBit; rw [two_num hq]
  show pI q (wrapI q (Int.ofNat (Nat.land m n))) k = _
  rw [pI_eq, wrapI_eq]; rfl
end
end Ev
