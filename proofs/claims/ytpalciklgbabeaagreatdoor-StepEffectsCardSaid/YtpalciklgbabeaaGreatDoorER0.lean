import Derived.Test.YtpalciklgbabeaaGreatDoorV2
/- What is told at an argument that is a slice of ints, of whose first four the remainder by 8 is known, or not, and that it is right. Conditions: those of each case. -/
namespace Go.Proofs.YtpalciklgbabeaaGreatDoor
open Go Ev
set_option linter.unusedVariables false
set_option linter.unusedSimpArgs false
noncomputable abbrev T0 : Ev.Told := ⟨fun _ _ _ => none⟩
abbrev V0 : TokV := ⟨fun _ => none, fun _ => none, fun _ => none⟩
theorem O0 : @ToldOK V0 T0 := @ToldOK.mk V0 T0 (fun _ _ _ _ h => by cases h) (fun _ _ h => by cases h)
def ii3 (n : Nat) : AV := .num 3 (.ofNat n)
/-! ### what kind() tells: the fields of its value -/
def fK (k : Nat) : Nat := match k with | 0 => 1 | 1 => 2 | 2 => 3 | 3 => 6 | 4 => 4 | _ => 3
def fD (k : Nat) : Nat := match k with | 5 => 1 | 6 => 1 | _ => 0
def fS (k : Nat) : List Nat := match k with | 2 => [65] | 4 => [65] | 6 => [65] | 7 => [79, 98, 106, 101, 99, 116] | _ => []
def fA (k : Nat) : Nat := match k with | 4 => 9 | _ => 0
def kindv (k : Nat) : AV := .com 0 0 (.cons (ii3 (fK k)) (.cons (ii3 (fD k)) (.cons (.str (fS k)) (.cons (ii3 (fA k)) .nil))))
def kindV (k : Nat) : Value := .agg #[.int .i64 (fK k : Int), .int .i64 (fD k : Int), .string (sbytes (fS k)), .int .i64 (fA k : Int)]
theorem fS_ok (k : Nat) : (fS k).all (· < 256) = true := by unfold fS; split <;> decide
theorem toV_ii3 [TokV] (ι : Rn) (n : Nat) : toV ι (ii3 n) = some (.int .i64 (n : Int)) := by simp [ii3, toV, numV, kind]
theorem kindv_ok [TokV] (ι : Rn) (k : Nat) : toV ι (kindv k) = some (kindV k) := by
  have hs := fS_ok k
  simp only [kindv, toV, toT, toV_ii3, hs, if_true, Option.bind_some, Option.map_some, comV]
  rfl
def unkv (e : Nat) : AV := .com 0 0 (.cons (.ref 13 (2 * (4 * e) + 1) 0 0 0 0) (.cons (.ref 13 (2 * (4 * e + 1) + 1) 0 0 0 0) (.cons (.ref 14 e 0 0 0 0) (.cons (.ref 13 (2 * (4 * e + 2) + 1) 0 0 0 0) .nil))))
def dig (b i : Nat) : Nat := b / 9 ^ i % 9
def resK (q : Nat) : Option AV := bif Nat.beq (q % 2) 1 then none else bif Nat.ble 4 (q / 2 / 8192) then none else
  some (bif Nat.beq (dig (q / 2 % 8192) (q / 2 / 8192)) 8 then unkv (q / 2) else kindv (dig (q / 2 % 8192) (q / 2 / 8192)))
/-! ### the values -/
def elem (b : Nat) (es : Nat → Int) (e : Nat) : Int := if e % 8192 = b then es (e / 8192) else (dig (e % 8192) (e / 8192) : Int)
def kd (b : Nat) (es : Nat → Int) (e : Nat) : Nat := (elem b es e % 8).toNat
def fieldN (k r : Nat) : Int := match r with | 0 => (fK k : Int) | 1 => (fD k : Int) | _ => (fA k : Int)
abbrev VS (b : Nat) (s : ArgS) : TokV :=
  ⟨fun i => some (.i64, if i % 2 = 0 then elem b s.es (i / 2) else fieldN (kd b s.es (i / 2 / 4)) (i / 2 % 4)), fun e => some (sbytes (fS (kd b s.es e))), fun b' => if b' = b then some s else none⟩
/-- the same is the same -/
noncomputable def tbE (c : Nat) (x y : AV) : Option AV := AV.rec (motive := fun _ => Option AV) (fun _ _ => none) (fun _ => none)
  (fun g _ _ _ _ _ => Bool.rec (motive := fun _ => Option AV) (Bool.rec (motive := fun _ => Option AV) none (some tt) (an2 (Nat.beq g 14) (an2 (Nat.beq c 18) (aveq x y)))) (some tt) (an2 (Nat.beq g 13) (an2 (Nat.beq c 10) (aveq x y))))
  (fun _ _ _ _ => none) none (fun _ _ _ _ => none) x
noncomputable abbrev TE : Ev.Told := ⟨tbE⟩
section
variable [TokV] {x y v : AV} {q : IntKind} {a b : Int}
theorem s_eq (hx : tv x = some (.int q a)) (hy : tv y = some (.int q b)) (hv : tv v = some (.bool (a == b))) : Sound 10 x y v :=
  ⟨fun op' h => (by cases h), fun _ => ⟨q, a, b, hx, hy, hv⟩, fun h => (by omega), fun h => (by omega), fun h => (by omega), fun h => (by omega), fun h => (by omega), fun q h => (by omega)⟩
theorem s_eqs {a b : ByteArray} (hx : tv x = some (.string a)) (hy : tv y = some (.string b)) (hv : tv v = some (.bool (a == b))) : Sound 18 x y v :=
  ⟨fun op' h => (by cases h), fun h => (by omega), fun h => (by omega), fun _ => ⟨a, b, hx, hy, hv⟩, fun h => (by omega), fun h => (by omega), fun h => (by omega), fun q h => (by omega)⟩
end
theorem tbE_inv {c : Nat} {x y v : AV} (h : tbE c x y = some v) : v = tt ∧ x = y ∧ ((c = 10 ∧ ∃ i e o l k, x = .ref 13 i e o l k) ∨ (c = 18 ∧ ∃ i e o l k, x = .ref 14 i e o l k)) := by
  cases x with
  | ref g i e o l k =>
    have h : Bool.rec (motive := fun _ => Option AV) (Bool.rec (motive := fun _ => Option AV) none (some tt) (an2 (Nat.beq g 14) (an2 (Nat.beq c 18) (aveq (.ref g i e o l k) y)))) (some tt) (an2 (Nat.beq g 13) (an2 (Nat.beq c 10) (aveq (.ref g i e o l k) y))) = some v := h
    cases h1 : an2 (Nat.beq g 13) (an2 (Nat.beq c 10) (aveq (.ref g i e o l k) y)) with
    | true =>
      rw [h1] at h
      have hv := Option.some.inj (show some tt = some v from h)
      obtain ⟨h2, h3⟩ := @an2_inv T0 V0 O0 _ _ h1
      obtain ⟨h3, h4⟩ := @an2_inv T0 V0 O0 _ _ h3
      have e1 := Nat.eq_of_beq_eq_true h2
      have e2 := Nat.eq_of_beq_eq_true h3
      subst e1; subst e2
      exact ⟨hv.symm, @aveq_eq T0 V0 O0 _ _ h4, .inl ⟨rfl, i, e, o, l, k, rfl⟩⟩
    | false =>
      rw [h1] at h
      cases h5 : an2 (Nat.beq g 14) (an2 (Nat.beq c 18) (aveq (.ref g i e o l k) y)) with
      | true =>
        rw [h5] at h
        have hv := Option.some.inj (show some tt = some v from h)
        obtain ⟨h2, h3⟩ := @an2_inv T0 V0 O0 _ _ h5
        obtain ⟨h3, h4⟩ := @an2_inv T0 V0 O0 _ _ h3
        have e1 := Nat.eq_of_beq_eq_true h2
        have e2 := Nat.eq_of_beq_eq_true h3
        subst e1; subst e2
        exact ⟨hv.symm, @aveq_eq T0 V0 O0 _ _ h4, .inr ⟨rfl, i, e, o, l, k, rfl⟩⟩
      | false => rw [h5] at h; cases h
  | num k n => cases h
  | str l => cases h
  | com g k l => cases h
  | nil => cases h
  | cons a b => cases h
theorem told_ok {b : Nat} {s : ArgS} (hb : b < 8192) : @ToldOK (VS b s) TE := @ToldOK.mk (VS b s) TE
  (fun c x y v h => by
    letI : TokV := VS b s
    obtain ⟨rfl, rfl, ⟨rfl, i, e, o, l, k, rfl⟩ | ⟨rfl, i, e, o, l, k, rfl⟩⟩ := tbE_inv h
    · exact s_eq (q := .i64) (a := _) (b := _) rfl rfl (by rw [beq_self_eq_true]; rfl)
    · refine s_eqs (a := sbytes (fS (kd b s.es i))) (b := sbytes (fS (kd b s.es i))) rfl rfl ?_
      rw [show (sbytes (fS (kd b s.es i)) == sbytes (fS (kd b s.es i))) = true from by rw [MapKept.bytes_beq]]
      rfl)
  (fun b' x hx i hi => by
    letI : TokV := VS b s
    have hx2 : (if b' = b then some s else none) = some x := hx
    split at hx2
    · rename_i hbb; subst hbb
      obtain rfl := Option.some.inj hx2
      show some (IntKind.i64, if 2 * (b' + 8192 * i) % 2 = 0 then elem b' s.es (2 * (b' + 8192 * i) / 2) else _) = _
      rw [if_pos (by omega), show 2 * (b' + 8192 * i) / 2 = b' + 8192 * i by omega]
      unfold elem
      rw [if_pos (by omega), show (b' + 8192 * i) / 8192 = i by omega]
    · cases hx2)
def good (b : Nat) (es : Nat → Int) : Prop := ∀ i, i < 4 → dig b i < 8 → es i % 8 = (dig b i : Int)
theorem ref13 {b : Nat} {s : ArgS} (ι : Rn) (e : Nat) : ∀ r, r < 4 → @refV (VS b s) ι 13 (2 * (4 * e + r) + 1) 0 0 0 0 = some (.int .i64 (fieldN (kd b s.es e) r)) := fun r hr => by
  have : (VS b s).tk (2 * (4 * e + r) + 1) = some (.i64, fieldN (kd b s.es e) r) := by
    show some (IntKind.i64, if (2 * (4 * e + r) + 1) % 2 = 0 then _ else fieldN (kd b s.es ((2 * (4 * e + r) + 1) / 2 / 4)) ((2 * (4 * e + r) + 1) / 2 % 4)) = _
    rw [if_neg (by omega), show (2 * (4 * e + r) + 1) / 2 / 4 = e by omega, show (2 * (4 * e + r) + 1) / 2 % 4 = r by omega]
  simp only [refV, this, Option.map_some]
theorem resK_ok {b : Nat} {s : ArgS} (hg : good b s.es) {q : Nat} {v : AV} (h : resK q = some v) : (VS b s).tk q = some (.i64, elem b s.es (q / 2)) ∧ ∀ ι : Rn, @toV (VS b s) ι v = some (kindV (kd b s.es (q / 2))) := by
  letI : TokV := VS b s
  unfold resK at h
  cases h1 : Nat.beq (q % 2) 1 with
  | true => rw [h1] at h; cases h
  | false =>
    rw [h1] at h
    have hq : q % 2 = 0 := by
      have : q % 2 ≠ 1 := fun e => by rw [e] at h1; cases h1
      omega
    cases h2 : Nat.ble 4 (q / 2 / 8192) with
    | true => rw [h2] at h; cases h
    | false =>
      rw [h2] at h
      have hi : q / 2 / 8192 < 4 := by
        rcases Nat.lt_or_ge (q / 2 / 8192) 4 with h | h
        · exact h
        · rw [Nat.ble_eq_true_of_le h] at h2; cases h2
      refine ⟨by show some (IntKind.i64, if q % 2 = 0 then _ else _) = _; rw [if_pos hq], fun ι => ?_⟩
      have h : some (bif Nat.beq (dig (q / 2 % 8192) (q / 2 / 8192)) 8 then unkv (q / 2) else kindv (dig (q / 2 % 8192) (q / 2 / 8192))) = some v := h
      injection h with h
      cases h3 : Nat.beq (dig (q / 2 % 8192) (q / 2 / 8192)) 8 with
      | true =>
        rw [h3] at h
        subst h
        have hs := fS_ok (kd b s.es (q / 2))
        have r0 := ref13 (b := b) (s := s) ι (q / 2)
        have r1 : @refV (VS b s) ι 14 (q / 2) 0 0 0 0 = some (.string (sbytes (fS (kd b s.es (q / 2))))) := rfl
        show toV ι (unkv (q / 2)) = _
        simp only [unkv, toV, toT, r1]
        rw [show 2 * (4 * (q / 2)) + 1 = 2 * (4 * (q / 2) + 0) + 1 by omega, r0 0 (by omega), r0 1 (by omega), r0 2 (by omega)]
        rfl
      | false =>
        rw [h3] at h
        subst h
        have hd : dig (q / 2 % 8192) (q / 2 / 8192) < 8 := by
          have h4 : dig (q / 2 % 8192) (q / 2 / 8192) < 9 := Nat.mod_lt _ (by omega)
          have : dig (q / 2 % 8192) (q / 2 / 8192) ≠ 8 := fun e => by rw [e] at h3; cases h3
          omega
        show toV ι (kindv (dig (q / 2 % 8192) (q / 2 / 8192))) = _
        rw [kindv_ok]
        have : kd b s.es (q / 2) = dig (q / 2 % 8192) (q / 2 / 8192) := by
          unfold kd elem
          split
          · rename_i e
            rw [e] at hd ⊢
            rw [hg _ hi hd]; omega
          · omega
        rw [this]
/-! ### all the cases -/
structure D4 where
  d0 : Nat
  d1 : Nat
  d2 : Nat
  d3 : Nat
def D4.at (c : D4) (i : Nat) : Nat := match i with | 0 => c.d0 | 1 => c.d1 | 2 => c.d2 | _ => c.d3
def D4.set (c : D4) (i d : Nat) : D4 := match i with | 0 => { c with d0 := d } | 1 => { c with d1 := d } | 2 => { c with d2 := d } | _ => { c with d3 := d }
def D4.enc (c : D4) : Nat := c.d0 + 9 * c.d1 + 81 * c.d2 + 729 * c.d3
structure D4.Ok (c : D4) : Prop where
  h0 : c.d0 ≤ 8
  h1 : c.d1 ≤ 8
  h2 : c.d2 ≤ 8
  h3 : c.d3 ≤ 8
theorem dig_enc {c : D4} (h : c.Ok) {i : Nat} (hi : i < 4) : dig c.enc i = c.at i := by
  obtain ⟨h0, h1, h2, h3⟩ := h
  unfold dig D4.enc
  rcases (by omega : i = 0 ∨ i = 1 ∨ i = 2 ∨ i = 3) with rfl | rfl | rfl | rfl <;> simp only [D4.at] <;> omega
theorem enc_lt {c : D4} (h : c.Ok) : c.enc < 8192 := by obtain ⟨h0, h1, h2, h3⟩ := h; unfold D4.enc; omega
theorem set_ok {c : D4} (h : c.Ok) {i d : Nat} (hd : d ≤ 8) : (c.set i d).Ok := by
  obtain ⟨h0, h1, h2, h3⟩ := h
  unfold D4.set
  split <;> exact ⟨by assumption, by assumption, by assumption, by assumption⟩
theorem at_set {c : D4} {i j d : Nat} (hi : i < 4) (hj : j < 4) : (c.set i d).at j = if i = j then d else c.at j := by
  rcases (by omega : i = 0 ∨ i = 1 ∨ i = 2 ∨ i = 3) with rfl | rfl | rfl | rfl <;> rcases (by omega : j = 0 ∨ j = 1 ∨ j = 2 ∨ j = 3) with rfl | rfl | rfl | rfl <;> rfl
/-- which kinds pass: 0 a number, 1 an object, 2 an array of numbers, 3 an array -/
def pass (w d : Nat) : Bool := match w with
  | 0 => Nat.beq d 0
  | 1 => Nat.beq d 1 || Nat.beq d 2 || Nat.ble 5 d
  | 2 => Nat.beq d 1 || Nat.beq d 5
  | _ => Nat.beq d 1 || Nat.beq d 5 || Nat.beq d 6
def all8 (f : Nat → Bool) : Bool := f 0 && (f 1 && (f 2 && (f 3 && (f 4 && (f 5 && (f 6 && f 7))))))
theorem all8_ok {f : Nat → Bool} (h : all8 f = true) {d : Nat} (hd : d < 8) : f d = true := by
  unfold all8 at h
  simp only [Bool.and_eq_true] at h
  obtain ⟨a0, a1, a2, a3, a4, a5, a6, a7⟩ := h
  rcases (by omega : d = 0 ∨ d = 1 ∨ d = 2 ∨ d = 3 ∨ d = 4 ∨ d = 5 ∨ d = 6 ∨ d = 7) with rfl | rfl | rfl | rfl | rfl | rfl | rfl | rfl <;> assumption
/-- the kinds are told from the top of the stack on, as long as they pass -/
def chkE (ev : Nat → Bool) : List Nat → Nat → D4 → Bool
  | [], _, c => ev c.enc
  | _ :: _, 0, c => ev c.enc
  | w :: ws, i + 1, c => all8 fun d => bif pass w d then chkE ev ws i (c.set i d) else ev (c.set i d).enc
theorem chk_ok {ev : Nat → Bool} {es : Nat → Int} : ∀ (ws : List Nat) (i : Nat) (c : D4), i ≤ 4 → c.Ok → (∀ j, j < i → c.at j = 8) → (∀ j, i ≤ j → j < 4 → c.at j < 8 → es j % 8 = (c.at j : Int)) → chkE ev ws i c = true →
    ∃ b, ev b = true ∧ b < 8192 ∧ good b es := by
  have fin : ∀ (i : Nat) (c : D4), c.Ok → (∀ j, j < i → c.at j = 8) → (∀ j, i ≤ j → j < 4 → c.at j < 8 → es j % 8 = (c.at j : Int)) → ev c.enc = true → ∃ b, ev b = true ∧ b < 8192 ∧ good b es := fun i c hc h1 h2 h => by
    refine ⟨_, h, enc_lt hc, fun j hj hd => ?_⟩
    rw [dig_enc hc hj] at hd ⊢
    rcases Nat.lt_or_ge j i with hji | hji
    · have := h1 j hji; omega
    · exact h2 j hji hj hd
  intro ws
  induction ws with
  | nil => intro i c _ hc h1 h2 h; exact fin i c hc h1 h2 h
  | cons w ws ih =>
    intro i c hi hc h1 h2 h
    cases i with
    | zero => exact fin 0 c hc h1 h2 h
    | succ i =>
      have h := all8_ok (show all8 _ = true from h) (d := (es i % 8).toNat) (by omega)
      have hc' : (c.set i (es i % 8).toNat).Ok := set_ok hc (by omega)
      have g1 : ∀ j, j < i → (c.set i (es i % 8).toNat).at j = 8 := fun j hj => by
        rw [at_set (by omega) (by omega), if_neg (by omega)]; exact h1 j (by omega)
      have g2 : ∀ j, i ≤ j → j < 4 → (c.set i (es i % 8).toNat).at j < 8 → es j % 8 = ((c.set i (es i % 8).toNat).at j : Int) := fun j hj hj4 hd => by
        rw [at_set (by omega) hj4] at hd ⊢
        split
        · rename_i e; subst e; omega
        · rename_i e
          rw [if_neg e] at hd
          exact h2 j (by omega) hj4 hd
      cases hp : pass w (es i % 8).toNat with
      | true => rw [hp] at h; exact ih i _ (by omega) hc' g1 g2 h
      | false => rw [hp] at h; exact fin i _ hc' g1 g2 h
end Go.Proofs.YtpalciklgbabeaaGreatDoor
