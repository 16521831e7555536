import Derived.Test.YtlkiacbmbfmlpaaYQ
/- Rows of bits are read (the program's). -/
namespace Ev
open Go
variable [Told] [TokV] [ToldOK]
set_option linter.unusedVariables false
set_option linter.unusedSimpArgs false
set_option linter.unusedSectionVars false
set_option maxRecDepth 10000
variable {tab : Bt FnD}
theorem pSlV_lo (sz : Nat) (g b e o l c : Nat) (hi mx : Option AV) (t : H) (k : K) : pSlV sz (.ref g b e o l c) none hi mx t k = pSlV sz (.ref g b e o l c) (some (.num 3 (.ofNat 0))) hi mx t k := rfl
theorem Sl.ref {t : H} {sz : Nat} {s : AV} {xs : List AV} (h : Sl t sz s xs) : ∃ g b e o l c, s = .ref g b e o l c := by cases h <;> exact ⟨_, _, _, _, _, _, rfl⟩
theorem pSlV_none {t : H} {sz : Nat} {s : AV} {xs : List AV} (h : Sl t sz s xs) (hi mx : Option AV) (k : K) : pSlV sz s none hi mx t k = pSlV sz s (some (.num 3 (.ofNat 0))) hi mx t k := by
  obtain ⟨_, _, _, _, _, _, rfl⟩ := h.ref; exact pSlV_lo ..
theorem pSlV_end {t : H} {sz : Nat} {s : AV} {xs : List AV} (h : Sl t sz s xs) (h5 : ∀ b e o l c, s ≠ .ref 5 b e o l c) (hz : 0 < sz) (lo : Option AV) (k : K) : pSlV sz s lo none none t k = pSlV sz s lo (some (.num 3 (.ofNat (xs.length / sz)))) none t k := by
  cases h with
  | nil => simp; rfl
  | row hg hb hl hc hx =>
    rw [hl, Nat.mul_div_cancel _ hz]
    rcases hg with rfl | rfl <;> rfl
  | arg hl he hx hc => rw [hl, Nat.mul_div_cancel _ hz]; rfl
  | fin hg =>
    rcases hg with rfl | rfl
    · exact absurd rfl (h5 _ _ _ _ _)
    · simp; rfl
theorem Ow.n5 {t : H} {sz : Nat} {s : AV} {xs : List AV} {F : List Nat} (h : Ow t sz s xs F) : ∀ b e o l c, s ≠ .ref 5 b e o l c := by
  cases h with
  | nil => intro _ _ _ _ _ h; cases h
  | row h => intro _ _ _ _ _ h'; rcases h.hg with rfl | rfl <;> cases h'
/-- an element of one's own is written -/
theorem Ow.set {t : H} {s v : AV} {xs : List AV} {F : List Nat} {i : Nat} (h : Ow t 1 s xs F) (hi : i < xs.length) (hv : cellsK v = fun f => f (.cons v .nil)) :
    ∃ t', (∀ k, pSt 1 (plc 1 s i) v t k = k t') ∧ Ow t' 1 s (xs.set i v) F ∧ ∀ b, b ∉ F → t'.get b = t.get b := by
  cases h with
  | nil => simp at hi
  | row h =>
    rename_i g b e len cap
    obtain ⟨c, hc, ha⟩ := h.row
    have hil : i < cap * 1 := by have := h.hl; have := h.hc; omega
    obtain ⟨tg, v0, h1, h2⟩ := ha i hil
    have hw : wok t b e i := ⟨_, _, _, _, hc, h1⟩
    have e1 : plc 1 (.ref g b e 0 len cap) i = .ref 1 b e i 0 0 := by rcases h.hg with rfl | rfl <;> simp [plc]
    refine ⟨up t b i v, fun k => by rw [e1]; exact pSt1 hv hw, .row ⟨h.hg, ⟨_, by rw [up_eq hc]; exact M.get_set _ _ _, fun j hj => ?_⟩, by simpa using h.hl, h.hc, fun j x hj => ?_⟩, fun b' hb' => get_up_ne fun e => hb' (by simp [e])⟩
    · rw [Bt.get_set_if]
      split
      · exact ⟨_, _, rfl, Nat.le_refl _⟩
      · exact ha j hj
    · rw [cl_up hw, Nat.zero_add]
      rw [List.getElem?_set] at hj
      split at hj
      · rename_i hij
        subst hij
        rw [if_pos ⟨rfl, rfl⟩, if_pos (Nat.le_refl _)]
        simpa [hi] using hj
      · rename_i hij
        rw [if_neg fun h => hij h.2]
        have := h.hx j x hj
        rwa [Nat.zero_add] at this
theorem lrep_lst (z : AV) : ∀ n, lrep (.cons z .nil) n = lst (List.replicate n z)
  | 0 => rfl
  | n + 1 => by
    show lapp (.cons z .nil) (lrep (.cons z .nil) n) = _
    rw [lrep_lst z n]
    show lapp (lst [z]) (lst (List.replicate n z)) = _
    rw [lapp_lst]; rfl
theorem pMkSl1 {z : AV} {c : Nat} (hc : c ≤ 1048576) (t : H) (n : Nat) (k : KH) : pMkSl 1 1 (.cons z .nil) (.num 3 (.ofNat c)) (.num 3 (.ofNat c)) t n k = k (.ref 3 n 0 0 c c) (nw t 1 (List.replicate c z) (List.replicate c z).length n) (n + 1) := by
  unfold pMkSl
  rw [vnat_of, vnat_of, Nat.ble_eq_true_of_le (Nat.le_refl c), show Nat.ble (Nat.mul c 1) 1048576 = true from Nat.ble_eq_true_of_le (by show c * 1 ≤ _; omega)]
  show newRow 1 (lrep (.cons z .nil) c) (Nat.mul c 1) t n _ = _
  rw [lrep_lst, show Nat.mul c 1 = (List.replicate c z).length by simp, newRow_nw]
theorem own_mk {t : H} {z : AV} {c n : Nat} : Ow (nw t 1 (List.replicate c z) (List.replicate c z).length n) 1 (.ref 3 n 0 0 c c) (List.replicate c z) [n] := own_nw (.inl rfl) (by simp)
/-! ### bits -/
def bitAt (row : List Nat) (i : Nat) : Bool := (row.getD (i / 8) 0).testBit (7 - i % 8)
def bitsOf (row : List Nat) : List Bool := (List.range (8 * row.length)).map (bitAt row)
theorem bit_shl : ∀ x : Fin 256, ∀ r : Fin 8, (((x.val * 2 ^ r.val % 256) &&& 128) ≠ 0) = (x.val.testBit (7 - r.val) = true) := by
  have : ∀ x : Fin 256, ∀ r : Fin 8, (decide (((x.val * 2 ^ r.val % 256) &&& 128) ≠ 0)) = x.val.testBit (7 - r.val) := by decide +kernel
  intro x r
  rw [← this x r]; simp
theorem bit_shr : ∀ x : Fin 256, ∀ r : Fin 8, (((x.val / 2 ^ (7 - r.val)) &&& 1) = 1) = (x.val.testBit (7 - r.val) = true) := by
  have : ∀ x : Fin 256, ∀ r : Fin 8, (decide (((x.val / 2 ^ (7 - r.val)) &&& 1) = 1)) = x.val.testBit (7 - r.val) := by decide +kernel
  intro x r
  rw [← this x r]; simp
theorem q11_4 (a b : Int) (k : K) : q11 (.num 4 a) (.num 4 b) k = k (bL (a ≠ b)) := q11_num (by omega)
theorem q10_4 (a b : Int) (k : K) : q10 (.num 4 a) (.num 4 b) k = k (bL (a = b)) := q10_num (by omega)
theorem bit_step {x r : Nat} (hx : x < 256) (hr : r < 8) (k : K) : q8 (by8 x) (.num 3 (.ofNat r)) (fun v14 => q5 v14 (.num 4 (.ofNat 128)) fun v24 => q11 v24 (.num 4 (.ofNat 0)) k) = k (bV (x.testBit (7 - r))) := by
  unfold by8
  rw [q8_num (by omega) (by omega) (.inl (by omega)), wrap4]
  have e1 : (Int.ofNat x * 2 ^ r) % 256 = Int.ofNat (x * 2 ^ r % 256) := by
    show ((x : Int) * 2 ^ r) % 256 = ((x * 2 ^ r % 256 : Nat) : Int)
    rw [Int.natCast_emod, Int.natCast_mul, Int.natCast_pow]; rfl
  rw [e1, q5_num (by omega), wrap4]
  have h1 : (x * 2 ^ r % 256) &&& 128 < 256 := Nat.lt_of_le_of_lt Nat.and_le_left (Nat.mod_lt _ (by omega))
  rw [show (Int.ofNat (x * 2 ^ r % 256 &&& 128)) % 256 = Int.ofNat (x * 2 ^ r % 256 &&& 128) by simp only [Int.ofNat_eq_natCast]; omega, q11_4, bL_bV]
  congr 2
  have := bit_shl ⟨x, hx⟩ ⟨r, hr⟩
  simp only [ofN_ne] at *
  rw [Bool.eq_iff_iff, decide_eq_true_eq]
  exact iff_of_eq this
end Ev
