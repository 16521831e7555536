import Derived.Test.YtlkiacbmbfmlpaaYZC
/- The plain law of maps: what is written is read, and what is read is written. -/
namespace Ev
open Go
variable [Told] [TokV] [ToldOK]
set_option linter.unusedVariables false
set_option linter.unusedSimpArgs false
set_option linter.unusedSectionVars false
set_option maxRecDepth 10000
set_option maxHeartbeats 1000000
theorem byte_bits : ∀ x : Fin 256, 2 * (2 * (2 * (2 * (2 * (2 * (2 * (2 * 0 + (x.val.testBit 7).toNat) + (x.val.testBit 6).toNat) + (x.val.testBit 5).toNat) + (x.val.testBit 4).toNat) + (x.val.testBit 3).toNat) + (x.val.testBit 2).toNat) + (x.val.testBit 1).toNat) + (x.val.testBit 0).toNat = x.val := by decide +kernel
theorem bits_byte : ∀ a b c d e f g h : Bool, let x := 2 * (2 * (2 * (2 * (2 * (2 * (2 * (2 * 0 + a.toNat) + b.toNat) + c.toNat) + d.toNat) + e.toNat) + f.toNat) + g.toNat) + h.toNat
    x.testBit 7 = a ∧ x.testBit 6 = b ∧ x.testBit 5 = c ∧ x.testBit 4 = d ∧ x.testBit 3 = e ∧ x.testBit 2 = f ∧ x.testBit 1 = g ∧ x.testBit 0 = h := by decide +kernel
theorem encB_eq (bits : List Bool) (q : Nat) : encB bits q = 2 * (2 * (2 * (2 * (2 * (2 * (2 * (2 * 0 + bitN bits (8 * q + 0)) + bitN bits (8 * q + 1)) + bitN bits (8 * q + 2)) + bitN bits (8 * q + 3)) + bitN bits (8 * q + 4)) + bitN bits (8 * q + 5)) + bitN bits (8 * q + 6)) + bitN bits (8 * q + 7) := rfl
theorem bitN_of (row : List Nat) {i : Nat} (hi : i < 8 * row.length) : bitN (bitsOf row) i = (bitAt row i).toNat := by
  unfold bitN
  rw [List.getD_eq_getElem?_getD, List.getElem?_eq_getElem (by rw [bitsOf_len]; exact hi), Option.getD_some, bitsOf_get]
theorem encB_of {row : List Nat} {q : Nat} (hx : ∀ x ∈ row, x < 256) (hq : q < row.length) : encB (bitsOf row) q = row[q] := by
  have h : ∀ r, r < 8 → bitN (bitsOf row) (8 * q + r) = (row[q].testBit (7 - r)).toNat := fun r hr => by
    rw [bitN_of row (by omega)]
    unfold bitAt
    rw [show (8 * q + r) / 8 = q by omega, show (8 * q + r) % 8 = r by omega, List.getD_eq_getElem?_getD, List.getElem?_eq_getElem hq]; rfl
  rw [encB_eq, h 0 (by omega), h 1 (by omega), h 2 (by omega), h 3 (by omega), h 4 (by omega), h 5 (by omega), h 6 (by omega), h 7 (by omega)]
  exact byte_bits ⟨row[q], hx _ (by simp)⟩
/-- bytes that were bits are the bytes of the bits -/
theorem enc_dec {row : List Nat} {m : Nat} (hx : ∀ x ∈ row, x < 256) (hl : row.length = (m + 7) / 8) (hm : true ∉ (bitsOf row).drop m) : encL ((bitsOf row).take m) = row := by
  have hml : ((bitsOf row).take m).length = m := by rw [List.length_take, bitsOf_len]; omega
  refine List.ext_getElem (by rw [encL_len, hml, hl]) fun q h1 h2 => ?_
  have hz : ∀ i, m ≤ i → bitN (bitsOf row) i = 0 := fun i hi => by
    unfold bitN
    rw [List.getD_eq_getElem?_getD]
    cases hg : (bitsOf row)[i]? with
    | none => rfl
    | some b =>
      cases b with
      | false => rfl
      | true => exact absurd (List.mem_iff_getElem?.2 ⟨i - m, by rw [List.getElem?_drop, show m + (i - m) = i by omega]; exact hg⟩) hm
  simp only [encL, List.getElem_map, List.getElem_range]
  rw [← encB_of hx h2]
  exact vTo_congr fun r hr => by
    rw [bitN_take]
    split
    · rfl
    · rw [hz _ (by omega)]
theorem bitAt_enc {bits : List Bool} {i : Nat} (hi : i < 8 * (encL bits).length) : bitAt (encL bits) i = bits.getD i false := by
  have hl := encL_len bits
  have hq : i / 8 < (bits.length + 7) / 8 := by omega
  unfold bitAt
  have e1 : (encL bits).getD (i / 8) 0 = encB bits (i / 8) := by
    rw [List.getD_eq_getElem?_getD]; simp [encL, hq]
  rw [e1, encB_eq]
  have hb := bits_byte (bits.getD (8 * (i / 8) + 0) false) (bits.getD (8 * (i / 8) + 1) false) (bits.getD (8 * (i / 8) + 2) false) (bits.getD (8 * (i / 8) + 3) false) (bits.getD (8 * (i / 8) + 4) false) (bits.getD (8 * (i / 8) + 5) false) (bits.getD (8 * (i / 8) + 6) false) (bits.getD (8 * (i / 8) + 7) false)
  obtain ⟨h7, h6, h5, h4, h3, h2, h1, h0⟩ := hb
  have hr : i % 8 < 8 := Nat.mod_lt _ (by omega)
  have hi8 : i = 8 * (i / 8) + i % 8 := by omega
  generalize hr' : i % 8 = r at *
  generalize i / 8 = q at *
  subst hi8
  unfold bitN
  match r, hr with
  | 0, _ => exact h7
  | 1, _ => exact h6
  | 2, _ => exact h5
  | 3, _ => exact h4
  | 4, _ => exact h3
  | 5, _ => exact h2
  | 6, _ => exact h1
  | 7, _ => exact h0
theorem dec_enc (bits : List Bool) : (bitsOf (encL bits)).take bits.length = bits ∧ true ∉ (bitsOf (encL bits)).drop bits.length := by
  have hl := encL_len bits
  have hbl := bitsOf_len (encL bits)
  constructor
  · refine List.ext_getElem (by rw [List.length_take]; omega) fun i h1 h2 => ?_
    rw [List.getElem_take, bitsOf_get, bitAt_enc (by omega), List.getD_eq_getElem?_getD, List.getElem?_eq_getElem h2]; rfl
  · intro h
    obtain ⟨j, hj, he⟩ := List.mem_iff_getElem.1 h
    rw [List.length_drop] at hj
    rw [List.getElem_drop, bitsOf_get, bitAt_enc (by omega), List.getD_eq_getElem?_getD, List.getElem?_eq_none (by omega)] at he
    cases he
/-- a map that may be written -/
def Good (m : MapV) : Prop := (0 ≤ m.at_ ∧ m.at_ ≤ 65535) ∧ m.lo.length ≤ 255 ∧ m.st.length ≤ 255
def encM (m : MapV) : List Nat := [m.at_.toNat / 256, m.at_.toNat % 256, m.lo.length, m.st.length] ++ encL (m.lo ++ m.st)
theorem wrMap_good {bs : List Nat} {m : MapV} (h : Good m) : wrMap (bs, 0) m = (bs ++ encM m, 0) := by
  obtain ⟨⟨h1, h2⟩, h3, h4⟩ := h
  have a1 : wr2 (bs, 0) m.at_ = (bs ++ [m.at_.toNat / 256, m.at_.toNat % 256], 0) := by unfold wr2; rw [if_neg (by simp), if_neg (by omega)]
  have a2 : ∀ (l : List Nat) (n : Nat), n ≤ 255 → wr1 (l, 0) (.ofNat n) = (l ++ [n], 0) := fun l n hn => by
    unfold wr1; rw [if_neg (by simp), if_neg (by rw [Int.ofNat_eq_natCast]; omega)]; rfl
  unfold wrMap
  rw [a1, a2 _ _ h3, a2 _ _ h4]
  unfold wrB encM
  rw [if_neg (by simp)]
  simp [List.append_assoc]
theorem wrs_good : ∀ {ms : List MapV} {bs : List Nat}, (∀ m ∈ ms, Good m) → ms.foldl wrMap (bs, 0) = (bs ++ ms.flatMap encM, 0)
  | [], bs, _ => by simp
  | m :: ms, bs, h => by
    rw [List.foldl_cons, wrMap_good (h m (by simp)), wrs_good fun x hx => h x (by simp [hx])]
    simp [List.append_assoc]
theorem bitsL_good {ms : List MapV} (h : ∀ m ∈ ms, Good m) : bitsL ms = ms.flatMap encM := by
  unfold bitsL wrAll
  rw [wrs_good h]; simp
theorem takeN_at {a x y : List Nat} : takeN (a ++ (x ++ y)) a.length 0 x.length = (x, a.length + x.length, 0) := by
  unfold takeN
  rw [if_neg (by simp), if_neg (by simp)]
  simp
theorem numP1 (x : Nat) : numP [x] = x := by simp [numP]
theorem numP2 (x y : Nat) : numP [x, y] = x * 256 + y := by simp [numP]
/-- one map is read as it was written -/
theorem pstep_enc {a y : List Nat} {m : MapV} (h : Good m) : pstep (a ++ (encM m ++ y)) a.length = .inr (m, (a ++ encM m).length) := by
  obtain ⟨⟨h1, h2⟩, h3, h4⟩ := h
  have t1 : takeN (a ++ (encM m ++ y)) a.length 0 2 = ([m.at_.toNat / 256, m.at_.toNat % 256], a.length + 2, 0) := by
    have := takeN_at (a := a) (x := [m.at_.toNat / 256, m.at_.toNat % 256]) (y := [m.lo.length, m.st.length] ++ (encL (m.lo ++ m.st) ++ y))
    simpa [encM, List.append_assoc] using this
  have t2 : takeN (a ++ (encM m ++ y)) (a.length + 2) 0 1 = ([m.lo.length], a.length + 3, 0) := by
    have := takeN_at (a := a ++ [m.at_.toNat / 256, m.at_.toNat % 256]) (x := [m.lo.length]) (y := [m.st.length] ++ (encL (m.lo ++ m.st) ++ y))
    simpa [encM, List.append_assoc] using this
  have t3 : takeN (a ++ (encM m ++ y)) (a.length + 3) 0 1 = ([m.st.length], a.length + 4, 0) := by
    have := takeN_at (a := a ++ [m.at_.toNat / 256, m.at_.toNat % 256, m.lo.length]) (x := [m.st.length]) (y := encL (m.lo ++ m.st) ++ y)
    simpa [encM, List.append_assoc] using this
  have t4 : takeN (a ++ (encM m ++ y)) (a.length + 4) 0 ((m.lo.length + m.st.length + 7) / 8) = (encL (m.lo ++ m.st), a.length + 4 + (encL (m.lo ++ m.st)).length, 0) := by
    have := takeN_at (a := a ++ [m.at_.toNat / 256, m.at_.toNat % 256, m.lo.length, m.st.length]) (x := encL (m.lo ++ m.st)) (y := y)
    rw [show (encL (m.lo ++ m.st)).length = (m.lo.length + m.st.length + 7) / 8 by rw [encL_len, List.length_append]] at this ⊢
    simpa [encM, List.append_assoc] using this
  unfold pstep
  rw [t1]; simp only
  rw [t2]; simp only
  rw [t3]; simp only
  rw [numP1, numP1, numP2, t4]; simp only
  obtain ⟨d1, d2⟩ := dec_enc (m.lo ++ m.st)
  rw [List.length_append] at d1 d2
  rw [if_neg (by simp), if_neg d2, d1]
  congr 2
  · cases m with
    | mk at_ lo st =>
      simp only at h1 h2
      simp only [List.take_left', List.drop_left']
      congr 1
      · rw [Int.ofNat_eq_natCast]; omega
  · simp [encM]; omega
theorem parses_enc : ∀ {ms acc : List MapV} {a : List Nat}, (∀ m ∈ ms, Good m) → Parses (a ++ ms.flatMap encM) a.length acc (acc ++ ms) 0
  | [], acc, a, _ => by simpa using Parses.done (by simp)
  | m :: ms, acc, a, h => by
    have e : a ++ (m :: ms).flatMap encM = a ++ (encM m ++ ms.flatMap encM) := by simp
    rw [e]
    refine .more (by simp [encM]) (pstep_enc (h m (by simp))) ?_
    have := parses_enc (ms := ms) (acc := acc ++ [m]) (a := a ++ encM m) fun x hx => h x (by simp [hx])
    simpa [List.append_assoc] using this
/-- what is written is read -/
theorem read_written {ms : List MapV} (h : ∀ m ∈ ms, Good m) : Parses (bitsL ms) 0 [] ms 0 := by
  rw [bitsL_good h]
  have := parses_enc (ms := ms) (acc := []) (a := []) h
  simpa using this
theorem takeN_inv {bs x : List Nat} {p p' er m : Nat} (h : takeN bs p er m = (x, p', 0)) (hp : p ≤ bs.length) : er = 0 ∧ x.length = m ∧ p' = p + m ∧ p' ≤ bs.length ∧ bs.take p' = bs.take p ++ x ∧ ∀ y ∈ x, y ∈ bs := by
  unfold takeN at h
  split at h
  · rename_i h0; injection h with _ h; injection h with _ h; exact absurd h h0
  · rename_i h0
    split at h
    · injection h with _ h; injection h with _ h; cases h
    · injection h with h1 h; injection h with h2 _
      subst h1; subst h2
      refine ⟨by omega, by rw [List.length_take, List.length_drop]; omega, rfl, by omega, by rw [List.take_add], fun y hy => List.mem_of_mem_drop (List.mem_of_mem_take hy)⟩
theorem pstep_inv {bs : List Nat} {p p' : Nat} {m : MapV} (h : pstep bs p = .inr (m, p')) (hx : ∀ x ∈ bs, x < 256) (hp : p ≤ bs.length) : Good m ∧ p' ≤ bs.length ∧ bs.take p' = bs.take p ++ encM m := by
  unfold pstep at h
  simp only at h
  generalize h1 : takeN bs p 0 2 = a at h
  obtain ⟨a1, a2, a3⟩ := a
  simp only at h
  generalize h2 : takeN bs a2 a3 1 = b at h
  obtain ⟨b1, b2, b3⟩ := b
  simp only at h
  generalize h3 : takeN bs b2 b3 1 = c at h
  obtain ⟨c1, c2, c3⟩ := c
  simp only at h
  generalize h4 : takeN bs c2 c3 ((numP b1 + numP c1 + 7) / 8) = d at h
  obtain ⟨d1, d2, d3⟩ := d
  simp only at h
  split at h
  · cases h
  · rename_i hd
    have hd : d3 = 0 := by omega
    subst hd
    split at h
    · cases h
    · rename_i hno
      injection h with h; injection h with hm hp'
      have c3z : c3 = 0 := by
        unfold takeN at h4
        split at h4
        · injection h4 with _ h4; injection h4 with _ h4
        · omega
      subst c3z
      have b3z : b3 = 0 := by
        unfold takeN at h3
        split at h3
        · injection h3 with _ h3; injection h3 with _ h3
        · omega
      subst b3z
      have a3z : a3 = 0 := by
        unfold takeN at h2
        split at h2
        · injection h2 with _ h2; injection h2 with _ h2
        · omega
      subst a3z
      obtain ⟨_, l1, r1, k1, e1, m1⟩ := takeN_inv h1 hp
      obtain ⟨_, l2, r2, k2, e2, m2⟩ := takeN_inv h2 k1
      obtain ⟨_, l3, r3, k3, e3, m3⟩ := takeN_inv h3 k2
      obtain ⟨_, l4, r4, k4, e4, m4⟩ := takeN_inv h4 k3
      obtain ⟨x1, x2, rfl⟩ : ∃ x y, a1 = [x, y] := by
        match a1, l1 with
        | [x, y], _ => exact ⟨x, y, rfl⟩
      obtain ⟨x3, rfl⟩ : ∃ x, b1 = [x] := by
        match b1, l2 with
        | [x], _ => exact ⟨x, rfl⟩
      obtain ⟨x4, rfl⟩ : ∃ x, c1 = [x] := by
        match c1, l3 with
        | [x], _ => exact ⟨x, rfl⟩
      have y1 := hx x1 (m1 x1 (by simp))
      have y2 := hx x2 (m1 x2 (by simp))
      have y3 := hx x3 (m2 x3 (by simp))
      have y4 := hx x4 (m3 x4 (by simp))
      rw [numP1, numP1] at hno hm l4
      rw [numP2] at hm
      have hen := enc_dec (fun x hx' => hx x (m4 x hx')) l4 hno
      have hlen : ((bitsOf d1).take (x3 + x4)).length = x3 + x4 := by rw [List.length_take, bitsOf_len]; omega
      generalize (bitsOf d1).take (x3 + x4) = B at *
      subst hm; subst hp'
      have hlo : (B.take x3).length = x3 := by rw [List.length_take]; omega
      have hst : (B.drop x3).length = x4 := by rw [List.length_drop]; omega
      refine ⟨⟨⟨by rw [Int.ofNat_eq_natCast]; simp only; omega, by rw [Int.ofNat_eq_natCast]; simp only; omega⟩, by simp only; omega, by simp only; omega⟩, k4, ?_⟩
      rw [e4, e3, e2, e1]
      unfold encM
      simp only
      rw [List.take_append_drop, hen, hlo, hst]
      have z1 : (Int.ofNat (x1 * 256 + x2)).toNat / 256 = x1 := by show (x1 * 256 + x2) / 256 = x1; omega
      have z2 : (Int.ofNat (x1 * 256 + x2)).toNat % 256 = x2 := by show (x1 * 256 + x2) % 256 = x2; omega
      rw [z1, z2]
      simp [List.append_assoc]
theorem parses_inv {bs : List Nat} {p c : Nat} {acc r : List MapV} (h : Parses bs p acc r c) (hx : ∀ x ∈ bs, x < 256) : p ≤ bs.length → bs.take p = acc.flatMap encM → (∀ m ∈ acc, Good m) → (c = 0 → (∀ m ∈ r, Good m) ∧ r.flatMap encM = bs) ∧ (c ≠ 0 → r = []) := by
  induction h with
  | done h =>
    intro hp ht hg
    exact ⟨fun _ => ⟨hg, by rw [← ht, List.take_of_length_le h]⟩, fun h => absurd rfl h⟩
  | bad h hs =>
    rename_i p c acc
    intro hp ht hg
    have hc : c ≠ 0 := by
      unfold pstep at hs
      simp only at hs
      split at hs
      · rename_i h0; injection hs with hs; rw [← hs]; exact h0
      · split at hs
        · injection hs with hs; omega
        · cases hs
    exact ⟨fun h => absurd h hc, fun _ => rfl⟩
  | more h hs hr ih =>
    intro hp ht hg
    obtain ⟨g1, g2, g3⟩ := pstep_inv hs hx (by omega)
    exact ih g2 (by rw [g3, ht]; simp) fun m hm => by
      rcases List.mem_append.1 hm with hm | hm
      · exact hg m hm
      · simp at hm; subst hm; exact g1
/-- what is read is written -/
theorem written_read {bs : List Nat} {c : Nat} {r : List MapV} (h : Parses bs 0 [] r c) (hx : ∀ x ∈ bs, x < 256) : (c = 0 → (∀ m ∈ r, Good m) ∧ bitsL r = bs) ∧ (c ≠ 0 → r = []) := by
  obtain ⟨h1, h2⟩ := parses_inv h hx (by omega) (by simp) (by simp)
  exact ⟨fun hc => by obtain ⟨g1, g2⟩ := h1 hc; exact ⟨g1, by rw [bitsL_good g1, g2]⟩, h2⟩
end Ev
