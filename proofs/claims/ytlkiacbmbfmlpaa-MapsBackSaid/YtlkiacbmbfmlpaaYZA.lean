import Derived.Test.YtlkiacbmbfmlpaaYZ9
/- Maps are written (the program's, 2): the bits, one after another. -/
namespace Ev
open Go
variable [Told] [TokV] [ToldOK]
set_option linter.unusedVariables false
set_option linter.unusedSimpArgs false
set_option linter.unusedSectionVars false
set_option maxRecDepth 10000
set_option maxHeartbeats 1000000
variable {tab : Bt FnD}
theorem bitN_take (bits : List Bool) (j i : Nat) : bitN (bits.take j) i = if i < j then bitN bits i else 0 := by
  unfold bitN
  rw [List.getD_eq_getElem?_getD, List.getD_eq_getElem?_getD, List.getElem?_take]
  split <;> rfl
theorem vTo_congr {a b : List Bool} {q : Nat} : ∀ {m : Nat}, (∀ r, r < m → bitN a (8 * q + r) = bitN b (8 * q + r)) → vTo a q m = vTo b q m
  | 0, _ => rfl
  | m + 1, h => by
    show 2 * vTo a q m + bitN a (8 * q + m) = 2 * vTo b q m + bitN b (8 * q + m)
    rw [vTo_congr fun r hr => h r (by omega), h m (by omega)]
theorem vTo_zeros {a : List Bool} {q m : Nat} (h : ∀ r, m ≤ r → bitN a (8 * q + r) = 0) : ∀ d, vTo a q (m + d) = vTo a q m * 2 ^ d
  | 0 => by simp
  | d + 1 => by
    show 2 * vTo a q (m + d) + bitN a (8 * q + (m + d)) = _
    rw [vTo_zeros h d, h (m + d) (by omega), Nat.pow_succ, Nat.add_zero, ← Nat.mul_assoc, Nat.mul_comm 2, Nat.mul_assoc, Nat.mul_comm 2]
theorem enc_other {bits : List Bool} {j q : Nat} (h : q ≠ j / 8 ∨ bitN bits j = 0) : encB (bits.take (j + 1)) q = encB (bits.take j) q :=
  vTo_congr fun r hr => by
    rw [bitN_take, bitN_take]
    by_cases hj : 8 * q + r = j
    · rcases h with h | h
      · omega
      · rw [hj, if_pos (by omega), if_neg (by omega), h]
    · by_cases hl : 8 * q + r < j
      · rw [if_pos (by omega), if_pos hl]
      · rw [if_neg (by omega), if_neg hl]
theorem enc_step {bits : List Bool} {j : Nat} (h : bitN bits j = 1) : encB (bits.take j) (j / 8) ||| 2 ^ (7 - j % 8) = encB (bits.take (j + 1)) (j / 8) := by
  have hr : j % 8 < 8 := Nat.mod_lt _ (by omega)
  have hj : 8 * (j / 8) + j % 8 = j := by omega
  have e1 : encB (bits.take j) (j / 8) = vTo (bits.take j) (j / 8) (j % 8) * 2 ^ (8 - j % 8) := by
    have := vTo_zeros (a := bits.take j) (q := j / 8) (m := j % 8) (fun r hr => by rw [bitN_take, if_neg (by omega)]) (8 - j % 8)
    rw [show j % 8 + (8 - j % 8) = 8 by omega] at this; exact this
  have e2 : encB (bits.take (j + 1)) (j / 8) = vTo (bits.take (j + 1)) (j / 8) (j % 8 + 1) * 2 ^ (7 - j % 8) := by
    have := vTo_zeros (a := bits.take (j + 1)) (q := j / 8) (m := j % 8 + 1) (fun r hr => by rw [bitN_take, if_neg (by omega)]) (7 - j % 8)
    rw [show j % 8 + 1 + (7 - j % 8) = 8 by omega] at this; exact this
  have e3 : vTo (bits.take (j + 1)) (j / 8) (j % 8 + 1) = 2 * vTo (bits.take j) (j / 8) (j % 8) + 1 := by
    show 2 * vTo (bits.take (j + 1)) (j / 8) (j % 8) + bitN (bits.take (j + 1)) (8 * (j / 8) + j % 8) = _
    rw [hj, bitN_take, if_pos (by omega), h, vTo_congr (b := bits.take j) fun r hr' => by rw [bitN_take, bitN_take, if_pos (by omega), if_pos (by omega)]]
  rw [e1, e2, e3]
  generalize vTo (bits.take j) (j / 8) (j % 8) = v
  generalize hd : 7 - j % 8 = d
  rw [show 8 - j % 8 = d + 1 by omega, Nat.mul_comm v, ← Nat.two_pow_add_eq_or_of_lt (Nat.pow_lt_pow_right (by omega) (by omega)), Nat.pow_succ, Nat.add_mul, Nat.one_mul, Nat.mul_comm (2 * v), Nat.mul_assoc]
/-- the bytes of the first j bits -/
def encTo (bits : List Bool) (j : Nat) : List Nat := (List.range ((bits.length + 7) / 8)).map (encB (bits.take j))
theorem encTo_len (bits : List Bool) (j : Nat) : (encTo bits j).length = (bits.length + 7) / 8 := by simp [encTo]
theorem encTo_zero (bits : List Bool) : (encTo bits 0).map by8 = List.replicate ((bits.length + 7) / 8) (by8 0) := by
  have h0 : ∀ q, encB (bits.take 0) q = 0 := fun q => by
    have := vTo_zeros (a := bits.take 0) (q := q) (m := 0) (fun r _ => by rw [bitN_take, if_neg (by omega)]) 8
    simpa [encB, vTo] using this
  refine List.ext_getElem (by simp [encTo]) fun i h1 h2 => ?_
  have h0' : ∀ q, encB [] q = 0 := h0
  simp [encTo, h0']
theorem encTo_all (bits : List Bool) : encTo bits bits.length = encL bits := by unfold encTo encL; rw [List.take_length]
theorem encTo_same {bits : List Bool} {j : Nat} (h : bitN bits j = 0) : encTo bits (j + 1) = encTo bits j := by
  unfold encTo; exact List.map_congr_left fun q _ => enc_other (.inr h)
theorem encTo_set {bits : List Bool} {j : Nat} : ((encTo bits j).map by8).set (j / 8) (by8 (encB (bits.take (j + 1)) (j / 8))) = (encTo bits (j + 1)).map by8 := by
  refine List.ext_getElem (by simp [encTo]) fun i h1 h2 => ?_
  rw [List.getElem_set]
  simp only [encTo, List.getElem_map, List.getElem_range]
  split
  · rename_i h; subst h; rfl
  · rename_i h; rw [enc_other (.inl fun e => h e.symm)]
theorem shr128 {r : Nat} (h : r < 8) : 128 / 2 ^ r = 2 ^ (7 - r) := by
  rw [show (128 : Nat) = 2 ^ 7 by rfl, Nat.pow_div (by omega) (by omega)]
theorem q6_by8 {a b : Nat} (ha : a < 256) (hb : b < 256) (k : K) : q6 (by8 a) (.num 4 (.ofNat b)) k = k (by8 (a ||| b)) := by
  unfold by8
  rw [q6_num (by omega), wrap4]
  have : a ||| b < 2 ^ 8 := Nat.or_lt_two_pow ha hb
  congr 2
  rw [Int.ofNat_eq_natCast]
  omega
/-- calls of the program's writers -/
theorem ww_call {F : FnD} {wr : List Nat × Nat → Int → List Nat × Nat} {k f : Nat} (hS : SpecW F wr tab) {ih : Ih} (hR : Rt tab (k + 1 + 1) ih) (hg : tab.get f = some F) {t : H} {n w : Nat} {s src : AV} {G : List Nat} {er : Nat} {bs : List Nat} {ns : List Int} (h : Wtr 2 t n w s G er bs) (hs : Sl t 1 src (ns.map i3)) (hb : ∀ b ∈ bk src, b < n ∧ b ≠ w ∧ b ∉ G) (hn : ns.length ≤ 1000) (hl : bs.length ≤ 900000) :
    ∃ s' t' n' G', (∀ kk, C ih f (.cons (.ref 1 w 0 0 0 0) (.cons src .nil)) t n kk = kk unit t' n') ∧ Wtr 2 t' n' w s' G' (ns.foldl wr (bs, er)).2 (ns.foldl wr (bs, er)).1 ∧ Gr (w :: G) t n t' n' ∧ ∀ b ∈ G', b ∈ G ∨ n ≤ b := by
  obtain ⟨v', t1, n1, hc, rfl, s', F', h1, h2, h3⟩ := call (a := .cons (.ref 1 w 0 0 0 0) (.cons src .nil)) (t := t) (n := n) hR hg (P := fun v' t' n' => v' = unit ∧ ∃ s' F', Wtr 2 t' n' w s' F' (ns.foldl wr (bs, er)).2 (ns.foldl wr (bs, er)).1 ∧ Gr (w :: G) t n t' n' ∧ ∀ b ∈ F', b ∈ G ∨ n ≤ b) fun ih' hR' => by
    obtain ⟨s', t', n', F', q1, q2, q3, q4⟩ := hS (y := noY) (ih := ih') h hs hb hn hl (hR'.mono (j := 1) (by omega))
    exact ⟨_, t', n', q1, rfl, s', F', q2, q3, q4⟩
  exact ⟨s', t1, n1, F', hc, h1, h2, h3⟩
theorem wb_call {k : Nat} {ih : Ih} (hR : Rt tab (k + 1 + 1) ih) (T : TbM tab) {t : H} {n w : Nat} {s src : AV} {G : List Nat} {er : Nat} {bs ys : List Nat} (h : Wtr 2 t n w s G er bs) (hs : Sl t 1 src (ys.map by8)) (hl : bs.length + ys.length ≤ 1048576) :
    ∃ s' t' n' G', (∀ kk, C ih 25 (.cons (.ref 1 w 0 0 0 0) (.cons src .nil)) t n kk = kk unit t' n') ∧ Wtr 2 t' n' w s' G' (wrB (bs, er) ys).2 (wrB (bs, er) ys).1 ∧ Gr (w :: G) t n t' n' ∧ ∀ b ∈ G', b ∈ G ∨ n ≤ b := by
  obtain ⟨v', t1, n1, hc, rfl, s', F', h1, h2, h3⟩ := call (a := .cons (.ref 1 w 0 0 0 0) (.cons src .nil)) (t := t) (n := n) hR T.g25 (P := fun v' t' n' => v' = unit ∧ ∃ s' F', Wtr 2 t' n' w s' F' (wrB (bs, er) ys).2 (wrB (bs, er) ys).1 ∧ Gr (w :: G) t n t' n' ∧ ∀ b ∈ F', b ∈ G ∨ n ≤ b) fun ih' hR' => by
    obtain ⟨s', t', n', F', q1, q2, q3, q4⟩ := wbytes_ok (y := noY) (ih := ih') h hs hl (hR'.mono (j := 1) (by omega)) T
    exact ⟨_, t', n', q1, rfl, s', F', q2, q3, q4⟩
  exact ⟨s', t1, n1, F', hc, h1, h2, h3⟩
theorem cc_call {k : Nat} {ih : Ih} (hR : Rt tab (k + 1 + 1) ih) (T : TbM tab) {t : H} {n : Nat} {src ls ss : AV} {lo st : List Bool} (h : Sl t 1 src [ls, ss]) (hls : Sl t 1 ls (lo.map bV)) (hss : Sl t 1 ss (st.map bV))
    (hb : ∀ b ∈ bk src, b < n) (hbl : ∀ b ∈ bk ls, b < n) (hbs : ∀ b ∈ bk ss, b < n) (hl1 : lo.length ≤ 300) (hl2 : st.length ≤ 300) :
    ∃ v t' n' F, (∀ kk, C ih 24 (.cons src .nil) t n kk = kk v t' n') ∧ Ow t' 1 v ((lo ++ st).map bV) F ∧ Gr [] t n t' n' ∧ ∀ b ∈ F, n ≤ b ∧ b < n' := by
  obtain ⟨v', t1, n1, hc, F', h1, h2, h3⟩ := call (a := .cons src .nil) (t := t) (n := n) hR T.g24 (P := fun v' t' n' => ∃ F', Ow t' 1 v' ((lo ++ st).map bV) F' ∧ Gr [] t n t' n' ∧ ∀ b ∈ F', n ≤ b ∧ b < n') fun ih' hR' => by
    obtain ⟨v', t', n', F', q1, q2, q3, q4⟩ := concat_ok (y := noY) (ih := ih') h hls hss hb hbl hbs hl1 hl2 (hR'.mono (j := 1) (by omega)) T
    exact ⟨_, t', n', q1, F', q2, q3, q4⟩
  exact ⟨v', t1, n1, F', hc, h1, h2, h3⟩
end Ev
