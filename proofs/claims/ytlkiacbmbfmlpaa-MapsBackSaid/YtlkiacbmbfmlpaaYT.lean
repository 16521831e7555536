import Derived.Test.YtlkiacbmbfmlpaaYS
/- Rows of bits are read (the program's, 2). -/
namespace Ev
open Go
variable [Told] [TokV] [ToldOK]
set_option linter.unusedVariables false
set_option linter.unusedSimpArgs false
set_option linter.unusedSectionVars false
set_option maxRecDepth 10000
variable {tab : Bt FnD}
theorem q3_n {a b : Nat} {k : K} (hb : 0 < b) (ha : a < 9223372036854775808) : q3 (.num 3 (.ofNat a)) (.num 3 (.ofNat b)) k = k (.num 3 (.ofNat (a / b))) := by
  have e : (Int.ofNat a).tdiv (Int.ofNat b) = Int.ofNat (a / b) := rfl
  have := Nat.div_le_self a b
  rw [q3_3 (by simp; omega) (by rw [e]; generalize a / b = c at *; simp only [Int.ofNat_eq_natCast]; omega), e]
theorem q4_n {a b : Nat} {k : K} (hb : 0 < b) : q4 (.num 3 (.ofNat a)) (.num 3 (.ofNat b)) k = k (.num 3 (.ofNat (a % b))) := by
  rw [q4_3 (by simp; omega)]; rfl
theorem q2_n {a b : Nat} {k : K} (h : a * b < 9223372036854775808) : q2 (.num 3 (.ofNat a)) (.num 3 (.ofNat b)) k = k (.num 3 (.ofNat (a * b))) := by
  have e : Int.ofNat a * Int.ofNat b = Int.ofNat (a * b) := rfl
  rw [q2_3 (by rw [e]; simp only [Int.ofNat_eq_natCast]; omega), e]
/-- the first i places are told, the others not yet -/
def bitsTo (row : List Nat) (i : Nat) : List Bool := (List.range (8 * row.length)).map fun j => if j < i then bitAt row j else false
theorem bitsTo_zero (row : List Nat) : (bitsTo row 0).map bV = List.replicate (8 * row.length) (bV false) := by
  apply List.ext_getElem
  · simp [bitsTo]
  · intro j h1 h2; simp [bitsTo]
theorem bitsTo_succ {row : List Nat} {i : Nat} (hi : i < 8 * row.length) : ((bitsTo row i).map bV).set i (bV (bitAt row i)) = (bitsTo row (i + 1)).map bV := by
  apply List.ext_getElem
  · simp [bitsTo]
  · intro j h1 h2
    rw [List.getElem_set]
    split
    · rename_i h; subst h; simp [bitsTo]
    · rename_i h
      simp only [bitsTo, List.getElem_map, List.getElem_range]
      by_cases hj : j < i
      · rw [if_pos hj, if_pos (by omega)]
      · rw [if_neg hj, if_neg (by omega)]
theorem bitsTo_all (row : List Nat) : bitsTo row (8 * row.length) = bitsOf row := by
  apply List.ext_getElem
  · simp [bitsTo, bitsOf]
  · intro j h1 h2
    simp [bitsTo, bitsOf] at h2 ⊢
    intro h; omega
theorem bitsOf_len (row : List Nat) : (bitsOf row).length = 8 * row.length := by simp [bitsOf]
/-- so many bits: (an error, or the rest is set: 1, or they) -/
theorem bits_ok {y : Yh} {ih : Ih} {t : H} {n w : Nat} {s : AV} {p m er : Nat} {bs : List Nat} (h : Rdr t n w s p er (bs.map by8)) (hx : ∀ x ∈ bs, x < 256) (hm : m ≤ 510) (hR : Rt tab 3 ih) (T : TbM tab) :
    ∃ (v : AV) (t' : H) (n' : Nat) (G : List Nat), s15 y ih (.cons (.com 0 0 (.cons (.ref 1 w 0 0 0 0) .nil)) (.cons (.num 3 (.ofNat m)) .nil)) t n = .ok v t' n' ∧ Rdr t' n' w s (takeN bs p er ((m + 7) / 8)).2.1 (takeN bs p er ((m + 7) / 8)).2.2 (bs.map by8) ∧ Gr [w] t n t' n' ∧
      (if (takeN bs p er ((m + 7) / 8)).2.2 ≠ 0 then v = .com 1 0 (.cons (.ref 2 0 0 0 0 0) (.cons (.num 3 (.ofNat (takeN bs p er ((m + 7) / 8)).2.2)) .nil))
      else if true ∈ (bitsOf (takeN bs p er ((m + 7) / 8)).1).drop m then v = .com 1 0 (.cons (.ref 2 0 0 0 0 0) (.cons (.num 3 (.ofNat 1)) .nil))
      else ∃ s', v = .com 1 0 (.cons s' (.cons (.num 3 (.ofNat 0)) .nil)) ∧ Sl t' 1 s' (((bitsOf (takeN bs p er ((m + 7) / 8)).1).take m).map bV) ∧ (∀ b e o l c, s' ≠ .ref 5 b e o l c) ∧ (∀ b ∈ bk s', b ∈ G) ∧ ∀ b ∈ G, n ≤ b ∧ b < n') := by
  have hbox : ∀ k, pBox (.com 0 0 (.cons (.ref 1 w 0 0 0 0) .nil)) t n k = k (.ref 1 n 0 0 0 0) (nw t 1 [.ref 1 w 0 0 0 0] 1 n) (n + 1) := fun k => pBox_com [.ref 1 w 0 0 0 0] 0 t n k
  have hq0 : ∀ k : K, q0 (.num 3 (.ofNat m)) (.num 3 (.ofNat 7)) k = k (.num 3 (.ofNat (m + 7))) := fun k => q0_n (by omega)
  have hq3 : ∀ k : K, q3 (.num 3 (.ofNat (m + 7))) (.num 3 (.ofNat 8)) k = k (.num 3 (.ofNat ((m + 7) / 8))) := fun k => q3_n (by omega) (by omega)
  have hw := h.lt
  have c0 : cl (nw t 1 [.ref 1 w 0 0 0 0] 1 n) n 0 0 = some (.ref 1 w 0 0 0 0) := nw_row 0 _ rfl
  obtain ⟨v9, t1, n1, hc, G, h1, h2, h3, h4⟩ := call (a := .cons (.ref 1 w 0 0 0 0) (.cons (.num 3 (.ofNat ((m + 7) / 8))) .nil)) (t := nw t 1 [.ref 1 w 0 0 0 0] 1 n) (n := n + 1) hR T.g32 (P := fun v t' n' => ∃ G : List Nat, Rdr t' n' w s (takeN bs p er ((m + 7) / 8)).2.1 (takeN bs p er ((m + 7) / 8)).2.2 (bs.map by8) ∧ Ow t' 1 v ((takeN bs p er ((m + 7) / 8)).1.map by8) G ∧ Gr [w] (nw t 1 [.ref 1 w 0 0 0 0] 1 n) (n + 1) t' n' ∧ ∀ b ∈ G, n + 1 ≤ b ∧ b < n') fun ih' hR' => by
    obtain ⟨v, t', n', G, q1, q2, q3, q4, q5⟩ := bytes_ok T (y := noY) (m := (m + 7) / 8) (h.get (n' := n + 1) (t' := nw t 1 [.ref 1 w 0 0 0 0] 1 n) (by omega) fun b hb => nw_ne (by omega)) (by omega) hR'
    rw [takeP_map] at q2 q3
    exact ⟨v, t', n', q1, G, q2, q3, q4, q5⟩
  have hlen := takeN_len (bs := bs) (p := p) (er := er) (m := (m + 7) / 8)
  have hfull := takeN_full (bs := bs) (p := p) (er := er) (m := (m + 7) / 8)
  have hmem : ∀ x ∈ (takeN bs p er ((m + 7) / 8)).1, x < 256 := fun x hxm => hx x (takeN_mem hxm)
  generalize (takeN bs p er ((m + 7) / 8)).1 = R at *
  generalize (takeN bs p er ((m + 7) / 8)).2.1 = p' at *
  generalize (takeN bs p er ((m + 7) / 8)).2.2 = er' at *
  have c1 : cl t1 n 0 0 = some (.ref 1 w 0 0 0 0) := by rw [cl_get (h3.get n (by omega) (by simp; omega)), c0]
  obtain ⟨v41, t2, n2, hc2, rfl, rfl, rfl⟩ := call (a := .cons (.ref 1 w 0 0 0 0) .nil) (t := t1) (n := n1) hR T.g33 (P := fun v t' n' => v = .num 3 (.ofNat er') ∧ t' = t1 ∧ n' = n1) fun ih' hR' => ⟨_, _, _, err_ok (y := noY) h1, rfl, rfl, rfl⟩
  have hgr : Gr [w] t n t2 n2 := ⟨by have := h3.le; omega, fun b hb hF => by rw [h3.get b (by omega) hF, nw_ne (by omega)]⟩
  by_cases he : er' = 0
  · subst he
    have hl9 : R.length ≤ 65 := by omega
    have hq2 : ∀ k : K, q2 (.num 3 (.ofNat 8)) (.num 3 (.ofNat R.length)) k = k (.num 3 (.ofNat (8 * R.length))) := fun k => q2_n (by omega)
    have hmk : ∀ k, pMkSl 1 1 (.cons (.num 8 (.ofNat 0)) .nil) (.num 3 (.ofNat (8 * R.length))) (.num 3 (.ofNat (8 * R.length))) t2 n2 k = k (.ref 3 n2 0 0 (8 * R.length) (8 * R.length)) (nw t2 1 (List.replicate (8 * R.length) (bV false)) (List.replicate (8 * R.length) (bV false)).length n2) (n2 + 1) := fun k => pMkSl1 (by omega) t2 n2 k
    have hO : Ow (nw t2 1 (List.replicate (8 * R.length) (bV false)) (List.replicate (8 * R.length) (bV false)).length n2) 1 (.ref 3 n2 0 0 (8 * R.length) (8 * R.length)) ((bitsTo R 0).map bV) [n2] := by rw [bitsTo_zero]; exact own_mk
    have hf3 : ∀ b, b < n2 → (nw t2 1 (List.replicate (8 * R.length) (bV false)) (List.replicate (8 * R.length) (bV false)).length n2).get b = t2.get b := fun b hb => nw_ne (by omega)
    generalize hT3 : nw t2 1 (List.replicate (8 * R.length) (bV false)) (List.replicate (8 * R.length) (bV false)).length n2 = t3 at *
    have hsl := h2.sl
    have hl3 : ((bitsTo R 0).map bV).length = 8 * R.length := by simp [bitsTo]
    have hlen3 : ∀ k : K, pLenL (.ref 3 n2 0 0 (8 * R.length) (8 * R.length)) k = k (.num 3 (.ofNat (8 * R.length))) := fun k => by rw [pLenL_sl hO.sl Nat.one_pos, Nat.div_one, hl3]
    generalize hs3 : AV.ref 3 n2 0 0 (8 * R.length) (8 * R.length) = s3 at *
    have hRl : R.length = (m + 7) / 8 := hfull rfl
    have hm8 : m ≤ 8 * R.length := by omega
    -- the loop
    have hgoal : ∃ t4 s', s15 y ih (.cons (.com 0 0 (.cons (.ref 1 w 0 0 0 0) .nil)) (.cons (.num 3 (.ofNat m)) .nil)) t n = .ok (if true ∈ (bitsOf R).drop m then .com 1 0 (.cons (.ref 2 0 0 0 0 0) (.cons (.num 3 (.ofNat 1)) .nil)) else .com 1 0 (.cons s' (.cons (.num 3 (.ofNat 0)) .nil))) t4 (n2 + 1) ∧
        (∀ b, b < n2 → t4.get b = t2.get b) ∧ Sl t4 1 s' (((bitsOf R).take m).map bV) ∧ (∀ b ∈ bk s', b ∈ [n2]) ∧ ∀ b e o l c, s' ≠ .ref 5 b e o l c := by
      unfold s15
      simp (iota := false) only [SY, reduceCtorEq, if_false, if_true, Nat.zero_add, hbox, hq0, hq3, c0, c1, Option.isSome_some, Option.getD_some, hc, hc2, ne_eq, not_true, pLenL_sl hsl Nat.one_pos, Nat.div_one, List.length_map, hq2, hmk, hlen3, cLoop_eq]
      generalize hL : loop _ _ _ _ _ _ _ = o
      have key : ∃ e' t4, o = .exit 0 e' t4 (n2 + 1) ∧ N16.sel .d7 (row .d0 e') = some s3 ∧ N16.sel .d1 (row .d0 e') = some (.num 3 (.ofNat m)) ∧ Ow t4 1 s3 ((bitsOf R).map bV) [n2] ∧ ∀ b, b < n2 → t4.get b = t2.get b := by
        rw [← hL]
        refine loop_ind (fun o => ∃ e' t4, o = .exit 0 e' t4 (n2 + 1) ∧ N16.sel .d7 (row .d0 e') = some s3 ∧ N16.sel .d1 (row .d0 e') = some (.num 3 (.ofNat m)) ∧ Ow t4 1 s3 ((bitsOf R).map bV) [n2] ∧ ∀ b, b < n2 → t4.get b = t2.get b)
          (fun k e t n => n = n2 + 1 ∧ ∃ i, i + k = 8 * R.length ∧ N16.sel .d12 (row .d1 e) = some (.num 3 (.ofNat i)) ∧ N16.sel .d11 (row .d1 e) = some (.num 3 (.ofNat (8 * R.length))) ∧ N16.sel .d7 (row .d0 e) = some s3 ∧ N16.sel .d6 (row .d0 e) = some v9 ∧ N16.sel .d1 (row .d0 e) = some (.num 3 (.ofNat m)) ∧ Ow t 1 s3 ((bitsTo R i).map bV) [n2] ∧ ∀ b, b < n2 → t.get b = t2.get b)
          ?_ fuelL (8 * R.length) _ _ _ ⟨rfl, 0, by omega, ?_⟩ (by unfold fuelL; omega)
        · rintro k e t n rec ⟨rfl, i, hi, e12, e11, e7, e6, e1, hOw, hfr⟩ hrec
          by_cases hlt : i < 8 * R.length
          · have hdiv : i / 8 < R.length := by omega
            have hget : (R.map by8)[i / 8]? = some (by8 R[i / 8]) := by simp [hdiv]
            have hsl' : Sl t 1 v9 (R.map by8) := (h2.get fun b hb => hfr b (h4 b hb).2).sl
            have hq : ∀ k : K, q0 (.num 3 (.ofNat i)) (.num 3 (.ofNat 1)) k = k (.num 3 (.ofNat (i + 1))) := fun k => q0_n (by omega)
            have hqd : ∀ k : K, q3 (.num 3 (.ofNat i)) (.num 3 (.ofNat 8)) k = k (.num 3 (.ofNat (i / 8))) := fun k => q3_n (by omega) (by omega)
            have hqm : ∀ k : K, q4 (.num 3 (.ofNat i)) (.num 3 (.ofNat 8)) k = k (.num 3 (.ofNat (i % 8))) := fun k => q4_n (by omega)
            have hbit : R[i / 8].testBit (7 - i % 8) = bitAt R i := by unfold bitAt; rw [List.getD_eq_getElem?_getD, List.getElem?_eq_getElem hdiv]; rfl
            have hst := fun k => bit_step (hmem R[i / 8] (by simp)) (show i % 8 < 8 by omega) (k := k)
            rw [hbit] at hst
            obtain ⟨t5, hset, hO5, hf5⟩ := hOw.set (i := i) (v := bV (bitAt R i)) (by simp [bitsTo, hlt]) (ck_bV _)
            have hil : i * 1 < ((bitsTo R i).map bV).length := by simp [bitsTo]; omega
            simp (iota := false) only [hst, SY, reduceCtorEq, if_false, if_true, e12, e11, e7, e6, e1, hlt, hqd, hqm, pIad_sl hsl' (show i / 8 * 1 < (R.map by8).length by simp; omega), pLd_plc hsl' hget, pIad_sl hOw.sl hil, hset, hq]
            refine hrec (k - 1) _ _ _ (by omega) ⟨rfl, i + 1, by omega, ?_⟩
            rw [bitsTo_succ hlt] at hO5
            simp (iota := false) only [SY, reduceCtorEq, if_false, if_true, e11, e7, e6, e1, true_and]
            exact ⟨hO5, fun b hb => (hf5 b (by simp; omega)).trans (hfr b hb)⟩
          · have : i = 8 * R.length := by omega
            subst this
            simp (iota := false) only [SY, reduceCtorEq, if_false, if_true, e12, e11, Nat.lt_irrefl]
            refine ⟨_, _, rfl, ?_⟩
            rw [bitsTo_all] at hOw
            simp (iota := false) only [SY, reduceCtorEq, if_false, if_true, e7, e1, true_and]
            exact ⟨hOw, hfr⟩
        · simp (iota := false) only [SY, reduceCtorEq, if_false, if_true, true_and]
          exact ⟨hO, hf3⟩
      obtain ⟨e', t4, rfl, e7, e1, hOw, hfr⟩ := key
      have hlb : ((bitsOf R).map bV).length = 8 * R.length := by simp [bitsOf_len]
      obtain ⟨v65, h65, hs65, _, _⟩ := pSlV_sl (l := m) (u := 8 * R.length) hOw.sl hOw.n5 Nat.one_pos hm8 (by omega)
      have h65' : ∀ k, pSlV 1 s3 (some (.num 3 (.ofNat m))) none none t4 k = k v65 := fun k => by rw [pSlV_end hOw.sl hOw.n5 Nat.one_pos, Nat.div_one, hlb]; exact h65 k
      have hdrop : List.take ((8 * R.length - m) * 1) (List.drop (m * 1) ((bitsOf R).map bV)) = ((bitsOf R).drop m).map bV := by
        rw [Nat.mul_one, Nat.mul_one, List.map_drop, List.take_of_length_le (by simp [bitsOf_len])]
      rw [hdrop] at hs65
      obtain ⟨v36, h36, hs36, hb36, h536⟩ := pSlV_sl (l := 0) (u := m) hOw.sl hOw.n5 Nat.one_pos (by omega) (by omega)
      have h36' : ∀ k, pSlV 1 s3 none (some (.num 3 (.ofNat m))) none t4 k = k v36 := fun k => by rw [pSlV_none hOw.sl]; exact h36 k
      have htake : List.take ((m - 0) * 1) (List.drop (0 * 1) ((bitsOf R).map bV)) = ((bitsOf R).take m).map bV := by simp [List.map_take]
      rw [htake] at hs36
      obtain ⟨v75, t6, n6, hc3, rfl, rfl, rfl⟩ := call (a := .cons v65 (.cons (.num 8 (.ofNat 1)) .nil)) (t := t4) (n := n2 + 1) (hR.mono (j := 2) (by omega)) T.g34 (P := fun v t' n' => v = bL (true ∈ (bitsOf R).drop m) ∧ t' = t4 ∧ n' = n2 + 1) fun ih' hR' => ⟨_, _, _, contains_ok (y := noY) (b := true) hs65 (by simp [bitsOf_len]; omega) hR' T, rfl, rfl, rfl⟩
      refine ⟨t6, v36, ?_, hfr, hs36, fun b hb => by have := hb36 b hb; rw [hOw.bk] at this; exact this, fun b e o l c h => by
        obtain ⟨_, _, _, _, _, h'⟩ := h536 _ _ _ _ _ h
        rw [← hs3] at h'; cases h'⟩
      by_cases hin : true ∈ (bitsOf R).drop m
      · simp (iota := false) only [SY, reduceCtorEq, if_false, if_true, e7, e1, h65', hc3, hin]
      · simp (iota := false) only [SY, reduceCtorEq, if_false, if_true, e7, e1, h65', hc3, hin, h36']
    obtain ⟨t4, s', hrun, hfr, hsl4, hbk, h5⟩ := hgoal
    refine ⟨_, t4, n2 + 1, [n2], hrun, h1.get (by omega) hfr, ⟨by have := hgr.le; omega, fun b hb hF => (hfr b (by have := hgr.le; omega)).trans (hgr.get b hb hF)⟩, ?_⟩
    rw [if_neg (by simp)]
    by_cases hin : true ∈ (bitsOf R).drop m
    · rw [if_pos hin, if_pos hin]
    · rw [if_neg hin, if_neg hin]
      exact ⟨s', rfl, hsl4, h5, hbk, fun b hb => by simp at hb; have := hgr.le; omega⟩
  · refine ⟨.com 1 0 (.cons (.ref 2 0 0 0 0 0) (.cons (.num 3 (.ofNat er')) .nil)), t2, n2, [], ?_, h1, hgr, by rw [if_pos he]⟩
    unfold s15
    simp (iota := false) only [SY, reduceCtorEq, if_false, if_true, Nat.zero_add, hbox, hq0, hq3, c0, c1, Option.isSome_some, Option.getD_some, hc, hc2, ne_eq, he, not_false_eq_true]
end Ev
