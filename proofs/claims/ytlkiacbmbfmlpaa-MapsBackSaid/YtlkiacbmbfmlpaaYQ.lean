import Derived.Test.YtlkiacbmbfmlpaaYO
/- What the functions of cursor do (4): the document's numbers; rows of bools. -/
namespace Ev
open Go
variable [Told] [TokV] [ToldOK]
set_option linter.unusedVariables false
set_option linter.unusedSimpArgs false
set_option linter.unusedSectionVars false
set_option maxRecDepth 10000
variable {tab : Bt FnD}
theorem number2_ok {y : Yh} {ih : Ih} {t : H} {n w : Nat} {s : AV} {p m er : Nat} {bs : List Nat} (h : Rdr t n w s p er (bs.map by8)) (hx : ∀ x ∈ bs, x < 256) (hm : m ≤ 7) (hR : Rt tab 1 ih) (T : TbM tab) :
    ∃ t', s35 y ih (.cons (.ref 1 w 0 0 0 0) (.cons (.num 3 (.ofNat m)) .nil)) t n = .ok (.num 7 (.ofNat (numP (takeN bs p er m).1))) t' n ∧ Rdr t' n w s (takeN bs p er m).2.1 (takeN bs p er m).2.2 (bs.map by8) ∧ Gr [w] t n t' n := by
  obtain ⟨v, t1, n1, hc, h1, h2, h3, h4, rfl⟩ := call (a := .cons (.ref 1 w 0 0 0 0) (.cons (.num 3 (.ofNat m)) .nil)) (t := t) (n := n) hR T.g36 (P := fun v t' n' => Rdr t' n w s (takeN bs p er m).2.1 (takeN bs p er m).2.2 (bs.map by8) ∧ Sl t' 1 v ((takeN bs p er m).1.map by8) ∧ Gr [w] t n t' n ∧ (∀ b ∈ bk v, b ∈ bk s) ∧ n' = n) fun ih' hR' => by
    obtain ⟨v, t', h1, h2, h3, h4, h5⟩ := take2_ok (y := noY) (ih := ih') h (show m < 1152921504606846976 by omega)
    rw [takeP_map] at h2 h3
    exact ⟨v, t', n, h1, h2, h3, h4, h5, rfl⟩
  generalize hxs : (takeN bs p er m).1 = xs at *
  have hxb : ∀ x ∈ xs, x < 256 := fun x hxm => hx x (takeN_mem (hxs ▸ hxm))
  have hxl : xs.length ≤ 7 := by rw [← hxs]; exact Nat.le_trans takeN_len hm
  refine ⟨t1, ?_, h1, h3⟩
  unfold s35
  simp (iota := false) only [SY, reduceCtorEq, if_false, if_true, Nat.zero_add, hc, cLoop_eq]
  generalize hL : loop _ _ _ _ _ _ _ = o
  have key : ∃ e', o = .exit 0 e' t1 n1 ∧ N16.sel .d6 (row .d0 e') = some (.num 7 (.ofNat (numP xs))) := by
    rw [← hL]
    refine loop_ind (fun o => ∃ e', o = .exit 0 e' t1 n1 ∧ N16.sel .d6 (row .d0 e') = some (.num 7 (.ofNat (numP xs))))
      (fun m e t n => t = t1 ∧ n = n1 ∧ ∃ i, i + m = xs.length ∧ N16.sel .d7 (row .d0 e) = some (.num 3 (.ofNat i)) ∧ N16.sel .d5 (row .d0 e) = some v ∧ N16.sel .d6 (row .d0 e) = some (.num 7 (.ofNat (numP (xs.take i)))))
      ?_ fuelL xs.length _ _ _ ⟨rfl, rfl, 0, by omega, ?_⟩ (by unfold fuelL; omega)
    · rintro m e t n rec ⟨rfl, rfl, i, hi, e7, e5, e6⟩ hrec
      by_cases hlt : i < xs.length
      · have hget : (xs.map by8)[i]? = some (by8 xs[i]) := by simp [hlt]
        have hq : ∀ k : K, q0 (.num 3 (.ofNat i)) (.num 3 (.ofNat 1)) k = k (.num 3 (.ofNat (i + 1))) := fun k => q0_n (by omega)
        have hv : numP (xs.take i) * 256 + xs[i] < 18446744073709551616 := by
          have := numP_take_lt (i := i) hxb (by omega) (by omega)
          have := hxb xs[i] (by simp)
          omega
        have h8 : ∀ k : K, q8 (.num 7 (.ofNat (numP (xs.take i)))) (.num 7 (.ofNat 8)) k = k (.num 7 (.ofNat (numP (xs.take i) * 256))) := fun k => by
          rw [q8_num (by omega) (by omega) (.inl (Nat.le_refl _)), wrap7, show (Int.ofNat (numP (xs.take i)) * 2 ^ 8) % 18446744073709551616 = Int.ofNat (numP (xs.take i) * 256) by simp; omega]
        have h7 : ∀ k : K, pConvT 7 (by8 xs[i]) k = k (.num 7 (.ofNat xs[i])) := fun k => by
          unfold by8; rw [pConvT_num (by omega), wrap7, show (Int.ofNat xs[i]) % 18446744073709551616 = Int.ofNat xs[i] by have := hxb xs[i] (by simp); simp; omega]
        have h6 : ∀ k : K, q6 (.num 7 (.ofNat (numP (xs.take i) * 256))) (.num 7 (.ofNat xs[i])) k = k (.num 7 (.ofNat (numP (xs.take i) * 256 + xs[i]))) := fun k => by
          rw [q6_num (by omega), wrap7, or_add (hxb xs[i] (by simp)), show (Int.ofNat (numP (xs.take i) * 256 + xs[i])) % 18446744073709551616 = Int.ofNat (numP (xs.take i) * 256 + xs[i]) by simp; omega]
        simp (iota := false) only [h8, h7, h6, SY, reduceCtorEq, if_false, if_true, e7, e5, e6, hlt, pLenL_sl h2 Nat.one_pos, Nat.div_one, List.length_map, pIad_sl h2 (show i * 1 < (xs.map by8).length by simpa using hlt), pLd_plc h2 hget, hq]
        refine hrec (m - 1) _ _ _ (by omega) ⟨rfl, rfl, i + 1, by omega, ?_⟩
        simp (iota := false) only [SY, reduceCtorEq, if_false, if_true, e5, numP_take hlt, and_self]
      · have : i = xs.length := by omega
        subst this
        simp (iota := false) only [SY, reduceCtorEq, if_false, if_true, e7, e5, pLenL_sl h2 Nat.one_pos, Nat.div_one, List.length_map, Nat.lt_irrefl]
        refine ⟨_, rfl, ?_⟩
        simp (iota := false) only [SY, reduceCtorEq, if_false, if_true, e6, List.take_length]
    · simp (iota := false) only [SY, reduceCtorEq, if_false, if_true, true_and]
      exact rfl
  obtain ⟨e', rfl, h5⟩ := key
  simp (iota := false) only [SY, reduceCtorEq, if_false, if_true, h5]
theorem u1b_ok (T : TbM tab) : SpecNum s19 2 1 tab := fun {y ih t n w s p er bs} h hx hR => by
  obtain ⟨v, t1, n1, hc, rfl, h1, h2, rfl⟩ := call (a := .cons (.ref 1 w 0 0 0 0) (.cons (.num 3 (.ofNat 1)) .nil)) (t := t) (n := n) hR T.g35 (P := fun v t' n' => v = .num 7 (.ofNat (numP (takeN bs p er 1).1)) ∧ Rdr t' n w s (takeN bs p er 1).2.1 (takeN bs p er 1).2.2 (bs.map by8) ∧ Gr [w] t n t' n ∧ n' = n) fun ih' hR' => by
    obtain ⟨t', h1, h2, h3⟩ := number2_ok (y := noY) (m := 1) h hx (by omega) hR' T
    exact ⟨_, t', n, h1, rfl, h2, h3, rfl⟩
  refine ⟨t1, ?_, h1, h2⟩
  unfold s19
  have hs := numP_small (xs := (takeN bs p er 1).1) (fun x hxm => hx x (takeN_mem hxm)) (Nat.le_trans takeN_len (by omega))
  simp (iota := false) only [conv73 hs, SY, reduceCtorEq, if_false, if_true, hc]
theorem u2b_ok (T : TbM tab) : SpecNum s18 2 2 tab := fun {y ih t n w s p er bs} h hx hR => by
  obtain ⟨v, t1, n1, hc, rfl, h1, h2, rfl⟩ := call (a := .cons (.ref 1 w 0 0 0 0) (.cons (.num 3 (.ofNat 2)) .nil)) (t := t) (n := n) hR T.g35 (P := fun v t' n' => v = .num 7 (.ofNat (numP (takeN bs p er 2).1)) ∧ Rdr t' n w s (takeN bs p er 2).2.1 (takeN bs p er 2).2.2 (bs.map by8) ∧ Gr [w] t n t' n ∧ n' = n) fun ih' hR' => by
    obtain ⟨t', h1, h2, h3⟩ := number2_ok (y := noY) (m := 2) h hx (by omega) hR' T
    exact ⟨_, t', n, h1, rfl, h2, h3, rfl⟩
  refine ⟨t1, ?_, h1, h2⟩
  unfold s18
  have hs := numP_small (xs := (takeN bs p er 2).1) (fun x hxm => hx x (takeN_mem hxm)) (Nat.le_trans takeN_len (by omega))
  simp (iota := false) only [conv73 hs, SY, reduceCtorEq, if_false, if_true, hc]
/-! ### rows of bools -/
def bV (b : Bool) : AV := .num 8 (.ofNat b.toNat)
theorem pEqB_bV (a b : Bool) (k : K) : pEqB (bV a) (bV b) k = k (bL (a = b)) := by cases a <;> cases b <;> rfl
theorem vbool_bV (a : Bool) (x y : Out) : vbool (bV a) x y = if a = true then x else y := by cases a <;> rfl
theorem bL_bV (p : Prop) [Decidable p] : bL p = bV (decide p) := by
  unfold bL bV; by_cases h : p
  · rw [if_pos h]; simp [h]
  · rw [if_neg h]; simp [h]
theorem ck_bV (b : Bool) : cellsK (bV b) = fun f => f (.cons (bV b) .nil) := rfl
/-- the place of the first bool of a kind, or -1 -/
theorem index_ok {y : Yh} {ih : Ih} {t : H} {n : Nat} {s : AV} {bs : List Bool} {b : Bool} (h : Sl t 1 s (bs.map bV)) (hl : bs.length < 1000000) :
    ∃ z : Int, s42 y ih (.cons s (.cons (bV b) .nil)) t n = .ok (.num 3 z) t n ∧ ((0 ≤ z) ↔ b ∈ bs) := by
  unfold s42
  simp (iota := false) only [SY, reduceCtorEq, if_false, if_true, Nat.zero_add, pLenL_sl h Nat.one_pos, Nat.div_one, List.length_map, cLoop_eq]
  generalize hL : loop _ _ _ _ _ _ _ = o
  have key : (∃ e', o = .exit 0 e' t n ∧ b ∉ bs) ∨ (∃ e' i, o = .ret e' t n ∧ b ∈ bs ∧ N16.sel .d4 (row .d0 e') = some (.num 3 (.ofNat i))) := by
    rw [← hL]
    refine loop_ind (fun o => (∃ e', o = .exit 0 e' t n ∧ b ∉ bs) ∨ (∃ e' i, o = .ret e' t n ∧ b ∈ bs ∧ N16.sel .d4 (row .d0 e') = some (.num 3 (.ofNat i))))
      (fun m e t' n' => t' = t ∧ n' = n ∧ ∃ i, i + m = bs.length ∧ N16.sel .d8 (row .d0 e) = some (.num 3 (.ofNat i)) ∧ N16.sel .d7 (row .d0 e) = some (.num 3 (.ofNat bs.length)) ∧ N16.sel .d0 (row .d0 e) = some s ∧ N16.sel .d1 (row .d0 e) = some (bV b) ∧ b ∉ bs.take i)
      ?_ fuelL bs.length _ _ _ ⟨rfl, rfl, 0, by omega, ?_⟩ (by unfold fuelL; omega)
    · rintro m e t n rec ⟨rfl, rfl, i, hi, e8, e7, e0, e1, hno⟩ hrec
      by_cases hlt : i < bs.length
      · have hget : (bs.map bV)[i]? = some (bV bs[i]) := by simp [hlt]
        have hq : ∀ k : K, q0 (.num 3 (.ofNat i)) (.num 3 (.ofNat 1)) k = k (.num 3 (.ofNat (i + 1))) := fun k => q0_n (by omega)
        by_cases hb : b = bs[i]
        · simp (iota := false) only [pEqB_bV, SY, reduceCtorEq, if_false, if_true, e8, e7, e0, e1, hlt, pIad_sl h (show i * 1 < (bs.map bV).length by simpa using hlt), pLd_plc h hget, if_pos hb]
          refine .inr ⟨_, i, rfl, by rw [hb]; exact List.getElem_mem hlt, ?_⟩
          simp (iota := false) only [SY, reduceCtorEq, if_false, if_true]
        · simp (iota := false) only [pEqB_bV, SY, reduceCtorEq, if_false, if_true, e8, e7, e0, e1, hlt, pIad_sl h (show i * 1 < (bs.map bV).length by simpa using hlt), pLd_plc h hget, if_neg hb, hq]
          refine hrec (m - 1) _ _ _ (by omega) ⟨rfl, rfl, i + 1, by omega, ?_⟩
          simp (iota := false) only [SY, reduceCtorEq, if_false, if_true, e7, e0, e1, true_and]
          rw [List.take_succ_eq_append_getElem hlt, List.mem_append, List.mem_singleton]
          exact fun h => h.elim hno hb
      · have : i = bs.length := by omega
        subst this
        simp (iota := false) only [SY, reduceCtorEq, if_false, if_true, e8, e7, Nat.lt_irrefl]
        exact .inl ⟨_, rfl, by rwa [List.take_length] at hno⟩
    · simp (iota := false) only [SY, reduceCtorEq, if_false, if_true, true_and]
      simp
  rcases key with ⟨e', rfl, hno⟩ | ⟨e', i, rfl, hb, h4⟩
  · refine ⟨.negSucc 0, ?_, ?_⟩
    · simp (iota := false) only [SY, reduceCtorEq, if_false, if_true]
    · simp [hno]
  · refine ⟨.ofNat i, ?_, ?_⟩
    · simp (iota := false) only [SY, reduceCtorEq, if_false, if_true, h4]
    · simp [hb]
theorem contains_ok {y : Yh} {ih : Ih} {t : H} {n : Nat} {s : AV} {bs : List Bool} {b : Bool} (h : Sl t 1 s (bs.map bV)) (hl : bs.length < 1000000) (hR : Rt tab 1 ih) (T : TbM tab) :
    s34 y ih (.cons s (.cons (bV b) .nil)) t n = .ok (bL (b ∈ bs)) t n := by
  obtain ⟨v, t1, n1, hc, z, rfl, hz, rfl, rfl⟩ := call (a := .cons s (.cons (bV b) .nil)) (t := t) (n := n) hR T.g42 (P := fun v t' n' => ∃ z : Int, v = .num 3 z ∧ ((0 ≤ z) ↔ b ∈ bs) ∧ t' = t ∧ n' = n) fun ih' hR' => by
    obtain ⟨z, h1, h2⟩ := index_ok (y := noY) (ih := ih') (n := n) (b := b) h hl
    exact ⟨_, _, _, h1, z, rfl, h2, rfl, rfl⟩
  unfold s34
  simp (iota := false) only [SY, reduceCtorEq, if_false, if_true, hc]
  rw [bL_congr (show (Int.ofNat 0 ≤ z) ↔ b ∈ bs from hz)]
end Ev
