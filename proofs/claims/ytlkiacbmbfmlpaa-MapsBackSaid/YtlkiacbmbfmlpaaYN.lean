import Derived.Test.YtlkiacbmbfmlpaaYM
/- What the functions of cursor do (2): numbers are read. -/
namespace Ev
open Go
variable [Told] [TokV] [ToldOK]
set_option linter.unusedVariables false
set_option linter.unusedSimpArgs false
set_option linter.unusedSectionVars false
set_option maxRecDepth 10000
variable {tab : Bt FnD}
/-- the rest of a row of bytes -/
theorem numP_take {xs : List Nat} {i : Nat} (hi : i < xs.length) : numP (xs.take (i + 1)) = numP (xs.take i) * 256 + xs[i] := by
  rw [List.take_succ_eq_append_getElem hi, numP_snoc]
theorem numP_take_lt {xs : List Nat} {i : Nat} (hx : ∀ x ∈ xs, x < 256) (hi : i ≤ 7) (hl : xs.length ≤ 8) : numP (xs.take i) < 256 ^ 7 := by
  have h1 := numP_lt (xs := xs.take i) fun x h => hx x (List.mem_of_mem_take h)
  have h2 : (xs.take i).length ≤ 7 := by rw [List.length_take]; omega
  exact Nat.lt_of_lt_of_le h1 (Nat.pow_le_pow_right (by omega) h2)
theorem number_ok {y : Yh} {ih : Ih} {t : H} {n w : Nat} {s : AV} {p m er : Nat} {bs : List Nat} (h : Rdr t n w s p er (bs.map by8)) (hx : ∀ x ∈ bs, x < 256) (hm : m ≤ 7) (hR : Rt tab 2 ih) (T : TbM tab) :
    ∃ t', s31 y ih (.cons (.ref 1 w 0 0 0 0) (.cons (.num 3 (.ofNat m)) .nil)) t n = .ok (.num 7 (.ofNat (numP (takeN bs p er m).1))) t' n ∧ Rdr t' n w s (takeN bs p er m).2.1 (takeN bs p er m).2.2 (bs.map by8) ∧ Gr [w] t n t' n := by
  obtain ⟨v, t1, n1, hc, h1, h2, h3, h4, rfl⟩ := call (a := .cons (.ref 1 w 0 0 0 0) (.cons (.num 3 (.ofNat m)) .nil)) (t := t) (n := n) hR T.g41 (P := fun v t' n' => Rdr t' n w s (takeN bs p er m).2.1 (takeN bs p er m).2.2 (bs.map by8) ∧ Sl t' 1 v ((takeN bs p er m).1.map by8) ∧ Gr [w] t n t' n ∧ (∀ b ∈ bk v, b ∈ bk s) ∧ n' = n) fun ih' hR' => by
    obtain ⟨v, t', h1, h2, h3, h4, h5⟩ := take_ok (y := noY) h (show m < 1152921504606846976 by omega) hR' T
    rw [takeP_map] at h2 h3
    exact ⟨v, t', n, h1, h2, h3, h4, h5, rfl⟩
  generalize hxs : (takeN bs p er m).1 = xs at *
  have hxb : ∀ x ∈ xs, x < 256 := fun x hxm => hx x (takeN_mem (hxs ▸ hxm))
  have hxl : xs.length ≤ 7 := by rw [← hxs]; exact Nat.le_trans takeN_len hm
  refine ⟨t1, ?_, h1, h3⟩
  unfold s31
  simp (iota := false) only [SY, reduceCtorEq, if_false, if_true, Nat.zero_add, hc, pLenL_sl h2 Nat.one_pos, Nat.div_one, List.length_map, cLoop_eq]
  generalize hL : loop _ _ _ _ _ _ _ = o
  have key : ∃ e', o = .exit 0 e' t1 n1 ∧ N16.sel .d5 (row .d0 e') = some (.num 7 (.ofNat (numP xs))) := by
    rw [← hL]
    refine loop_ind (fun o => ∃ e', o = .exit 0 e' t1 n1 ∧ N16.sel .d5 (row .d0 e') = some (.num 7 (.ofNat (numP xs))))
      (fun m e t n => t = t1 ∧ n = n1 ∧ ∃ i, i + m = xs.length ∧ N16.sel .d14 (row .d0 e) = some (.num 3 (.ofNat i)) ∧ N16.sel .d13 (row .d0 e) = some (.num 3 (.ofNat xs.length)) ∧ N16.sel .d12 (row .d0 e) = some v ∧ N16.sel .d5 (row .d0 e) = some (.num 7 (.ofNat (numP (xs.take i)))))
      ?_ fuelL xs.length _ _ _ ⟨rfl, rfl, 0, by omega, ?_⟩ (by unfold fuelL; omega)
    · rintro m e t n rec ⟨rfl, rfl, i, hi, e14, e13, e12, e5⟩ hrec
      by_cases hlt : i < xs.length
      · have hget : (xs.map by8)[i]? = some (by8 xs[i]) := by simp [hlt]
        have hq : ∀ k : K, q0 (.num 3 (.ofNat i)) (.num 3 (.ofNat 1)) k = k (.num 3 (.ofNat (i + 1))) := fun k => q0_n (by omega)
        have hv : numP (xs.take i) * 256 + xs[i] < 18446744073709551616 := by
          have := numP_take_lt (i := i) hxb (by omega) (by omega)
          have := hxb xs[i] (by simp)
          omega
        simp (iota := false) only [SY, reduceCtorEq, if_false, if_true, e14, e13, e12, e5, hlt, pIad_sl h2 (show i * 1 < (xs.map by8).length by simpa using hlt), pLd_plc h2 hget, step7 hv (hxb xs[i] (by simp)), hq]
        refine hrec (m - 1) _ _ _ (by omega) ⟨rfl, rfl, i + 1, by omega, ?_⟩
        simp (iota := false) only [SY, reduceCtorEq, if_false, if_true, e13, e12, numP_take hlt, and_self]
      · have : i = xs.length := by omega
        subst this
        simp (iota := false) only [SY, reduceCtorEq, if_false, if_true, e14, e13, Nat.lt_irrefl]
        refine ⟨_, rfl, ?_⟩
        simp (iota := false) only [SY, reduceCtorEq, if_false, if_true, e5, List.take_length]
    · simp (iota := false) only [SY, reduceCtorEq, if_false, if_true, true_and]
      exact rfl
  obtain ⟨e', rfl, h5⟩ := key
  simp (iota := false) only [SY, reduceCtorEq, if_false, if_true, h5]
end Ev
