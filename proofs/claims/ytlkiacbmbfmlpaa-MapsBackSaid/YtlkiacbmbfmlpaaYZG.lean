import Derived.Test.YtlkiacbmbfmlpaaYZE
/- The law MapsBytes. -/
namespace Ev
open Go
variable [Told] [TokV] [ToldOK]
set_option linter.unusedVariables false
set_option linter.unusedSimpArgs false
set_option linter.unusedSectionVars false
set_option maxRecDepth 10000
set_option maxHeartbeats 2000000
variable {tab : Bt FnD}
theorem bytesL_ok {y : Yh} {ih : Ih} {t t1 : H} {n n1 : Nat} {l b : AV} {xs : List AV} {ms : List MapV} {bs : List Nat} (A : ArgM l b xs ms bs) (hk : ∀ kk, C ih 5 .nil t n kk = kk (.num 8 (.ofNat 1)) t1 n1) (hR : Rt tab 6 ih) (T : TbM tab) :
    ∃ t' n', s3 y ih (.cons l (.cons b .nil)) t n = .ok (.num 8 (.ofNat 1)) t' n' := by
  have hlenx := (A.qe t).len
  have hlenl : ∀ k : K, pLenL l k = k (.num 3 (.ofNat ms.length)) := fun k => by rw [pLenL_sl (A.ql t) (by omega), hlenx, Nat.mul_div_cancel _ (by omega)]
  have hlenb : ∀ k : K, pLenL b k = k (.num 3 (.ofNat bs.length)) := fun k => by rw [pLenL_sl (A.qb t) Nat.one_pos, Nat.div_one, List.length_map]
  by_cases g1 : 200 < ms.length
  · unfold s3
    simp (iota := false) only [SY, reduceCtorEq, if_false, if_true, Nat.zero_add, hk, not_1, hlenl, hlenb, g1, gd_unit, pick_1]
    exact ⟨_, _, rfl⟩
  by_cases g2 : 5000 < bs.length
  · unfold s3
    simp (iota := false) only [SY, reduceCtorEq, if_false, if_true, Nat.zero_add, hk, not_1, hlenl, hlenb, g1, g2, gd_unit, pick_1]
    exact ⟨_, _, rfl⟩
  unfold s3
  simp (iota := false) only [SY, reduceCtorEq, if_false, if_true, Nat.zero_add, hk, not_1, hlenl, hlenb, g1, g2, gd_unit, pick_1, cLoop_eq]
  generalize hL : loop _ _ _ _ _ _ _ = o
  have key : (∃ e', o = .ret e' t1 n1 ∧ N16.sel .d4 (row .d0 e') = some (.num 8 (.ofNat 1))) ∨ (∃ e', o = .exit 0 e' t1 n1 ∧ N16.sel .d0 (row .d0 e') = some l ∧ N16.sel .d1 (row .d0 e') = some b ∧ ∀ m ∈ ms, m.lo.length ≤ 300 ∧ m.st.length ≤ 300) := by
    rw [← hL]
    refine loop_ind (fun o => (∃ e', o = .ret e' t1 n1 ∧ N16.sel .d4 (row .d0 e') = some (.num 8 (.ofNat 1))) ∨ (∃ e', o = .exit 0 e' t1 n1 ∧ N16.sel .d0 (row .d0 e') = some l ∧ N16.sel .d1 (row .d0 e') = some b ∧ ∀ m ∈ ms, m.lo.length ≤ 300 ∧ m.st.length ≤ 300))
      (fun m e t' n' => t' = t1 ∧ n' = n1 ∧ ∃ i, i + m = ms.length ∧ N16.sel .d5 (row .d0 e) = some (.num 3 (.ofNat i)) ∧ N16.sel .d0 (row .d0 e) = some l ∧ N16.sel .d1 (row .d0 e) = some b ∧ ∀ m ∈ ms.take i, m.lo.length ≤ 300 ∧ m.st.length ≤ 300)
      ?_ fuelL ms.length _ _ _ ⟨rfl, rfl, 0, by omega, ?_⟩ (by unfold fuelL; omega)
    · rintro m e t' n' rec ⟨rfl, rfl, i, hi, e5, e0, e1, hg⟩ hrec
      by_cases hlt : i < ms.length
      · have hq : ∀ k : K, q0 (.num 3 (.ofNat i)) (.num 3 (.ofNat 1)) k = k (.num 3 (.ofNat (i + 1))) := fun k => q0_n (by omega)
        obtain ⟨ls, ss, a0, a1, a2, hls, hss⟩ := (A.qe t').nth3 (i := i) (m := ms[i]) (by simp [hlt])
        have hl := A.ql t'
        have hi1 : i * 3 < xs.length := by omega
        have hlen1 : ∀ k : K, pLenL ls k = k (.num 3 (.ofNat ms[i].lo.length)) := fun k => by rw [pLenL_sl hls Nat.one_pos, Nat.div_one, List.length_map]
        have hlen2 : ∀ k : K, pLenL ss k = k (.num 3 (.ofNat ms[i].st.length)) := fun k => by rw [pLenL_sl hss Nat.one_pos, Nat.div_one, List.length_map]
        by_cases c1 : 300 < ms[i].lo.length
        · simp (iota := false) only [SY, reduceCtorEq, if_false, if_true, Nat.zero_add, e5, e0, e1, hlenl, hlt, pIad_sl hl hi1, pFad_plc (j := 1) hl a1, pLd_fpl (j := 1) hl a1, hlen1, c1, gd_unit, pick_1, gd_1f]
          refine .inl ⟨_, rfl, ?_⟩
          simp (iota := false) only [SY, reduceCtorEq, if_false, if_true]
        by_cases c2 : 300 < ms[i].st.length
        · simp (iota := false) only [SY, reduceCtorEq, if_false, if_true, Nat.zero_add, e5, e0, e1, hlenl, hlt, pIad_sl hl hi1, pFad_plc (j := 1) hl a1, pLd_fpl (j := 1) hl a1, pFad_plc (j := 2) hl a2, pLd_fpl (j := 2) hl a2, hlen1, hlen2, c1, c2, gd_unit, pick_1, gd_1f]
          refine .inl ⟨_, rfl, ?_⟩
          simp (iota := false) only [SY, reduceCtorEq, if_false, if_true]
        simp (iota := false) only [SY, reduceCtorEq, if_false, if_true, Nat.zero_add, e5, e0, e1, hlenl, hlt, pIad_sl hl hi1, pFad_plc (j := 1) hl a1, pLd_fpl (j := 1) hl a1, pFad_plc (j := 2) hl a2, pLd_fpl (j := 2) hl a2, hlen1, hlen2, c1, c2, hq, gd_unit, pick_1, gd_1f]
        refine hrec (m - 1) _ _ _ (by omega) ⟨rfl, rfl, i + 1, by omega, ?_⟩
        simp (iota := false) only [SY, reduceCtorEq, if_false, if_true, e0, e1, true_and]
        intro m' hm'
        rw [List.take_succ_eq_append_getElem hlt] at hm'
        rcases List.mem_append.1 hm' with hm' | hm'
        · exact hg m' hm'
        · simp at hm'; subst hm'
          exact ⟨by omega, by omega⟩
      · have : i = ms.length := by omega
        subst this
        simp (iota := false) only [SY, reduceCtorEq, if_false, if_true, e5, e0, hlenl, Nat.lt_irrefl]
        refine .inr ⟨_, rfl, ?_⟩
        rw [List.take_length] at hg
        simp (iota := false) only [SY, reduceCtorEq, if_false, if_true, e0, e1, true_and]
        exact hg
    · simp (iota := false) only [SY, reduceCtorEq, if_false, if_true, true_and, List.take_zero, List.not_mem_nil, false_imp_iff, implies_true]
  rcases key with ⟨e', rfl, e4⟩ | ⟨e', rfl, e0, e1, hg⟩
  · simp (iota := false) only [SY, reduceCtorEq, if_false, if_true, e4]
    exact ⟨_, _, rfl⟩
  have hfit : Fit ms := ⟨by omega, hg⟩
  -- a copy of b
  have h0 : Ow (nw t1 1 [] 0 n1) 1 (.ref 3 n1 0 0 0 0) [] [n1] := own_nw (t := t1) (sz := 1) (n := n1) (l := []) (len := 0) (.inl rfl) rfl
  obtain ⟨vb, t2, n2, Fb, hap, hOb, hgb, hFb⟩ := app_ow (bytes := 1) (n := n1 + 1) h0 (A.qb (nw t1 1 [] 0 n1)) (by omega) (by simp) (by simp; omega)
  rw [List.nil_append] at hOb
  obtain ⟨vP, t3, n3, r, c, ys, F, E, hc1, hP1, hP2, hP3⟩ := p1_call (tab := tab) (k := 5) hR T (by omega) hOb.sl (n := n2) (fun b hb => by rw [hOb.bk] at hb; exact (hFb b hb).2) A.qx (by omega)
  obtain ⟨vQ, t4, n4, r2, c2, zs, F2, E2, hc2, hQ1, hQ2, hQ3⟩ := p2_call (tab := tab) (k := 5) hR T (by omega) (A.qb t3) A.b5 (n := n3) (by rw [A.bk]; simp) A.qx (by omega)
  obtain ⟨rfl, rfl⟩ := hP1.det hQ1
  obtain ⟨vB, t5, n5, hc3, hB1, hB2, hB3⟩ := b1_call (tab := tab) (k := 5) hR T (by omega) (A.ql t4) (A.qe t4) (n := n4) (by rw [A.lk]; simp) (by simp) hfit
  obtain ⟨vC, t6, n6, hc4, hC1, hC2, hC3⟩ := b2_call (tab := tab) (k := 5) hR T (by omega) (A.ql t5) (A.qe t5) (n := n5) (by rw [A.lk]; simp) (by simp) hfit
  have hB6 : Sl t6 1 vB ((bitsL ms).map by8) := hB1.get fun b hb => hC3.get b (hB2 b hb).2 (by simp)
  have s1 : ∀ k, pB2S vB t5 k = k (.str (bitsL ms)) := fun k => pB2S_sl hB1 (bitsL_lt ms) k
  have s2 : ∀ k, pB2S vB t6 k = k (.str (bitsL ms)) := fun k => pB2S_sl hB6 (bitsL_lt ms) k
  have s3 : ∀ k, pB2S vC t6 k = k (.str (bitsL ms)) := fun k => pB2S_sl hC1 (bitsL_lt ms) k
  have l3 := hQ3.le
  have l4 := hB3.le
  have l5 := hC3.le
  -- the two lists
  have k4 : ∀ b, b < n3 → t4.get b = t3.get b := fun b hb => hQ3.get b hb (by simp)
  have k6 : ∀ b, b < n4 → t6.get b = t4.get b := fun b hb => by rw [hC3.get b (by omega) (by simp), hB3.get b hb (by simp)]
  have hs1 : Sl t6 3 vP ys := hP2.ow.sl.get fun b hb => by
    rw [hP2.ow.bk] at hb
    have := hP2.lf b hb
    rw [k6 b (by omega), k4 b this.2]
  have hs2 : Sl t6 3 vQ zs := hQ2.ow.sl.get fun b hb => by
    rw [hQ2.ow.bk] at hb
    exact k6 b (hQ2.lf b hb).2
  have he1 : Els t6 ys r E := hP2.els.get fun b hb => by
    have := hP2.le b hb
    rw [k6 b (by omega), k4 b this.2.1]
  have he2 : Els t6 zs r E2 := hQ2.els.get fun b hb => k6 b (hQ2.le b hb).2.1
  have hr : r.length ≤ 900000 ∧ ∀ m ∈ r, m.lo.length ≤ 900000 ∧ m.st.length ≤ 900000 := by
    obtain ⟨hw1, hw2⟩ := written_read hP1 A.qx
    by_cases hc : c = 0
    · obtain ⟨hg2, hbb⟩ := hw1 hc
      have hr2 : 4 * r.length ≤ bs.length := by rw [← hbb, bitsL_good hg2]; exact good_len
      exact ⟨by omega, fun m hm => by have := (hg2 m hm).2; omega⟩
    · have hr0 := hw2 hc
      subst hr0
      simp
  have hc5 := same_call (tab := tab) (k := 5) hR T (by omega) (n := n6) hs1 hs2 he1 he2 hr.1 hr.2
  simp (iota := false) only [SY, reduceCtorEq, if_false, if_true, Nat.zero_add, e0, e1, rowSl0, hap, hc1, hc2, hc3, hc4, hc5, gd_unit, pick_1, pick_0, gd_1f, gd_1t, gd_0f, gd_0t, not_1, s1, s2, s3, q18_self, eqAt_ok, bL_true, bL_false]
  exact ⟨_, _, rfl⟩
end Ev
