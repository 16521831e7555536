import Derived.Test.YtlkiacbmbfmlpaaYZE
/- The law MapsBack. -/
namespace Ev
open Go
variable [Told] [TokV] [ToldOK]
set_option linter.unusedVariables false
set_option linter.unusedSimpArgs false
set_option linter.unusedSectionVars false
set_option maxRecDepth 10000
set_option maxHeartbeats 2000000
variable {tab : Bt FnD}
theorem back_ok {y : Yh} {ih : Ih} {t t1 : H} {n n1 : Nat} {l b : AV} {xs : List AV} {ms : List MapV} {bs : List Nat} (A : ArgM l b xs ms bs) (hk : ∀ kk, C ih 5 .nil t n kk = kk (.num 8 (.ofNat 1)) t1 n1) (hR : Rt tab 6 ih) (T : TbM tab) :
    ∃ t' n', s4 y ih (.cons l (.cons b .nil)) t n = .ok (.num 8 (.ofNat 1)) t' n' := by
  have hlenx := (A.qe t).len
  have hlenl : ∀ k : K, pLenL l k = k (.num 3 (.ofNat ms.length)) := fun k => by rw [pLenL_sl (A.ql t) (by omega), hlenx, Nat.mul_div_cancel _ (by omega)]
  have hlenb : ∀ k : K, pLenL b k = k (.num 3 (.ofNat bs.length)) := fun k => by rw [pLenL_sl (A.qb t) Nat.one_pos, Nat.div_one, List.length_map]
  by_cases g1 : 200 < ms.length
  · unfold s4
    simp (iota := false) only [SY, reduceCtorEq, if_false, if_true, Nat.zero_add, hk, not_1, hlenl, hlenb, g1, gd_unit, pick_1]
    exact ⟨_, _, rfl⟩
  by_cases g2 : 5000 < bs.length
  · unfold s4
    simp (iota := false) only [SY, reduceCtorEq, if_false, if_true, Nat.zero_add, hk, not_1, hlenl, hlenb, g1, g2, gd_unit, pick_1]
    exact ⟨_, _, rfl⟩
  unfold s4
  simp (iota := false) only [SY, reduceCtorEq, if_false, if_true, Nat.zero_add, hk, not_1, hlenl, hlenb, g1, g2, gd_unit, pick_1, cLoop_eq]
  generalize hL : loop _ _ _ _ _ _ _ = o
  have key : (∃ e', o = .ret e' t1 n1 ∧ N16.sel .d4 (row .d0 e') = some (.num 8 (.ofNat 1))) ∨ (∃ e', o = .exit 0 e' t1 n1 ∧ N16.sel .d0 (row .d0 e') = some l ∧ N16.sel .d1 (row .d0 e') = some b ∧ ∀ m ∈ ms, Good m) := by
    rw [← hL]
    refine loop_ind (fun o => (∃ e', o = .ret e' t1 n1 ∧ N16.sel .d4 (row .d0 e') = some (.num 8 (.ofNat 1))) ∨ (∃ e', o = .exit 0 e' t1 n1 ∧ N16.sel .d0 (row .d0 e') = some l ∧ N16.sel .d1 (row .d0 e') = some b ∧ ∀ m ∈ ms, Good m))
      (fun m e t' n' => t' = t1 ∧ n' = n1 ∧ ∃ i, i + m = ms.length ∧ N16.sel .d5 (row .d0 e) = some (.num 3 (.ofNat i)) ∧ N16.sel .d0 (row .d0 e) = some l ∧ N16.sel .d1 (row .d0 e) = some b ∧ ∀ m ∈ ms.take i, Good m)
      ?_ fuelL ms.length _ _ _ ⟨rfl, rfl, 0, by omega, ?_⟩ (by unfold fuelL; omega)
    · rintro m e t' n' rec ⟨rfl, rfl, i, hi, e5, e0, e1, hg⟩ hrec
      by_cases hlt : i < ms.length
      · have hq : ∀ k : K, q0 (.num 3 (.ofNat i)) (.num 3 (.ofNat 1)) k = k (.num 3 (.ofNat (i + 1))) := fun k => q0_n (by omega)
        obtain ⟨ls, ss, a0, a1, a2, hls, hss⟩ := (A.qe t').nth3 (i := i) (m := ms[i]) (by simp [hlt])
        have hl := A.ql t'
        have hi1 : i * 3 < xs.length := by omega
        have hlen1 : ∀ k : K, pLenL ls k = k (.num 3 (.ofNat ms[i].lo.length)) := fun k => by rw [pLenL_sl hls Nat.one_pos, Nat.div_one, List.length_map]
        have hlen2 : ∀ k : K, pLenL ss k = k (.num 3 (.ofNat ms[i].st.length)) := fun k => by rw [pLenL_sl hss Nat.one_pos, Nat.div_one, List.length_map]
        by_cases c1 : 255 < ms[i].lo.length
        · simp (iota := false) only [SY, reduceCtorEq, if_false, if_true, Nat.zero_add, e5, e0, e1, hlenl, hlt, pIad_sl hl hi1, pFad_plc (j := 1) hl a1, pLd_fpl (j := 1) hl a1, hlen1, c1, gd_unit, pick_1, gd_1f]
          refine .inl ⟨_, rfl, ?_⟩
          simp (iota := false) only [SY, reduceCtorEq, if_false, if_true]
        by_cases c2 : 255 < ms[i].st.length
        · simp (iota := false) only [SY, reduceCtorEq, if_false, if_true, Nat.zero_add, e5, e0, e1, hlenl, hlt, pIad_sl hl hi1, pFad_plc (j := 1) hl a1, pLd_fpl (j := 1) hl a1, pFad_plc (j := 2) hl a2, pLd_fpl (j := 2) hl a2, hlen1, hlen2, c1, c2, gd_unit, pick_1, gd_1f]
          refine .inl ⟨_, rfl, ?_⟩
          simp (iota := false) only [SY, reduceCtorEq, if_false, if_true]
        by_cases c3 : ms[i].at_ < Int.ofNat 0
        · simp (iota := false) only [SY, reduceCtorEq, if_false, if_true, Nat.zero_add, e5, e0, e1, hlenl, hlt, pIad_sl hl hi1, pFad_plc (j := 1) hl a1, pLd_fpl (j := 1) hl a1, pFad_plc (j := 2) hl a2, pLd_fpl (j := 2) hl a2, pFad_plc (j := 0) hl a0, pLd_fpl (j := 0) hl a0, hlen1, hlen2, c1, c2, c3, gd_unit, pick_1, gd_1f]
          refine .inl ⟨_, rfl, ?_⟩
          simp (iota := false) only [SY, reduceCtorEq, if_false, if_true]
        by_cases c4 : Int.ofNat 65535 < ms[i].at_
        · simp (iota := false) only [SY, reduceCtorEq, if_false, if_true, Nat.zero_add, e5, e0, e1, hlenl, hlt, pIad_sl hl hi1, pFad_plc (j := 1) hl a1, pLd_fpl (j := 1) hl a1, pFad_plc (j := 2) hl a2, pLd_fpl (j := 2) hl a2, pFad_plc (j := 0) hl a0, pLd_fpl (j := 0) hl a0, hlen1, hlen2, c1, c2, c3, c4, gd_unit, pick_1, gd_1f]
          refine .inl ⟨_, rfl, ?_⟩
          simp (iota := false) only [SY, reduceCtorEq, if_false, if_true]
        simp (iota := false) only [SY, reduceCtorEq, if_false, if_true, Nat.zero_add, e5, e0, e1, hlenl, hlt, pIad_sl hl hi1, pFad_plc (j := 1) hl a1, pLd_fpl (j := 1) hl a1, pFad_plc (j := 2) hl a2, pLd_fpl (j := 2) hl a2, pFad_plc (j := 0) hl a0, pLd_fpl (j := 0) hl a0, hlen1, hlen2, c1, c2, c3, c4, hq, gd_unit, pick_1, gd_1f]
        refine hrec (m - 1) _ _ _ (by omega) ⟨rfl, rfl, i + 1, by omega, ?_⟩
        simp (iota := false) only [SY, reduceCtorEq, if_false, if_true, e0, e1, true_and]
        intro m' hm'
        rw [List.take_succ_eq_append_getElem hlt] at hm'
        rcases List.mem_append.1 hm' with hm' | hm'
        · exact hg m' hm'
        · simp at hm'; subst hm'
          have c3' : ¬ ms[i].at_ < 0 := c3
          have c4' : ¬ (65535 : Int) < ms[i].at_ := c4
          exact ⟨⟨by omega, by omega⟩, by omega, by omega⟩
      · have : i = ms.length := by omega
        subst this
        simp (iota := false) only [SY, reduceCtorEq, if_false, if_true, e5, e0, hlenl, Nat.lt_irrefl]
        refine .inr ⟨_, rfl, ?_⟩
        rw [List.take_length] at hg
        simp (iota := false) only [SY, reduceCtorEq, if_false, if_true, e0, e1, true_and]
        exact hg
    · simp (iota := false) only [SY, reduceCtorEq, if_false, if_true, true_and, List.take_zero, List.not_mem_nil, false_imp_iff, implies_true]
  rcases key with ⟨e', rfl, e4⟩ | ⟨e', rfl, e0, e1, hg⟩
  · simp (iota := false) only [SY, reduceCtorEq, if_false, if_true, e4]
    exact ⟨_, _, rfl⟩
  have hfit : Fit ms := ⟨by omega, fun m hm => by have := (hg m hm).2; omega⟩
  obtain ⟨vB, t2, n2, hc1, hB1, hB2, hB3⟩ := b1_call (tab := tab) (k := 5) hR T (by omega) (A.ql t1) (A.qe t1) (n := n1) (by rw [A.lk]; simp) (by simp) hfit
  have hbl := bitsL_len hfit.2
  obtain ⟨vP, t3, n3, r, c, ys, F, E, hc2, hP1, hP2, hP3⟩ := p1_call (tab := tab) (k := 5) hR T (by omega) hB1 (fun b hb => (hB2 b hb).2) (bitsL_lt ms) (by omega)
  obtain ⟨rfl, rfl⟩ := hP1.det (read_written hg)
  have hc3 := same_call (tab := tab) (k := 5) hR T (by omega) (n := n3) hP2.ow.sl (A.ql t3) hP2.els (A.qe t3) (by omega) (fun m hm => by have := (hg m hm).2; omega)
  obtain ⟨vQ, t4, n4, r2, c2, zs, F2, E2, hc4, hQ1, hQ2, hQ3⟩ := p1_call (tab := tab) (k := 5) hR T (by omega) (A.qb t3) (n := n3) (by rw [A.bk]; simp) A.qx (by omega)
  obtain ⟨hw1, hw2⟩ := written_read hQ1 A.qx
  have hn00 : ((0 : Nat) ≠ 0) = False := by simp
  by_cases hc : c2 = 0
  · subst hc
    obtain ⟨hg2, hbb⟩ := hw1 rfl
    have hr2 : 4 * r2.length ≤ bs.length := by rw [← hbb, bitsL_good hg2]; exact good_len
    obtain ⟨vC, t5, n5, hc5, hC1, hC2, hC3⟩ := b1_call (tab := tab) (k := 5) hR T (by omega) hQ2.ow.sl hQ2.els (n := n4) (fun b hb => by rw [hQ2.ow.bk] at hb; exact (hQ2.lf b hb).2) (fun b hb => (hQ2.le b hb).2.1) ⟨by omega, fun m hm => by have := (hg2 m hm).2; omega⟩
    rw [hbb] at hC1
    have s1 : ∀ k, pB2S vC t5 k = k (.str bs) := fun k => pB2S_sl hC1 A.qx k
    have s2 : ∀ t k, pB2S b t k = k (.str bs) := fun t k => pB2S_sl (A.qb t) A.qx k
    simp (iota := false) only [SY, reduceCtorEq, if_false, if_true, Nat.zero_add, e0, e1, hc1, hc2, hc3, hc4, hc5, hn00, gd_unit, pick_1, pick_0, gd_1f, gd_1t, gd_0f, gd_0t, not_1, s1, s2, q18_self, gB_1t, gB_un, gB_0t, eqAt_ok, bL_true, bL_false]
    exact ⟨_, _, rfl⟩
  · obtain rfl := hw2 hc
    have hzl : zs.length = 0 := by have := hQ2.els.len; simpa using this
    have hlq : ∀ k : K, pLenL vQ k = k (.num 3 (.ofNat 0)) := fun k => by rw [pLenL_sl hQ2.ow.sl (by omega), hzl]
    simp (iota := false) only [SY, reduceCtorEq, if_false, if_true, Nat.zero_add, e0, e1, hc1, hc2, hc3, hc4, hlq, hn00, ne_eq, hc, not_false_eq_true, gd_unit, pick_1, pick_0, gd_1f, gd_1t, gd_0f, gd_0t, not_1, gB_1t, gB_un, gB_0t, eqAt_ok, bL_true, bL_false]
    exact ⟨_, _, rfl⟩
end Ev
