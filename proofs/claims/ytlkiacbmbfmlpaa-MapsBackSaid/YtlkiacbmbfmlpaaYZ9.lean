import Derived.Test.YtlkiacbmbfmlpaaYZ8
/- Maps are written (the program's, 1). -/
namespace Ev
open Go
variable [Told] [TokV] [ToldOK]
set_option linter.unusedVariables false
set_option linter.unusedSimpArgs false
set_option linter.unusedSectionVars false
set_option maxRecDepth 10000
set_option maxHeartbeats 1000000
variable {tab : Bt FnD}
/-- room for so many -/
theorem grow_ok {y : Yh} {ih : Ih} {t : H} {n m : Nat} (hm : m ≤ 1000) :
    ∃ v t' n' F, s39 y ih (.cons (.ref 2 0 0 0 0 0) (.cons (.num 3 (.ofNat m)) .nil)) t n = .ok v t' n' ∧ Ow t' 1 v [] F ∧ Gr [] t n t' n' ∧ ∀ b ∈ F, n ≤ b ∧ b < n' := by
  have hcap : ∀ k : K, pCap (.ref 2 0 0 0 0 0) k = k (.num 3 (.ofNat 0)) := fun k => rfl
  have hlen : ∀ k : K, pLenL (.ref 2 0 0 0 0 0) k = k (.num 3 (.ofNat 0)) := fun k => rfl
  have h0 : ∀ k : K, q1 (.num 3 (.ofNat 0)) (.num 3 (.ofNat 0)) k = k (.num 3 (.ofNat 0)) := fun k => q1_n (by omega) (by omega)
  have h1 : ∀ k : K, q1 (.num 3 (.ofNat m)) (.num 3 (.ofNat 0)) k = k (.num 3 (.ofNat m)) := fun k => (q1_n (by omega) (by omega)).trans (by rw [Nat.sub_zero])
  by_cases hz : m = 0
  · subst hz
    refine ⟨_, t, n, [], ?_, .nil, .refl _ _ _, fun b hb => by cases hb⟩
    unfold s39
    simp (iota := false) only [hcap, hlen, h0, SY, reduceCtorEq, if_false, if_true, Nat.zero_add, Nat.lt_irrefl]
  · have hp : 0 < m := by omega
    have hO : Ow (nw t 1 (List.replicate m (bV false)) (List.replicate m (bV false)).length n) 1 (.ref 4 n 0 0 m m) (List.replicate m (bV false)) [n] := own_nw (.inr rfl) (by simp)
    have hz0 : ∀ k, pAppZ 1 1 (.cons (.num 8 (.ofNat 0)) .nil) (.ref 2 0 0 0 0 0) (.num 3 (.ofNat m)) t n k = k (.ref 4 n 0 0 m m) (nw t 1 (List.replicate m (bV false)) (List.replicate m (bV false)).length n) (n + 1) := by
      intro k
      show bO (Nat.ble (Nat.mul m 1) 1048576) (appTo 1 1 (.ref 2 0 0 0 0 0) (lrep (.cons (bV false) .nil) m) m t n k) (.err 60) = _
      rw [Nat.ble_eq_true_of_le (show Nat.mul m 1 ≤ 1048576 from by rw [Nat.mul_eq, Nat.mul_one]; omega), lrep_lst]
      show appTo 1 1 (.ref 2 0 0 0 0 0) (lst (List.replicate m (bV false))) m t n k = _
      unfold appTo
      show bO (Nat.beq m 0) _ (bO (Nat.ble (Nat.mul m 1) 1048576) (fresh 1 (lst (List.replicate m (bV false))) m t n k) (.err 58)) = _
      rw [Bt.beq_false hz, Nat.ble_eq_true_of_le (show Nat.mul m 1 ≤ 1048576 from by rw [Nat.mul_eq, Nat.mul_one]; omega)]
      show fresh 1 (lst (List.replicate m (bV false))) m t n k = _
      unfold fresh
      rw [newRow_nw, List.length_replicate, show Nat.mul m 1 = m from Nat.mul_one m]
    have hs0 : ∀ (t : H) (k : K), pSlV 1 (.ref 2 0 0 0 0 0) none (some (.num 3 (.ofNat 0))) none t k = k (.ref 2 0 0 0 0 0) := fun t k => rfl
    have hs1 : ∀ (t : H) (k : K), pSlV 1 (.ref 4 n 0 0 m m) none (some (.num 3 (.ofNat 0))) none t k = k (.ref 4 n 0 0 0 m) := fun t k => by
      obtain ⟨m, rfl⟩ : ∃ m', m = m' + 1 := ⟨m - 1, by omega⟩
      show szOk 1 4 n 0 t (cut 1 4 n 0 0 (m + 1) 0 0 (m + 1) false k) = _
      show cut 1 4 n 0 0 (m + 1) 0 0 (m + 1) false k = _
      unfold cut
      rw [Nat.ble_eq_true_of_le (Nat.zero_le _), Nat.ble_eq_true_of_le (Nat.le_refl _), Nat.ble_eq_true_of_le (Nat.le_refl _)]
      simp only [forceN_eq]
      rfl
    refine ⟨.ref 4 n 0 0 0 m, nw t 1 (List.replicate m (bV false)) (List.replicate m (bV false)).length n, n + 1, [n], ?_, ?_, nw_fr, fun b hb => by simp at hb; omega⟩
    rotate_left
    · cases hO with
      | row h => exact .row ⟨.inr rfl, h.row, by simp, by omega, fun i x hi => by simp at hi⟩
    · unfold s39
      simp (iota := false) only [hcap, hlen, h0, h1, hz0, hs0, hs1, SY, reduceCtorEq, if_false, if_true, Nat.zero_add, hp, Nat.not_lt_zero]
/-- two rows as one -/
theorem concat_ok {y : Yh} {ih : Ih} {t : H} {n : Nat} {src ls ss : AV} {lo st : List Bool} (h : Sl t 1 src [ls, ss]) (hls : Sl t 1 ls (lo.map bV)) (hss : Sl t 1 ss (st.map bV))
    (hb : ∀ b ∈ bk src, b < n) (hbl : ∀ b ∈ bk ls, b < n) (hbs : ∀ b ∈ bk ss, b < n) (hl1 : lo.length ≤ 300) (hl2 : st.length ≤ 300) (hR : Rt tab 1 ih) (T : TbM tab) :
    ∃ v t' n' F, s24 y ih (.cons src .nil) t n = .ok v t' n' ∧ Ow t' 1 v ((lo ++ st).map bV) F ∧ Gr [] t n t' n' ∧ ∀ b ∈ F, n ≤ b ∧ b < n' := by
  have hlen : ∀ k : K, pLenL src k = k (.num 3 (.ofNat 2)) := fun k => by rw [pLenL_sl h Nat.one_pos, Nat.div_one]; rfl
  have hlenl : ∀ k : K, pLenL ls k = k (.num 3 (.ofNat lo.length)) := fun k => by rw [pLenL_sl hls Nat.one_pos, Nat.div_one, List.length_map]
  have hlens : ∀ k : K, pLenL ss k = k (.num 3 (.ofNat st.length)) := fun k => by rw [pLenL_sl hss Nat.one_pos, Nat.div_one, List.length_map]
  have hq0 : ∀ k : K, q0 (.num 3 (.ofNat 0)) (.num 3 (.ofNat 1)) k = k (.num 3 (.ofNat 1)) := fun k => q0_n (by omega)
  have hq1 : ∀ k : K, q0 (.num 3 (.ofNat 1)) (.num 3 (.ofNat 1)) k = k (.num 3 (.ofNat 2)) := fun k => q0_n (by omega)
  have hqa : ∀ k : K, q0 (.num 3 (.ofNat 0)) (.num 3 (.ofNat lo.length)) k = k (.num 3 (.ofNat lo.length)) := fun k => (q0_n (by omega)).trans (by rw [Nat.zero_add])
  have hqb : ∀ k : K, q0 (.num 3 (.ofNat lo.length)) (.num 3 (.ofNat st.length)) k = k (.num 3 (.ofNat (lo.length + st.length))) := fun k => q0_n (by omega)
  obtain ⟨v1, t1, n1, hc, F1, hO1, hg1, hF1⟩ := call (a := .cons (.ref 2 0 0 0 0 0) (.cons (.num 3 (.ofNat (lo.length + st.length))) .nil)) (t := t) (n := n) hR T.g39 (P := fun v t' n' => ∃ F, Ow t' 1 v [] F ∧ Gr [] t n t' n' ∧ ∀ b ∈ F, n ≤ b ∧ b < n') fun ih' hR' => by
    obtain ⟨v, t', n', F, q1, q2⟩ := grow_ok (y := noY) (ih := ih') (t := t) (n := n) (m := lo.length + st.length) (by omega)
    exact ⟨v, t', n', q1, F, q2⟩
  have hle1 := hg1.le
  have h1 : Sl t1 1 src [ls, ss] := h.get fun b hb' => hg1.get b (hb b hb') (by simp)
  obtain ⟨v2, t2, n2, F2, ha2, hO2, hg2, hF2⟩ := app_ow (bytes := 1) (n := n1) hO1 (hls.get fun b hb' => hg1.get b (hbl b hb') (by simp)) (by omega) (fun b hb => (hF1 b hb).2) (by simp; omega)
  have hle2 := hg2.le
  have hold2 : ∀ b, b < n → t2.get b = t.get b := fun b hb' => by rw [hg2.get b (by omega) (fun h' => by have := hF1 b h'; omega), hg1.get b hb' (by simp)]
  have hF2' : ∀ b ∈ F2, n ≤ b ∧ b < n2 := fun b hb' => ⟨by
    rcases (hF2 b hb').1 with h' | h'
    · exact (hF1 b h').1
    · omega, (hF2 b hb').2⟩
  have h2 : Sl t2 1 src [ls, ss] := h.get fun b hb' => hold2 b (hb b hb')
  obtain ⟨v3, t3, n3, F3, ha3, hO3, hg3, hF3⟩ := app_ow (bytes := 1) (n := n2) hO2 (hss.get fun b hb' => hold2 b (hbs b hb')) (by omega) (fun b hb => (hF2' b hb).2) (by simp; omega)
  have hle3 := hg3.le
  rw [List.nil_append, ← List.map_append] at hO3
  refine ⟨v3, t3, n3, F3, ?_, hO3, ⟨by omega, fun b hb' _ => by rw [hg3.get b (by omega) (fun h' => by have := hF2' b h'; omega), hold2 b hb']⟩, fun b hb' => ⟨?_, (hF3 b hb').2⟩⟩
  rotate_left
  · rcases (hF3 b hb').1 with h' | h'
    · exact (hF2' b h').1
    · omega
  · have p0 : ∀ k, pLd (plc 1 src 0) t k = k ls := pLd_plc (i := 0) h rfl
    have p1 : ∀ k, pLd (plc 1 src 1) t k = k ss := pLd_plc (i := 1) h rfl
    have p2 : ∀ k, pLd (plc 1 src 0) t1 k = k ls := pLd_plc (i := 0) h1 rfl
    have p3 : ∀ k, pLd (plc 1 src 1) t2 k = k ss := pLd_plc (i := 1) h2 rfl
    have i0 : ∀ k, pIad 1 src (.num 3 (.ofNat 0)) k = k (plc 1 src 0) := pIad_sl (i := 0) h (by simp)
    have i1 : ∀ k, pIad 1 src (.num 3 (.ofNat 1)) k = k (plc 1 src 1) := pIad_sl (i := 1) h (by simp)
    unfold s24
    simp (iota := false) only [SY, reduceCtorEq, if_false, if_true, Nat.zero_add, hlen, hlenl, hlens, hq0, hq1, hqa, hqb, i0, i1, p0, p1, p2, p3, hc, ha2, ha3, cLoop_eq, loop_a, loop_b, loop_c, Nat.not_lt_zero, Nat.lt_irrefl, show (0 : Nat) < 2 by decide, show (1 : Nat) < 2 by decide]
/-- a new writer -/
theorem newWriter_ok {y : Yh} {ih : Ih} {t : H} {n : Nat} : ∃ t', s21 y ih .nil t n = .ok (.ref 1 n 0 0 0 0) t' (n + 1) ∧ Wtr 2 t' (n + 1) n (.ref 2 0 0 0 0 0) [] 0 [] ∧ ∀ b, b < n → t'.get b = t.get b := by
  have hbox : ∀ k, pBox (.com 0 0 (.cons (.ref 2 0 0 0 0 0) (.cons (.num 3 (.ofNat 0)) (.cons (.num 3 (.ofNat 0)) .nil)))) t n k = k (.ref 1 n 0 0 0 0) (nw t 3 [.ref 2 0 0 0 0 0, .num 3 (.ofNat 0), .num 3 (.ofNat 0)] 3 n) (n + 1) := fun k => pBox_com [.ref 2 0 0 0 0 0, .num 3 (.ofNat 0), .num 3 (.ofNat 0)] 0 t n k
  have hO : Obj (nw t 3 [.ref 2 0 0 0 0 0, .num 3 (.ofNat 0), .num 3 (.ofNat 0)] 3 n) n [.ref 2 0 0 0 0 0, .num 3 (.ofNat 0), .num 3 (.ofNat 0)] := Obj.nw (l := [.ref 2 0 0 0 0 0, .num 3 (.ofNat 0), .num 3 (.ofNat 0)])
  refine ⟨_, ?_, ⟨hO.cl rfl, hO.cl rfl, hO.wok (by simp), hO.wok (by simp), .nil, by simp, by omega, fun b hb => (by cases hb), by omega⟩, fun b hb => nw_ne (by omega)⟩
  unfold s21
  simp (iota := false) only [SY, reduceCtorEq, if_false, if_true, Nat.zero_add, hbox]
/-- bytes are written -/
theorem wbytes_ok {y : Yh} {ih : Ih} {t : H} {n w : Nat} {s src : AV} {F : List Nat} {er : Nat} {bs ys : List Nat} (h : Wtr 2 t n w s F er bs) (hs : Sl t 1 src (ys.map by8)) (hl : bs.length + ys.length ≤ 1048576) (hR : Rt tab 1 ih) (T : TbM tab) :
    ∃ s' t' n' F', s25 y ih (.cons (.ref 1 w 0 0 0 0) (.cons src .nil)) t n = .ok unit t' n' ∧ Wtr 2 t' n' w s' F' (wrB (bs, er) ys).2 (wrB (bs, er) ys).1 ∧ Gr (w :: F) t n t' n' ∧ ∀ b ∈ F', b ∈ F ∨ n ≤ b := by
  obtain ⟨s', t', n', F', hc, h1, h2, h3⟩ := put_call (k := 0) hR T h hs hl
  refine ⟨s', t', n', F', ?_, ?_, h2, h3⟩
  · unfold s25
    simp (iota := false) only [SY, reduceCtorEq, if_false, if_true, Nat.zero_add, hc]
  · unfold wrB
    by_cases he : er = 0
    · subst he; simpa using h1
    · rw [if_pos he]; rw [if_neg he] at h1; exact h1
/-- the writer's end -/
theorem done_ok {y : Yh} {ih : Ih} {t : H} {n w : Nat} {s : AV} {F : List Nat} {er : Nat} {bs : List Nat} (h : Wtr 2 t n w s F er bs) (hl : bs.length ≤ 900000) (hR : Rt tab 1 ih) (T : TbM tab) :
    ∃ v t' n', s26 y ih (.cons (.ref 1 w 0 0 0 0) .nil) t n = .ok (.com 1 0 (.cons v (.cons (.num 3 (.ofNat er)) .nil))) t' n' ∧ Sl t' 1 v ((if er ≠ 0 then [] else bs).map by8) ∧ (∀ b ∈ bk v, n ≤ b ∧ b < n') ∧ Gr [] t n t' n' := by
  by_cases he : er = 0
  · subst he
    obtain ⟨v1, t1, n1, hc, h1, h2, h3⟩ := call (a := .cons s .nil) (t := t) (n := n) hR T.g30 (P := fun v t' n' => Sl t' 1 v (bs.map by8) ∧ (∀ b ∈ bk v, n ≤ b ∧ b < n') ∧ Gr [] t n t' n') fun ih' hR' => by
      obtain ⟨v, t', n', G, q1, q2, q3, q4⟩ := clone8_ok (y := noY) (ih := ih') (n := n) h.ow.sl (fun b hb => h.lf b (by rwa [h.ow.bk] at hb)) (by simp; omega)
      exact ⟨v, t', n', q1, q2.sl, fun b hb => q4 b (by rwa [q2.bk] at hb), q3⟩
    refine ⟨v1, t1, n1, ?_, by simpa using h1, h2, h3⟩
    unfold s26
    simp (iota := false) only [SY, reduceCtorEq, if_false, if_true, Nat.zero_add, h.c2, h.c0, Option.isSome_some, Option.getD_some, ne_eq, not_true, hc]
  · refine ⟨.ref 2 0 0 0 0 0, t, n, ?_, by simpa [he] using Sl.nil, fun b hb => (by cases hb), .refl _ _ _⟩
    unfold s26
    simp (iota := false) only [SY, reduceCtorEq, if_false, if_true, Nat.zero_add, h.c2, h.c0, Option.isSome_some, Option.getD_some, ne_eq, he, not_false_eq_true]
end Ev
