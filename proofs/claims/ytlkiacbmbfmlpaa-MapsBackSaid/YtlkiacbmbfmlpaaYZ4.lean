import Derived.Test.YtlkiacbmbfmlpaaYZ3
/- Writers (3): the program's numbers of two bytes. -/
namespace Ev
open Go
variable [Told] [TokV] [ToldOK]
set_option linter.unusedVariables false
set_option linter.unusedSimpArgs false
set_option linter.unusedSectionVars false
set_option maxRecDepth 10000
set_option maxHeartbeats 1000000
variable {tab : Bt FnD}
theorem u2w_ok (T : TbM tab) : SpecW s22 wr2 tab := fun {y ih t n w s src G er bs ns} h hs hb hl hbl hR => by
  unfold s22
  simp (iota := false) only [SY, reduceCtorEq, if_false, if_true, Nat.zero_add, pLenL_sl hs Nat.one_pos, Nat.div_one, List.length_map, cLoop_eq]
  generalize hL : loop _ _ _ _ _ _ _ = o
  have key : ∃ e' t' n' s' G', (o = .exit 0 e' t' n' ∨ o = .ret e' t' n') ∧ Wtr 2 t' n' w s' G' (ns.foldl wr2 (bs, er)).2 (ns.foldl wr2 (bs, er)).1 ∧ Gr (w :: G) t n t' n' ∧ ∀ b ∈ G', b ∈ G ∨ n ≤ b := by
    rw [← hL]
    refine loop_ind (fun o => ∃ e' t' n' s' G', (o = .exit 0 e' t' n' ∨ o = .ret e' t' n') ∧ Wtr 2 t' n' w s' G' (ns.foldl wr2 (bs, er)).2 (ns.foldl wr2 (bs, er)).1 ∧ Gr (w :: G) t n t' n' ∧ ∀ b ∈ G', b ∈ G ∨ n ≤ b)
      (fun m e t1 n1 => ∃ i s' G', i + m = ns.length ∧ N16.sel .d8 (row .d0 e) = some (.num 3 (.ofNat i)) ∧ N16.sel .d7 (row .d0 e) = some (.num 3 (.ofNat ns.length)) ∧ N16.sel .d6 (row .d0 e) = some src ∧ N16.sel .d0 (row .d0 e) = some (.ref 1 w 0 0 0 0) ∧
        Wtr 2 t1 n1 w s' G' ((ns.take i).foldl wr2 (bs, er)).2 ((ns.take i).foldl wr2 (bs, er)).1 ∧ Gr (w :: G) t n t1 n1 ∧ ∀ b ∈ G', b ∈ G ∨ n ≤ b)
      ?_ fuelL ns.length _ _ _ ⟨0, s, G, by omega, ?_⟩ (by unfold fuelL; omega)
    · rintro m e t1 n1 rec ⟨i, s', G', hi, e8, e7, e6, e0, hW, hG, hG'⟩ hrec
      by_cases hlt : i < ns.length
      · have hs1 : Sl t1 1 src (ns.map i3) := hs.get fun b hb' => hG.get b (hb b hb').1 (by simp; exact ⟨(hb b hb').2.1, (hb b hb').2.2⟩)
        have hget : (ns.map i3)[i]? = some (.num 3 ns[i]) := by simp [hlt, i3]
        have hq : ∀ k : K, q0 (.num 3 (.ofNat i)) (.num 3 (.ofNat 1)) k = k (.num 3 (.ofNat (i + 1))) := fun k => q0_n (by omega)
        have hil : i * 1 < (ns.map i3).length := by simpa using hlt
        have hSl := wr2s_len (s := (bs, er)) (ns.take i)
        have htk : (ns.take i).length ≤ 1000 := by rw [List.length_take]; omega
        have hfold := foldl_take wr2 (bs, er) hlt
        have hall : ns.foldl wr2 (bs, er) = (ns.drop (i + 1)).foldl wr2 ((ns.take (i + 1)).foldl wr2 (bs, er)) := by
          rw [← List.foldl_append, List.take_append_drop]
        generalize (ns.take i).foldl wr2 (bs, er) = S at *
        obtain ⟨bs1, er1⟩ := S
        simp only at hW hSl
        by_cases hbad : ns[i] < Int.ofNat 0 ∨ Int.ofNat 65535 < ns[i]
        · obtain ⟨t2, hcf, hW2, hG2⟩ := fail_call (x := 1) (hR.mono (j := 1) (by omega)) T hW
          have hdone : ns.foldl wr2 (bs, er) = (bs1, if er1 = 0 then 1 else er1) := by
            have e1 : wr2 (bs1, er1) ns[i] = (bs1, if er1 = 0 then 1 else er1) := by
              unfold wr2
              by_cases he : er1 = 0
              · rw [if_neg (by simpa using he), if_pos (show ns[i] < 0 ∨ 65535 < ns[i] from hbad), if_pos he]
              · rw [if_pos he, if_neg he]
            rw [hall, hfold, e1]
            exact wr2s_stop (by simp only; split <;> omega) _
          by_cases hneg : ns[i] < Int.ofNat 0
          · simp (iota := false) only [SY, reduceCtorEq, if_false, if_true, Nat.zero_add, e8, e7, e6, e0, hlt, pIad_sl hs1 hil, pLd_plc hs1 hget, hneg, hcf]
            exact ⟨_, t2, n1, s', G', .inr rfl, by rw [hdone]; exact hW2, hG.trans hG2 (by simp), hG'⟩
          · have hbig := hbad.resolve_left hneg
            simp (iota := false) only [SY, reduceCtorEq, if_false, if_true, Nat.zero_add, e8, e7, e6, e0, hlt, pIad_sl hs1 hil, pLd_plc hs1 hget, hneg, hbig, hcf]
            exact ⟨_, t2, n1, s', G', .inr rfl, by rw [hdone]; exact hW2, hG.trans hG2 (by simp), hG'⟩
        · have hneg : ¬ ns[i] < Int.ofNat 0 := fun h => hbad (.inl h)
          have hbig : ¬ Int.ofNat 65535 < ns[i] := fun h => hbad (.inr h)
          have hn0 : 0 ≤ ns[i] := by have : ¬ ns[i] < 0 := hneg; omega
          have hn1 : ns[i] ≤ 65535 := by have : ¬ (65535 : Int) < ns[i] := hbig; omega
          have hshr : ∀ k : K, q9 (.num 3 ns[i]) (.num 7 (.ofNat 8)) k = k (.num 3 (.ofNat (ns[i].toNat / 256))) := fun k => by
            have e : ns[i] = Int.ofNat ns[i].toNat := by rw [Int.ofNat_eq_natCast]; omega
            rw [e, q9_num (by omega) (by omega) (.inl (Nat.le_refl _))]; simp
          have hcv1 : ∀ k : K, pConvT 4 (.num 3 (.ofNat (ns[i].toNat / 256))) k = k (by8 (ns[i].toNat / 256)) := fun k => by
            rw [conv4 (by rw [Int.ofNat_eq_natCast]; omega) (by rw [Int.ofNat_eq_natCast]; omega)]; rfl
          have hcv2 : ∀ k : K, pConvT 4 (.num 3 ns[i]) k = k (by8 (ns[i].toNat % 256)) := fun k => by
            rw [pConvT_num (by omega), wrap4]; unfold by8; congr 2; rw [Int.ofNat_eq_natCast]; omega
          have hO1 : Ow (nw t1 1 [by8 (ns[i].toNat / 256), by8 (ns[i].toNat % 256)] 2 n1) 1 (.ref 3 n1 0 0 2 2) [by8 (ns[i].toNat / 256), by8 (ns[i].toNat % 256)] [n1] := own_nw (t := t1) (sz := 1) (n := n1) (l := [by8 (ns[i].toNat / 256), by8 (ns[i].toNat % 256)]) (len := 2) (.inl rfl) rfl
          have hrow := fun (k : KH) => pRowSl_lst (sz := 1) (ln := 2) (l := [by8 (ns[i].toNat / 256), by8 (ns[i].toNat % 256)]) rfl t1 n1 k
          have hlow : ∀ b, (b = w ∨ b ∈ G') → b ≠ n1 := fun b hb' => by
            rcases hb' with rfl | hb'
            · have := hW.lt; omega
            · have := hW.lf b hb'; omega
          have hW1 : Wtr 2 (nw t1 1 [by8 (ns[i].toNat / 256), by8 (ns[i].toNat % 256)] 2 n1) (n1 + 1) w s' G' er1 bs1 := hW.get (by omega) fun b hb' => nw_ne (hlow b hb')
          obtain ⟨s2, t2, n2, G2, hcp, hW2, hG2, hG2'⟩ := put_call (ys := [ns[i].toNat / 256, ns[i].toNat % 256]) (hR.mono (j := 1) (by omega)) T hW1 hO1.sl (by simp; omega)
          have hw1 : wr2 (bs1, er1) ns[i] = (if er1 = 0 then bs1 ++ [ns[i].toNat / 256, ns[i].toNat % 256] else bs1, er1) := by
            unfold wr2
            by_cases he : er1 = 0
            · rw [if_neg (by simpa using he), if_neg (show ¬ (ns[i] < 0 ∨ 65535 < ns[i]) from hbad), if_pos he, he]
            · rw [if_pos he, if_neg he]
          have hck : ∀ x, cellsK (by8 x) = fun f => f (.cons (by8 x) .nil) := fun _ => rfl
          have hrow' : ∀ k : KH, pRowSl 1 2 (.cons (by8 (ns[i].toNat / 256)) (.cons (by8 (ns[i].toNat % 256)) .nil)) t1 n1 k = k (.ref 3 n1 0 0 2 2) (nw t1 1 [by8 (ns[i].toNat / 256), by8 (ns[i].toNat % 256)] 2 n1) (n1 + 1) := fun k => hrow k
          simp (iota := false) only [hshr, hcv1, hcv2, SY, reduceCtorEq, if_false, if_true, Nat.zero_add, e8, e7, e6, e0, hlt, pIad_sl hs1 hil, pLd_plc hs1 hget, hneg, hbig, parts_2_0 (hck _), parts_2_1 (hck _), hrow', hcp, hq]
          have hgle := hG.le
          refine hrec (m - 1) _ _ _ (by omega) ⟨i + 1, s2, G2, by omega, ?_⟩
          simp (iota := false) only [SY, reduceCtorEq, if_false, if_true, e7, e6, e0, true_and]
          refine ⟨by rw [hfold, hw1]; exact hW2, ?_, fun b hb' => ?_⟩
          · have hg3 : Gr (w :: G') t1 n1 t2 n2 := ⟨by have := hG2.le; omega, fun b hb1 hb2 => by rw [hG2.get b (by omega) hb2, nw_ne (by omega)]⟩
            exact hG.trans hg3 fun b hb' => by
              rcases List.mem_cons.1 hb' with rfl | hb'
              · exact .inl (by simp)
              · rcases hG' b hb' with h | h
                · exact .inl (by simp [h])
                · exact .inr h
          · rcases hG2' b hb' with h | h
            · exact hG' b h
            · exact .inr (by omega)
      · have : i = ns.length := by omega
        subst this
        simp (iota := false) only [SY, reduceCtorEq, if_false, if_true, e8, e7, Nat.lt_irrefl]
        rw [List.take_length] at hW
        exact ⟨_, _, _, s', G', .inl rfl, hW, hG, hG'⟩
    · simp (iota := false) only [SY, reduceCtorEq, if_false, if_true, true_and]
      exact ⟨h, .refl _ _ _, fun b hb => .inl hb⟩
  obtain ⟨e', t', n', s', G', rfl | rfl, h1, h2, h3⟩ := key
  · simp (iota := false) only [SY, reduceCtorEq, if_false, if_true]
    exact ⟨s', t', n', G', rfl, h1, h2, h3⟩
  · simp (iota := false) only [SY, reduceCtorEq, if_false, if_true]
    exact ⟨s', t', n', G', rfl, h1, h2, h3⟩
end Ev
