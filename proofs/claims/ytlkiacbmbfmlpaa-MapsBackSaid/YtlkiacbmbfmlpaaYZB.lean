import Derived.Test.YtlkiacbmbfmlpaaYZA
/- Maps are written (the program's). -/
namespace Ev
open Go
variable [Told] [TokV] [ToldOK]
set_option linter.unusedVariables false
set_option linter.unusedSimpArgs false
set_option linter.unusedSectionVars false
set_option maxRecDepth 10000
set_option maxHeartbeats 1000000
variable {tab : Bt FnD}
theorem bits1_ok {y : Yh} {ih : Ih} {t : H} {n : Nat} {src : AV} {xs : List AV} {ms : List MapV} {E : List Nat} (h : Sl t 3 src xs) (hE : Els t xs ms E) (hb : ∀ b ∈ bk src, b < n) (hbE : ∀ b ∈ E, b < n) (hfit : Fit ms) (hR : Rt tab 3 ih) (T : TbM tab) :
    BRes t n (s8 y ih (.cons src .nil) t n) ms := by
  obtain ⟨v2, t2, n2', hcN, rfl, rfl, hW2, hf2⟩ := call (a := .nil) (t := t) (n := n) hR T.g21 (P := fun v' t' n' => v' = .ref 1 n 0 0 0 0 ∧ n' = n + 1 ∧ Wtr 2 t' (n + 1) n (.ref 2 0 0 0 0 0) [] 0 [] ∧ ∀ b, b < n → t'.get b = t.get b) fun ih' hR' => by
    obtain ⟨t', q1, q2, q3⟩ := newWriter_ok (y := noY) (ih := ih') (t := t) (n := n)
    exact ⟨_, t', _, q1, rfl, rfl, q2, q3⟩
  have hlenx := hE.len
  have hlen3 : xs.length / 3 = ms.length := by omega
  unfold s8
  simp (iota := false) only [SY, reduceCtorEq, if_false, if_true, Nat.zero_add, hcN, pLenL_sl h (show 0 < 3 by omega), hlen3, cLoop_eq]
  generalize hL : loop _ _ _ _ _ _ _ = o
  have key : ∃ e' t' n' s' F, o = .exit 0 e' t' n' ∧ N16.sel .d3 (row .d0 e') = some (.ref 1 n 0 0 0 0) ∧ Wtr 2 t' n' n s' F (wrAll ms).2 (wrAll ms).1 ∧ (∀ b ∈ F, n + 1 ≤ b) ∧ n + 1 ≤ n' ∧ ∀ b, b < n → t'.get b = t2.get b := by
    rw [← hL]
    refine loop_ind (fun o => ∃ e' t' n' s' F, o = .exit 0 e' t' n' ∧ N16.sel .d3 (row .d0 e') = some (.ref 1 n 0 0 0 0) ∧ Wtr 2 t' n' n s' F (wrAll ms).2 (wrAll ms).1 ∧ (∀ b ∈ F, n + 1 ≤ b) ∧ n + 1 ≤ n' ∧ ∀ b, b < n → t'.get b = t2.get b)
      (fun m e t0 n0 => ∃ i s0 F, i + m = ms.length ∧ N16.sel .d15 (row .d0 e) = some (.num 3 (.ofNat i)) ∧ N16.sel .d14 (row .d0 e) = some (.num 3 (.ofNat ms.length)) ∧ N16.sel .d13 (row .d0 e) = some src ∧ N16.sel .d3 (row .d0 e) = some (.ref 1 n 0 0 0 0) ∧
        Wtr 2 t0 n0 n s0 F ((ms.take i).foldl wrMap ([], 0)).2 ((ms.take i).foldl wrMap ([], 0)).1 ∧ (∀ b ∈ F, n + 1 ≤ b) ∧ n + 1 ≤ n0 ∧ ∀ b, b < n → t0.get b = t2.get b)
      ?_ fuelL ms.length _ _ _ ⟨0, .ref 2 0 0 0 0 0, [], by omega, ?_⟩ (by unfold fuelL; have := hfit.1; omega)
    · rintro m e t0 n0 rec ⟨i, s0, F, hi, e15, e14, e13, e3, hW, hF, hn, hfr⟩ hrec
      have hmsl := hfit.1
      have hs0 : Sl t0 3 src xs := h.get fun b hb' => (hfr b (hb b hb')).trans (hf2 b (hb b hb'))
      have hE0 : Els t0 xs ms E := hE.get fun b hb' => (hfr b (hbE b hb')).trans (hf2 b (hbE b hb'))
      by_cases hlt : i < ms.length
      · obtain ⟨ls, ss, hcells, hls, hss, hbl, hbs⟩ := hE0.nth (i := i) (m := ms[i]) (by simp [hlt])
        have hmf := hfit.2 ms[i] (by simp)
        have hStl := wrs_len (s := ([], 0)) (ms := ms.take i) (fun m hm => hfit.2 m (List.mem_of_mem_take hm))
        have htk : (ms.take i).length ≤ 2000 := by rw [List.length_take]; omega
        have hfold := foldl_take wrMap ([], 0) hlt
        generalize (ms.take i).foldl wrMap ([], 0) = S at *
        obtain ⟨bs1, er1⟩ := S
        simp only at hW hStl
        simp only [List.length_nil, Nat.zero_add] at hStl
        have hq : ∀ k : K, q0 (.num 3 (.ofNat i)) (.num 3 (.ofNat 1)) k = k (.num 3 (.ofNat (i + 1))) := fun k => q0_n (by omega)
        have hldc : ∀ k, pLdC 3 (plc 3 src i) t0 k = k (.com 0 0 (.cons (.num 3 ms[i].at_) (.cons ls (.cons ss .nil)))) := fun k => by rw [pLdC_plc hs0 (by omega) (by rw [hcells]; rfl), hcells]; rfl
        have hOm : Obj (t0.set (.row 3 (.node (.node .leaf (some ⟨0, .ref 2 0 0 0 0 0⟩) .leaf) (some ⟨0, .num 3 (.ofNat 0)⟩) (.node .leaf (some ⟨0, .ref 2 0 0 0 0 0⟩) .leaf)) 3 0) n0) n0 [.num 3 (.ofNat 0), .ref 2 0 0 0 0 0, .ref 2 0 0 0 0 0] := Obj.nb3
        obtain ⟨t5, hstm, hO5, hf5⟩ := hOm.stC (ws := [.num 3 ms[i].at_, ls, ss]) rfl
        have hstm' : ∀ k, pSt 3 (.ref 1 n0 0 0 0 0) (.com 0 0 (.cons (.num 3 ms[i].at_) (.cons ls (.cons ss .nil)))) (t0.set (.row 3 (.node (.node .leaf (some ⟨0, .ref 2 0 0 0 0 0⟩) .leaf) (some ⟨0, .num 3 (.ofNat 0)⟩) (.node .leaf (some ⟨0, .ref 2 0 0 0 0 0⟩) .leaf)) 3 0) n0) k = k t5 := fun k => hstm k
        have hf05 : ∀ b, b < n0 → t5.get b = t0.get b := fun b hb => by rw [hf5 b (by omega), set_ne (by omega)]
        have hWlt := hW.lt
        have hWlf := hW.lf
        -- At
        have hrA : ∀ k : KH, pRowSl 1 1 (.cons (.num 3 ms[i].at_) .nil) t5 (n0 + 1) k = k (.ref 3 (n0 + 1) 0 0 1 1) (nw t5 1 [.num 3 ms[i].at_] 1 (n0 + 1)) (n0 + 1 + 1) := fun k => pRowSl_lst (sz := 1) (ln := 1) (l := [.num 3 ms[i].at_]) rfl t5 (n0 + 1) k
        have hOA : Ow (nw t5 1 [.num 3 ms[i].at_] 1 (n0 + 1)) 1 (.ref 3 (n0 + 1) 0 0 1 1) ([ms[i].at_].map i3) [n0 + 1] := own_nw (t := t5) (sz := 1) (n := n0 + 1) (l := [.num 3 ms[i].at_]) (len := 1) (.inl rfl) rfl
        have hkA : ∀ b, b < n0 + 1 → (nw t5 1 [.num 3 ms[i].at_] 1 (n0 + 1)).get b = t5.get b := fun b hb => nw_ne (by omega)
        have hW5 : Wtr 2 (nw t5 1 [.num 3 ms[i].at_] 1 (n0 + 1)) (n0 + 1 + 1) n s0 F er1 bs1 := hW.get (by omega) fun b hb' => by
          rcases hb' with rfl | hb'
          · rw [hkA _ (by omega), hf05 _ hWlt]
          · have := hWlf b hb'; rw [hkA _ (by omega), hf05 _ this]
        obtain ⟨s1, t6, n6, F6, hcA, hW6, hg6, hF6⟩ := ww_call (tab := tab) (u2w_ok T) (hR.mono (j := 3) (by omega)) T.g22 (ns := [ms[i].at_]) hW5 hOA.sl (fun b hb' => by
          simp [bk] at hb'; subst hb'; exact ⟨by omega, by omega, fun h' => by have := hWlf _ h'; omega⟩) (by simp) (by omega)
        replace hW6 : Wtr 2 t6 n6 n s1 F6 (wr2 (bs1, er1) ms[i].at_).2 (wr2 (bs1, er1) ms[i].at_).1 := hW6
        have hl6 : (wr2 (bs1, er1) ms[i].at_).1.length ≤ bs1.length + 2 := wr2_len (s := (bs1, er1)) ms[i].at_
        have hn6 : ∀ b, b ≠ n → b ∉ F → b < n0 + 1 + 1 → b ∉ F6 := fun b h1 h2 h3 h' => by
          rcases hF6 b h' with h' | h'
          · exact h2 h'
          · omega
        have hnF0 : n0 ∉ F := fun h' => by have := hWlf n0 h'; omega
        have hle6 := hg6.le
        have hO6 : Obj t6 n0 [.num 3 ms[i].at_, ls, ss] := hO5.get (by rw [hg6.get n0 (by omega) (by simp; exact ⟨by omega, hnF0⟩), hkA n0 (by omega)])
        -- the two lengths
        have hrB : ∀ k : KH, pRowSl 1 2 (.cons (.num 3 (.ofNat ms[i].lo.length)) (.cons (.num 3 (.ofNat ms[i].st.length)) .nil)) t6 n6 k = k (.ref 3 n6 0 0 2 2) (nw t6 1 [.num 3 (.ofNat ms[i].lo.length), .num 3 (.ofNat ms[i].st.length)] 2 n6) (n6 + 1) := fun k => pRowSl_lst (sz := 1) (ln := 2) (l := [.num 3 (.ofNat ms[i].lo.length), .num 3 (.ofNat ms[i].st.length)]) rfl t6 n6 k
        have hOB : Ow (nw t6 1 [.num 3 (.ofNat ms[i].lo.length), .num 3 (.ofNat ms[i].st.length)] 2 n6) 1 (.ref 3 n6 0 0 2 2) ([Int.ofNat ms[i].lo.length, Int.ofNat ms[i].st.length].map i3) [n6] := own_nw (t := t6) (sz := 1) (n := n6) (l := [.num 3 (.ofNat ms[i].lo.length), .num 3 (.ofNat ms[i].st.length)]) (len := 2) (.inl rfl) rfl
        have hkB : ∀ b, b < n6 → (nw t6 1 [.num 3 (.ofNat ms[i].lo.length), .num 3 (.ofNat ms[i].st.length)] 2 n6).get b = t6.get b := fun b hb => nw_ne (by omega)
        have hW6lt := hW6.lt
        have hW6lf := hW6.lf
        have hW6' : Wtr 2 (nw t6 1 [.num 3 (.ofNat ms[i].lo.length), .num 3 (.ofNat ms[i].st.length)] 2 n6) (n6 + 1) n s1 F6 (wr2 (bs1, er1) ms[i].at_).2 (wr2 (bs1, er1) ms[i].at_).1 := hW6.get (by omega) fun b hb' => hkB b (by
          rcases hb' with rfl | hb'
          · exact hW6lt
          · exact hW6lf b hb')
        obtain ⟨s2, t7, n7, F7, hcB, hW7, hg7, hF7⟩ := ww_call (tab := tab) (u1w_ok T) (hR.mono (j := 3) (by omega)) T.g23 (ns := [Int.ofNat ms[i].lo.length, Int.ofNat ms[i].st.length]) hW6' hOB.sl (fun b hb' => by
          simp [bk] at hb'; subst hb'; exact ⟨by omega, by omega, fun h' => by have := hW6lf _ h'; omega⟩) (by simp) (by omega)
        replace hW7 : Wtr 2 t7 n7 n s2 F7 (wr1 (wr1 (wr2 (bs1, er1) ms[i].at_) (.ofNat ms[i].lo.length)) (.ofNat ms[i].st.length)).2 (wr1 (wr1 (wr2 (bs1, er1) ms[i].at_) (.ofNat ms[i].lo.length)) (.ofNat ms[i].st.length)).1 := hW7
        have hl7 := wr1_len (s := wr2 (bs1, er1) ms[i].at_) (.ofNat ms[i].lo.length)
        have hl8 := wr1_len (s := wr1 (wr2 (bs1, er1) ms[i].at_) (.ofNat ms[i].lo.length)) (.ofNat ms[i].st.length)
        have hle7 := hg7.le
        have hO7 : Obj t7 n0 [.num 3 ms[i].at_, ls, ss] := hO6.get (by rw [hg7.get n0 (by omega) (by simp; exact ⟨by omega, hn6 n0 (by omega) hnF0 (by omega)⟩), hkB n0 (by omega)])
        -- old blocks
        have hold7 : ∀ b, b < n → t7.get b = t0.get b := fun b hb' => by
          have hbF : b ∉ F := fun h' => by have := hF b h'; omega
          rw [hg7.get b (by omega) (by simp; exact ⟨by omega, hn6 b (by omega) hbF (by omega)⟩), hkB b (by omega), hg6.get b (by omega) (by simp; exact ⟨by omega, hbF⟩), hkA b (by omega), hf05 b (by omega)]
        have hF7' : ∀ b ∈ F7, n + 1 ≤ b := fun b hb' => by
          rcases hF7 b hb' with h' | h'
          · rcases hF6 b h' with h' | h'
            · exact hF b h'
            · omega
          · omega
        -- the rows as one
        have hrC : ∀ k : KH, pRowSl 1 2 (.cons ls (.cons ss .nil)) t7 n7 k = k (.ref 3 n7 0 0 2 2) (nw t7 1 [ls, ss] 2 n7) (n7 + 1) := fun k => pRowSl_lst (sz := 1) (ln := 2) (l := [ls, ss]) rfl t7 n7 k
        have hOC : Ow (nw t7 1 [ls, ss] 2 n7) 1 (.ref 3 n7 0 0 2 2) [ls, ss] [n7] := own_nw (t := t7) (sz := 1) (n := n7) (l := [ls, ss]) (len := 2) (.inl rfl) rfl
        have hkC : ∀ b, b < n7 → (nw t7 1 [ls, ss] 2 n7).get b = t7.get b := fun b hb => nw_ne (by omega)
        have hls8 : Sl (nw t7 1 [ls, ss] 2 n7) 1 ls (ms[i].lo.map bV) := hls.get fun b hb' => by have := hbE b (hbl b hb'); rw [hkC b (by omega), hold7 b this]
        have hss8 : Sl (nw t7 1 [ls, ss] 2 n7) 1 ss (ms[i].st.map bV) := hss.get fun b hb' => by have := hbE b (hbs b hb'); rw [hkC b (by omega), hold7 b this]
        obtain ⟨vB, t8, n8, FB, hcC, hOb, hg8, hFB⟩ := cc_call (tab := tab) (hR.mono (j := 3) (by omega)) T (n := n7 + 1) hOC.sl hls8 hss8 (fun b hb' => by simp [bk] at hb'; omega) (fun b hb' => by have := hbE b (hbl b hb'); omega) (fun b hb' => by have := hbE b (hbs b hb'); omega) hmf.1 hmf.2
        have hle8 := hg8.le
        have hbl8 : (ms[i].lo ++ ms[i].st).length ≤ 600 := by rw [List.length_append]; omega
        have hwm : wrMap (bs1, er1) ms[i] = wrB (wr1 (wr1 (wr2 (bs1, er1) ms[i].at_) (.ofNat ms[i].lo.length)) (.ofNat ms[i].st.length)) (encL (ms[i].lo ++ ms[i].st)) := rfl
        have hS3l : (wr1 (wr1 (wr2 (bs1, er1) ms[i].at_) (.ofNat ms[i].lo.length)) (.ofNat ms[i].st.length)).1.length ≤ 200000 := by omega
        generalize (wr1 (wr1 (wr2 (bs1, er1) ms[i].at_) (.ofNat ms[i].lo.length)) (.ofNat ms[i].st.length)) = S3 at *
        have hlen1 : ∀ k : K, pLenL ls k = k (.num 3 (.ofNat ms[i].lo.length)) := fun k => by rw [pLenL_sl hls Nat.one_pos, Nat.div_one, List.length_map]
        have hlen2 : ∀ k : K, pLenL ss k = k (.num 3 (.ofNat ms[i].st.length)) := fun k => by rw [pLenL_sl hss Nat.one_pos, Nat.div_one, List.length_map]
        have hi3 : i * 3 < xs.length := by omega
        generalize hbits : ms[i].lo ++ ms[i].st = bits at *
        have hlenB : ∀ k : K, pLenL vB k = k (.num 3 (.ofNat bits.length)) := fun k => by rw [pLenL_sl hOb.sl Nat.one_pos, Nat.div_one, List.length_map]
        have hq7 : ∀ k : K, q0 (.num 3 (.ofNat bits.length)) (.num 3 (.ofNat 7)) k = k (.num 3 (.ofNat (bits.length + 7))) := fun k => q0_n (by omega)
        have hq8 : ∀ k : K, q3 (.num 3 (.ofNat (bits.length + 7))) (.num 3 (.ofNat 8)) k = k (.num 3 (.ofNat ((bits.length + 7) / 8))) := fun k => q3_n (by omega) (by omega)
        have hmk : ∀ k, pMkSl 1 1 (.cons (.num 4 (.ofNat 0)) .nil) (.num 3 (.ofNat ((bits.length + 7) / 8))) (.num 3 (.ofNat ((bits.length + 7) / 8))) t8 n8 k = k (.ref 3 n8 0 0 ((bits.length + 7) / 8) ((bits.length + 7) / 8)) (nw t8 1 (List.replicate ((bits.length + 7) / 8) (by8 0)) (List.replicate ((bits.length + 7) / 8) (by8 0)).length n8) (n8 + 1) := fun k => pMkSl1 (by omega) t8 n8 k
        have hO9 : Ow (nw t8 1 (List.replicate ((bits.length + 7) / 8) (by8 0)) (List.replicate ((bits.length + 7) / 8) (by8 0)).length n8) 1 (.ref 3 n8 0 0 ((bits.length + 7) / 8) ((bits.length + 7) / 8)) ((encTo bits 0).map by8) [n8] := by rw [encTo_zero]; exact own_mk
        have hk9 : ∀ b, b < n8 → (nw t8 1 (List.replicate ((bits.length + 7) / 8) (by8 0)) (List.replicate ((bits.length + 7) / 8) (by8 0)).length n8).get b = t8.get b := fun b hb => nw_ne (by omega)
        generalize nw t8 1 (List.replicate ((bits.length + 7) / 8) (by8 0)) (List.replicate ((bits.length + 7) / 8) (by8 0)).length n8 = t9 at *
        generalize hrw : AV.ref 3 n8 0 0 ((bits.length + 7) / 8) ((bits.length + 7) / 8) = rw9 at *
        simp (iota := false) only [SY, reduceCtorEq, if_false, if_true, Nat.zero_add, e15, e14, e13, e3, hlt, pIad_sl hs0 hi3, hldc, nb_eq, hstm', hO5.cl (i := 0) rfl, hO6.cl (i := 1) rfl, hO6.cl (i := 2) rfl, hO7.cl (i := 1) rfl, hO7.cl (i := 2) rfl, Option.isSome_some, Option.getD_some, parts_1_0 (ck_num _ _), parts_2_0 (ck_num _ _), parts_2_1 (ck_num _ _), parts_2_0 hls.ck, parts_2_1 hss.ck, hrA, hrB, hrC, hcA, hcB, hcC, hlen1, hlen2, hlenB, hq7, hq8, hmk, cLoop_eq]
        generalize hL2 : loop _ _ _ _ _ _ _ = o2
        have key2 : ∃ e' t', o2 = .exit 2 e' t' (n8 + 1) ∧ N16.sel .d15 (row .d0 e') = some (.num 3 (.ofNat i)) ∧ N16.sel .d14 (row .d0 e') = some (.num 3 (.ofNat ms.length)) ∧ N16.sel .d13 (row .d0 e') = some src ∧ N16.sel .d3 (row .d0 e') = some (.ref 1 n 0 0 0 0) ∧ N16.sel .d7 (row .d0 e') = some rw9 ∧
            Ow t' 1 rw9 ((encL bits).map by8) [n8] ∧ ∀ b, b < n8 → t'.get b = t8.get b := by
          rw [← hL2]
          refine loop_ind (fun o2 => ∃ e' t', o2 = .exit 2 e' t' (n8 + 1) ∧ N16.sel .d15 (row .d0 e') = some (.num 3 (.ofNat i)) ∧ N16.sel .d14 (row .d0 e') = some (.num 3 (.ofNat ms.length)) ∧ N16.sel .d13 (row .d0 e') = some src ∧ N16.sel .d3 (row .d0 e') = some (.ref 1 n 0 0 0 0) ∧ N16.sel .d7 (row .d0 e') = some rw9 ∧
            Ow t' 1 rw9 ((encL bits).map by8) [n8] ∧ ∀ b, b < n8 → t'.get b = t8.get b)
            (fun m e t n' => n' = n8 + 1 ∧ ∃ j, j + m = bits.length ∧ N16.sel .d14 (row .d2 e) = some (.num 3 (.ofNat j)) ∧ N16.sel .d13 (row .d2 e) = some (.num 3 (.ofNat bits.length)) ∧ N16.sel .d12 (row .d2 e) = some vB ∧ N16.sel .d15 (row .d0 e) = some (.num 3 (.ofNat i)) ∧ N16.sel .d14 (row .d0 e) = some (.num 3 (.ofNat ms.length)) ∧ N16.sel .d13 (row .d0 e) = some src ∧ N16.sel .d3 (row .d0 e) = some (.ref 1 n 0 0 0 0) ∧ N16.sel .d7 (row .d0 e) = some rw9 ∧
              Ow t 1 rw9 ((encTo bits j).map by8) [n8] ∧ ∀ b, b < n8 → t.get b = t8.get b)
            ?_ fuelL bits.length _ _ _ ⟨rfl, 0, by omega, ?_⟩ (by unfold fuelL; omega)
          · rintro m2 e t n' rec2 ⟨rfl, j, hj, f14, f13, f12, e15, e14, e13, e3, e7, hOw, hk⟩ hrec2
            have hslB : Sl t 1 vB (bits.map bV) := (hOb.get fun b hb' => hk b (hFB b hb').2).sl
            by_cases hjl : j < bits.length
            · have hget : (bits.map bV)[j]? = some (bV bits[j]) := by simp [hjl]
              have hbn : bitN bits j = bits[j].toNat := by unfold bitN; rw [List.getD_eq_getElem?_getD, List.getElem?_eq_getElem hjl]; rfl
              have hqj : ∀ k : K, q0 (.num 3 (.ofNat j)) (.num 3 (.ofNat 1)) k = k (.num 3 (.ofNat (j + 1))) := fun k => q0_n (by omega)
              have hj1 : j * 1 < (bits.map bV).length := by simpa using hjl
              by_cases hbt : bits[j] = true
              · rw [hbt] at hbn
                have hqd : ∀ k : K, q3 (.num 3 (.ofNat j)) (.num 3 (.ofNat 8)) k = k (.num 3 (.ofNat (j / 8))) := fun k => q3_n (by omega) (by omega)
                have hqm : ∀ k : K, q4 (.num 3 (.ofNat j)) (.num 3 (.ofNat 8)) k = k (.num 3 (.ofNat (j % 8))) := fun k => q4_n (by omega)
                have hqs : ∀ k : K, q9 (.num 4 (.ofNat 128)) (.num 3 (.ofNat (j % 8))) k = k (.num 4 (.ofNat (2 ^ (7 - j % 8)))) := fun k => by rw [q9_num (by omega) (by omega) (.inl (by omega)), shr128 (by omega)]
                have hpl : (2 : Nat) ^ (7 - j % 8) < 256 := Nat.lt_of_le_of_lt (Nat.pow_le_pow_right (by omega) (show 7 - j % 8 ≤ 7 by omega)) (by decide)
                have hjd : j / 8 < (encTo bits j).length := by rw [encTo_len]; omega
                have hgetE : ((encTo bits j).map by8)[j / 8]? = some (by8 (encB (bits.take j) (j / 8))) := by rw [List.getElem?_map, List.getElem?_eq_getElem hjd]; simp [encTo]
                have hqo : ∀ k : K, q6 (by8 (encB (bits.take j) (j / 8))) (.num 4 (.ofNat (2 ^ (7 - j % 8)))) k = k (by8 (encB (bits.take (j + 1)) (j / 8))) := fun k => by rw [q6_by8 (encB_lt _ _) hpl, enc_step hbn]
                obtain ⟨t5', hset, hO5', hf5'⟩ := hOw.set (i := j / 8) (v := by8 (encB (bits.take (j + 1)) (j / 8))) (by simpa using hjd) rfl
                rw [encTo_set] at hO5'
                have hj8 : j / 8 * 1 < ((encTo bits j).map by8).length := by simpa using hjd
                simp (iota := false) only [vbool_bV, SY, reduceCtorEq, if_false, if_true, Nat.zero_add, f14, f13, f12, e15, e14, e13, e3, e7, hjl, pIad_sl hslB hj1, pLd_plc hslB hget, hbt, hqd, hqm, hqs, pIad_sl hOw.sl hj8, pLd_plc hOw.sl hgetE, hqo, hset, hqj]
                refine hrec2 (m2 - 1) _ _ _ (by omega) ⟨rfl, j + 1, by omega, ?_⟩
                simp (iota := false) only [SY, reduceCtorEq, if_false, if_true, f14, f13, f12, e15, e14, e13, e3, e7, true_and]
                exact ⟨hO5', fun b hb' => (hf5' b (by simp; omega)).trans (hk b hb')⟩
              · have hbf : bits[j] = false := by simpa using hbt
                rw [hbf] at hbn
                simp (iota := false) only [vbool_bV, SY, reduceCtorEq, if_false, if_true, Nat.zero_add, f14, f13, f12, e15, e14, e13, e3, e7, hjl, pIad_sl hslB hj1, pLd_plc hslB hget, hbf, Bool.false_eq_true, hqj]
                refine hrec2 (m2 - 1) _ _ _ (by omega) ⟨rfl, j + 1, by omega, ?_⟩
                simp (iota := false) only [SY, reduceCtorEq, if_false, if_true, f14, f13, f12, e15, e14, e13, e3, e7, true_and]
                rw [encTo_same hbn]
                exact ⟨hOw, hk⟩
            · have : j = bits.length := by omega
              subst this
              simp (iota := false) only [SY, reduceCtorEq, if_false, if_true, f14, f13, Nat.lt_irrefl]
              refine ⟨_, _, rfl, ?_⟩
              rw [encTo_all] at hOw
              simp (iota := false) only [SY, reduceCtorEq, if_false, if_true, e15, e14, e13, e3, e7, true_and]
              exact ⟨hOw, hk⟩
          · simp (iota := false) only [SY, reduceCtorEq, if_false, if_true, true_and, e15, e14, e13, e3]
            exact ⟨hO9, hk9⟩
        obtain ⟨e', t10, rfl, g15, g14, g13, g3, g7, hO10, hk10⟩ := key2
        have hW7lt := hW7.lt
        have hW7lf := hW7.lf
        have hk10' : ∀ b, b < n7 → t10.get b = t7.get b := fun b hb' => by rw [hk10 b (by omega), hg8.get b (by omega) (by simp), hkC b hb']
        have hW10 : Wtr 2 t10 (n8 + 1) n s2 F7 S3.2 S3.1 := hW7.get (by omega) fun b hb' => hk10' b (by
          rcases hb' with rfl | hb'
          · exact hW7lt
          · exact hW7lf b hb')
        obtain ⟨s4, t11, n11, F11, hcW, hW11, hg11, hF11⟩ := wb_call (tab := tab) (hR.mono (j := 3) (by omega)) T (ys := encL bits) hW10 hO10.sl (by rw [encL_len]; omega)
        have hle11 := hg11.le
        simp (iota := false) only [SY, reduceCtorEq, if_false, if_true, g15, g14, g13, g3, g7, hcW, hq]
        refine hrec (m - 1) _ _ _ (by omega) ⟨i + 1, s4, F11, by omega, ?_⟩
        simp (iota := false) only [SY, reduceCtorEq, if_false, if_true, g14, g13, g3, true_and]
        refine ⟨by rw [hfold, hwm]; exact hW11, fun b hb' => ?_, by omega, fun b hb' => ?_⟩
        · rcases hF11 b hb' with h' | h'
          · exact hF7' b h'
          · omega
        · rw [hg11.get b (by omega) (by simp; exact ⟨by omega, fun h' => by have := hF7' b h'; omega⟩), hk10' b (by omega), hold7 b hb', hfr b hb']
      · have : i = ms.length := by omega
        subst this
        simp (iota := false) only [SY, reduceCtorEq, if_false, if_true, e15, e14, Nat.lt_irrefl]
        rw [List.take_length] at hW
        refine ⟨_, t0, n0, s0, F, rfl, ?_, hW, hF, hn, hfr⟩
        simp (iota := false) only [SY, reduceCtorEq, if_false, if_true, e3]
    · simp (iota := false) only [SY, reduceCtorEq, if_false, if_true, true_and]
      exact ⟨hW2, fun b hb => (by cases hb), Nat.le_refl _, fun _ _ => trivial⟩
  obtain ⟨e', t', n', s', F, rfl, e3, hW, hF, hn, hf⟩ := key
  have hlenW : (wrAll ms).1.length ≤ 900000 := by
    have := wrs_len (s := ([], 0)) hfit.2
    have := hfit.1
    simp at *; unfold wrAll; omega
  obtain ⟨v9, t9, n9, hcD, v, rfl, hs, hbk, hgD⟩ := call (a := .cons (.ref 1 n 0 0 0 0) .nil) (t := t') (n := n') hR T.g26 (P := fun v' t1 n1 => ∃ v, v' = .com 1 0 (.cons v (.cons (.num 3 (.ofNat (wrAll ms).2)) .nil)) ∧ Sl t1 1 v ((bitsL ms).map by8) ∧ (∀ b ∈ bk v, n' ≤ b ∧ b < n1) ∧ Gr [] t' n' t1 n1) fun ih' hR' => by
    obtain ⟨v, t1, n1, q1, q2, q3, q4⟩ := done_ok (y := noY) (ih := ih') hW hlenW (hR'.mono (j := 1) (by omega)) T
    exact ⟨_, t1, n1, q1, v, rfl, q2, q3, q4⟩
  have hgle := hgD.le
  simp (iota := false) only [SY, reduceCtorEq, if_false, if_true, Nat.zero_add, e3, hcD]
  exact ⟨v, t9, n9, rfl, hs, fun b hb' => by have := hbk b hb'; omega, ⟨by omega, fun b hb' _ => by rw [hgD.get b (by omega) (by simp), hf b hb', hf2 b hb']⟩⟩
end Ev
