import Derived.Test.YtlkiacbmbfmlpaaYZ7
/- Maps are written (the document's). -/
namespace Ev
open Go
variable [Told] [TokV] [ToldOK]
set_option linter.unusedVariables false
set_option linter.unusedSimpArgs false
set_option linter.unusedSectionVars false
set_option maxRecDepth 10000
set_option maxHeartbeats 1000000
variable {tab : Bt FnD}
/-- what Bits answers -/
def BRes (t : H) (n : Nat) (o : Out) (ms : List MapV) : Prop :=
  ∃ v t' n', o = .ok v t' n' ∧ Sl t' 1 v ((bitsL ms).map by8) ∧ (∀ b ∈ bk v, n ≤ b ∧ b < n') ∧ Gr [] t n t' n'
theorem bits2_ok {y : Yh} {ih : Ih} {t : H} {n : Nat} {src : AV} {xs : List AV} {ms : List MapV} {E : List Nat} (h : Sl t 3 src xs) (hE : Els t xs ms E) (hb : ∀ b ∈ bk src, b < n) (hbE : ∀ b ∈ E, b < n) (hfit : Fit ms) (hR : Rt tab 3 ih) (T : TbM tab) :
    BRes t n (s9 y ih (.cons src .nil) t n) ms := by
  have hbox : ∀ k, pBox (.com 0 0 (.cons (.ref 2 0 0 0 0 0) (.cons (.num 3 (.ofNat 0)) .nil))) t n k = k (.ref 1 n 0 0 0 0) (nw t 2 [.ref 2 0 0 0 0 0, .num 3 (.ofNat 0)] 2 n) (n + 1) := fun k => pBox_com [.ref 2 0 0 0 0 0, .num 3 (.ofNat 0)] 0 t n k
  have hO : Obj (nw t 2 [.ref 2 0 0 0 0 0, .num 3 (.ofNat 0)] 2 n) n [.ref 2 0 0 0 0 0, .num 3 (.ofNat 0)] := Obj.nw (l := [.ref 2 0 0 0 0 0, .num 3 (.ofNat 0)])
  have hf2 : ∀ b, b < n → (nw t 2 [.ref 2 0 0 0 0 0, .num 3 (.ofNat 0)] 2 n).get b = t.get b := fun b hb => nw_ne (by omega)
  generalize nw t 2 [.ref 2 0 0 0 0 0, .num 3 (.ofNat 0)] 2 n = t2 at *
  have hW2 : Wtr 1 t2 (n + 1) n (.ref 2 0 0 0 0 0) [] 0 [] := ⟨hO.cl rfl, hO.cl rfl, hO.wok (by simp), hO.wok (by simp), .nil, by simp, by omega, fun b hb => (by cases hb), by omega⟩
  have hlenx := hE.len
  have hlen3 : xs.length / 3 = ms.length := by omega
  unfold s9
  simp (iota := false) only [SY, reduceCtorEq, if_false, if_true, Nat.zero_add, hbox, cLoop_eq]
  generalize hL : loop _ _ _ _ _ _ _ = o
  have key : ∃ e' t' n' s' F, o = .exit 0 e' t' n' ∧ N16.sel .d3 (row .d0 e') = some (.ref 1 n 0 0 0 0) ∧ Wtr 1 t' n' n s' F (wrAll ms).2 (wrAll ms).1 ∧ (∀ b ∈ F, n + 1 ≤ b) ∧ n + 1 ≤ n' ∧ ∀ b, b < n → t'.get b = t2.get b := by
    rw [← hL]
    refine loop_ind (fun o => ∃ e' t' n' s' F, o = .exit 0 e' t' n' ∧ N16.sel .d3 (row .d0 e') = some (.ref 1 n 0 0 0 0) ∧ Wtr 1 t' n' n s' F (wrAll ms).2 (wrAll ms).1 ∧ (∀ b ∈ F, n + 1 ≤ b) ∧ n + 1 ≤ n' ∧ ∀ b, b < n → t'.get b = t2.get b)
      (fun m e t0 n0 => ∃ i s0 F, i + m = ms.length ∧ N16.sel .d4 (row .d0 e) = some (.num 3 (.ofNat i)) ∧ N16.sel .d0 (row .d0 e) = some src ∧ N16.sel .d3 (row .d0 e) = some (.ref 1 n 0 0 0 0) ∧
        Wtr 1 t0 n0 n s0 F ((ms.take i).foldl wrMap ([], 0)).2 ((ms.take i).foldl wrMap ([], 0)).1 ∧ (∀ b ∈ F, n + 1 ≤ b) ∧ n + 1 ≤ n0 ∧ ∀ b, b < n → t0.get b = t2.get b)
      ?_ fuelL ms.length _ _ _ ⟨0, .ref 2 0 0 0 0 0, [], by omega, ?_⟩ (by unfold fuelL; have := hfit.1; omega)
    · rintro m e t0 n0 rec ⟨i, s0, F, hi, e4, e0, e3, hW, hF, hn, hfr⟩ hrec
      have hmsl := hfit.1
      have hs0 : Sl t0 3 src xs := h.get fun b hb' => (hfr b (hb b hb')).trans (hf2 b (hb b hb'))
      have hE0 : Els t0 xs ms E := hE.get fun b hb' => (hfr b (hbE b hb')).trans (hf2 b (hbE b hb'))
      by_cases hlt : i < ms.length
      · obtain ⟨ls, ss, hcells, hls, hss, hbl, hbs⟩ := hE0.nth (i := i) (m := ms[i]) (by simp [hlt])
        have hmf := hfit.2 ms[i] (by simp)
        have hStl := wrs_len (s := ([], 0)) (ms := ms.take i) (fun m hm => hfit.2 m (List.mem_of_mem_take hm))
        have htk : (ms.take i).length ≤ 2000 := by rw [List.length_take]; omega
        have hfold := foldl_take wrMap ([], 0) hlt
        generalize (ms.take i).foldl wrMap ([], 0) = S at *
        obtain ⟨bs1, er1⟩ := S
        simp only at hW hStl
        simp only [List.length_nil, Nat.zero_add] at hStl
        have hq : ∀ k : K, q0 (.num 3 (.ofNat i)) (.num 3 (.ofNat 1)) k = k (.num 3 (.ofNat (i + 1))) := fun k => q0_n (by omega)
        have hldc : ∀ k, pLdC 3 (plc 3 src i) t0 k = k (.com 0 0 (.cons (.num 3 ms[i].at_) (.cons ls (.cons ss .nil)))) := fun k => by rw [pLdC_plc hs0 (by omega) (by rw [hcells]; rfl), hcells]; rfl
        have hOm : Obj (t0.set (.row 3 (.node (.node .leaf (some ⟨0, .ref 2 0 0 0 0 0⟩) .leaf) (some ⟨0, .num 3 (.ofNat 0)⟩) (.node .leaf (some ⟨0, .ref 2 0 0 0 0 0⟩) .leaf)) 3 0) n0) n0 [.num 3 (.ofNat 0), .ref 2 0 0 0 0 0, .ref 2 0 0 0 0 0] := Obj.nb3
        obtain ⟨t5, hstm, hO5, hf5⟩ := hOm.stC (ws := [.num 3 ms[i].at_, ls, ss]) rfl
        have hstm' : ∀ k, pSt 3 (.ref 1 n0 0 0 0 0) (.com 0 0 (.cons (.num 3 ms[i].at_) (.cons ls (.cons ss .nil)))) (t0.set (.row 3 (.node (.node .leaf (some ⟨0, .ref 2 0 0 0 0 0⟩) .leaf) (some ⟨0, .num 3 (.ofNat 0)⟩) (.node .leaf (some ⟨0, .ref 2 0 0 0 0 0⟩) .leaf)) 3 0) n0) k = k t5 := fun k => hstm k
        have hf05 : ∀ b, b < n0 → t5.get b = t0.get b := fun b hb => by rw [hf5 b (by omega), set_ne (by omega)]
        have hWlt := hW.lt
        have hWlf := hW.lf
        have hW5 : Wtr 1 t5 (n0 + 1) n s0 F er1 bs1 := hW.get (by omega) fun b hb' => hf05 b (by
          rcases hb' with rfl | hb'
          · exact hWlt
          · exact hWlf b hb')
        obtain ⟨s1, t6, n6, F6, hcA, hW6, hg6, hF6⟩ := rw_call (tab := tab) (r2_ok T) (hR.mono (j := 3) (by omega)) T.g27 (v := ms[i].at_) hW5 (by omega)
        have hl6 : (wr2 (bs1, er1) ms[i].at_).1.length ≤ bs1.length + 2 := wr2_len (s := (bs1, er1)) ms[i].at_
        have hn6 : n0 ∉ F6 := fun h' => by
          rcases hF6 n0 h' with h' | h'
          · have := hWlf n0 h'; omega
          · omega
        have hO6 := hO5.get (hg6.get n0 (by omega) (by simp; exact ⟨by omega, fun h' => by have := hWlf n0 h'; omega⟩))
        obtain ⟨s2, t7, n7, F7, hcB, hW7, hg7, hF7⟩ := rw_call (tab := tab) (r1_ok T) (hR.mono (j := 3) (by omega)) T.g28 (v := .ofNat ms[i].lo.length) hW6 (by omega)
        have hl7 := wr1_len (s := wr2 (bs1, er1) ms[i].at_) (.ofNat ms[i].lo.length)
        have hle6 := hg6.le
        have hle7 := hg7.le
        have hn7 : n0 ∉ F7 := fun h' => by
          rcases hF7 n0 h' with h' | h'
          · exact hn6 h'
          · omega
        have hO7 := hO6.get (hg7.get n0 (by omega) (by simp; exact ⟨by omega, hn6⟩))
        obtain ⟨s3, t8, n8, F8, hcC, hW8, hg8, hF8⟩ := rw_call (tab := tab) (r1_ok T) (hR.mono (j := 3) (by omega)) T.g28 (v := .ofNat ms[i].st.length) hW7 (show (wr1 (wr2 (bs1, er1) ms[i].at_) (.ofNat ms[i].lo.length)).1.length ≤ 900000 by omega)
        have hl8 := wr1_len (s := wr1 (wr2 (bs1, er1) ms[i].at_) (.ofNat ms[i].lo.length)) (.ofNat ms[i].st.length)
        have hle8 := hg8.le
        have hO8 := hO7.get (hg8.get n0 (by omega) (by simp; exact ⟨by omega, hn7⟩))
        -- old blocks
        have hold8 : ∀ b, b < n → t8.get b = t0.get b := fun b hb' => by
          have hnF : ∀ b, b < n → b ∉ F := fun b hb' h' => by have := hF b h'; omega
          have hnF6 : ∀ b, b < n → b ∉ F6 := fun b hb' h' => by
            rcases hF6 b h' with h' | h'
            · exact hnF b hb' h'
            · omega
          have hnF7 : ∀ b, b < n → b ∉ F7 := fun b hb' h' => by
            rcases hF7 b h' with h' | h'
            · exact hnF6 b hb' h'
            · omega
          rw [hg8.get b (by omega) (by simp; exact ⟨by omega, hnF7 b hb'⟩), hg7.get b (by omega) (by simp; exact ⟨by omega, hnF6 b hb'⟩), hg6.get b (by omega) (by simp; exact ⟨by omega, hnF b hb'⟩), hf05 b (by omega)]
        have hF8' : ∀ b ∈ F8, n + 1 ≤ b := fun b hb' => by
          rcases hF8 b hb' with h' | h'
          · rcases hF7 b h' with h' | h'
            · rcases hF6 b h' with h' | h'
              · exact hF b h'
              · omega
            · omega
          · omega
        have hls8 : Sl t8 1 ls (ms[i].lo.map bV) := hls.get fun b hb' => hold8 b (hbE b (hbl b hb'))
        obtain ⟨v83, t9, n9, F9, hap1, hO91, hg9, hF9⟩ := app_ow (bytes := 1) (n := n8) (Ow.nil (t := t8) (sz := 1)) hls8 (by omega) (fun b hb => by cases hb) (by simp; omega)
        have hF9' : ∀ b ∈ F9, n8 ≤ b ∧ b < n9 := fun b hb' => ⟨by have := (hF9 b hb').1; simp at this; exact this, (hF9 b hb').2⟩
        have hle9 := hg9.le
        have hss9 : Sl t9 1 ss (ms[i].st.map bV) := (hss.get fun b hb' => hold8 b (hbE b (hbs b hb'))).get fun b hb' => hg9.get b (by have := hbE b (hbs b hb'); omega) (by simp)
        obtain ⟨v34, t10, n10, FB, hap2, hOB, hg10, hFB⟩ := app_ow (bytes := 1) (n := n9) hO91 hss9 (by omega) (fun b hb => (hF9' b hb).2) (by simp; omega)
        have hle10 := hg10.le
        have hFB' : ∀ b ∈ FB, n8 ≤ b ∧ b < n10 := fun b hb' => ⟨by
          rcases (hFB b hb').1 with h' | h'
          · exact (hF9' b h').1
          · omega, (hFB b hb').2⟩
        rw [List.nil_append, ← List.map_append] at hOB
        have hkeep10 : ∀ b, b < n8 → t10.get b = t8.get b := fun b hb' => by
          rw [hg10.get b (by omega) (fun h' => by have := hF9' b h'; omega), hg9.get b hb' (by simp)]
        have hO9 := hO8.get (hg9.get n0 (by omega) (by simp))
        have hW8lt := hW8.lt
        have hW8lf := hW8.lf
        have hW10 : Wtr 1 t10 n10 n s3 F8 (wr1 (wr1 (wr2 (bs1, er1) ms[i].at_) (.ofNat ms[i].lo.length)) (.ofNat ms[i].st.length)).2 (wr1 (wr1 (wr2 (bs1, er1) ms[i].at_) (.ofNat ms[i].lo.length)) (.ofNat ms[i].st.length)).1 := hW8.get (by omega) fun b hb' => hkeep10 b (by
          rcases hb' with rfl | hb'
          · exact hW8lt
          · exact hW8lf b hb')
        have hwm : wrMap (bs1, er1) ms[i] = wrB (wr1 (wr1 (wr2 (bs1, er1) ms[i].at_) (.ofNat ms[i].lo.length)) (.ofNat ms[i].st.length)) (encL (ms[i].lo ++ ms[i].st)) := rfl
        have hS3l : (wr1 (wr1 (wr2 (bs1, er1) ms[i].at_) (.ofNat ms[i].lo.length)) (.ofNat ms[i].st.length)).1.length ≤ 200000 := by omega
        generalize (wr1 (wr1 (wr2 (bs1, er1) ms[i].at_) (.ofNat ms[i].lo.length)) (.ofNat ms[i].st.length)) = S3 at *
        have hbl8 : (ms[i].lo ++ ms[i].st).length ≤ 600 := by rw [List.length_append]; omega
        have hlen1 : ∀ k : K, pLenL ls k = k (.num 3 (.ofNat ms[i].lo.length)) := fun k => by rw [pLenL_sl hls Nat.one_pos, Nat.div_one, List.length_map]
        have hlen2 : ∀ k : K, pLenL ss k = k (.num 3 (.ofNat ms[i].st.length)) := fun k => by rw [pLenL_sl hss Nat.one_pos, Nat.div_one, List.length_map]
        have hi3 : i * 3 < xs.length := by omega
        simp (iota := false) only [SY, reduceCtorEq, if_false, if_true, Nat.zero_add, e4, e0, e3, pLenL_sl hs0 (show 0 < 3 by omega), hlen3, hlt, pIad_sl hs0 hi3, hldc, nb_eq, hstm', hO5.cl (i := 0) rfl, hO6.cl (i := 1) rfl, hO7.cl (i := 2) rfl, hO8.cl (i := 1) rfl, hO9.cl (i := 2) rfl, Option.isSome_some, Option.getD_some, hcA, hcB, hcC, hlen1, hlen2, hap1, hap2, cLoop_eq]
        generalize hL2 : loop _ _ _ _ _ _ _ = o2
        have key2 : ∃ e' t' n' s' F', o2 = .exit 2 e' t' n' ∧ N16.sel .d3 (row .d0 e') = some (.ref 1 n 0 0 0 0) ∧ N16.sel .d4 (row .d0 e') = some (.num 3 (.ofNat i)) ∧ N16.sel .d0 (row .d0 e') = some src ∧
            Wtr 1 t' n' n s' F' (wrMap (bs1, er1) ms[i]).2 (wrMap (bs1, er1) ms[i]).1 ∧ Gr (n :: F8) t10 n10 t' n' ∧ ∀ b ∈ F', b ∈ F8 ∨ n10 ≤ b := by
          rw [← hL2]
          refine loop_ind (fun o2 => ∃ e' t' n' s' F', o2 = .exit 2 e' t' n' ∧ N16.sel .d3 (row .d0 e') = some (.ref 1 n 0 0 0 0) ∧ N16.sel .d4 (row .d0 e') = some (.num 3 (.ofNat i)) ∧ N16.sel .d0 (row .d0 e') = some src ∧
            Wtr 1 t' n' n s' F' (wrMap (bs1, er1) ms[i]).2 (wrMap (bs1, er1) ms[i]).1 ∧ Gr (n :: F8) t10 n10 t' n' ∧ ∀ b ∈ F', b ∈ F8 ∨ n10 ≤ b)
            (fun m e t n' => ∃ q s' F', q + m = ((ms[i].lo ++ ms[i].st).length + 7) / 8 ∧ N16.sel .d7 (row .d0 e) = some (.num 3 (.ofNat (8 * q))) ∧ N16.sel .d6 (row .d0 e) = some v34 ∧ N16.sel .d3 (row .d0 e) = some (.ref 1 n 0 0 0 0) ∧ N16.sel .d4 (row .d0 e) = some (.num 3 (.ofNat i)) ∧ N16.sel .d0 (row .d0 e) = some src ∧
              Wtr 1 t n' n s' F' (wrB S3 ((encL (ms[i].lo ++ ms[i].st)).take q)).2 (wrB S3 ((encL (ms[i].lo ++ ms[i].st)).take q)).1 ∧ Gr (n :: F8) t10 n10 t n' ∧ ∀ b ∈ F', b ∈ F8 ∨ n10 ≤ b)
            ?_ fuelL (((ms[i].lo ++ ms[i].st).length + 7) / 8) _ _ _ ⟨0, s3, F8, by omega, ?_⟩ (by unfold fuelL; omega)
          · rintro m2 e t n' rec2 ⟨q, s', F', hq2, e7, e6, e3, e4, e0, hWq, hGq, hFq⟩ hrec2
            generalize hbits : ms[i].lo ++ ms[i].st = bits at *
            have hslB : Sl t 1 v34 (bits.map bV) := (hOB.get fun b hb' => hGq.get b (hFB' b hb').2 (by
              have := hFB' b hb'; simp; exact ⟨by omega, fun h' => by have := hW8lf b h'; omega⟩)).sl
            have hlenB : ∀ k : K, pLenL v34 k = k (.num 3 (.ofNat bits.length)) := fun k => by rw [pLenL_sl hslB Nat.one_pos, Nat.div_one, List.length_map]
            by_cases hq8 : q < (bits.length + 7) / 8
            · have hlt8 : 8 * q < bits.length := by omega
              have hqn : ∀ k : K, q0 (.num 3 (.ofNat (8 * q))) (.num 3 (.ofNat 8)) k = k (.num 3 (.ofNat (8 * (q + 1)))) := fun k => by rw [q0_n (by omega)]; congr 3
              have hqlen : (wrB S3 ((encL bits).take q)).1.length ≤ 900000 := by
                have h1 : ((encL bits).take q).length ≤ 76 := by rw [List.length_take, encL_len]; omega
                unfold wrB
                split
                · omega
                · simp only [List.length_append]; omega
              obtain ⟨s4, t11, n11, F11, hcU, hWU, hgU, hFU⟩ := rw_call (tab := tab) (r1_ok T) (hR.mono (j := 3) (by omega)) T.g28 (v := .ofNat (encB bits q)) hWq hqlen
              have hwq : wr1 (wrB S3 ((encL bits).take q)) (.ofNat (encB bits q)) = wrB S3 ((encL bits).take (q + 1)) := by rw [wr1_enc, wrB_app, encL_take_succ hq8]
              simp (iota := false) only [SY, reduceCtorEq, if_false, if_true, Nat.zero_add, e7, e6, e3, e4, e0, hlenB, hlt8, cLoop_eq]
              generalize hL3 : loop _ _ _ _ _ _ _ = o3
              have key3 : ∃ e', o3 = .exit 4 e' t n' ∧ N16.sel .d8 (row .d0 e') = some (.num 3 (.ofNat (encB bits q))) ∧ N16.sel .d7 (row .d0 e') = some (.num 3 (.ofNat (8 * q))) ∧ N16.sel .d6 (row .d0 e') = some v34 ∧ N16.sel .d3 (row .d0 e') = some (.ref 1 n 0 0 0 0) ∧ N16.sel .d4 (row .d0 e') = some (.num 3 (.ofNat i)) ∧ N16.sel .d0 (row .d0 e') = some src := by
                rw [← hL3]
                refine loop_ind (fun o3 => ∃ e', o3 = .exit 4 e' t n' ∧ N16.sel .d8 (row .d0 e') = some (.num 3 (.ofNat (encB bits q))) ∧ N16.sel .d7 (row .d0 e') = some (.num 3 (.ofNat (8 * q))) ∧ N16.sel .d6 (row .d0 e') = some v34 ∧ N16.sel .d3 (row .d0 e') = some (.ref 1 n 0 0 0 0) ∧ N16.sel .d4 (row .d0 e') = some (.num 3 (.ofNat i)) ∧ N16.sel .d0 (row .d0 e') = some src)
                  (fun m3 e t1 n1 => t1 = t ∧ n1 = n' ∧ ∃ j, j + m3 = 8 ∧ N16.sel .d9 (row .d0 e) = some (.num 3 (.ofNat j)) ∧ N16.sel .d8 (row .d0 e) = some (.num 3 (.ofNat (vTo bits q j))) ∧ N16.sel .d7 (row .d0 e) = some (.num 3 (.ofNat (8 * q))) ∧ N16.sel .d6 (row .d0 e) = some v34 ∧ N16.sel .d3 (row .d0 e) = some (.ref 1 n 0 0 0 0) ∧ N16.sel .d4 (row .d0 e) = some (.num 3 (.ofNat i)) ∧ N16.sel .d0 (row .d0 e) = some src)
                  ?_ fuelL 8 _ _ _ ⟨rfl, rfl, 0, by omega, ?_⟩ (by unfold fuelL; omega)
                · rintro m3 e t1 n1 rec3 ⟨rfl, rfl, j, hj, e9, e8, e7, e6, e3, e4, e0⟩ hrec3
                  by_cases hj8 : j < 8
                  · have hvl := vTo_lt bits q j
                    have hp : (2 : Nat) ^ j ≤ 2 ^ 8 := Nat.pow_le_pow_right (by omega) (by omega)
                    have hq2' : ∀ k : K, q2 (.num 3 (.ofNat 2)) (.num 3 (.ofNat (vTo bits q j))) k = k (.num 3 (.ofNat (2 * vTo bits q j))) := fun k => q2_n (by omega)
                    have hqa : ∀ k : K, q0 (.num 3 (.ofNat (8 * q))) (.num 3 (.ofNat j)) k = k (.num 3 (.ofNat (8 * q + j))) := fun k => q0_n (by omega)
                    have hqv : ∀ k : K, q0 (.num 3 (.ofNat (2 * vTo bits q j))) (.num 3 (.ofNat 1)) k = k (.num 3 (.ofNat (2 * vTo bits q j + 1))) := fun k => q0_n (by omega)
                    have hqj : ∀ k : K, q0 (.num 3 (.ofNat j)) (.num 3 (.ofNat 1)) k = k (.num 3 (.ofNat (j + 1))) := fun k => q0_n (by omega)
                    have next : ∀ e', N16.sel .d9 (row .d0 e') = some (.num 3 (.ofNat (j + 1))) → N16.sel .d8 (row .d0 e') = some (.num 3 (.ofNat (vTo bits q (j + 1)))) → N16.sel .d7 (row .d0 e') = some (.num 3 (.ofNat (8 * q))) → N16.sel .d6 (row .d0 e') = some v34 → N16.sel .d3 (row .d0 e') = some (.ref 1 n 0 0 0 0) → N16.sel .d4 (row .d0 e') = some (.num 3 (.ofNat i)) → N16.sel .d0 (row .d0 e') = some src → _ := fun e' a1 a2 a3 a4 a5 a6 a7 => hrec3 (m3 - 1) e' t1 n1 (by omega) ⟨rfl, rfl, j + 1, by omega, a1, a2, a3, a4, a5, a6, a7⟩
                    by_cases hin : 8 * q + j < bits.length
                    · have hget : (bits.map bV)[8 * q + j]? = some (bV bits[8 * q + j]) := by simp [hin]
                      have hbn : bitN bits (8 * q + j) = bits[8 * q + j].toNat := by unfold bitN; rw [List.getD_eq_getElem?_getD, List.getElem?_eq_getElem hin]; rfl
                      have hvs : vTo bits q (j + 1) = 2 * vTo bits q j + bits[8 * q + j].toNat := by rw [← hbn]; rfl
                      by_cases hbt : bits[8 * q + j] = true
                      · rw [hbt] at hvs
                        simp (iota := false) only [vbool_bV, SY, reduceCtorEq, if_false, if_true, Nat.zero_add, e9, e8, e7, e6, e3, e4, e0, hj8, hq2', hqa, hlenB, hin, pIad_sl hslB (show (8 * q + j) * 1 < (bits.map bV).length by simpa using hin), pLd_plc hslB hget, hbt, hqv, hqj]
                        refine next _ ?_ ?_ ?_ ?_ ?_ ?_ ?_ <;> (try rw [hvs]) <;> simp (iota := false) only [SY, reduceCtorEq, if_false, if_true, e7, e6, e3, e4, e0, Bool.toNat_true]
                      · have hbf : bits[8 * q + j] = false := by simpa using hbt
                        rw [hbf] at hvs
                        simp (iota := false) only [vbool_bV, SY, reduceCtorEq, if_false, if_true, Nat.zero_add, e9, e8, e7, e6, e3, e4, e0, hj8, hq2', hqa, hlenB, hin, pIad_sl hslB (show (8 * q + j) * 1 < (bits.map bV).length by simpa using hin), pLd_plc hslB hget, hbf, Bool.false_eq_true, hqj]
                        refine next _ ?_ ?_ ?_ ?_ ?_ ?_ ?_ <;> (try rw [hvs]) <;> simp (iota := false) only [SY, reduceCtorEq, if_false, if_true, e7, e6, e3, e4, e0, Bool.toNat_false, Nat.add_zero]
                    · have hbn : bitN bits (8 * q + j) = 0 := by unfold bitN; rw [List.getD_eq_getElem?_getD, List.getElem?_eq_none (by omega)]; rfl
                      have hvs : vTo bits q (j + 1) = 2 * vTo bits q j := by show 2 * vTo bits q j + bitN bits (8 * q + j) = _; rw [hbn, Nat.add_zero]
                      simp (iota := false) only [vbool_bV, SY, reduceCtorEq, if_false, if_true, Nat.zero_add, e9, e8, e7, e6, e3, e4, e0, hj8, hq2', hqa, hlenB, hin, hqj]
                      refine next _ ?_ ?_ ?_ ?_ ?_ ?_ ?_ <;> (try rw [hvs]) <;> simp (iota := false) only [SY, reduceCtorEq, if_false, if_true, e7, e6, e3, e4, e0]
                  · have : j = 8 := by omega
                    subst this
                    simp (iota := false) only [SY, reduceCtorEq, if_false, if_true, e9, Nat.lt_irrefl]
                    refine ⟨_, rfl, ?_⟩
                    simp (iota := false) only [SY, reduceCtorEq, if_false, if_true, e8, e7, e6, e3, e4, e0, and_self, and_true]
                    rfl
                · simp (iota := false) only [SY, reduceCtorEq, if_false, if_true, true_and, e7, e6, e3, e4, e0, and_self, and_true]
                  rfl
              obtain ⟨e5, rfl, f8, f7, f6, f3, f4, f0⟩ := key3
              simp (iota := false) only [SY, reduceCtorEq, if_false, if_true, f8, f7, f6, f3, f4, f0, hcU, hqn]
              refine hrec2 (m2 - 1) _ _ _ (by omega) ⟨q + 1, s4, F11, by omega, ?_⟩
              simp (iota := false) only [SY, reduceCtorEq, if_false, if_true, f6, f3, f4, f0, true_and]
              have hglq := hGq.le
              refine ⟨by rw [← hwq]; exact hWU, hGq.trans hgU fun b hb' => ?_, fun b hb' => ?_⟩
              · rcases List.mem_cons.1 hb' with rfl | hb'
                · exact .inl (by simp)
                · rcases hFq b hb' with h' | h'
                  · exact .inl (by simp [h'])
                  · exact .inr h'
              · rcases hFU b hb' with h' | h'
                · exact hFq b h'
                · exact .inr (by omega)
            · have hqL : q = (bits.length + 7) / 8 := by omega
              have hnlt : ¬ 8 * q < bits.length := by omega
              simp (iota := false) only [SY, reduceCtorEq, if_false, if_true, Nat.zero_add, e7, e6, hlenB, hnlt]
              refine ⟨_, _, _, s', F', rfl, ?_⟩
              rw [List.take_of_length_le (by rw [encL_len]; omega), ← hwm] at hWq
              simp (iota := false) only [SY, reduceCtorEq, if_false, if_true, e3, e4, e0, true_and]
              exact ⟨hWq, hGq, hFq⟩
          · simp (iota := false) only [SY, reduceCtorEq, if_false, if_true, true_and, e3, e4, e0, Nat.mul_zero, List.take_zero, wrB_nil]
            exact ⟨hW10, .refl _ _ _, fun b hb => .inl hb⟩
        obtain ⟨e', t11, n11, s', F', rfl, f3, f4, f0, hWn, hGn, hFn⟩ := key2
        simp (iota := false) only [SY, reduceCtorEq, if_false, if_true, f3, f4, f0, hq]
        refine hrec (m - 1) _ _ _ (by omega) ⟨i + 1, s', F', by omega, ?_⟩
        have hgln := hGn.le
        simp (iota := false) only [SY, reduceCtorEq, if_false, if_true, f3, f0, true_and]
        refine ⟨by rw [hfold]; exact hWn, fun b hb' => ?_, by omega, fun b hb' => ?_⟩
        · rcases hFn b hb' with h' | h'
          · exact hF8' b h'
          · omega
        · rw [hGn.get b (by omega) (by simp; exact ⟨by omega, fun h' => by have := hF8' b h'; omega⟩), hkeep10 b (by omega), hold8 b hb', hfr b hb']
      · have : i = ms.length := by omega
        subst this
        simp (iota := false) only [SY, reduceCtorEq, if_false, if_true, e4, e0, pLenL_sl hs0 (show 0 < 3 by omega), hlen3, Nat.lt_irrefl]
        rw [List.take_length] at hW
        refine ⟨_, t0, n0, s0, F, rfl, ?_, hW, hF, hn, hfr⟩
        simp (iota := false) only [SY, reduceCtorEq, if_false, if_true, e3]
    · simp (iota := false) only [SY, reduceCtorEq, if_false, if_true, true_and]
      exact ⟨hW2, fun b hb => (by cases hb), Nat.le_refl _, fun _ _ => trivial⟩
  obtain ⟨e', t', n', s', F, rfl, e3, hW, hF, hn, hf⟩ := key
  have hgr : Gr [] t n t' n' := ⟨by omega, fun b hb' _ => by rw [hf b hb', hf2 b hb']⟩
  by_cases her : (wrAll ms).2 = 0
  · simp (iota := false) only [SY, reduceCtorEq, if_false, if_true, Nat.zero_add, e3, hW.c2, hW.c0, Option.isSome_some, Option.getD_some, her, ne_eq, not_true]
    refine ⟨_, _, _, rfl, ?_, fun b hb' => ?_, hgr⟩
    · rw [show bitsL ms = (wrAll ms).1 by unfold bitsL; rw [if_neg (by simpa using her)]]; exact hW.ow.sl
    · rw [hW.ow.bk] at hb'; have := hF b hb'; exact ⟨by omega, hW.lf b hb'⟩
  · simp (iota := false) only [SY, reduceCtorEq, if_false, if_true, Nat.zero_add, e3, hW.c2, Option.isSome_some, Option.getD_some, her, ne_eq, not_false_eq_true]
    refine ⟨_, _, _, rfl, ?_, fun b hb' => (by cases hb'), hgr⟩
    rw [show bitsL ms = [] by unfold bitsL; rw [if_pos her]]; exact .nil
end Ev
