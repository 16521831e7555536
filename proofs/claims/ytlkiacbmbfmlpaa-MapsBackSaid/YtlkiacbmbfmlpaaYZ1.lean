import Derived.Test.YtlkiacbmbfmlpaaYY
/- Maps are read (the document's, 2). -/
namespace Ev
open Go
variable [Told] [TokV] [ToldOK]
set_option linter.unusedVariables false
set_option linter.unusedSimpArgs false
set_option linter.unusedSectionVars false
set_option maxRecDepth 10000
set_option maxHeartbeats 1000000
variable {tab : Bt FnD}
theorem mem_drop_of {B : List Bool} {m k : Nat} (hk : k < B.length) (hm : m ≤ k) (h : B[k] = true) : true ∈ B.drop m := by
  rw [← h]
  rw [List.mem_iff_getElem?]
  exact ⟨k - m, by rw [List.getElem?_drop, show m + (k - m) = k by omega, List.getElem?_eq_getElem hk]⟩
theorem no_drop {B : List Bool} {m : Nat} (h : ∀ q, m ≤ q → q < B.length → B[q]? = some false) : true ∉ B.drop m := by
  intro hm
  rw [List.mem_iff_getElem?] at hm
  obtain ⟨i, hi⟩ := hm
  rw [List.getElem?_drop] at hi
  have hlt := lt_of_get hi
  rw [h _ (by omega) hlt] at hi
  cases hi
theorem parse2_ok {y : Yh} {ih : Ih} {t : H} {n : Nat} {s : AV} {bs : List Nat} (h : Sl t 1 s (bs.map by8)) (h5 : ∀ b e o l c, s ≠ .ref 5 b e o l c) (hb : ∀ b ∈ bk s, b < n) (hx : ∀ x ∈ bs, x < 256) (hl : bs.length ≤ 18000) (hR : Rt tab 3 ih) (T : TbM tab) :
    PRes t n (s7 y ih (.cons s .nil) t n) bs := by
  have hbox : ∀ k, pBox (.com 0 0 (.cons s (.cons (.num 3 (.ofNat 0)) (.cons (.num 3 (.ofNat 0)) .nil)))) t n k = k (.ref 1 n 0 0 0 0) (nw t 3 [s, .num 3 (.ofNat 0), .num 3 (.ofNat 0)] 3 n) (n + 1) := fun k => pBox_com [s, .num 3 (.ofNat 0), .num 3 (.ofNat 0)] 0 t n k
  have hO : Obj (nw t 3 [s, .num 3 (.ofNat 0), .num 3 (.ofNat 0)] 3 n) n [s, .num 3 (.ofNat 0), .num 3 (.ofNat 0)] := Obj.nw (l := [s, .num 3 (.ofNat 0), .num 3 (.ofNat 0)])
  have hf2 : ∀ b, b < n → (nw t 3 [s, .num 3 (.ofNat 0), .num 3 (.ofNat 0)] 3 n).get b = t.get b := fun b hb => nw_ne (by omega)
  generalize nw t 3 [s, .num 3 (.ofNat 0), .num 3 (.ofNat 0)] 3 n = t2 at *
  have hr2 : Rdr t2 (n + 1) n s 0 0 (bs.map by8) := ⟨hO.cl rfl, hO.cl rfl, hO.cl rfl, hO.wok (by simp), hO.wok (by simp), h.get fun b hb' => hf2 b (hb b hb'), h5, by omega, fun b hb' => by have := hb b hb'; omega, by simp, by simp; omega⟩
  unfold s7
  simp (iota := false) only [SY, reduceCtorEq, if_false, if_true, Nat.zero_add, parts_3_0 h.ck, hbox, cLoop_eq]
  generalize hL : loop _ _ _ _ _ _ _ = o
  have key : (∃ e' t' n' v r xs F E, o = .exit 0 e' t' n' ∧ N16.sel .d5 (row .d0 e') = some v ∧ Parses bs 0 [] r 0 ∧ PSt (n + 1) t' n' v r xs F E ∧ n + 1 ≤ n' ∧ ∀ b, b < n → t'.get b = t2.get b) ∨
      (∃ e' t' n' c, o = .ret e' t' n' ∧ N16.sel .d2 (row .d0 e') = some (.ref 2 0 0 0 0 0) ∧ N16.sel .d3 (row .d0 e') = some (.num 3 (.ofNat c)) ∧ Parses bs 0 [] [] c ∧ n + 1 ≤ n' ∧ ∀ b, b < n → t'.get b = t2.get b) := by
    rw [← hL]
    refine loop_ind (fun o => (∃ e' t' n' v r xs F E, o = .exit 0 e' t' n' ∧ N16.sel .d5 (row .d0 e') = some v ∧ Parses bs 0 [] r 0 ∧ PSt (n + 1) t' n' v r xs F E ∧ n + 1 ≤ n' ∧ ∀ b, b < n → t'.get b = t2.get b) ∨
      (∃ e' t' n' c, o = .ret e' t' n' ∧ N16.sel .d2 (row .d0 e') = some (.ref 2 0 0 0 0 0) ∧ N16.sel .d3 (row .d0 e') = some (.num 3 (.ofNat c)) ∧ Parses bs 0 [] [] c ∧ n + 1 ≤ n' ∧ ∀ b, b < n → t'.get b = t2.get b))
      (fun k e t0 n0 => ∃ p acc s0 xs F E, p + k = bs.length ∧ N16.sel .d4 (row .d0 e) = some (.ref 1 n 0 0 0 0) ∧ N16.sel .d5 (row .d0 e) = some s0 ∧ Rdr t0 n0 n s p 0 (bs.map by8) ∧ PSt (n + 1) t0 n0 s0 acc xs F E ∧ n + 1 ≤ n0 ∧ acc.length ≤ p ∧ (∀ r c, Parses bs p acc r c → Parses bs 0 [] r c) ∧ ∀ b, b < n → t0.get b = t2.get b)
      ?_ fuelL bs.length _ _ _ ⟨0, [], .ref 2 0 0 0 0 0, [], [], [], by omega, ?_⟩ (by unfold fuelL; omega)
    · rintro k e t0 n0 rec ⟨p, acc, s0, xs, F, E, hp, e4, e5, hr, hP, hn, hacc, hpar, hfr⟩ hrec
      obtain ⟨_, t3, n3, hcl, rfl, rfl, rfl⟩ := call (a := .cons (.ref 1 n 0 0 0 0) .nil) (t := t0) (n := n0) hR T.g17 (P := fun v t' n' => v = .num 3 (.ofNat (bs.length - p)) ∧ t' = t0 ∧ n' = n0) fun ih' hR' => ⟨_, _, _, by have := left2_ok (y := noY) (ih := ih') hr; rw [List.length_map] at this; exact this, rfl, rfl, rfl⟩
      by_cases hlt : p < bs.length
      · have hpos : 0 < bs.length - p := by omega
        obtain ⟨t4, hcA, hrA, hgA⟩ := numSpec_call (tab := tab) (u2b_ok T) (hR.mono (j := 3) (by omega)) T.g18 hr hx
        have hOm : Obj (t4.set (.row 3 (.node (.node .leaf (some ⟨0, .ref 2 0 0 0 0 0⟩) .leaf) (some ⟨0, .num 3 (.ofNat 0)⟩) (.node .leaf (some ⟨0, .ref 2 0 0 0 0 0⟩) .leaf)) 3 0) n3) n3 [.num 3 (.ofNat 0), .ref 2 0 0 0 0 0, .ref 2 0 0 0 0 0] := Obj.nb3
        obtain ⟨t5, hstm, hO5, hf5⟩ := hOm.stC (ws := [.num 3 (.ofNat (numP (takeN bs p 0 2).1)), .ref 2 0 0 0 0 0, .ref 2 0 0 0 0 0]) rfl
        have hstm' : ∀ k, pSt 3 (.ref 1 n3 0 0 0 0) (.com 0 0 (.cons (.num 3 (.ofNat (numP (takeN bs p 0 2).1))) (.cons (.ref 2 0 0 0 0 0) (.cons (.ref 2 0 0 0 0 0) .nil)))) (t4.set (.row 3 (.node (.node .leaf (some ⟨0, .ref 2 0 0 0 0 0⟩) .leaf) (some ⟨0, .num 3 (.ofNat 0)⟩) (.node .leaf (some ⟨0, .ref 2 0 0 0 0 0⟩) .leaf)) 3 0) n3) k = k t5 := fun k => hstm k
        have hf45 : ∀ b, b < n3 → t5.get b = t4.get b := fun b hb => by rw [hf5 b (by omega), set_ne (by omega)]
        have hrA5 := hrA.get (n' := n3 + 1) (by omega) hf45
        obtain ⟨t6, hcB, hrB, hgB⟩ := numSpec_call (tab := tab) (u1b_ok T) (hR.mono (j := 3) (by omega)) T.g19 hrA5 hx
        obtain ⟨t7, hcC, hrC, hgC⟩ := numSpec_call (tab := tab) (u1b_ok T) (hR.mono (j := 3) (by omega)) T.g19 hrB hx
        have hlo := num1 (p := (takeN bs p 0 2).2.1) (er := (takeN bs p 0 2).2.2) hx
        have hst1 := num1 (p := (takeN bs (takeN bs p 0 2).2.1 (takeN bs p 0 2).2.2 1).2.1) (er := (takeN bs (takeN bs p 0 2).2.1 (takeN bs p 0 2).2.2 1).2.2) hx
        have r1 := takeN_er (bs := bs) (p := p) (er := 0) (m := 2) (.inl rfl)
        have r2 := takeN_er (bs := bs) (p := (takeN bs p 0 2).2.1) (m := 1) r1
        have r3 := takeN_er (bs := bs) (p := (takeN bs (takeN bs p 0 2).2.1 (takeN bs p 0 2).2.2 1).2.1) (m := 1) r2
        have hstep : pstep bs p = pstep bs p := rfl
        conv at hstep => rhs; unfold pstep
        simp only at hstep
        generalize hat : numP (takeN bs p 0 2).1 = at_ at *
        generalize (takeN bs p 0 2).2.1 = p1 at *
        generalize (takeN bs p 0 2).2.2 = e1 at *
        generalize numP (takeN bs p1 e1 1).1 = lo at *
        generalize (takeN bs p1 e1 1).2.1 = p2 at *
        generalize (takeN bs p1 e1 1).2.2 = e2 at *
        generalize numP (takeN bs p2 e2 1).1 = st at *
        generalize (takeN bs p2 e2 1).2.1 = p3 at *
        generalize (takeN bs p2 e2 1).2.2 = e3 at *
        have hkeep7 : ∀ b, b < n3 → b ≠ n → t7.get b = t3.get b := fun b hb hbw => by
          rw [hgC.get b (by omega) (by simpa using hbw), hgB.get b (by omega) (by simpa using hbw), hf45 b hb, hgA.get b hb (by simpa using hbw)]
        have hq : ∀ k : K, q0 (.num 3 (.ofNat lo)) (.num 3 (.ofNat st)) k = k (.num 3 (.ofNat (lo + st))) := fun k => q0_n (by omega)
        have hq7 : ∀ k : K, q0 (.num 3 (.ofNat (lo + st))) (.num 3 (.ofNat 7)) k = k (.num 3 (.ofNat (lo + st + 7))) := fun k => q0_n (by omega)
        have hq8 : ∀ k : K, q3 (.num 3 (.ofNat (lo + st + 7))) (.num 3 (.ofNat 8)) k = k (.num 3 (.ofNat ((lo + st + 7) / 8))) := fun k => q3_n (by omega) (by omega)
        obtain ⟨v8, t8, n8, hcD, G, hrD, hv8, hgD, hG⟩ := call (a := .cons (.ref 1 n 0 0 0 0) (.cons (.num 3 (.ofNat ((lo + st + 7) / 8))) .nil)) (t := t7) (n := n3 + 1) (hR.mono (j := 2) (by omega)) T.g20
          (P := fun v t' n' => ∃ G : List Nat, Rdr t' n' n s (takeN bs p3 e3 ((lo + st + 7) / 8)).2.1 (takeN bs p3 e3 ((lo + st + 7) / 8)).2.2 (bs.map by8) ∧ Ow t' 1 v ((takeN bs p3 e3 ((lo + st + 7) / 8)).1.map by8) G ∧ Gr [n] t7 (n3 + 1) t' n' ∧ ∀ b ∈ G, n3 + 1 ≤ b ∧ b < n') fun ih' hR' => by
          obtain ⟨v, t', n', G, q1, q2, q3, q4, q5⟩ := bytes2_ok T (fun {y ih t n w s p m er bs} h hm => take2_ok (y := y) (ih := ih) h hm) (y := noY) (m := (lo + st + 7) / 8) hrC (by omega) hR'
          rw [takeP_map] at q2 q3
          exact ⟨v, t', n', q1, G, q2, q3, q4, q5⟩
        have her := takeN_er (bs := bs) (p := p3) (m := (lo + st + 7) / 8) r3
        have hfull := takeN_full (bs := bs) (p := p3) (er := e3) (m := (lo + st + 7) / 8)
        have hmem : ∀ x ∈ (takeN bs p3 e3 ((lo + st + 7) / 8)).1, x < 256 := fun x hxm => hx x (takeN_mem hxm)
        generalize (takeN bs p3 e3 ((lo + st + 7) / 8)).1 = R at *
        generalize (takeN bs p3 e3 ((lo + st + 7) / 8)).2.1 = p4 at *
        generalize (takeN bs p3 e3 ((lo + st + 7) / 8)).2.2 = e5' at *
        have hkeep8 : ∀ b, b < n3 → b ≠ n → t8.get b = t3.get b := fun b hb hbw => by rw [hgD.get b (by omega) (by simpa using hbw), hkeep7 b hb hbw]
        have hnD := hgD.le
        by_cases he5 : e5' = 0
        · subst he5
          rw [if_neg (by simp)] at hstep
          have hRl : R.length = (lo + st + 7) / 8 := hfull rfl
          have hBl : (bitsOf R).length = 8 * R.length := bitsOf_len R
          have hO8 : Obj t8 n3 [.num 3 (.ofNat at_), .ref 2 0 0 0 0 0, .ref 2 0 0 0 0 0] := hO5.get (by rw [hgD.get n3 (by omega) (by simp; omega), hgC.get n3 (by omega) (by simp; omega), hgB.get n3 (by omega) (by simp; omega)])
          simp (iota := false) only [eqAt_ok, SY, reduceCtorEq, if_false, if_true, Nat.zero_add, e4, e5, Option.isSome_some, Option.getD_some, hcl, hpos, hcA, parts_3_0 (ck_num _ _), nb_eq, hstm', hcB, hcC, hq, hq7, hq8, hcD, hrD.c2, ne_eq, not_true, cLoop_eq]
          generalize hL2 : loop _ _ _ _ _ _ _ = o2
          have key2 : (∃ e' t' n' ls ss FL FS, o2 = .exit 2 e' t' n' ∧ N16.sel .d4 (row .d0 e') = some (.ref 1 n 0 0 0 0) ∧ N16.sel .d5 (row .d0 e') = some s0 ∧ N16.sel .d6 (row .d0 e') = some (.ref 1 n3 0 0 0 0) ∧ Obj t' n3 [.num 3 (.ofNat at_), ls, ss] ∧
                Ow t' 1 ls ((loTo (bitsOf R) lo (8 * R.length)).map bV) FL ∧ Ow t' 1 ss ((stTo (bitsOf R) lo st (8 * R.length)).map bV) FS ∧ (∀ b ∈ FL, n8 ≤ b ∧ b < n') ∧ (∀ b ∈ FS, n8 ≤ b ∧ b < n') ∧ n8 ≤ n' ∧ (∀ b, b < n8 → b ≠ n3 → t'.get b = t8.get b) ∧ true ∉ (bitsOf R).drop (lo + st)) ∨
              (∃ e' t' n', o2 = .ret e' t' n' ∧ N16.sel .d2 (row .d0 e') = some (.ref 2 0 0 0 0 0) ∧ N16.sel .d3 (row .d0 e') = some (.num 3 (.ofNat 1)) ∧ true ∈ (bitsOf R).drop (lo + st) ∧ n8 ≤ n' ∧ ∀ b, b < n8 → b ≠ n3 → t'.get b = t8.get b) := by
            rw [← hL2]
            refine loop_ind (fun o2 => (∃ e' t' n' ls ss FL FS, o2 = .exit 2 e' t' n' ∧ N16.sel .d4 (row .d0 e') = some (.ref 1 n 0 0 0 0) ∧ N16.sel .d5 (row .d0 e') = some s0 ∧ N16.sel .d6 (row .d0 e') = some (.ref 1 n3 0 0 0 0) ∧ Obj t' n3 [.num 3 (.ofNat at_), ls, ss] ∧
                Ow t' 1 ls ((loTo (bitsOf R) lo (8 * R.length)).map bV) FL ∧ Ow t' 1 ss ((stTo (bitsOf R) lo st (8 * R.length)).map bV) FS ∧ (∀ b ∈ FL, n8 ≤ b ∧ b < n') ∧ (∀ b ∈ FS, n8 ≤ b ∧ b < n') ∧ n8 ≤ n' ∧ (∀ b, b < n8 → b ≠ n3 → t'.get b = t8.get b) ∧ true ∉ (bitsOf R).drop (lo + st)) ∨
              (∃ e' t' n', o2 = .ret e' t' n' ∧ N16.sel .d2 (row .d0 e') = some (.ref 2 0 0 0 0 0) ∧ N16.sel .d3 (row .d0 e') = some (.num 3 (.ofNat 1)) ∧ true ∈ (bitsOf R).drop (lo + st) ∧ n8 ≤ n' ∧ ∀ b, b < n8 → b ≠ n3 → t'.get b = t8.get b))
              (fun j e t n' => ∃ k ls ss FL FS, k + j = 8 * R.length ∧ N16.sel .d10 (row .d0 e) = some (.num 3 (.ofNat k)) ∧ N16.sel .d9 (row .d0 e) = some v8 ∧ N16.sel .d8 (row .d0 e) = some (.num 3 (.ofNat (lo + st))) ∧ N16.sel .d7 (row .d0 e) = some (.num 3 (.ofNat lo)) ∧
                N16.sel .d4 (row .d0 e) = some (.ref 1 n 0 0 0 0) ∧ N16.sel .d5 (row .d0 e) = some s0 ∧ N16.sel .d6 (row .d0 e) = some (.ref 1 n3 0 0 0 0) ∧ Obj t n3 [.num 3 (.ofNat at_), ls, ss] ∧
                Ow t 1 ls ((loTo (bitsOf R) lo k).map bV) FL ∧ Ow t 1 ss ((stTo (bitsOf R) lo st k).map bV) FS ∧ (∀ b ∈ FL, n8 ≤ b ∧ b < n' ∧ b ∉ FS) ∧ (∀ b ∈ FS, n8 ≤ b ∧ b < n') ∧ n8 ≤ n' ∧ (∀ b, b < n8 → b ≠ n3 → t.get b = t8.get b) ∧ (∀ q, lo + st ≤ q → q < k → (bitsOf R)[q]? = some false))
              ?_ fuelL (8 * R.length) _ _ _ ⟨0, .ref 2 0 0 0 0 0, .ref 2 0 0 0 0 0, [], [], by omega, ?_⟩ (by unfold fuelL; omega)
            · rintro j e t n' rec2 ⟨k, ls, ss, FL, FS, hk, e10, e9, e8, e7, e4, e5, e6, hObj, hls, hss, hFL, hFS, hn8, hfr8, hno⟩ hrec2
              have hsl8 : Sl t 1 v8 (R.map by8) := (hv8.get fun b hb => hfr8 b (hG b hb).2 (by have := hG b hb; omega)).sl
              have hq88 : ∀ kk : K, q2 (.num 3 (.ofNat 8)) (.num 3 (.ofNat R.length)) kk = kk (.num 3 (.ofNat (8 * R.length))) := fun kk => q2_n (by omega)
              by_cases hlt2 : k < 8 * R.length
              · have hkB : k < (bitsOf R).length := by omega
                have hdiv : k / 8 < R.length := by omega
                have hget : (R.map by8)[k / 8]? = some (by8 R[k / 8]) := by simp [hdiv]
                have hqk : ∀ kk : K, q0 (.num 3 (.ofNat k)) (.num 3 (.ofNat 1)) kk = kk (.num 3 (.ofNat (k + 1))) := fun kk => q0_n (by omega)
                have hqd : ∀ kk : K, q3 (.num 3 (.ofNat k)) (.num 3 (.ofNat 8)) kk = kk (.num 3 (.ofNat (k / 8))) := fun kk => q3_n (by omega) (by omega)
                have hqm : ∀ kk : K, q4 (.num 3 (.ofNat k)) (.num 3 (.ofNat 8)) kk = kk (.num 3 (.ofNat (k % 8))) := fun kk => q4_n (by omega)
                have hbit : R[k / 8].testBit (7 - k % 8) = (bitsOf R)[k] := by rw [bitsOf_get]; unfold bitAt; rw [List.getD_eq_getElem?_getD, List.getElem?_eq_getElem hdiv]; rfl
                have hst2 := fun kk => bit_step2 (hmem R[k / 8] (by simp)) (show k % 8 < 8 by omega) (k := kk)
                rw [hbit] at hst2
                by_cases hklo : k < lo
                · obtain ⟨ls', t5', n5', FL', happ, hO', hls', hg', hF'⟩ := fieldApp (n := n') (i := 1) (b := (bitsOf R)[k]) hObj rfl hls (by omega) (fun b hb => by have := hFL b hb; omega) (by unfold loTo; rw [List.length_take]; omega)
                  simp (iota := false) only [vbool_bV, hst2, SY, reduceCtorEq, if_false, if_true, Nat.zero_add, e10, e9, e8, e7, e4, e5, e6, hlt2, hklo, pLenL_sl hsl8 Nat.one_pos, Nat.div_one, List.length_map, hq88, hqd, hqm, pIad_sl hsl8 (show k / 8 * 1 < (R.map by8).length by simp; omega), pLd_plc hsl8 hget, hObj.cl (i := 1) rfl, Option.isSome_some, Option.getD_some, parts_1_0 (ck_bV _), happ, hqk]
                  refine hrec2 (j - 1) _ _ _ (by omega) ⟨k + 1, ls', ss, FL', FS, by omega, ?_⟩
                  rw [loTo_lt hklo hkB] at hls'
                  simp (iota := false) only [SY, reduceCtorEq, if_false, if_true, e9, e8, e7, e4, e5, e6, true_and]
                  have hgl := hg'.le
                  refine ⟨hO', hls', by rw [stTo_lt hklo]; exact hss.get fun b hb => hg'.get b (hFS b hb).2 (by have := hFS b hb; simp; exact ⟨by omega, fun h => (hFL b h).2.2 hb⟩), fun b hb => ?_, fun b hb => by have := hFS b hb; omega, by omega, fun b hb hbn => ?_, fun q h1 h2 => by omega⟩
                  · rcases (hF' b hb).1 with h' | h'
                    · have := hFL b h'; have := (hF' b hb).2; exact ⟨by omega, by omega, (hFL b h').2.2⟩
                    · have := (hF' b hb).2; exact ⟨by omega, by omega, fun h => by have := hFS b h; omega⟩
                  · rw [hg'.get b (by omega) (by simp; exact ⟨hbn, fun h => by have := hFL b h; omega⟩), hfr8 b hb hbn]
                · by_cases hkst : k < lo + st
                  · obtain ⟨ss', t5', n5', FS', happ, hO', hss', hg', hF'⟩ := fieldApp (n := n') (i := 2) (b := (bitsOf R)[k]) hObj rfl hss (by omega) (fun b hb => by have := hFS b hb; omega) (by unfold stTo; rw [List.length_drop, List.length_take]; omega)
                    simp (iota := false) only [vbool_bV, hst2, SY, reduceCtorEq, if_false, if_true, Nat.zero_add, e10, e9, e8, e7, e4, e5, e6, hlt2, hklo, hkst, pLenL_sl hsl8 Nat.one_pos, Nat.div_one, List.length_map, hq88, hqd, hqm, pIad_sl hsl8 (show k / 8 * 1 < (R.map by8).length by simp; omega), pLd_plc hsl8 hget, hObj.cl (i := 2) rfl, Option.isSome_some, Option.getD_some, parts_1_0 (ck_bV _), happ, hqk]
                    refine hrec2 (j - 1) _ _ _ (by omega) ⟨k + 1, ls, ss', FL, FS', by omega, ?_⟩
                    rw [stTo_mid (by omega) hkst hkB] at hss'
                    simp (iota := false) only [SY, reduceCtorEq, if_false, if_true, e9, e8, e7, e4, e5, e6, true_and]
                    have hgl := hg'.le
                    refine ⟨hO', by rw [loTo_ge (by omega)]; exact hls.get fun b hb => hg'.get b (hFL b hb).2.1 (by have := hFL b hb; simp; exact ⟨by omega, this.2.2⟩), hss', fun b hb => ?_, fun b hb => ?_, by omega, fun b hb hbn => ?_, fun q h1 h2 => by omega⟩
                    · have h1 := hFL b hb
                      refine ⟨h1.1, by omega, fun h => ?_⟩
                      rcases (hF' b h).1 with h' | h'
                      · exact h1.2.2 h'
                      · omega
                    · rcases (hF' b hb).1 with h' | h'
                      · have := hFS b h'; have := (hF' b hb).2; omega
                      · have := (hF' b hb).2; omega
                    · rw [hg'.get b (by omega) (by simp; exact ⟨hbn, fun h => by have := hFS b h; omega⟩), hfr8 b hb hbn]
                  · by_cases hbt : (bitsOf R)[k] = true
                    · simp (iota := false) only [vbool_bV, hst2, SY, reduceCtorEq, if_false, if_true, Nat.zero_add, e10, e9, e8, e7, e4, e5, e6, hlt2, hklo, hkst, hbt, pLenL_sl hsl8 Nat.one_pos, Nat.div_one, List.length_map, hq88, hqd, hqm, pIad_sl hsl8 (show k / 8 * 1 < (R.map by8).length by simp; omega), pLd_plc hsl8 hget, hqk]
                      refine .inr ⟨_, _, _, rfl, ?_, ?_, mem_drop_of hkB (by omega) hbt, hn8, hfr8⟩ <;> simp (iota := false) only [SY, reduceCtorEq, if_false, if_true]
                    · have hbf : (bitsOf R)[k] = false := by simpa using hbt
                      simp (iota := false) only [vbool_bV, hst2, SY, reduceCtorEq, if_false, if_true, Nat.zero_add, e10, e9, e8, e7, e4, e5, e6, hlt2, hklo, hkst, hbf, Bool.false_eq_true, pLenL_sl hsl8 Nat.one_pos, Nat.div_one, List.length_map, hq88, hqd, hqm, pIad_sl hsl8 (show k / 8 * 1 < (R.map by8).length by simp; omega), pLd_plc hsl8 hget, hqk]
                      refine hrec2 (j - 1) _ _ _ (by omega) ⟨k + 1, ls, ss, FL, FS, by omega, ?_⟩
                      simp (iota := false) only [SY, reduceCtorEq, if_false, if_true, e9, e8, e7, e4, e5, e6, true_and]
                      refine ⟨hObj, by rw [loTo_ge (by omega)]; exact hls, by rw [stTo_ge (by omega)]; exact hss, hFL, hFS, hn8, hfr8, fun q h1 h2 => ?_⟩
                      by_cases hqk' : q = k
                      · subst hqk'; rw [List.getElem?_eq_getElem hkB, hbf]
                      · exact hno q h1 (by omega)
              · have hke : k = 8 * R.length := by omega
                subst hke
                simp (iota := false) only [SY, reduceCtorEq, if_false, if_true, Nat.zero_add, e10, e9, pLenL_sl hsl8 Nat.one_pos, Nat.div_one, List.length_map, hq88, Nat.lt_irrefl]
                refine .inl ⟨_, _, _, ls, ss, FL, FS, rfl, ?_⟩
                simp (iota := false) only [SY, reduceCtorEq, if_false, if_true, e4, e5, e6, true_and]
                exact ⟨hObj, hls, hss, fun b hb => ⟨(hFL b hb).1, (hFL b hb).2.1⟩, hFS, hn8, hfr8, no_drop fun q h1 h2 => hno q h1 (by omega)⟩
            · simp (iota := false) only [SY, reduceCtorEq, if_false, if_true, e4, e5, true_and]
              exact ⟨hO8, by simpa [loTo] using Ow.nil, by simpa [stTo] using Ow.nil, fun b hb => (by cases hb), fun b hb => (by cases hb), Nat.le_refl _, fun _ _ _ => trivial, fun q h1 h2 => by omega⟩
          rcases key2 with ⟨e', t9, n9, ls, ss, FL, FS, rfl, e4', e5', e6', hObj9, hls, hss, hFL, hFS, hn9, hfr9, hno⟩ | ⟨e', t9, n9, rfl, e2', e3', hyes, hn9, hfr9⟩
          · rw [if_neg hno] at hstep
            obtain ⟨hp4, hp4'⟩ := pstep_lt hstep (by omega)
            have hlo' : loTo (bitsOf R) lo (8 * R.length) = ((bitsOf R).take (lo + st)).take lo := by unfold loTo; rw [Nat.min_eq_right (by omega), List.take_take, Nat.min_eq_left (by omega)]
            have hst' : stTo (bitsOf R) lo st (8 * R.length) = ((bitsOf R).take (lo + st)).drop lo := by unfold stTo; rw [Nat.min_eq_right (by omega)]
            rw [hlo'] at hls
            rw [hst'] at hss
            have hld3 : ∀ k, pLdC 3 (.ref 1 n3 0 0 0 0) t9 k = k (.com 0 0 (.cons (.num 3 (.ofNat at_)) (.cons ls (.cons ss .nil)))) := fun k => hObj9.ldC k
            have hkeepA : ∀ b, b < n3 → b ≠ n → t9.get b = t3.get b := fun b hb hbw => by rw [hfr9 b (by omega) (by omega), hkeep8 b hb hbw]
            have hP9 : PSt (n + 1) t9 n9 s0 acc xs F E := hP.get (by omega) fun b h1 h2 => hkeepA b h2 (by omega)
            have hnF' : ∀ b, n3 ≤ b → b ∉ F := fun b hb hF => by have := hP.lf b hF; omega
            obtain ⟨v4, t13, n13, F4, hadd, hP13, hn13, hf13⟩ := hP9.add (by omega) (m := ⟨.ofNat at_, ((bitsOf R).take (lo + st)).take lo, ((bitsOf R).take (lo + st)).drop lo⟩) (a := .num 3 (.ofNat at_)) rfl hls.sl hss.sl
              (fun b hb => by
                rw [List.mem_append, hls.bk, hss.bk] at hb
                rcases hb with hb | hb
                · have := hFL b hb; exact ⟨by omega, by omega, hnF' b (by omega)⟩
                · have := hFS b hb; exact ⟨by omega, by omega, hnF' b (by omega)⟩) (by omega)
            simp (iota := false) only [SY, reduceCtorEq, if_false, if_true, e4', e5', e6', hld3, parts_full3, hadd]
            refine hrec (bs.length - p4) _ _ _ (by omega) ⟨p4, _, v4, _, F4, _, by omega, ?_, ?_, hrD.get2 (by omega) ?_ (fun b hb' => ?_), hP13, by omega, by simp; omega, fun r c h => hpar r c (.more hlt hstep h), fun b hb => ?_⟩
            · simp (iota := false) only [SY, reduceCtorEq, if_false, if_true, e4']
            · simp (iota := false) only [SY, reduceCtorEq, if_false, if_true]
            · rw [hf13 n (by omega), hfr9 n (by omega) (by omega)]
            · have := hb b hb'; rw [hf13 b (by omega), hfr9 b (by omega) (by omega)]
            · rw [hf13 b (by omega), hkeepA b (by omega) (by omega), hfr b hb]
          · rw [if_pos hyes] at hstep
            simp (iota := false) only [SY, reduceCtorEq, if_false, if_true]
            refine .inr ⟨e', t9, n9, 1, rfl, e2', e3', hpar _ _ (.bad hlt hstep), by omega, fun b hb => ?_⟩
            rw [hfr9 b (by omega) (by omega), hkeep8 b (by omega) (by omega), hfr b hb]
        · have he11 : e5' = 11 := her.resolve_left he5
          subst he11
          rw [if_pos he5] at hstep
          simp (iota := false) only [eqAt_ok, SY, reduceCtorEq, if_false, if_true, Nat.zero_add, e4, e5, Option.isSome_some, Option.getD_some, hcl, hpos, hcA, parts_3_0 (ck_num _ _), nb_eq, hstm', hcB, hcC, hq, hq7, hq8, hcD, hrD.c2, show ((11 : Nat) ≠ 0) = True by decide]
          refine .inr ⟨_, t8, n8, 11, rfl, ?_, ?_, hpar _ _ (.bad hlt hstep), by omega, fun b hb => (hkeep8 b (by omega) (by omega)).trans (hfr b hb)⟩ <;> simp (iota := false) only [SY, reduceCtorEq, if_false, if_true]
      · have hp0 : bs.length ≤ p := by omega
        have hpos : ¬ 0 < bs.length - p := by omega
        simp (iota := false) only [SY, reduceCtorEq, if_false, if_true, Nat.zero_add, e4, Option.isSome_some, Option.getD_some, hcl, hpos]
        refine .inl ⟨_, t3, n3, s0, acc, xs, F, E, rfl, ?_, hpar _ _ (.done hp0), hP, hn, hfr⟩
        simp (iota := false) only [SY, reduceCtorEq, if_false, if_true, e5]
    · simp (iota := false) only [SY, reduceCtorEq, if_false, if_true, true_and]
      exact ⟨hr2, ⟨.nil, .nil, fun b hb => (by cases hb), fun b hb => by cases hb⟩, Nat.le_refl _, Nat.zero_le _, fun r c h => h, fun _ _ => trivial⟩
  have hgr : ∀ t' n', n + 1 ≤ n' → (∀ b, b < n → t'.get b = t2.get b) → Gr [] t n t' n' := fun t' n' hn hf => ⟨by omega, fun b hb _ => by rw [hf b hb, hf2 b hb]⟩
  rcases key with ⟨e', t', n', v, r, xs, F, E, rfl, e5, hpar, hP, hn, hf⟩ | ⟨e', t', n', c, rfl, e2, e3, hpar, hn, hf⟩
  · simp (iota := false) only [SY, reduceCtorEq, if_false, if_true, e5]
    refine ⟨v, t', n', r, 0, xs, F, E, rfl, hpar, ⟨hP.ow, hP.els, fun b hb => ?_, fun b hb => ?_⟩, hgr _ _ hn hf⟩
    · have := hP.lf b hb; omega
    · have h1 := hP.le b hb; exact ⟨by omega, h1.2.1, h1.2.2⟩
  · simp (iota := false) only [SY, reduceCtorEq, if_false, if_true, e2, e3]
    exact ⟨_, t', n', [], c, [], [], [], rfl, hpar, ⟨.nil, .nil, fun b hb => (by cases hb), fun b hb => by cases hb⟩, hgr _ _ hn hf⟩
end Ev
