import Derived.Test.YtlkiacbmbfmlpaaYW
/- Maps are read (the program's, 3). -/
namespace Ev
open Go
variable [Told] [TokV] [ToldOK]
set_option linter.unusedVariables false
set_option linter.unusedSimpArgs false
set_option linter.unusedSectionVars false
set_option maxRecDepth 10000
set_option maxHeartbeats 1000000
variable {tab : Bt FnD}
/-- what Parse answers -/
def PRes (t : H) (n : Nat) (o : Out) (bs : List Nat) : Prop :=
  ∃ v t' n' r c xs F E, o = .ok (.com 1 0 (.cons v (.cons (.num 3 (.ofNat c)) .nil))) t' n' ∧ Parses bs 0 [] r c ∧ PSt n t' n' v r xs F E ∧ Gr [] t n t' n'
theorem numSpec_call {F : FnD} {k m f : Nat} (hS : SpecNum F k m tab) {ih : Ih} (hR : Rt tab (k + 1) ih) (hg : tab.get f = some F) {t : H} {n w : Nat} {s : AV} {p er : Nat} {bs : List Nat} (h : Rdr t n w s p er (bs.map by8)) (hx : ∀ x ∈ bs, x < 256) :
    ∃ t', (∀ kk, C ih f (.cons (.ref 1 w 0 0 0 0) .nil) t n kk = kk (.num 3 (.ofNat (numP (takeN bs p er m).1))) t' n) ∧ Rdr t' n w s (takeN bs p er m).2.1 (takeN bs p er m).2.2 (bs.map by8) ∧ Gr [w] t n t' n := by
  obtain ⟨v, t1, n1, hc, rfl, h1, h2, rfl⟩ := call (a := .cons (.ref 1 w 0 0 0 0) .nil) (t := t) (n := n) hR hg (P := fun v t' n' => v = .num 3 (.ofNat (numP (takeN bs p er m).1)) ∧ Rdr t' n w s (takeN bs p er m).2.1 (takeN bs p er m).2.2 (bs.map by8) ∧ Gr [w] t n t' n ∧ n' = n) fun ih' hR' => by
    obtain ⟨t', h1, h2, h3⟩ := hS (y := noY) h hx hR'
    exact ⟨_, t', n, h1, rfl, h2, h3, rfl⟩
  exact ⟨t1, hc, h1, h2⟩
theorem parse_ok {y : Yh} {ih : Ih} {t : H} {n : Nat} {s : AV} {bs : List Nat} (h : Sl t 1 s (bs.map by8)) (hb : ∀ b ∈ bk s, b < n) (hx : ∀ x ∈ bs, x < 256) (hl : bs.length ≤ 18000) (hR : Rt tab 5 ih) (T : TbM tab) :
    PRes t n (s6 y ih (.cons s .nil) t n) bs := by
  obtain ⟨v1, t1, n1, hc, w, sB, rfl, hr, hg1, hwn, hbn⟩ := call (a := .cons s .nil) (t := t) (n := n) hR T.g11 (P := fun v t' n' => ∃ w s', v = .ref 1 w 0 0 0 0 ∧ Rdr t' n' w s' 0 0 (bs.map by8) ∧ Gr [] t n t' n' ∧ n ≤ w ∧ ∀ b ∈ bk s', n ≤ b) fun ih' hR' => by
    obtain ⟨t', n', w, s', q1, q2, q3, q4, q5⟩ := newReader_ok (y := noY) (n := n) h hb (by simp; omega) (hR'.mono (j := 1) (by omega)) T
    exact ⟨_, t', n', q1, w, s', rfl, q2, q3, q4, q5⟩
  have hO1 : Obj (t1.set (.row 1 (.node .leaf (some ⟨0, .ref 0 0 0 0 0 0⟩) .leaf) 1 0) n1) n1 [.ref 0 0 0 0 0 0] := Obj.nb1
  obtain ⟨t2, hst, hO2, hf2⟩ := hO1.stC (ws := [.ref 1 w 0 0 0 0]) rfl
  have hst' : ∀ k, pSt 1 (.ref 1 n1 0 0 0 0) (.com 0 0 (.cons (.ref 1 w 0 0 0 0) .nil)) (t1.set (.row 1 (.node .leaf (some ⟨0, .ref 0 0 0 0 0 0⟩) .leaf) 1 0) n1) k = k t2 := fun k => hst k
  have hw1 := hr.lt
  have hbk0 := hr.bk
  have hfr2 : ∀ b, b < n1 → t2.get b = t1.get b := fun b hb => by rw [hf2 b (by omega), set_ne (by omega)]
  have hr2 : Rdr t2 (n1 + 1) w sB 0 0 (bs.map by8) := hr.get (by omega) hfr2
  unfold s6
  simp (iota := false) only [SY, reduceCtorEq, if_false, if_true, Nat.zero_add, hc, parts_1_0 (ck_ref _ _ _ _ _ _), nb_eq, hst', cLoop_eq]
  generalize hL : loop _ _ _ _ _ _ _ = o
  have key : (∃ e' t' n' v r xs F E, o = .exit 0 e' t' n' ∧ N16.sel .d5 (row .d0 e') = some v ∧ Parses bs 0 [] r 0 ∧ PSt (n1 + 1) t' n' v r xs F E ∧ n1 + 1 ≤ n' ∧ ∀ b, b < n1 + 1 → b ≠ w → t'.get b = t2.get b) ∨
      (∃ e' t' n' c, o = .ret e' t' n' ∧ N16.sel .d2 (row .d0 e') = some (.ref 2 0 0 0 0 0) ∧ N16.sel .d3 (row .d0 e') = some (.num 3 (.ofNat c)) ∧ Parses bs 0 [] [] c ∧ n1 + 1 ≤ n' ∧ ∀ b, b < n1 + 1 → b ≠ w → t'.get b = t2.get b) := by
    rw [← hL]
    refine loop_ind (fun o => (∃ e' t' n' v r xs F E, o = .exit 0 e' t' n' ∧ N16.sel .d5 (row .d0 e') = some v ∧ Parses bs 0 [] r 0 ∧ PSt (n1 + 1) t' n' v r xs F E ∧ n1 + 1 ≤ n' ∧ ∀ b, b < n1 + 1 → b ≠ w → t'.get b = t2.get b) ∨
      (∃ e' t' n' c, o = .ret e' t' n' ∧ N16.sel .d2 (row .d0 e') = some (.ref 2 0 0 0 0 0) ∧ N16.sel .d3 (row .d0 e') = some (.num 3 (.ofNat c)) ∧ Parses bs 0 [] [] c ∧ n1 + 1 ≤ n' ∧ ∀ b, b < n1 + 1 → b ≠ w → t'.get b = t2.get b))
      (fun k e t n => ∃ p acc s xs F E, p + k = bs.length ∧ N16.sel .d4 (row .d0 e) = some (.ref 1 n1 0 0 0 0) ∧ N16.sel .d5 (row .d0 e) = some s ∧ Rdr t n w sB p 0 (bs.map by8) ∧ PSt (n1 + 1) t n s acc xs F E ∧ n1 + 1 ≤ n ∧ acc.length ≤ p ∧ (∀ r c, Parses bs p acc r c → Parses bs 0 [] r c) ∧ ∀ b, b < n1 + 1 → b ≠ w → t.get b = t2.get b)
      ?_ fuelL bs.length _ _ _ ⟨0, [], .ref 2 0 0 0 0 0, [], [], [], by omega, ?_⟩ (by unfold fuelL; omega)
    · rintro k e t0 n0 rec ⟨p, acc, s, xs, F, E, hp, e4, e5, hr, hP, hn, hacc, hpar, hfr⟩ hrec
      have hwl := hr.lt
      have hw1' : w < n1 := hw1
      have c4 : cl t0 n1 0 0 = some (.ref 1 w 0 0 0 0) := by rw [cl_get (hfr n1 (by omega) (by omega))]; exact hO2.cl rfl
      obtain ⟨_, t3, n3, hcl, rfl, rfl, rfl⟩ := call (a := .cons (.ref 1 w 0 0 0 0) .nil) (t := t0) (n := n0) hR T.g12 (P := fun v t' n' => v = .num 3 (.ofNat (bs.length - p)) ∧ t' = t0 ∧ n' = n0) fun ih' hR' => ⟨_, _, _, by have := left_ok (y := noY) (ih := ih') hr; rw [List.length_map] at this; exact this, rfl, rfl, rfl⟩
      by_cases hlt : p < bs.length
      · have hpos : 0 < bs.length - p := by omega
        -- At
        obtain ⟨t4, hcA, hrA, hgA⟩ := numSpec_call (tab := tab) (u2_ok T) (hR.mono (j := 4) (by omega)) T.g13 hr hx
        -- the map's own block
        have hOm : Obj (t4.set (.row 3 (.node (.node .leaf (some ⟨0, .ref 2 0 0 0 0 0⟩) .leaf) (some ⟨0, .num 3 (.ofNat 0)⟩) (.node .leaf (some ⟨0, .ref 2 0 0 0 0 0⟩) .leaf)) 3 0) n3) n3 [.num 3 (.ofNat 0), .ref 2 0 0 0 0 0, .ref 2 0 0 0 0 0] := Obj.nb3
        obtain ⟨t5, hstm, hO5, hf5⟩ := hOm.stC (ws := [.num 3 (.ofNat (numP (takeN bs p 0 2).1)), .ref 2 0 0 0 0 0, .ref 2 0 0 0 0 0]) rfl
        have hstm' : ∀ k, pSt 3 (.ref 1 n3 0 0 0 0) (.com 0 0 (.cons (.num 3 (.ofNat (numP (takeN bs p 0 2).1))) (.cons (.ref 2 0 0 0 0 0) (.cons (.ref 2 0 0 0 0 0) .nil)))) (t4.set (.row 3 (.node (.node .leaf (some ⟨0, .ref 2 0 0 0 0 0⟩) .leaf) (some ⟨0, .num 3 (.ofNat 0)⟩) (.node .leaf (some ⟨0, .ref 2 0 0 0 0 0⟩) .leaf)) 3 0) n3) k = k t5 := fun k => hstm k
        have hf45 : ∀ b, b < n3 → t5.get b = t4.get b := fun b hb => by rw [hf5 b (by omega), set_ne (by omega)]
        have hrA5 := hrA.get (n' := n3 + 1) (by omega) hf45
        -- the two lengths
        obtain ⟨t6, hcB, hrB, hgB⟩ := numSpec_call (tab := tab) (u1_ok T) (hR.mono (j := 4) (by omega)) T.g14 hrA5 hx
        obtain ⟨t7, hcC, hrC, hgC⟩ := numSpec_call (tab := tab) (u1_ok T) (hR.mono (j := 4) (by omega)) T.g14 hrB hx
        have hlo := num1 (p := (takeN bs p 0 2).2.1) (er := (takeN bs p 0 2).2.2) hx
        have hst1 := num1 (p := (takeN bs (takeN bs p 0 2).2.1 (takeN bs p 0 2).2.2 1).2.1) (er := (takeN bs (takeN bs p 0 2).2.1 (takeN bs p 0 2).2.2 1).2.2) hx
        have hstep : pstep bs p = pstep bs p := rfl
        conv at hstep => rhs; unfold pstep
        simp only at hstep
        generalize hat : numP (takeN bs p 0 2).1 = at_ at *
        generalize (takeN bs p 0 2).2.1 = p1 at *
        generalize (takeN bs p 0 2).2.2 = e1 at *
        generalize numP (takeN bs p1 e1 1).1 = lo at *
        generalize (takeN bs p1 e1 1).2.1 = p2 at *
        generalize (takeN bs p1 e1 1).2.2 = e2 at *
        generalize numP (takeN bs p2 e2 1).1 = st at *
        generalize (takeN bs p2 e2 1).2.1 = p3 at *
        generalize (takeN bs p2 e2 1).2.2 = e3 at *
        have hkeep7 : ∀ b, b < n3 → b ≠ w → t7.get b = t3.get b := fun b hb hbw => by
          rw [hgC.get b (by omega) (by simpa using hbw), hgB.get b (by omega) (by simpa using hbw), hf45 b hb, hgA.get b hb (by simpa using hbw)]
        have c5 : cl t5 n1 0 0 = some (.ref 1 w 0 0 0 0) := by rw [cl_get (hf45 n1 (by omega)), cl_get (hgA.get n1 (by omega) (by simp; omega)), c4]
        have c6 : cl t6 n1 0 0 = some (.ref 1 w 0 0 0 0) := by rw [cl_get (hgB.get n1 (by omega) (by simp; omega)), c5]
        have hO7 : Obj t7 n1 [.ref 1 w 0 0 0 0] := (hO2.get (hfr n1 (by omega) (by omega))).get (hkeep7 n1 (by omega) (by omega))
        have hld1 : ∀ k, pLdC 1 (.ref 1 n1 0 0 0 0) t7 k = k (.com 0 0 (.cons (.ref 1 w 0 0 0 0) .nil)) := fun k => hO7.ldC k
        have hq : ∀ k : K, q0 (.num 3 (.ofNat lo)) (.num 3 (.ofNat st)) k = k (.num 3 (.ofNat (lo + st))) := fun k => q0_n (by omega)
        obtain ⟨v8, t8, n8, hcD, G, hrD, hgD, hD⟩ := call (a := .cons (.com 0 0 (.cons (.ref 1 w 0 0 0 0) .nil)) (.cons (.num 3 (.ofNat (lo + st))) .nil)) (t := t7) (n := n3 + 1) (hR.mono (j := 4) (by omega)) T.g15
          (P := fun v t' n' => ∃ G : List Nat, Rdr t' n' w sB (takeN bs p3 e3 ((lo + st + 7) / 8)).2.1 (takeN bs p3 e3 ((lo + st + 7) / 8)).2.2 (bs.map by8) ∧ Gr [w] t7 (n3 + 1) t' n' ∧
            (if (takeN bs p3 e3 ((lo + st + 7) / 8)).2.2 ≠ 0 then v = .com 1 0 (.cons (.ref 2 0 0 0 0 0) (.cons (.num 3 (.ofNat (takeN bs p3 e3 ((lo + st + 7) / 8)).2.2)) .nil))
             else if true ∈ (bitsOf (takeN bs p3 e3 ((lo + st + 7) / 8)).1).drop (lo + st) then v = .com 1 0 (.cons (.ref 2 0 0 0 0 0) (.cons (.num 3 (.ofNat 1)) .nil))
             else ∃ s', v = .com 1 0 (.cons s' (.cons (.num 3 (.ofNat 0)) .nil)) ∧ Sl t' 1 s' (((bitsOf (takeN bs p3 e3 ((lo + st + 7) / 8)).1).take (lo + st)).map bV) ∧ (∀ b e o l c, s' ≠ .ref 5 b e o l c) ∧ (∀ b ∈ bk s', b ∈ G) ∧ ∀ b ∈ G, n3 + 1 ≤ b ∧ b < n')) fun ih' hR' => by
          obtain ⟨v, t', n', G, q1, q2, q3, q4⟩ := bits_ok (y := noY) (m := lo + st) hrC hx (by omega) hR' T
          exact ⟨v, t', n', q1, G, q2, q3, q4⟩
        have hfull := takeN_full (bs := bs) (p := p3) (er := e3) (m := (lo + st + 7) / 8)
        generalize (takeN bs p3 e3 ((lo + st + 7) / 8)).1 = R at *
        generalize (takeN bs p3 e3 ((lo + st + 7) / 8)).2.1 = p4 at *
        generalize (takeN bs p3 e3 ((lo + st + 7) / 8)).2.2 = e5' at *
        have hkeep8 : ∀ b, b < n3 → b ≠ w → t8.get b = t3.get b := fun b hb hbw => by rw [hgD.get b (by omega) (by simpa using hbw), hkeep7 b hb hbw]
        by_cases he5 : e5' = 0
        · subst he5
          rw [if_neg (by simp)] at hD hstep
          by_cases hin : true ∈ (bitsOf R).drop (lo + st)
          · rw [if_pos hin] at hD hstep
            subst hD
            simp (iota := false) only [eqAt_ok, SY, reduceCtorEq, if_false, if_true, Nat.zero_add, e4, e5, c4, c5, c6, Option.isSome_some, Option.getD_some, hcl, hpos, hcA, parts_3_0 (ck_num _ _), nb_eq, hstm', hcB, hcC, hld1, hq, hcD, show ((1 : Nat) ≠ 0) = True by decide]
            refine .inr ⟨_, t8, n8, 1, rfl, ?_, ?_, hpar _ _ (.bad hlt hstep), by have := hgD.le; omega, fun b hb hbw => (hkeep8 b (by omega) hbw).trans (hfr b hb hbw)⟩ <;> simp (iota := false) only [SY, reduceCtorEq, if_false, if_true]
          · rw [if_neg hin] at hD hstep
            obtain ⟨s', rfl, hs', h5', hbk', hG⟩ := hD
            have hRl : R.length = (lo + st + 7) / 8 := hfull rfl
            have hlen : ((bitsOf R).take (lo + st)).length = lo + st := by rw [List.length_take, bitsOf_len]; omega
            obtain ⟨⟨sl, hsl1, hsl2, hsl3⟩, ⟨sr, hsr1, hsr2, hsr3⟩⟩ := hs'.cut h5' (l := lo) (by omega)
            obtain ⟨v37, t9, n9, hcE, hv37, hck37, hgE, hb37⟩ := SlB.clone (tab := tab) cloneB_ok (hR.mono (j := 1) (by omega)) T.g16 (n := n8) hsl2 (fun b hb => (hG b (hbk' b (hsl3 b hb))).2) (by rw [List.length_take]; omega)
            have hs9 : Sl t9 1 s' (((bitsOf R).take (lo + st)).map bV) := hs'.get fun b hb => hgE.get b (hG b (hbk' b hb)).2 (by simp)
            have hsr9 : ∀ k, pSlV 1 s' (some (.num 3 (.ofNat lo))) none none t9 k = k sr := fun k => (pSlV_heap hs9 hs' _ _ _ k).trans (hsr1 k)
            obtain ⟨v58, t10, n10, hcF, hv58, hck58, hgF, hb58⟩ := SlB.clone (tab := tab) cloneB_ok (hR.mono (j := 1) (by omega)) T.g16 (n := n9) (hsr2.get fun b hb => hgE.get b (hG b (hbk' b (hsr3 b hb))).2 (by simp)) (fun b hb => by have := hG b (hbk' b (hsr3 b hb)); have := hgE.le; omega) (by rw [List.length_drop]; omega)
            have hnD := hgD.le
            have hnE := hgE.le
            have hnF := hgF.le
            have hkeep10 : ∀ b, b < n8 → t10.get b = t8.get b := fun b hb => by rw [hgF.get b (by omega) (by simp), hgE.get b hb (by simp)]
            have hO10 : Obj t10 n3 [.num 3 (.ofNat at_), .ref 2 0 0 0 0 0, .ref 2 0 0 0 0 0] := hO5.get (by rw [hkeep10 n3 (by omega), hgD.get n3 (by omega) (by simp; omega), hgC.get n3 (by omega) (by simp; omega), hgB.get n3 (by omega) (by simp; omega)])
            have hO11 : Obj (up t10 n3 1 v37) n3 [.num 3 (.ofNat at_), v37, .ref 2 0 0 0 0 0] := hO10.up
            have hO12 : Obj (up (up t10 n3 1 v37) n3 2 v58) n3 [.num 3 (.ofNat at_), v37, v58] := hO11.up
            have hst11 := fun (k : H → Out) => pSt1 (l := 0) (c := 0) (k := k) hck37 (hO10.wok (i := 1) (by simp))
            have hst12 := fun (k : H → Out) => pSt1 (l := 0) (c := 0) (k := k) hck58 (hO11.wok (i := 2) (by simp))
            have hkeep12 : ∀ b, b ≠ n3 → (up (up t10 n3 1 v37) n3 2 v58).get b = t10.get b := fun b hb => by rw [get_up_ne (Ne.symm hb), get_up_ne (Ne.symm hb)]
            have hld3 : ∀ k, pLdC 3 (.ref 1 n3 0 0 0 0) (up (up t10 n3 1 v37) n3 2 v58) k = k (.com 0 0 (.cons (.num 3 (.ofNat at_)) (.cons v37 (.cons v58 .nil)))) := fun k => hO12.ldC k
            generalize up (up t10 n3 1 v37) n3 2 v58 = t12 at *
            have hkeepA : ∀ b, b < n3 → b ≠ w → t12.get b = t3.get b := fun b hb hbw => by rw [hkeep12 b (by omega), hkeep10 b (by omega), hkeep8 b hb hbw]
            have hP12 : PSt (n1 + 1) t12 n10 s acc xs F E := hP.get (by omega) fun b h1 h2 => hkeepA b h2 (by omega)
            have hnF' : ∀ b, n3 ≤ b → b ∉ F := fun b hb hF => by have := hP.lf b hF; omega
            obtain ⟨v4, t13, n13, F4, hadd, hP13, hn13, hf13⟩ := hP12.add (by omega) (m := ⟨.ofNat at_, ((bitsOf R).take (lo + st)).take lo, ((bitsOf R).take (lo + st)).drop lo⟩) (a := .num 3 (.ofNat at_)) rfl
              (hv37.get fun b hb => by have := hb37 b hb; rw [hkeep12 b (by omega), hgF.get b (by omega) (by simp)])
              (hv58.get fun b hb => by have := hb58 b hb; rw [hkeep12 b (by omega)])
              (fun b hb => by
                rw [List.mem_append] at hb
                rcases hb with hb | hb
                · have := hb37 b hb; exact ⟨by omega, by omega, hnF' b (by omega)⟩
                · have := hb58 b hb; exact ⟨by omega, by omega, hnF' b (by omega)⟩) (by omega)
            obtain ⟨hp4, hp4'⟩ := pstep_lt hstep (by omega)
            simp (iota := false) only [eqAt_ok, SY, reduceCtorEq, if_false, if_true, Nat.zero_add, e4, e5, c4, c5, c6, Option.isSome_some, Option.getD_some, hcl, hpos, hcA, parts_3_0 (ck_num _ _), nb_eq, hstm', hcB, hcC, hld1, hq, hcD, hsl1, hsr1, hcE, hsr9, hcF, hst11, hst12, ne_eq, not_true]
            simp (iota := false) only [hld3, parts_full3, hadd, SY]
            refine hrec (bs.length - p4) _ _ _ (by omega) ⟨p4, _, v4, _, F4, _, by omega, ?_, ?_, hrD.get2 (by omega) ?_ (fun b hb => ?_), hP13, by omega, by simp; omega, fun r c h => hpar r c (.more hlt hstep h), fun b hb hbw => ?_⟩
            · simp (iota := false) only [SY, reduceCtorEq, if_false, if_true, e4]
            · simp (iota := false) only [SY, reduceCtorEq, if_false, if_true]
            · rw [hf13 w (by omega), hkeep12 w (by omega), hkeep10 w (by omega)]
            · have := hbk0 b hb; rw [hf13 b (by omega), hkeep12 b (by omega), hkeep10 b (by omega)]
            · rw [hf13 b hb, hkeepA b (by omega) hbw, hfr b hb hbw]
        · rw [if_pos he5] at hD hstep
          subst hD
          simp (iota := false) only [eqAt_ok, SY, reduceCtorEq, if_false, if_true, Nat.zero_add, e4, e5, c4, c5, c6, Option.isSome_some, Option.getD_some, hcl, hpos, hcA, parts_3_0 (ck_num _ _), nb_eq, hstm', hcB, hcC, hld1, hq, hcD, ne_eq, he5, not_false_eq_true]
          refine .inr ⟨_, t8, n8, e5', rfl, ?_, ?_, hpar _ _ (.bad hlt hstep), by have := hgD.le; omega, fun b hb hbw => (hkeep8 b (by omega) hbw).trans (hfr b hb hbw)⟩ <;> simp (iota := false) only [SY, reduceCtorEq, if_false, if_true]
      · have hp0 : bs.length ≤ p := by omega
        have hpos : ¬ 0 < bs.length - p := by omega
        simp (iota := false) only [SY, reduceCtorEq, if_false, if_true, Nat.zero_add, e4, c4, Option.isSome_some, Option.getD_some, hcl, hpos]
        refine .inl ⟨_, t3, n3, s, acc, xs, F, E, rfl, ?_, hpar _ _ (.done hp0), hP, hn, hfr⟩
        simp (iota := false) only [SY, reduceCtorEq, if_false, if_true, e5]
    · simp (iota := false) only [SY, reduceCtorEq, if_false, if_true, true_and]
      exact ⟨hr2, ⟨.nil, .nil, fun b hb => (by cases hb), fun b hb => by cases hb⟩, Nat.le_refl _, Nat.zero_le _, fun r c h => h, fun _ _ _ => trivial⟩
  have hgr : ∀ t' n', n1 + 1 ≤ n' → (∀ b, b < n1 + 1 → b ≠ w → t'.get b = t2.get b) → Gr [] t n t' n' := fun t' n' hn hf => ⟨by have := hg1.le; omega, fun b hb _ => by
    have := hg1.le
    rw [hf b (by omega) (by omega), hfr2 b (by omega), hg1.get b hb (by simp)]⟩
  rcases key with ⟨e', t', n', v, r, xs, F, E, rfl, e5, hpar, hP, hn, hf⟩ | ⟨e', t', n', c, rfl, e2, e3, hpar, hn, hf⟩
  · simp (iota := false) only [SY, reduceCtorEq, if_false, if_true, e5]
    refine ⟨v, t', n', r, 0, xs, F, E, rfl, hpar, ⟨hP.ow, hP.els, fun b hb => ?_, fun b hb => ?_⟩, hgr _ _ hn hf⟩
    · have := hP.lf b hb; have := hg1.le; omega
    · have h1 := hP.le b hb; have := hg1.le; exact ⟨by omega, h1.2.1, h1.2.2⟩
  · simp (iota := false) only [SY, reduceCtorEq, if_false, if_true, e2, e3]
    exact ⟨_, t', n', [], c, [], [], [], rfl, hpar, ⟨.nil, .nil, fun b hb => (by cases hb), fun b hb => by cases hb⟩, hgr _ _ hn hf⟩
end Ev
