import Derived.Test.YtlkiacbmbfmlpaaYN
/- What the functions of cursor do (3): bytes are read. -/
namespace Ev
open Go
variable [Told] [TokV] [ToldOK]
set_option linter.unusedVariables false
set_option linter.unusedSimpArgs false
set_option linter.unusedSectionVars false
set_option maxRecDepth 10000
variable {tab : Bt FnD}
theorem conv73 {v : Nat} (hv : v < 9223372036854775808) (k : K) : pConvT 3 (.num 7 (.ofNat v)) k = k (.num 3 (.ofNat v)) := by
  rw [pConvT_num (by omega), wrap3 (by simp; omega)]
theorem numP_small {xs : List Nat} (hx : ∀ x ∈ xs, x < 256) (hl : xs.length ≤ 7) : numP xs < 9223372036854775808 := by
  have h1 := numP_lt hx
  have h2 : (256 : Nat) ^ xs.length ≤ 256 ^ 7 := Nat.pow_le_pow_right (by omega) hl
  have : (256 : Nat) ^ 7 = 72057594037927936 := by decide
  omega
/-- a number of so many bytes -/
def SpecNum (F : FnD) (k m : Nat) (tab : Bt FnD) : Prop := ∀ {y : Yh} {ih : Ih} {t : H} {n w : Nat} {s : AV} {p er : Nat} {bs : List Nat}, Rdr t n w s p er (bs.map by8) → (∀ x ∈ bs, x < 256) → Rt tab k ih →
    ∃ t', F y ih (.cons (.ref 1 w 0 0 0 0) .nil) t n = .ok (.num 3 (.ofNat (numP (takeN bs p er m).1))) t' n ∧ Rdr t' n w s (takeN bs p er m).2.1 (takeN bs p er m).2.2 (bs.map by8) ∧ Gr [w] t n t' n
theorem u1_ok (T : TbM tab) : SpecNum s14 3 1 tab := fun {y ih t n w s p er bs} h hx hR => by
  obtain ⟨v, t1, n1, hc, rfl, h1, h2, rfl⟩ := call (a := .cons (.ref 1 w 0 0 0 0) (.cons (.num 3 (.ofNat 1)) .nil)) (t := t) (n := n) hR T.g31 (P := fun v t' n' => v = .num 7 (.ofNat (numP (takeN bs p er 1).1)) ∧ Rdr t' n w s (takeN bs p er 1).2.1 (takeN bs p er 1).2.2 (bs.map by8) ∧ Gr [w] t n t' n ∧ n' = n) fun ih' hR' => by
    obtain ⟨t', h1, h2, h3⟩ := number_ok (y := noY) (m := 1) h hx (by omega) hR' T
    exact ⟨_, t', n, h1, rfl, h2, h3, rfl⟩
  refine ⟨t1, ?_, h1, h2⟩
  unfold s14
  have hs := numP_small (xs := (takeN bs p er 1).1) (fun x hxm => hx x (takeN_mem hxm)) (Nat.le_trans takeN_len (by omega))
  simp (iota := false) only [conv73 hs, SY, reduceCtorEq, if_false, if_true, hc]
theorem u2_ok (T : TbM tab) : SpecNum s13 3 2 tab := fun {y ih t n w s p er bs} h hx hR => by
  obtain ⟨v, t1, n1, hc, rfl, h1, h2, rfl⟩ := call (a := .cons (.ref 1 w 0 0 0 0) (.cons (.num 3 (.ofNat 2)) .nil)) (t := t) (n := n) hR T.g31 (P := fun v t' n' => v = .num 7 (.ofNat (numP (takeN bs p er 2).1)) ∧ Rdr t' n w s (takeN bs p er 2).2.1 (takeN bs p er 2).2.2 (bs.map by8) ∧ Gr [w] t n t' n ∧ n' = n) fun ih' hR' => by
    obtain ⟨t', h1, h2, h3⟩ := number_ok (y := noY) (m := 2) h hx (by omega) hR' T
    exact ⟨_, t', n, h1, rfl, h2, h3, rfl⟩
  refine ⟨t1, ?_, h1, h2⟩
  unfold s13
  have hs := numP_small (xs := (takeN bs p er 2).1) (fun x hxm => hx x (takeN_mem hxm)) (Nat.le_trans takeN_len (by omega))
  simp (iota := false) only [conv73 hs, SY, reduceCtorEq, if_false, if_true, hc]
theorem err_ok {y : Yh} {ih : Ih} {t : H} {n w : Nat} {s : AV} {p er : Nat} {bs : List AV} (h : Rdr t n w s p er bs) : s33 y ih (.cons (.ref 1 w 0 0 0 0) .nil) t n = .ok (.num 3 (.ofNat er)) t n := by
  unfold s33
  simp (iota := false) only [SY, reduceCtorEq, if_false, if_true, Nat.zero_add, h.c2, Option.isSome_some, Option.getD_some]
theorem left_ok {y : Yh} {ih : Ih} {t : H} {n w : Nat} {s : AV} {p er : Nat} {bs : List AV} (h : Rdr t n w s p er bs) : s12 y ih (.cons (.ref 1 w 0 0 0 0) .nil) t n = .ok (.num 3 (.ofNat (bs.length - p))) t n := by
  unfold s12
  have hq : ∀ k : K, q1 (.num 3 (.ofNat bs.length)) (.num 3 (.ofNat p)) k = k (.num 3 (.ofNat (bs.length - p))) := fun k => q1_n h.pl (by have := h.bl; omega)
  simp (iota := false) only [SY, reduceCtorEq, if_false, if_true, Nat.zero_add, h.c0, h.c1, Option.isSome_some, Option.getD_some, pLenL_sl h.sl Nat.one_pos, Nat.div_one, hq]
theorem left2_ok {y : Yh} {ih : Ih} {t : H} {n w : Nat} {s : AV} {p er : Nat} {bs : List AV} (h : Rdr t n w s p er bs) : s17 y ih (.cons (.ref 1 w 0 0 0 0) .nil) t n = .ok (.num 3 (.ofNat (bs.length - p))) t n := by
  unfold s17
  have hq : ∀ k : K, q1 (.num 3 (.ofNat bs.length)) (.num 3 (.ofNat p)) k = k (.num 3 (.ofNat (bs.length - p))) := fun k => q1_n h.pl (by have := h.bl; omega)
  simp (iota := false) only [SY, reduceCtorEq, if_false, if_true, Nat.zero_add, h.c0, h.c1, Option.isSome_some, Option.getD_some, pLenL_sl h.sl Nat.one_pos, Nat.div_one, hq]
/-- a copy -/
def SpecClone (F : FnD) : Prop := ∀ {y : Yh} {ih : Ih} {t : H} {n : Nat} {s : AV} {xs : List AV}, Sl t 1 s xs → (∀ b ∈ bk s, b < n) → xs.length ≤ 1048576 →
    ∃ v t' n' G, F y ih (.cons s .nil) t n = .ok v t' n' ∧ Ow t' 1 v xs G ∧ Gr [] t n t' n' ∧ ∀ b ∈ G, n ≤ b ∧ b < n'
theorem nil_of {t : H} {sz : Nat} {xs : List AV} (h : Sl t sz (.ref 2 0 0 0 0 0) xs) : xs = [] := by
  cases h with
  | nil => rfl
  | row hg => rcases hg with h | h <;> cases h
  | fin hg => rfl
theorem clone_gen {F : FnD} (hn : ∀ y ih t n, F y ih (.cons (.ref 2 0 0 0 0 0) .nil) t n = .ok (.ref 2 0 0 0 0 0) t n) (hs : ∀ y ih t n s (xs : List AV) s' t' n', Sl t 1 s xs → s ≠ .ref 2 0 0 0 0 0 → (∀ k, pApp 1 1 (.ref 3 n 0 0 0 0) s (nw t 1 [] 0 n) (n + 1) k = k s' t' n') → F y ih (.cons s .nil) t n = .ok s' t' n') : SpecClone F := fun {y ih t n s xs} h hb hl => by
  by_cases h0 : s = .ref 2 0 0 0 0 0
  · subst h0
    obtain rfl := nil_of h
    exact ⟨_, t, n, [], hn _ _ _ _, .nil, .refl _ _ _, fun b hb => by cases hb⟩
  · have h1 : Ow (nw t 1 [] 0 n) 1 (.ref 3 n 0 0 0 0) [] [n] := own_nw (t := t) (sz := 1) (n := n) (l := []) (len := 0) (.inl rfl) rfl
    obtain ⟨s', t', n', G, h2, h3, h4, h5⟩ := app_ow (bytes := 1) (n := n + 1) h1 (h.get fun b hb' => nw_ne (by have := hb b hb'; omega)) (by omega) (by simp) (by simpa using hl)
    exact ⟨s', t', n', G, hs _ _ _ _ _ _ _ _ _ h h0 h2, h3, ⟨by have := h4.le; omega, fun b hb _ => by rw [h4.get b (by omega) (by simp; omega), nw_ne (by omega)]⟩, fun b hb => ⟨by have := (h5 b hb).1; simp at this; omega, (h5 b hb).2⟩⟩
theorem rowSl0 (t : H) (n : Nat) (k : KH) : pRowSl 1 0 .nil t n k = k (.ref 3 n 0 0 0 0) (nw t 1 [] 0 n) (n + 1) := pRowSl_lst (l := []) rfl t n k
theorem clone8_ok : SpecClone s30 := clone_gen
  (fun y ih t n => by unfold s30; simp (iota := false) only [SY, reduceCtorEq, if_false, if_true, pEqN_sl (t := t) (sz := 1) Sl.nil])
  (fun y ih t n s xs s' t' n' h h0 h2 => by unfold s30; simp (iota := false) only [SY, reduceCtorEq, if_false, if_true, pEqN_sl h, h0, rowSl0, h2])
theorem cloneB_ok : SpecClone s16 := clone_gen
  (fun y ih t n => by unfold s16; simp (iota := false) only [SY, reduceCtorEq, if_false, if_true, pEqN_sl (t := t) (sz := 1) Sl.nil])
  (fun y ih t n s xs s' t' n' h h0 h2 => by unfold s16; simp (iota := false) only [SY, reduceCtorEq, if_false, if_true, pEqN_sl h, h0, rowSl0, h2])
/-- so many bytes, as one's own -/
def SpecBytes (F : FnD) (k : Nat) (tab : Bt FnD) : Prop := ∀ {y : Yh} {ih : Ih} {t : H} {n w : Nat} {s : AV} {p m er : Nat} {bs : List AV}, Rdr t n w s p er bs → m ≤ 1048576 → Rt tab k ih →
    ∃ v t' n' G, F y ih (.cons (.ref 1 w 0 0 0 0) (.cons (.num 3 (.ofNat m)) .nil)) t n = .ok v t' n' ∧ Rdr t' n' w s (takeP bs p er m).2.1 (takeP bs p er m).2.2 bs ∧ Ow t' 1 v (takeP bs p er m).1 G ∧ Gr [w] t n t' n' ∧ ∀ b ∈ G, n ≤ b ∧ b < n'
theorem takeP_len {bs : List AV} {p er m : Nat} : (takeP bs p er m).1.length ≤ m := by
  unfold takeP
  split
  · simp
  · split
    · simp
    · simp; omega
theorem bytes_ok (T : TbM tab) : SpecBytes s32 2 tab := fun {y ih t n w s p m er bs} h hm hR => by
  obtain ⟨v, t1, n1, hc, h1, h2, h3, h4, rfl⟩ := call (a := .cons (.ref 1 w 0 0 0 0) (.cons (.num 3 (.ofNat m)) .nil)) (t := t) (n := n) hR T.g41 (P := fun v t' n' => Rdr t' n w s (takeP bs p er m).2.1 (takeP bs p er m).2.2 bs ∧ Sl t' 1 v (takeP bs p er m).1 ∧ Gr [w] t n t' n ∧ (∀ b ∈ bk v, b ∈ bk s) ∧ n' = n) fun ih' hR' => by
    obtain ⟨v, t', h1, h2, h3, h4, h5⟩ := take_ok (y := noY) h (show m < 1152921504606846976 by omega) hR' T
    exact ⟨v, t', n, h1, h2, h3, h4, h5, rfl⟩
  obtain ⟨v2, t2, n2, hc2, G, h5, h6, h7⟩ := call (a := .cons v .nil) (t := t1) (n := n1) hR T.g30 (P := fun v2 t' n' => ∃ G, Ow t' 1 v2 (takeP bs p er m).1 G ∧ Gr [] t1 n1 t' n' ∧ ∀ b ∈ G, n1 ≤ b ∧ b < n') fun ih' hR' => by
    obtain ⟨v2, t', n', G, q1, q2, q3, q4⟩ := clone8_ok (y := noY) (ih := ih') (n := n1) h2 (fun b hb => (h.bk b (h4 b hb)).2) (Nat.le_trans takeP_len hm)
    exact ⟨v2, t', n', q1, G, q2, q3, q4⟩
  refine ⟨v2, t2, n2, G, ?_, h1.get h6.le fun b hb => h6.get b hb (by simp), h5, h3.trans h6 (by simp), h7⟩
  unfold s32
  simp (iota := false) only [SY, reduceCtorEq, if_false, if_true, Nat.zero_add, hc, hc2]
theorem bytes2_ok (T : TbM tab) (hT : ∀ {y : Yh} {ih : Ih} {t : H} {n w : Nat} {s : AV} {p m er : Nat} {bs : List AV}, Rdr t n w s p er bs → m < 1152921504606846976 →
    ∃ v t', s36 y ih (.cons (.ref 1 w 0 0 0 0) (.cons (.num 3 (.ofNat m)) .nil)) t n = .ok v t' n ∧ Rdr t' n w s (takeP bs p er m).2.1 (takeP bs p er m).2.2 bs ∧ Sl t' 1 v (takeP bs p er m).1 ∧ Gr [w] t n t' n ∧ ∀ b ∈ bk v, b ∈ bk s) : SpecBytes s20 1 tab := fun {y ih t n w s p m er bs} h hm hR => by
  obtain ⟨v, t1, n1, hc, h1, h2, h3, h4, rfl⟩ := call (a := .cons (.ref 1 w 0 0 0 0) (.cons (.num 3 (.ofNat m)) .nil)) (t := t) (n := n) hR T.g36 (P := fun v t' n' => Rdr t' n w s (takeP bs p er m).2.1 (takeP bs p er m).2.2 bs ∧ Sl t' 1 v (takeP bs p er m).1 ∧ Gr [w] t n t' n ∧ (∀ b ∈ bk v, b ∈ bk s) ∧ n' = n) fun ih' hR' => by
    obtain ⟨v, t', h1, h2, h3, h4, h5⟩ := hT (y := noY) (ih := ih') h (show m < 1152921504606846976 by omega)
    exact ⟨v, t', n, h1, h2, h3, h4, h5, rfl⟩
  obtain ⟨v2, t2, n2, G, hc2, h5, h6, h7⟩ := app_ow (bytes := 1) (n := n1) (Ow.nil (t := t1) (sz := 1)) h2 (by omega) (fun b hb => by cases hb) (by have := takeP_len (bs := bs) (p := p) (er := er) (m := m); simp; omega)
  refine ⟨v2, t2, n2, G, ?_, h1.get h6.le fun b hb => h6.get b hb (by simp), h5, h3.trans h6 (by simp), fun b hb => ⟨by have := (h7 b hb).1; simp at this; exact this, (h7 b hb).2⟩⟩
  unfold s20
  simp (iota := false) only [SY, reduceCtorEq, if_false, if_true, Nat.zero_add, hc, hc2]
/-- the document's take -/
theorem take2_ok {y : Yh} {ih : Ih} {t : H} {n w : Nat} {s : AV} {p m er : Nat} {bs : List AV} (h : Rdr t n w s p er bs) (hm : m < 1152921504606846976) :
    ∃ v t', s36 y ih (.cons (.ref 1 w 0 0 0 0) (.cons (.num 3 (.ofNat m)) .nil)) t n = .ok v t' n ∧ Rdr t' n w s (takeP bs p er m).2.1 (takeP bs p er m).2.2 bs ∧ Sl t' 1 v (takeP bs p er m).1 ∧ Gr [w] t n t' n ∧ ∀ b ∈ bk v, b ∈ bk s := by
  by_cases he : er = 0
  · subst he
    have hbl := h.bl
    have hpl := h.pl
    have hq : ∀ k : K, q1 (.num 3 (.ofNat bs.length)) (.num 3 (.ofNat p)) k = k (.num 3 (.ofNat (bs.length - p))) := fun k => q1_n hpl (by omega)
    by_cases hc : bs.length - p < m
    · have e : takeP bs p 0 m = ([], p, 11) := by simp [takeP, hc]
      refine ⟨.ref 2 0 0 0 0 0, up t w 2 (.num 3 (.ofNat 11)), ?_, ?_, ?_, Gr.up h.lt, fun b hb => by cases hb⟩
      · unfold s36
        have h' := h.err (x := 11)
        simp (iota := false) only [SY, reduceCtorEq, if_false, if_true, Nat.zero_add, h.c2, h.c1, h.c0, Option.isSome_some, Option.getD_some, pLenL_sl h.sl Nat.one_pos, Nat.div_one, hq, ne_eq, not_true, Nat.not_lt_zero, hc, pSt1 (ck_num _ _) h.k2, h'.c2, show (11 = 0) = False by decide, not_false_eq_true]
      · rw [e]; exact h.err
      · rw [e]; exact .nil
    · have e : takeP bs p 0 m = ((bs.drop p).take m, p + m, 0) := by simp [takeP, hc]
      obtain ⟨v, hv, hsv, hb, _⟩ := pSlV_sl (l := p) (u := p + m) (h.on (p' := p + m) (by omega)).sl h.s5 Nat.one_pos (by omega) (by omega)
      refine ⟨v, up t w 1 (.num 3 (.ofNat (p + m))), ?_, ?_, ?_, Gr.up h.lt, hb⟩
      · unfold s36
        have h' := h.on (p' := p + m) (by omega)
        have hq2 : ∀ k : K, q0 (.num 3 (.ofNat p)) (.num 3 (.ofNat m)) k = k (.num 3 (.ofNat (p + m))) := fun k => q0_n (by omega)
        have hq3 : ∀ k : K, q1 (.num 3 (.ofNat (p + m))) (.num 3 (.ofNat m)) k = k (.num 3 (.ofNat p)) := fun k => (q1_n (by omega) (by omega)).trans (by rw [Nat.add_sub_cancel])
        simp (iota := false) only [SY, reduceCtorEq, if_false, if_true, Nat.zero_add, h.c2, h.c1, h.c0, Option.isSome_some, Option.getD_some, pLenL_sl h.sl Nat.one_pos, Nat.div_one, hq, ne_eq, not_true, Nat.not_lt_zero, hc, hq2, pSt1 (ck_num _ _) h.k1, h'.c0, h'.c1, hq3, hv]
      · rw [e]; exact h.on (p' := p + m) (by omega)
      · rw [e]; simpa using hsv
  · refine ⟨.ref 2 0 0 0 0 0, t, ?_, by simpa [takeP, he] using h, by simpa [takeP, he] using Sl.nil, .refl _ _ _, fun b hb => by cases hb⟩
    unfold s36
    simp (iota := false) only [SY, reduceCtorEq, if_false, if_true, Nat.zero_add, h.c2, Option.isSome_some, Option.getD_some, ne_eq, he, not_false_eq_true]
end Ev
