import Derived.Test.YtlkiacbmbfmlpaaYR
/- What the functions of cursor do, the program's and the document's. -/
namespace Ev
open Go
variable [Told] [TokV] [ToldOK]
set_option linter.unusedVariables false
set_option linter.unusedSimpArgs false
set_option linter.unusedSectionVars false
set_option maxRecDepth 10000
theorem bL_t {p : Prop} [Decidable p] (h : p) : bL p = .num 8 (.ofNat 1) := by unfold bL; rw [if_pos h]; rfl
theorem bL_f {p : Prop} [Decidable p] (h : ¬ p) : bL p = .num 8 (.ofNat 0) := by unfold bL; rw [if_neg h]; rfl
/-- a reader (the program's, the document's): its bytes, where it is, its error -/
structure Rdr (t : H) (n w : Nat) (s : AV) (p er : Nat) (bs : List AV) : Prop where
  c0 : cl t w 0 0 = some s
  c1 : cl t w 0 1 = some (.num 3 (.ofNat p))
  c2 : cl t w 0 2 = some (.num 3 (.ofNat er))
  k1 : wok t w 0 1
  k2 : wok t w 0 2
  sl : Sl t 1 s bs
  s5 : ∀ b e o l c, s ≠ .ref 5 b e o l c
  lt : w < n
  bk : ∀ b ∈ bk s, b ≠ w ∧ b < n
  pl : p ≤ bs.length
  bl : bs.length < 1152921504606846976
theorem Rdr.ne {t : H} {n w : Nat} {s : AV} {p er : Nat} {bs : List AV} (h : Rdr t n w s p er bs) {b : Nat} (hb : b ∈ Ev.bk s) : w ≠ b := fun e => (h.bk b hb).1 e.symm
theorem Rdr.get {t t' : H} {n n' w : Nat} {s : AV} {p er : Nat} {bs : List AV} (h : Rdr t n w s p er bs) (hn : n ≤ n') (hg : ∀ b, b < n → t'.get b = t.get b) : Rdr t' n' w s p er bs :=
  have hw := hg w h.lt
  ⟨(cl_get hw _ _).trans h.c0, (cl_get hw _ _).trans h.c1, (cl_get hw _ _).trans h.c2, h.k1.get hw, h.k2.get hw, h.sl.get fun b hb => hg b (h.bk b hb).2, h.s5, by have := h.lt; omega, fun b hb => by have := h.bk b hb; omega, h.pl, h.bl⟩
theorem Rdr.get2 {t t' : H} {n n' w : Nat} {s : AV} {p er : Nat} {bs : List AV} (h : Rdr t n w s p er bs) (hn : n ≤ n') (hw : t'.get w = t.get w) (hg : ∀ b ∈ Ev.bk s, t'.get b = t.get b) : Rdr t' n' w s p er bs :=
  ⟨(cl_get hw _ _).trans h.c0, (cl_get hw _ _).trans h.c1, (cl_get hw _ _).trans h.c2, h.k1.get hw, h.k2.get hw, h.sl.get hg, h.s5, by have := h.lt; omega, fun b hb => by have := h.bk b hb; omega, h.pl, h.bl⟩
/-- its error is set -/
theorem Rdr.err {t : H} {n w : Nat} {s : AV} {p er x : Nat} {bs : List AV} (h : Rdr t n w s p er bs) : Rdr (up t w 2 (.num 3 (.ofNat x))) n w s p x bs :=
  ⟨by simp [cl_up h.k2, h.c0], by simp [cl_up h.k2, h.c1], by simp [cl_up h.k2], wok_up h.k2 h.k1, wok_up h.k2 h.k2, h.sl.get fun b hb => get_up_ne (h.ne hb), h.s5, h.lt, h.bk, h.pl, h.bl⟩
/-- it goes on -/
theorem Rdr.on {t : H} {n w : Nat} {s : AV} {p p' er : Nat} {bs : List AV} (h : Rdr t n w s p er bs) (hp : p' ≤ bs.length) : Rdr (up t w 1 (.num 3 (.ofNat p'))) n w s p' er bs :=
  ⟨by simp [cl_up h.k1, h.c0], by simp [cl_up h.k1], by simp [cl_up h.k1, h.c2], wok_up h.k1 h.k1, wok_up h.k1 h.k2, h.sl.get fun b hb => get_up_ne (h.ne hb), h.s5, h.lt, h.bk, hp, h.bl⟩
def takeP (bs : List AV) (p er m : Nat) : List AV × Nat × Nat :=
  if er ≠ 0 then ([], p, er) else if bs.length - p < m then ([], p, 11) else ((bs.drop p).take m, p + m, 0)
def takeN (bs : List Nat) (p er m : Nat) : List Nat × Nat × Nat :=
  if er ≠ 0 then ([], p, er) else if bs.length - p < m then ([], p, 11) else ((bs.drop p).take m, p + m, 0)
theorem takeP_map (f : Nat → AV) (bs : List Nat) (p er m : Nat) : takeP (bs.map f) p er m = ((takeN bs p er m).1.map f, (takeN bs p er m).2.1, (takeN bs p er m).2.2) := by
  unfold takeP takeN
  rw [List.length_map]
  split
  · rfl
  · split
    · rfl
    · simp [List.map_take, List.map_drop]
theorem takeN_mem {bs : List Nat} {p er m x : Nat} (h : x ∈ (takeN bs p er m).1) : x ∈ bs := by
  unfold takeN at h
  split at h
  · cases h
  · split at h
    · cases h
    · exact List.mem_of_mem_drop (List.mem_of_mem_take h)
theorem takeN_len {bs : List Nat} {p er m : Nat} : (takeN bs p er m).1.length ≤ m := by
  unfold takeN
  split
  · simp
  · split
    · simp
    · simp; omega
theorem takeN_full {bs : List Nat} {p er m : Nat} (h : (takeN bs p er m).2.2 = 0) : (takeN bs p er m).1.length = m := by
  unfold takeN at *
  split at h
  · rename_i h0; exact absurd h h0
  · rename_i h0
    split at h
    · cases h
    · rename_i h1
      rw [if_neg h0, if_neg h1]
      simp; omega
theorem rfail_ok {y : Yh} {ih : Ih} {t : H} {n w : Nat} {s : AV} {p x : Nat} {bs : List AV} (h : Rdr t n w s p 0 bs) :
    s37 y ih (.cons (.ref 1 w 0 0 0 0) (.cons (.num 3 (.ofNat x)) .nil)) t n = .ok unit (up t w 2 (.num 3 (.ofNat x))) n := by
  unfold s37
  simp (iota := false) only [SY, reduceCtorEq, if_false, if_true, Nat.zero_add, h.c2, Option.isSome_some, Option.getD_some, pSt1 (ck_num _ _) h.k2]
/-- the functions in the table -/
structure TbM (tab : Bt FnD) : Prop where
  g3 : tab.get 3 = some s3
  g4 : tab.get 4 = some s4
  g5 : tab.get 5 = some s5
  g6 : tab.get 6 = some s6
  g7 : tab.get 7 = some s7
  g8 : tab.get 8 = some s8
  g9 : tab.get 9 = some s9
  g10 : tab.get 10 = some s10
  g11 : tab.get 11 = some s11
  g12 : tab.get 12 = some s12
  g13 : tab.get 13 = some s13
  g14 : tab.get 14 = some s14
  g15 : tab.get 15 = some s15
  g16 : tab.get 16 = some s16
  g17 : tab.get 17 = some s17
  g18 : tab.get 18 = some s18
  g19 : tab.get 19 = some s19
  g20 : tab.get 20 = some s20
  g21 : tab.get 21 = some s21
  g22 : tab.get 22 = some s22
  g23 : tab.get 23 = some s23
  g24 : tab.get 24 = some s24
  g25 : tab.get 25 = some s25
  g26 : tab.get 26 = some s26
  g27 : tab.get 27 = some s27
  g28 : tab.get 28 = some s28
  g29 : tab.get 29 = some s29
  g30 : tab.get 30 = some s30
  g31 : tab.get 31 = some s31
  g32 : tab.get 32 = some s32
  g33 : tab.get 33 = some s33
  g34 : tab.get 34 = some s34
  g35 : tab.get 35 = some s35
  g36 : tab.get 36 = some s36
  g37 : tab.get 37 = some s37
  g38 : tab.get 38 = some s38
  g39 : tab.get 39 = some s39
  g40 : tab.get 40 = some s40
  g41 : tab.get 41 = some s41
  g42 : tab.get 42 = some s42
  g43 : tab.get 43 = some s43
variable {tab : Bt FnD}
theorem take_ok {y : Yh} {ih : Ih} {t : H} {n w : Nat} {s : AV} {p m er : Nat} {bs : List AV} (h : Rdr t n w s p er bs) (hm : m < 1152921504606846976) (hR : Rt tab 1 ih) (T : TbM tab) :
    ∃ v t', s41 y ih (.cons (.ref 1 w 0 0 0 0) (.cons (.num 3 (.ofNat m)) .nil)) t n = .ok v t' n ∧ Rdr t' n w s (takeP bs p er m).2.1 (takeP bs p er m).2.2 bs ∧ Sl t' 1 v (takeP bs p er m).1 ∧ Gr [w] t n t' n ∧ ∀ b ∈ bk v, b ∈ bk s := by
  by_cases he : er = 0
  · subst he
    have hbl := h.bl
    have hpl := h.pl
    have hq : ∀ k : K, q1 (.num 3 (.ofNat bs.length)) (.num 3 (.ofNat p)) k = k (.num 3 (.ofNat (bs.length - p))) := fun k => q1_n hpl (by omega)
    by_cases hc : bs.length - p < m
    · have e : takeP bs p 0 m = ([], p, 11) := by simp [takeP, hc]
      refine ⟨.ref 2 0 0 0 0 0, up t w 2 (.num 3 (.ofNat 11)), ?_, ?_, ?_, Gr.up h.lt, fun b hb => by cases hb⟩
      · unfold s41
        obtain ⟨_, _, _, hcall, rfl, rfl, rfl⟩ := call (a := .cons (.ref 1 w 0 0 0 0) (.cons (.num 3 (.ofNat 11)) .nil)) (t := t) (n := n) hR T.g37 (P := fun v t' n' => v = unit ∧ t' = up t w 2 (.num 3 (.ofNat 11)) ∧ n' = n) fun ih' _ => ⟨_, _, _, rfail_ok h, rfl, rfl, rfl⟩
        simp (iota := false) only [SY, reduceCtorEq, if_false, if_true, Nat.zero_add, h.c2, h.c1, h.c0, Option.isSome_some, Option.getD_some, pLenL_sl h.sl Nat.one_pos, Nat.div_one, hq, ne_eq, not_true, Nat.not_lt_zero, hc, hcall] <;> rfl
      · rw [e]; exact h.err
      · rw [e]; exact .nil
    · have e : takeP bs p 0 m = ((bs.drop p).take m, p + m, 0) := by simp [takeP, hc]
      obtain ⟨v, hv, hsv, hb, _⟩ := pSlV_sl (l := p) (u := p + m) (h.on (p' := p + m) (by omega)).sl h.s5 Nat.one_pos (by omega) (by omega)
      refine ⟨v, up t w 1 (.num 3 (.ofNat (p + m))), ?_, ?_, ?_, Gr.up h.lt, hb⟩
      · unfold s41
        have h' := h.on (p' := p + m) (by omega)
        have hq2 : ∀ k : K, q0 (.num 3 (.ofNat p)) (.num 3 (.ofNat m)) k = k (.num 3 (.ofNat (p + m))) := fun k => q0_n (by omega)
        have hq3 : ∀ k : K, q1 (.num 3 (.ofNat (p + m))) (.num 3 (.ofNat m)) k = k (.num 3 (.ofNat p)) := fun k => (q1_n (by omega) (by omega)).trans (by rw [Nat.add_sub_cancel])
        simp (iota := false) only [SY, reduceCtorEq, if_false, if_true, Nat.zero_add, h.c2, h.c1, h.c0, Option.isSome_some, Option.getD_some, pLenL_sl h.sl Nat.one_pos, Nat.div_one, hq, ne_eq, not_true, Nat.not_lt_zero, hc, hq2, pSt1 (ck_num _ _) h.k1, h'.c0, h'.c1, hq3, hv] <;> rfl
      · rw [e]; exact h.on (p' := p + m) (by omega)
      · rw [e]; simpa using hsv
  · refine ⟨.ref 2 0 0 0 0 0, t, ?_, by simpa [takeP, he] using h, by simpa [takeP, he] using Sl.nil, .refl _ _ _, fun b hb => by cases hb⟩
    unfold s41
    simp (iota := false) only [SY, reduceCtorEq, if_false, if_true, Nat.zero_add, h.c2, Option.isSome_some, Option.getD_some, ne_eq, he, not_false_eq_true] <;> rfl
/-! ### numbers -/
def by8 (x : Nat) : AV := .num 4 (.ofNat x)
def numP (xs : List Nat) : Nat := xs.foldl (fun v x => v * 256 + x) 0
theorem numP_snoc (xs : List Nat) (x : Nat) : numP (xs ++ [x]) = numP xs * 256 + x := by simp [numP]
theorem numP_lt : ∀ {xs : List Nat}, (∀ x ∈ xs, x < 256) → numP xs < 256 ^ xs.length := by
  intro xs
  suffices h : ∀ (xs : List Nat) (v k : Nat), v < 256 ^ k → (∀ x ∈ xs, x < 256) → xs.foldl (fun v x => v * 256 + x) v < 256 ^ (k + xs.length) from fun hx => by simpa [numP] using h xs 0 0 (by simp) hx
  intro xs
  induction xs with
  | nil => intro v k hv _; simpa using hv
  | cons x xs ih =>
    intro v k hv hx
    have := ih (v * 256 + x) (k + 1) (by have := hx x (by simp); rw [Nat.pow_succ]; omega) fun y hy => hx y (by simp [hy])
    rwa [show k + 1 + xs.length = k + (x :: xs).length by simp; omega] at this
theorem or_add {v x : Nat} (hx : x < 256) : v * 256 ||| x = v * 256 + x := by
  have := Nat.shiftLeft_add_eq_or_of_lt (b := x) (i := 8) (by omega) v
  rw [Nat.shiftLeft_eq] at this
  exact this.symm
theorem step7 {v x : Nat} (hv : v * 256 + x < 18446744073709551616) (hx : x < 256) (k : K) :
    q8 (.num 7 (.ofNat v)) (.num 7 (.ofNat 8)) (fun v71 => pConvT 7 (by8 x) fun v81 => q6 v71 v81 k) = k (.num 7 (.ofNat (v * 256 + x))) := by
  rw [q8_num (by omega) (by omega) (.inl (Nat.le_refl _)), wrap7]
  rw [show (Int.ofNat v * 2 ^ 8) % 18446744073709551616 = Int.ofNat (v * 256) by simp; omega]
  unfold by8
  rw [pConvT_num (by omega), wrap7, show (Int.ofNat x) % 18446744073709551616 = Int.ofNat x by simp; omega]
  rw [q6_num (by omega), wrap7, or_add hx, show (Int.ofNat (v * 256 + x)) % 18446744073709551616 = Int.ofNat (v * 256 + x) by simp; omega]
end Ev
