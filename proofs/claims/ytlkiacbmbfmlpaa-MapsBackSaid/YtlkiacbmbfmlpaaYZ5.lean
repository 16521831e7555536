import Derived.Test.YtlkiacbmbfmlpaaYZ4
/- Writers (4): the document's. -/
namespace Ev
open Go
variable [Told] [TokV] [ToldOK]
set_option linter.unusedVariables false
set_option linter.unusedSimpArgs false
set_option linter.unusedSectionVars false
set_option maxRecDepth 10000
set_option maxHeartbeats 1000000
variable {tab : Bt FnD}
theorem loop_f (b : DC) (y : Yh) (ih : Ih) (f : Nat) (e : T AV) (t : H) (n : Nat) : loop b y ih (f + 1) e t n = b y ih e t n (loop b y ih f) := rfl
theorem loop_a (b : DC) (y : Yh) (ih : Ih) (e : T AV) (t : H) (n : Nat) : loop b y ih fuelL e t n = b y ih e t n (loop b y ih 999999) := loop_f b y ih 999999 e t n
theorem loop_b (b : DC) (y : Yh) (ih : Ih) (e : T AV) (t : H) (n : Nat) : loop b y ih 999999 e t n = b y ih e t n (loop b y ih 999998) := loop_f b y ih 999998 e t n
theorem loop_c (b : DC) (y : Yh) (ih : Ih) (e : T AV) (t : H) (n : Nat) : loop b y ih 999998 e t n = b y ih e t n (loop b y ih 999997) := loop_f b y ih 999997 e t n
/-- a byte is added -/
theorem Wtr.add {ie : Nat} {t : H} {n w : Nat} {s : AV} {F : List Nat} {bs : List Nat} (h : Wtr ie t n w s F 0 bs) (x : Nat) (hl : bs.length + 1 ≤ 1048576) :
    ∃ v t1 n1 s' t2 n2 t3 F', (∀ k, pRowSl 1 1 (.cons (by8 x) .nil) t n k = k v t1 n1) ∧ (∀ k, pApp 1 1 s v t1 n1 k = k s' t2 n2) ∧ (∀ k, pSt 1 (.ref 1 w 0 0 0 0) s' t2 k = k t3) ∧
      Wtr ie t3 n2 w s' F' 0 (bs ++ [x]) ∧ Gr (w :: F) t n t3 n2 ∧ ∀ b ∈ F', b ∈ F ∨ n ≤ b := by
  have hO1 : Ow (nw t 1 [by8 x] 1 n) 1 (.ref 3 n 0 0 1 1) [by8 x] [n] := own_nw (t := t) (sz := 1) (n := n) (l := [by8 x]) (len := 1) (.inl rfl) rfl
  have hrow := fun (k : KH) => pRowSl_lst (sz := 1) (ln := 1) (l := [by8 x]) rfl t n k
  have hlow : ∀ b, (b = w ∨ b ∈ F) → b ≠ n := fun b hb' => by
    rcases hb' with rfl | hb'
    · have := h.lt; omega
    · have := h.lf b hb'; omega
  have h1 : Wtr ie (nw t 1 [by8 x] 1 n) (n + 1) w s F 0 bs := h.get (by omega) fun b hb' => nw_ne (hlow b hb')
  obtain ⟨s', t2, n2, F', q1, q2, q3, q4⟩ := app_ow (bytes := 1) (n := n + 1) h1.ow hO1.sl (by omega) h1.lf (by simpa using hl)
  have e : (bs.map by8) ++ [by8 x] = (bs ++ [x]).map by8 := by simp
  rw [e] at q2
  obtain ⟨p1, p2, p3⟩ := h1.put q3 q2 q4
  refine ⟨_, _, _, s', t2, n2, _, F', hrow, q1, p1, p2, ⟨by have := p3.le; omega, fun b hb hF => by rw [p3.get b (by omega) hF, nw_ne (by omega)]⟩, fun b hb => ?_⟩
  rcases (q4 b hb).1 with h | h
  · exact .inl h
  · exact .inr (by omega)
theorem conv7 {v : Int} (h0 : 0 ≤ v) (h1 : v < 18446744073709551616) (k : K) : pConvT 7 (.num 3 v) k = k (.num 7 (.ofNat v.toNat)) := by
  rw [pConvT_num (by omega), wrap7]; congr 2; rw [Int.ofNat_eq_natCast]; omega
theorem q2_70 (m : Nat) (hm : m ≤ 8) (k : K) : q2 (.num 3 (.ofNat 8)) (.num 3 (.ofNat m)) k = k (.num 3 (.ofNat (8 * m))) := q2_n (by omega)
/-- put of one byte, of two -/
theorem rput1_ok {y : Yh} {ih : Ih} {t : H} {n w x : Nat} {s : AV} {F : List Nat} {er : Nat} {bs : List Nat} (h : Wtr 1 t n w s F er bs) (hl : bs.length + 1 ≤ 1048576) :
    ∃ s' t' n' F', s43 y ih (.cons (.ref 1 w 0 0 0 0) (.cons (.num 7 (.ofNat x)) (.cons (.num 3 (.ofNat 1)) .nil))) t n = .ok unit t' n' ∧ Wtr 1 t' n' w s' F' er (if er = 0 then bs ++ [x % 256] else bs) ∧ Gr (w :: F) t n t' n' ∧ ∀ b ∈ F', b ∈ F ∨ n ≤ b := by
  by_cases he : er = 0
  · subst he
    obtain ⟨v, t1, n1, s', t2, n2, t3, F', h1, h2, h3, h4, h5, h6⟩ := h.add (x % 256) hl
    refine ⟨s', t3, n2, F', ?_, by simpa using h4, h5, h6⟩
    have hq1 : ∀ k : K, q1 (.num 3 (.ofNat 1)) (.num 3 (.ofNat 1)) k = k (.num 3 (.ofNat 0)) := fun k => q1_n (by omega) (by omega)
    have hq2 : ∀ k : K, q1 (.num 3 (.ofNat 0)) (.num 3 (.ofNat 1)) k = k (.num 3 (-1)) := fun k => q1_3 (by simp)
    have hq3 : ∀ k : K, q9 (.num 7 (.ofNat x)) (.num 3 (.ofNat 0)) k = k (.num 7 (.ofNat x)) := fun k => (q9_num (by omega) (by omega) (.inl (by omega))).trans (by simp)
    have hcv : ∀ k : K, pConvT 4 (.num 7 (.ofNat x)) k = k (by8 (x % 256)) := fun k => by rw [pConvT_num (by omega), wrap4]; rfl
    have hneg : ¬ (Int.ofNat 0 ≤ (-1 : Int)) := by decide
    have hck : ∀ x, cellsK (by8 x) = fun f => f (.cons (by8 x) .nil) := fun _ => rfl
    unfold s43
    simp (iota := false) only [hcv, SY, reduceCtorEq, if_false, if_true, Nat.zero_add, h.c2, h.c0, Option.isSome_some, Option.getD_some, ne_eq, not_true, hq1, cLoop_eq, loop_a, loop_b, Nat.le_refl, q2_70 0 (by omega), Nat.mul_zero, hq3, parts_1_0 (hck _), h1, h2, h3, hq2, hneg]
  · refine ⟨s, t, n, F, ?_, by simpa [he] using h, .refl _ _ _, fun b hb => .inl hb⟩
    unfold s43
    simp (iota := false) only [SY, reduceCtorEq, if_false, if_true, Nat.zero_add, h.c2, Option.isSome_some, Option.getD_some, ne_eq, he, not_false_eq_true]
theorem rput2_ok {y : Yh} {ih : Ih} {t : H} {n w x : Nat} {s : AV} {F : List Nat} {er : Nat} {bs : List Nat} (h : Wtr 1 t n w s F er bs) (hl : bs.length + 2 ≤ 1048576) :
    ∃ s' t' n' F', s43 y ih (.cons (.ref 1 w 0 0 0 0) (.cons (.num 7 (.ofNat x)) (.cons (.num 3 (.ofNat 2)) .nil))) t n = .ok unit t' n' ∧ Wtr 1 t' n' w s' F' er (if er = 0 then bs ++ [x / 256 % 256, x % 256] else bs) ∧ Gr (w :: F) t n t' n' ∧ ∀ b ∈ F', b ∈ F ∨ n ≤ b := by
  by_cases he : er = 0
  · subst he
    obtain ⟨v, t1, n1, s', t2, n2, t3, F', h1, h2, h3, h4, h5, h6⟩ := h.add (x / 256 % 256) (by omega)
    obtain ⟨v', t1', n1', s'', t2', n2', t3', F'', h1', h2', h3', h4', h5', h6'⟩ := h4.add (x % 256) (by simp; omega)
    rw [List.append_assoc] at h4'
    have hle := h5.le
    refine ⟨s'', t3', n2', F'', ?_, by simpa using h4', h5.trans h5' (fun b hb => ?_), fun b hb => ?_⟩
    rotate_left
    · rcases List.mem_cons.1 hb with rfl | hb
      · exact .inl (by simp)
      · rcases h6 b hb with h | h
        · exact .inl (by simp [h])
        · exact .inr h
    · rcases h6' b hb with h | h
      · exact h6 b h
      · exact .inr (by omega)
    have hq0 : ∀ k : K, q1 (.num 3 (.ofNat 2)) (.num 3 (.ofNat 1)) k = k (.num 3 (.ofNat 1)) := fun k => q1_n (by omega) (by omega)
    have hq1 : ∀ k : K, q1 (.num 3 (.ofNat 1)) (.num 3 (.ofNat 1)) k = k (.num 3 (.ofNat 0)) := fun k => q1_n (by omega) (by omega)
    have hq2 : ∀ k : K, q1 (.num 3 (.ofNat 0)) (.num 3 (.ofNat 1)) k = k (.num 3 (-1)) := fun k => q1_3 (by simp)
    have hq3 : ∀ k : K, q9 (.num 7 (.ofNat x)) (.num 3 (.ofNat 0)) k = k (.num 7 (.ofNat x)) := fun k => (q9_num (by omega) (by omega) (.inl (by omega))).trans (by simp)
    have hq4 : ∀ k : K, q9 (.num 7 (.ofNat x)) (.num 3 (.ofNat 8)) k = k (.num 7 (.ofNat (x / 256))) := fun k => q9_num (by omega) (by omega) (.inl (by omega))
    have hcv : ∀ (x : Nat) (k : K), pConvT 4 (.num 7 (.ofNat x)) k = k (by8 (x % 256)) := fun x k => by rw [pConvT_num (by omega), wrap4]; rfl
    have hneg : ¬ (Int.ofNat 0 ≤ (-1 : Int)) := by decide
    have hck : ∀ x, cellsK (by8 x) = fun f => f (.cons (by8 x) .nil) := fun _ => rfl
    unfold s43
    simp (iota := false) only [hcv, SY, reduceCtorEq, if_false, if_true, Nat.zero_add, h.c2, h.c0, h4.c0, Option.isSome_some, Option.getD_some, ne_eq, not_true, hq0, hq1, cLoop_eq, loop_a, loop_b, loop_c, Nat.le_refl, Nat.zero_le, q2_70 0 (by omega), q2_70 1 (by omega), Nat.mul_zero, Nat.mul_one, hq3, hq4, parts_1_0 (hck _), h1, h2, h3, h1', h2', h3', hq2, hneg]
  · refine ⟨s, t, n, F, ?_, by simpa [he] using h, .refl _ _ _, fun b hb => .inl hb⟩
    unfold s43
    simp (iota := false) only [SY, reduceCtorEq, if_false, if_true, Nat.zero_add, h.c2, Option.isSome_some, Option.getD_some, ne_eq, he, not_false_eq_true]
end Ev
