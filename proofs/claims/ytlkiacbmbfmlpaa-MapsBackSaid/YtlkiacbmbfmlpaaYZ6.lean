import Derived.Test.YtlkiacbmbfmlpaaYZ5
/- Writers (5): the document's numbers. -/
namespace Ev
open Go
variable [Told] [TokV] [ToldOK]
set_option linter.unusedVariables false
set_option linter.unusedSimpArgs false
set_option linter.unusedSectionVars false
set_option maxRecDepth 10000
set_option maxHeartbeats 1000000
variable {tab : Bt FnD}
theorem gd_unit (w : Bool) (x : KH → Out) (t : H) (n : Nat) (k : KH) : gd unit w x t n k = k unit t n := rfl
theorem conv7m (v : Int) (k : K) : pConvT 7 (.num 3 v) k = k (.num 7 (.ofNat (v % 18446744073709551616).toNat)) := by
  rw [pConvT_num (by omega), wrap7]; congr 2; rw [Int.ofNat_eq_natCast]; omega
def SpecR (F : FnD) (wr : List Nat × Nat → Int → List Nat × Nat) (k : Nat) (tab : Bt FnD) : Prop := ∀ {y : Yh} {ih : Ih} {t : H} {n w : Nat} {s : AV} {G : List Nat} {er : Nat} {bs : List Nat} {v : Int}, Wtr 1 t n w s G er bs → bs.length ≤ 900000 → Rt tab k ih →
    ∃ s' t' n' G', F y ih (.cons (.ref 1 w 0 0 0 0) (.cons (.num 3 v) .nil)) t n = .ok unit t' n' ∧ Wtr 1 t' n' w s' G' (wr (bs, er) v).2 (wr (bs, er) v).1 ∧ Gr (w :: G) t n t' n' ∧ ∀ b ∈ G', b ∈ G ∨ n ≤ b
/-- unsigned, for one byte or two -/
theorem unsigned_gen (T : TbM tab) {m lim : Nat} {wr : List Nat × Nat → Int → List Nat × Nat} {enc : Nat → List Nat}
    (hput : ∀ {y : Yh} {ih : Ih} {t : H} {n w x : Nat} {s : AV} {F : List Nat} {er : Nat} {bs : List Nat}, Wtr 1 t n w s F er bs → bs.length + 2 ≤ 1048576 → ∃ s' t' n' F', s43 y ih (.cons (.ref 1 w 0 0 0 0) (.cons (.num 7 (.ofNat x)) (.cons (.num 3 (.ofNat m)) .nil))) t n = .ok unit t' n' ∧ Wtr 1 t' n' w s' F' er (if er = 0 then bs ++ enc x else bs) ∧ Gr (w :: F) t n t' n' ∧ ∀ b ∈ F', b ∈ F ∨ n ≤ b)
    (hm : m ≤ 8) (h8 : ∀ k : K, q8 (.num 3 (.ofNat 1)) (.num 3 (.ofNat (8 * m))) k = k (.num 3 (.ofNat lim)))
    (hw0 : ∀ (s : List Nat × Nat) (v : Int), s.2 ≠ 0 → wr s v = s) (hw1 : ∀ (bs : List Nat) (v : Int), (v < 0 ∨ (lim : Int) ≤ v) → wr (bs, 0) v = (bs, 1)) (hw2 : ∀ (bs : List Nat) (v : Int), 0 ≤ v → v < lim → wr (bs, 0) v = (bs ++ enc (v % 18446744073709551616).toNat, 0))
    {y : Yh} {ih : Ih} {t : H} {n w : Nat} {s : AV} {G : List Nat} {er : Nat} {bs : List Nat} {v : Int} (h : Wtr 1 t n w s G er bs) (hl : bs.length ≤ 900000) (hR : Rt tab 1 ih) :
    ∃ s' t' n' G', s40 y ih (.cons (.ref 1 w 0 0 0 0) (.cons (.num 3 v) (.cons (.num 3 (.ofNat m)) .nil))) t n = .ok unit t' n' ∧ Wtr 1 t' n' w s' G' (wr (bs, er) v).2 (wr (bs, er) v).1 ∧ Gr (w :: G) t n t' n' ∧ ∀ b ∈ G', b ∈ G ∨ n ≤ b := by
  have hpc : ∀ {t : H} {n : Nat} {s : AV} {F : List Nat} {er : Nat} {bs : List Nat} (x : Nat), Wtr 1 t n w s F er bs → bs.length + 2 ≤ 1048576 → ∃ s' t' n' F', (∀ kk, C ih 43 (.cons (.ref 1 w 0 0 0 0) (.cons (.num 7 (.ofNat x)) (.cons (.num 3 (.ofNat m)) .nil))) t n kk = kk unit t' n') ∧ Wtr 1 t' n' w s' F' er (if er = 0 then bs ++ enc x else bs) ∧ Gr (w :: F) t n t' n' ∧ ∀ b ∈ F', b ∈ F ∨ n ≤ b := fun {t n s F er bs} x h hl => by
    obtain ⟨v', t1, n1, hc, rfl, s', F', h1, h2, h3⟩ := call (a := .cons (.ref 1 w 0 0 0 0) (.cons (.num 7 (.ofNat x)) (.cons (.num 3 (.ofNat m)) .nil))) (t := t) (n := n) hR T.g43 (P := fun v' t' n' => v' = unit ∧ ∃ s' F', Wtr 1 t' n' w s' F' er (if er = 0 then bs ++ enc x else bs) ∧ Gr (w :: F) t n t' n' ∧ ∀ b ∈ F', b ∈ F ∨ n ≤ b) fun ih' hR' => by
      obtain ⟨s', t', n', F', q1, q2, q3, q4⟩ := hput (y := noY) (ih := ih') (x := x) h hl
      exact ⟨_, t', n', q1, rfl, s', F', q2, q3, q4⟩
    exact ⟨s', t1, n1, F', hc, h1, h2, h3⟩
  by_cases he : er = 0
  · subst he
    by_cases hbad : v < Int.ofNat 0 ∨ Int.ofNat lim ≤ v
    · have hE := h.err (x := 1)
      obtain ⟨s', t', n', G', hc, h1, h2, h3⟩ := hpc (v % 18446744073709551616).toNat hE (by omega)
      rw [hw1 bs v (by rcases hbad with h | h; · exact .inl h
                       · exact .inr h)]
      refine ⟨s', t', n', G', ?_, by simpa using h1, (Gr.up h.lt).mono (by simp) |>.trans h2 (fun b hb => .inl hb), h3⟩
      unfold s40
      by_cases hneg : v < Int.ofNat 0
      · simp (iota := false) only [conv7m, SY, reduceCtorEq, if_false, if_true, Nat.zero_add, h.c2, Option.isSome_some, Option.getD_some, hneg, pSt1 (ck_num _ _) h.k2, hc]
      · have hbig := hbad.resolve_left hneg
        simp (iota := false) only [conv7m, SY, reduceCtorEq, if_false, if_true, Nat.zero_add, h.c2, Option.isSome_some, Option.getD_some, hneg, q2_70 m hm, h8, hbig, pSt1 (ck_num _ _) h.k2, hc]
    · have hneg : ¬ v < Int.ofNat 0 := fun h => hbad (.inl h)
      have hbig : ¬ Int.ofNat lim ≤ v := fun h => hbad (.inr h)
      obtain ⟨s', t', n', G', hc, h1, h2, h3⟩ := hpc (v % 18446744073709551616).toNat h (by omega)
      rw [hw2 bs v (by have : ¬ v < 0 := hneg; omega) (by have : ¬ (lim : Int) ≤ v := hbig; omega)]
      refine ⟨s', t', n', G', ?_, by simpa using h1, h2, h3⟩
      unfold s40
      simp (iota := false) only [conv7m, SY, reduceCtorEq, if_false, if_true, Nat.zero_add, h.c2, Option.isSome_some, Option.getD_some, hneg, q2_70 m hm, h8, hbig, hc]
  · obtain ⟨s', t', n', G', hc, h1, h2, h3⟩ := hpc (v % 18446744073709551616).toNat h (by omega)
    rw [hw0 (bs, er) v he]
    refine ⟨s', t', n', G', ?_, by simpa [he] using h1, h2, h3⟩
    unfold s40
    simp (iota := false) only [conv7m, gd_unit, SY, reduceCtorEq, if_false, if_true, Nat.zero_add, h.c2, Option.isSome_some, Option.getD_some, he, hc]
theorem r1_ok (T : TbM tab) : SpecR s28 wr1 2 tab := fun {y ih t n w s G er bs v} h hl hR => by
  obtain ⟨v', t1, n1, hc, rfl, s', F', h1, h2, h3⟩ := call (a := .cons (.ref 1 w 0 0 0 0) (.cons (.num 3 v) (.cons (.num 3 (.ofNat 1)) .nil))) (t := t) (n := n) hR T.g40 (P := fun v' t' n' => v' = unit ∧ ∃ s' F', Wtr 1 t' n' w s' F' (wr1 (bs, er) v).2 (wr1 (bs, er) v).1 ∧ Gr (w :: G) t n t' n' ∧ ∀ b ∈ F', b ∈ G ∨ n ≤ b) fun ih' hR' => by
    obtain ⟨s', t', n', F', q1, q2, q3, q4⟩ := unsigned_gen T (m := 1) (lim := 256) (wr := wr1) (enc := fun x => [x % 256]) (fun {y ih t n w x s F er bs} h hl => rput1_ok h (by omega)) (by omega) (fun k => by rw [q8_num (by omega) (by omega) (.inl (by omega)), wrap3 (by decide)]; rfl)
      (fun s v h => by unfold wr1; rw [if_pos h]) (fun bs v h => by unfold wr1; rw [if_neg (by simp), if_pos (by omega)]) (fun bs v h0 h1 => by unfold wr1; rw [if_neg (by simp), if_neg (by omega)]; congr 3; omega) (y := noY) (v := v) h hl hR'
    exact ⟨_, t', n', q1, rfl, s', F', q2, q3, q4⟩
  refine ⟨s', t1, n1, F', ?_, h1, h2, h3⟩
  unfold s28
  simp (iota := false) only [SY, reduceCtorEq, if_false, if_true, Nat.zero_add, hc]
theorem r2_ok (T : TbM tab) : SpecR s27 wr2 2 tab := fun {y ih t n w s G er bs v} h hl hR => by
  obtain ⟨v', t1, n1, hc, rfl, s', F', h1, h2, h3⟩ := call (a := .cons (.ref 1 w 0 0 0 0) (.cons (.num 3 v) (.cons (.num 3 (.ofNat 2)) .nil))) (t := t) (n := n) hR T.g40 (P := fun v' t' n' => v' = unit ∧ ∃ s' F', Wtr 1 t' n' w s' F' (wr2 (bs, er) v).2 (wr2 (bs, er) v).1 ∧ Gr (w :: G) t n t' n' ∧ ∀ b ∈ F', b ∈ G ∨ n ≤ b) fun ih' hR' => by
    obtain ⟨s', t', n', F', q1, q2, q3, q4⟩ := unsigned_gen T (m := 2) (lim := 65536) (wr := wr2) (enc := fun x => [x / 256 % 256, x % 256]) (fun {y ih t n w x s F er bs} h hl => rput2_ok h hl) (by omega) (fun k => by rw [q8_num (by omega) (by omega) (.inr ⟨rfl, by omega⟩), wrap3 (by decide)]; rfl)
      (fun s v h => by unfold wr2; rw [if_pos h]) (fun bs v h => by unfold wr2; rw [if_neg (by simp), if_pos (by omega)]) (fun bs v h0 h1 => by unfold wr2; rw [if_neg (by simp), if_neg (by omega), show (v % 18446744073709551616).toNat = v.toNat by omega, show v.toNat / 256 % 256 = v.toNat / 256 by omega]) (y := noY) (v := v) h hl hR'
    exact ⟨_, t', n', q1, rfl, s', F', q2, q3, q4⟩
  refine ⟨s', t1, n1, F', ?_, h1, h2, h3⟩
  unfold s27
  simp (iota := false) only [SY, reduceCtorEq, if_false, if_true, Nat.zero_add, hc]
end Ev
