import Derived.Test.YtlkiacbmbfmlpaaYV
/- Maps are read (the program's, 2). -/
namespace Ev
open Go
variable [Told] [TokV] [ToldOK]
set_option linter.unusedVariables false
set_option linter.unusedSimpArgs false
set_option linter.unusedSectionVars false
set_option maxRecDepth 10000
variable {tab : Bt FnD}
theorem szOk_ok {t : H} {sz g b l : Nat} {q : Out} (h : isRowS t b sz) : szOk sz g b l t q = q := by
  obtain ⟨c, n, ep, hg⟩ := h
  unfold szOk
  rw [withRow_ok hg, Nat.beq_refl]
  cases Nat.beq g 3
  · cases Nat.beq l 0 <;> rfl
  · rfl
theorem pSlV_heap {t t' : H} {sz : Nat} {s : AV} {xs ys : List AV} (h : Sl t sz s xs) (h' : Sl t' sz s ys) (lo hi mx : Option AV) (k : K) : pSlV sz s lo hi mx t k = pSlV sz s lo hi mx t' k := by
  cases h with
  | nil => rfl
  | fin hg => rcases hg with rfl | rfl <;> rfl
  | arg _ _ _ _ => rfl
  | row hg hb hl hc hx =>
    rename_i g b e o len cap
    have hb' : isRowS t' b sz := by
      cases h' with
      | nil => rcases hg with h | h <;> cases h
      | fin hg' => rcases hg' with rfl | rfl <;> rcases hg with h | h <;> cases h
      | arg _ _ _ _ => rcases hg with h | h <;> cases h
      | row _ hb' _ _ _ => exact hb'
    rcases hg with rfl | rfl <;> simp only [pSlV, vref, szOk_ok hb, szOk_ok hb']
theorem Sl.cut {t : H} {s : AV} {xs : List Bool} (h : Sl t 1 s (xs.map bV)) (h5 : ∀ b e o l c, s ≠ .ref 5 b e o l c) {l : Nat} (hl : l ≤ xs.length) :
    (∃ s', (∀ k, pSlV 1 s none (some (.num 3 (.ofNat l))) none t k = k s') ∧ Sl t 1 s' ((xs.take l).map bV) ∧ ∀ b ∈ bk s', b ∈ bk s) ∧
    (∃ s', (∀ k, pSlV 1 s (some (.num 3 (.ofNat l))) none none t k = k s') ∧ Sl t 1 s' ((xs.drop l).map bV) ∧ ∀ b ∈ bk s', b ∈ bk s) := by
  constructor
  · obtain ⟨s', h1, h2, h3, _⟩ := pSlV_sl (l := 0) (u := l) h h5 Nat.one_pos (by omega) (by simpa using hl)
    refine ⟨s', fun k => by rw [pSlV_none h]; exact h1 k, ?_, h3⟩
    have e : List.take ((l - 0) * 1) (List.drop (0 * 1) (xs.map bV)) = (xs.take l).map bV := by simp [List.map_take]
    rwa [e] at h2
  · obtain ⟨s', h1, h2, h3, _⟩ := pSlV_sl (l := l) (u := xs.length) h h5 Nat.one_pos hl (by simp)
    refine ⟨s', fun k => by rw [pSlV_end h h5 Nat.one_pos, Nat.div_one, List.length_map]; exact h1 k, ?_, h3⟩
    have e : List.take ((xs.length - l) * 1) (List.drop (l * 1) (xs.map bV)) = (xs.drop l).map bV := by
      rw [Nat.mul_one, Nat.mul_one, List.map_drop, List.take_of_length_le (by simp)]
    rwa [e] at h2
/-- what is read so far -/
structure PSt (N0 : Nat) (t : H) (n : Nat) (s : AV) (acc : List MapV) (xs : List AV) (F E : List Nat) : Prop where
  ow : Ow t 3 s xs F
  els : Els t xs acc E
  lf : ∀ b ∈ F, N0 ≤ b ∧ b < n
  le : ∀ b ∈ E, N0 ≤ b ∧ b < n ∧ b ∉ F
theorem PSt.get {N0 : Nat} {t t' : H} {n n' : Nat} {s : AV} {acc : List MapV} {xs : List AV} {F E : List Nat} (h : PSt N0 t n s acc xs F E) (hn : n ≤ n') (hg : ∀ b, N0 ≤ b → b < n → t'.get b = t.get b) : PSt N0 t' n' s acc xs F E :=
  ⟨h.ow.get fun b hb => hg b (h.lf b hb).1 (h.lf b hb).2, h.els.get fun b hb => hg b (h.le b hb).1 (h.le b hb).2.1, fun b hb => by have := h.lf b hb; omega, fun b hb => by have := h.le b hb; exact ⟨this.1, by omega, this.2.2⟩⟩
theorem SlB.clone {F : FnD} (hF : SpecClone F) {k f : Nat} {ih : Ih} (hR : Rt tab (k + 1) ih) (hg : tab.get f = some F) {t : H} {n : Nat} {s : AV} {xs : List Bool} (h : Sl t 1 s (xs.map bV)) (hb : ∀ b ∈ bk s, b < n) (hl : xs.length ≤ 1048576) :
    ∃ v t' n', (∀ kk, C ih f (.cons s .nil) t n kk = kk v t' n') ∧ Sl t' 1 v (xs.map bV) ∧ cellsK v = (fun f => f (.cons v .nil)) ∧ Gr [] t n t' n' ∧ ∀ b ∈ bk v, n ≤ b ∧ b < n' := by
  obtain ⟨v, t', n', hc, h1, h2, h3, h4⟩ := call (a := .cons s .nil) (t := t) (n := n) hR hg (P := fun v t' n' => Sl t' 1 v (xs.map bV) ∧ cellsK v = (fun f => f (.cons v .nil)) ∧ Gr [] t n t' n' ∧ ∀ b ∈ bk v, n ≤ b ∧ b < n') fun ih' hR' => by
    obtain ⟨v, t', n', G, q1, q2, q3, q4⟩ := hF (y := noY) (ih := ih') (n := n) h hb (by simpa using hl)
    exact ⟨v, t', n', q1, q2.sl, q2.ck, q3, fun b hb => q4 b (by rwa [q2.bk] at hb)⟩
  exact ⟨v, t', n', hc, h1, h2, h3, h4⟩
/-- one map more -/
theorem PSt.add {N0 : Nat} {t : H} {n : Nat} {s : AV} {acc : List MapV} {xs : List AV} {F E : List Nat} (h : PSt N0 t n s acc xs F E) (hN : N0 ≤ n) {m : MapV} {a l st_ : AV} (ha : a = .num 3 m.at_) (hl : Sl t 1 l (m.lo.map bV)) (hs : Sl t 1 st_ (m.st.map bV))
    (hbl : ∀ b ∈ bk l ++ bk st_, N0 ≤ b ∧ b < n ∧ b ∉ F) (hcount : (acc.length + 1) * 56 ≤ 1048576) :
    ∃ v4 t4 n4 F4, (∀ k, pRowSl 3 1 (.cons a (.cons l (.cons st_ .nil))) t n (fun v3a t4a n5a => pApp 3 56 s v3a t4a n5a k) = k v4 t4 n4) ∧ PSt N0 t4 n4 v4 (acc ++ [m]) (xs ++ [a, l, st_]) F4 (E ++ (bk l ++ (bk st_ ++ []))) ∧ n ≤ n4 ∧ ∀ b, b < N0 → t4.get b = t.get b := by
  have h1 : PSt N0 (nw t 3 [a, l, st_] 3 n) (n + 1) s acc xs F E := h.get (by omega) fun b _ hb => nw_ne (by omega)
  have hO : Ow (nw t 3 [a, l, st_] 3 n) 3 (.ref 3 n 0 0 1 1) [a, l, st_] [n] := own_nw (t := t) (sz := 3) (n := n) (l := [a, l, st_]) (len := 1) (.inl rfl) rfl
  have hlen := h.els.len
  obtain ⟨v4, t4, n4, F4, hap, hO4, hg4, hF4⟩ := app_ow (bytes := 56) (n := n + 1) h1.ow hO.sl (by omega) (fun b hb => (h1.lf b hb).2) (by
    rw [hlen]; simp only [List.length_cons, List.length_nil]
    rw [show acc.length * 3 + (0 + 1 + 1 + 1) = (acc.length + 1) * 3 by omega, Nat.mul_div_cancel _ (by omega)]; exact hcount)
  have hkeep : ∀ b, b < n → b ∉ F → t4.get b = t.get b := fun b hb hF => by rw [hg4.get b (by omega) hF, nw_ne (by omega)]
  refine ⟨v4, t4, n4, F4, fun k => ?_, ⟨hO4, ?_, fun b hb => ?_, fun b hb => ?_⟩, by have := hg4.le; omega, fun b hb => hkeep b (by omega) fun hF => by have := h.lf b hF; omega⟩
  · have := pRowSl_lst (sz := 3) (ln := 1) (l := [a, l, st_]) rfl t n (fun v3a t4a n5a => pApp 3 56 s v3a t4a n5a k)
    exact this.trans (hap k)
  · refine (h.els.get fun b hb => hkeep b (h.le b hb).2.1 (h.le b hb).2.2).app ?_
    exact .cons ha (hl.get fun b hb => hkeep b (hbl b (by simp [hb])).2.1 (hbl b (by simp [hb])).2.2) (hs.get fun b hb => hkeep b (hbl b (by simp [hb])).2.1 (hbl b (by simp [hb])).2.2) .nil
  · rcases (hF4 b hb).1 with h' | h'
    · have := h.lf b h'; have := hg4.le; omega
    · have := (hF4 b hb).2; omega
  · have hnF : ∀ b, b < n → b ∉ F → b ∉ F4 := fun b hb hF h' => by
      rcases (hF4 b h').1 with h'' | h''
      · exact hF h''
      · omega
    have hgl := hg4.le
    rw [List.mem_append] at hb
    rcases hb with hb | hb
    · have := h.le b hb
      exact ⟨this.1, by omega, hnF b this.2.1 this.2.2⟩
    · have := hbl b (by simpa using hb)
      exact ⟨this.1, by omega, hnF b this.2.1 this.2.2⟩
end Ev
