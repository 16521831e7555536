import Derived.Test.YtlkiacbmbfmlpaaYZ1
/- Writers. -/
namespace Ev
open Go
variable [Told] [TokV] [ToldOK]
set_option linter.unusedVariables false
set_option linter.unusedSimpArgs false
set_option linter.unusedSectionVars false
set_option maxRecDepth 10000
set_option maxHeartbeats 1000000
variable {tab : Bt FnD}
/-- a writer: its bytes, its error (at cell ie) -/
structure Wtr (ie : Nat) (t : H) (n w : Nat) (s : AV) (F : List Nat) (er : Nat) (bs : List Nat) : Prop where
  c0 : cl t w 0 0 = some s
  c2 : cl t w 0 ie = some (.num 3 (.ofNat er))
  k0 : wok t w 0 0
  k2 : wok t w 0 ie
  ow : Ow t 1 s (bs.map by8) F
  nf : w ∉ F
  lt : w < n
  lf : ∀ b ∈ F, b < n
  ie0 : ie ≠ 0
theorem Wtr.get {ie : Nat} {t t' : H} {n n' w : Nat} {s : AV} {F : List Nat} {er : Nat} {bs : List Nat} (h : Wtr ie t n w s F er bs) (hn : n ≤ n') (hg : ∀ b, (b = w ∨ b ∈ F) → t'.get b = t.get b) : Wtr ie t' n' w s F er bs :=
  have hw := hg w (.inl rfl)
  ⟨(cl_get hw _ _).trans h.c0, (cl_get hw _ _).trans h.c2, h.k0.get hw, h.k2.get hw, h.ow.get fun b hb => hg b (.inr hb), h.nf, by have := h.lt; omega, fun b hb => by have := h.lf b hb; omega, h.ie0⟩
theorem Wtr.err {ie : Nat} {t : H} {n w : Nat} {s : AV} {F : List Nat} {er x : Nat} {bs : List Nat} (h : Wtr ie t n w s F er bs) : Wtr ie (up t w ie (.num 3 (.ofNat x))) n w s F x bs :=
  ⟨by simp [cl_up h.k2, h.c0, h.ie0], by simp [cl_up h.k2], wok_up h.k2 h.k0, wok_up h.k2 h.k2, h.ow.get fun b hb => get_up_ne fun e => h.nf (e ▸ hb), h.nf, h.lt, h.lf, h.ie0⟩
/-- its bytes are others -/
theorem Wtr.put {ie : Nat} {t t1 : H} {n n' w : Nat} {s s' : AV} {F F' : List Nat} {er : Nat} {bs bs' : List Nat} (h : Wtr ie t n w s F er bs) (hg : Gr F t n t1 n') (ho : Ow t1 1 s' (bs'.map by8) F') (hF : ∀ b ∈ F', (b ∈ F ∨ n ≤ b) ∧ b < n') :
    (∀ k : H → Out, pSt 1 (.ref 1 w 0 0 0 0) s' t1 k = k (up t1 w 0 s')) ∧ Wtr ie (up t1 w 0 s') n' w s' F' er bs' ∧ Gr (w :: F) t n (up t1 w 0 s') n' := by
  have hw : t1.get w = t.get w := hg.get w h.lt h.nf
  have hwn : w ∉ F' := fun hw' => by
    rcases (hF w hw').1 with h' | h'
    · exact h.nf h'
    · have := h.lt; omega
  have k0 := h.k0.get hw
  have hle := hg.le
  refine ⟨fun k => pSt1 ho.ck k0, ⟨?_, ?_, wok_up k0 k0, wok_up k0 (h.k2.get hw), ho.get fun b hb => get_up_ne fun e => hwn (e ▸ hb), hwn, by have := h.lt; omega, fun b hb => (hF b hb).2, h.ie0⟩, ⟨hle, fun b hb hb' => ?_⟩⟩
  · simp [cl_up k0]
  · simp [cl_up k0, h.ie0.symm, cl_get hw, h.c2]
  · rw [get_up_ne (fun e => hb' (by simp [e])), hg.get b hb (fun h => hb' (by simp [h]))]
theorem wfail_ok {y : Yh} {ih : Ih} {t : H} {n w : Nat} {s : AV} {F : List Nat} {er x : Nat} {bs : List Nat} (h : Wtr 2 t n w s F er bs) :
    s37 y ih (.cons (.ref 1 w 0 0 0 0) (.cons (.num 3 (.ofNat x)) .nil)) t n = .ok unit (if er = 0 then up t w 2 (.num 3 (.ofNat x)) else t) n := by
  unfold s37
  by_cases he : er = 0
  · subst he
    simp (iota := false) only [SY, reduceCtorEq, if_false, if_true, Nat.zero_add, h.c2, Option.isSome_some, Option.getD_some, pSt1 (ck_num _ _) h.k2]
  · simp (iota := false) only [SY, reduceCtorEq, if_false, if_true, Nat.zero_add, h.c2, Option.isSome_some, Option.getD_some, he]
theorem put_ok {y : Yh} {ih : Ih} {t : H} {n w : Nat} {s src : AV} {F : List Nat} {er : Nat} {bs ys : List Nat} (h : Wtr 2 t n w s F er bs) (hs : Sl t 1 src (ys.map by8)) (hl : bs.length + ys.length ≤ 1048576) :
    ∃ s' t' n' F', s38 y ih (.cons (.ref 1 w 0 0 0 0) (.cons src .nil)) t n = .ok unit t' n' ∧ Wtr 2 t' n' w s' F' er (if er = 0 then bs ++ ys else bs) ∧ Gr (w :: F) t n t' n' ∧ ∀ b ∈ F', b ∈ F ∨ n ≤ b := by
  by_cases he : er = 0
  · subst he
    obtain ⟨s', t1, n', F', h1, h2, h3, h4⟩ := app_ow (bytes := 1) (n := n) h.ow hs (by omega) h.lf (by simpa using hl)
    rw [← List.map_append] at h2
    obtain ⟨p1, p2, p3⟩ := h.put h3 h2 h4
    refine ⟨s', up t1 w 0 s', n', F', ?_, by simpa using p2, p3, fun b hb => (h4 b hb).1⟩
    unfold s38
    simp (iota := false) only [SY, reduceCtorEq, if_false, if_true, Nat.zero_add, h.c2, h.c0, Option.isSome_some, Option.getD_some, h1, p1]
  · refine ⟨s, t, n, F, ?_, by simpa [he] using h, .refl _ _ _, fun b hb => .inl hb⟩
    unfold s38
    simp (iota := false) only [SY, reduceCtorEq, if_false, if_true, Nat.zero_add, h.c2, Option.isSome_some, Option.getD_some, he]
/-- what writing a number of one byte, of two, does -/
def wr1 (s : List Nat × Nat) (v : Int) : List Nat × Nat := if s.2 ≠ 0 then s else if v < 0 ∨ 255 < v then (s.1, 1) else (s.1 ++ [v.toNat], 0)
def wr2 (s : List Nat × Nat) (v : Int) : List Nat × Nat := if s.2 ≠ 0 then s else if v < 0 ∨ 65535 < v then (s.1, 1) else (s.1 ++ [v.toNat / 256, v.toNat % 256], 0)
def wrB (s : List Nat × Nat) (l : List Nat) : List Nat × Nat := if s.2 ≠ 0 then s else (s.1 ++ l, 0)
theorem wr1_stop {s : List Nat × Nat} (h : s.2 ≠ 0) (v : Int) : wr1 s v = s := by unfold wr1; rw [if_pos h]
theorem wr1s_stop {s : List Nat × Nat} (h : s.2 ≠ 0) : ∀ l : List Int, l.foldl wr1 s = s
  | [] => rfl
  | v :: l => by rw [List.foldl_cons, wr1_stop h, wr1s_stop h l]
theorem wr2s_stop {s : List Nat × Nat} (h : s.2 ≠ 0) : ∀ l : List Int, l.foldl wr2 s = s
  | [] => rfl
  | v :: l => by rw [List.foldl_cons, show wr2 s v = s by unfold wr2; rw [if_pos h], wr2s_stop h l]
theorem wr1_len {s : List Nat × Nat} (v : Int) : (wr1 s v).1.length ≤ s.1.length + 1 := by
  unfold wr1; split
  · omega
  · split <;> simp
theorem wr2_len {s : List Nat × Nat} (v : Int) : (wr2 s v).1.length ≤ s.1.length + 2 := by
  unfold wr2; split
  · omega
  · split <;> simp
theorem wr1s_len {s : List Nat × Nat} : ∀ l : List Int, (l.foldl wr1 s).1.length ≤ s.1.length + l.length := by
  intro l
  induction l generalizing s with
  | nil => simp
  | cons v l ih => rw [List.foldl_cons]; have := ih (s := wr1 s v); have := wr1_len (s := s) v; simp; omega
theorem wr2s_len {s : List Nat × Nat} : ∀ l : List Int, (l.foldl wr2 s).1.length ≤ s.1.length + 2 * l.length := by
  intro l
  induction l generalizing s with
  | nil => simp
  | cons v l ih => rw [List.foldl_cons]; have := ih (s := wr2 s v); have := wr2_len (s := s) v; simp; omega
theorem conv4 {v : Int} (h0 : 0 ≤ v) (h1 : v ≤ 255) (k : K) : pConvT 4 (.num 3 v) k = k (by8 v.toNat) := by
  rw [pConvT_num (by omega), wrap4]
  unfold by8
  congr 2
  rw [Int.ofNat_eq_natCast]; omega
end Ev
