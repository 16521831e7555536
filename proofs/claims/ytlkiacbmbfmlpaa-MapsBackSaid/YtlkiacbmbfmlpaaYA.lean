import Derived.Test.YtlkiacbmbfmlpaaV2
/- The evaluator's primitives, told as equations: for proofs about what is not known whole. -/
namespace Ev
open Go
set_option linter.unusedSectionVars false
set_option linter.unusedVariables false
set_option linter.unusedSimpArgs false
variable [Told] [TokV] [ToldOK]
/-! ### slots -/
noncomputable def st (d : D16) (v : AV) (r : N16 (Option AV)) : N16 (Option AV) := N16.mod d (fun _ => some v) r
noncomputable instance : DecidableEq D16 := fun a b => Classical.propDecidable _
theorem sel_st (i j : D16) (v : AV) (r : N16 (Option AV)) : N16.sel j (st i v r) = if i = j then some v else N16.sel j r := by
  split
  · rename_i h; subst h; exact N16.sel_mod _ _ _
  · rename_i h; exact N16.sel_mod_ne _ _ _ _ h
noncomputable def r0 : N16 (Option AV) := N16.all none
theorem sel_r0 (j : D16) : N16.sel j r0 = none := N16.sel_all _ _
/-- a row of the slots -/
noncomputable def row (i : D16) (e : T AV) : N16 (Option AV) := N16.sel i e.a
noncomputable def setRow (i : D16) (r : N16 (Option AV)) (e : T AV) : T AV := ⟨N16.mod i (fun _ => r) e.a, e.b⟩
theorem row_set (i j : D16) (r : N16 (Option AV)) (e : T AV) : row j (setRow i r e) = if i = j then r else row j e := by
  unfold row setRow
  split
  · rename_i h; subst h; exact N16.sel_mod _ _ _
  · rename_i h; exact N16.sel_mod_ne _ _ _ _ h
noncomputable def E0 : T AV := .leaf
theorem row_E0 (i : D16) : row i E0 = r0 := N16.sel_all _ _
theorem e_c0 (e : T AV) : e.a.c0 = row .d0 e := rfl
theorem w_y0 (e : T AV) (g : N16 (Option AV) → (N16 (Option AV) → Out) → Out) (k : T AV → Out) : w1 y0 g e k = g (row .d0 e) fun r => k (setRow .d0 r e) := rfl
theorem c_0 (r : N16 (Option AV)) : r.c0 = N16.sel .d0 r := rfl
theorem e_c1 (e : T AV) : e.a.c1 = row .d1 e := rfl
theorem w_y1 (e : T AV) (g : N16 (Option AV) → (N16 (Option AV) → Out) → Out) (k : T AV → Out) : w1 y1 g e k = g (row .d1 e) fun r => k (setRow .d1 r e) := rfl
theorem c_1 (r : N16 (Option AV)) : r.c1 = N16.sel .d1 r := rfl
theorem e_c2 (e : T AV) : e.a.c2 = row .d2 e := rfl
theorem w_y2 (e : T AV) (g : N16 (Option AV) → (N16 (Option AV) → Out) → Out) (k : T AV → Out) : w1 y2 g e k = g (row .d2 e) fun r => k (setRow .d2 r e) := rfl
theorem c_2 (r : N16 (Option AV)) : r.c2 = N16.sel .d2 r := rfl
theorem e_c3 (e : T AV) : e.a.c3 = row .d3 e := rfl
theorem w_y3 (e : T AV) (g : N16 (Option AV) → (N16 (Option AV) → Out) → Out) (k : T AV → Out) : w1 y3 g e k = g (row .d3 e) fun r => k (setRow .d3 r e) := rfl
theorem c_3 (r : N16 (Option AV)) : r.c3 = N16.sel .d3 r := rfl
theorem e_c4 (e : T AV) : e.a.c4 = row .d4 e := rfl
theorem w_y4 (e : T AV) (g : N16 (Option AV) → (N16 (Option AV) → Out) → Out) (k : T AV → Out) : w1 y4 g e k = g (row .d4 e) fun r => k (setRow .d4 r e) := rfl
theorem c_4 (r : N16 (Option AV)) : r.c4 = N16.sel .d4 r := rfl
theorem e_c5 (e : T AV) : e.a.c5 = row .d5 e := rfl
theorem w_y5 (e : T AV) (g : N16 (Option AV) → (N16 (Option AV) → Out) → Out) (k : T AV → Out) : w1 y5 g e k = g (row .d5 e) fun r => k (setRow .d5 r e) := rfl
theorem c_5 (r : N16 (Option AV)) : r.c5 = N16.sel .d5 r := rfl
theorem e_c6 (e : T AV) : e.a.c6 = row .d6 e := rfl
theorem w_y6 (e : T AV) (g : N16 (Option AV) → (N16 (Option AV) → Out) → Out) (k : T AV → Out) : w1 y6 g e k = g (row .d6 e) fun r => k (setRow .d6 r e) := rfl
theorem c_6 (r : N16 (Option AV)) : r.c6 = N16.sel .d6 r := rfl
theorem e_c7 (e : T AV) : e.a.c7 = row .d7 e := rfl
theorem w_y7 (e : T AV) (g : N16 (Option AV) → (N16 (Option AV) → Out) → Out) (k : T AV → Out) : w1 y7 g e k = g (row .d7 e) fun r => k (setRow .d7 r e) := rfl
theorem c_7 (r : N16 (Option AV)) : r.c7 = N16.sel .d7 r := rfl
theorem e_c8 (e : T AV) : e.a.c8 = row .d8 e := rfl
theorem w_y8 (e : T AV) (g : N16 (Option AV) → (N16 (Option AV) → Out) → Out) (k : T AV → Out) : w1 y8 g e k = g (row .d8 e) fun r => k (setRow .d8 r e) := rfl
theorem c_8 (r : N16 (Option AV)) : r.c8 = N16.sel .d8 r := rfl
theorem e_c9 (e : T AV) : e.a.c9 = row .d9 e := rfl
theorem w_y9 (e : T AV) (g : N16 (Option AV) → (N16 (Option AV) → Out) → Out) (k : T AV → Out) : w1 y9 g e k = g (row .d9 e) fun r => k (setRow .d9 r e) := rfl
theorem c_9 (r : N16 (Option AV)) : r.c9 = N16.sel .d9 r := rfl
theorem e_c10 (e : T AV) : e.a.c10 = row .d10 e := rfl
theorem w_y10 (e : T AV) (g : N16 (Option AV) → (N16 (Option AV) → Out) → Out) (k : T AV → Out) : w1 y10 g e k = g (row .d10 e) fun r => k (setRow .d10 r e) := rfl
theorem c_10 (r : N16 (Option AV)) : r.c10 = N16.sel .d10 r := rfl
theorem e_c11 (e : T AV) : e.a.c11 = row .d11 e := rfl
theorem w_y11 (e : T AV) (g : N16 (Option AV) → (N16 (Option AV) → Out) → Out) (k : T AV → Out) : w1 y11 g e k = g (row .d11 e) fun r => k (setRow .d11 r e) := rfl
theorem c_11 (r : N16 (Option AV)) : r.c11 = N16.sel .d11 r := rfl
theorem e_c12 (e : T AV) : e.a.c12 = row .d12 e := rfl
theorem w_y12 (e : T AV) (g : N16 (Option AV) → (N16 (Option AV) → Out) → Out) (k : T AV → Out) : w1 y12 g e k = g (row .d12 e) fun r => k (setRow .d12 r e) := rfl
theorem c_12 (r : N16 (Option AV)) : r.c12 = N16.sel .d12 r := rfl
theorem e_c13 (e : T AV) : e.a.c13 = row .d13 e := rfl
theorem w_y13 (e : T AV) (g : N16 (Option AV) → (N16 (Option AV) → Out) → Out) (k : T AV → Out) : w1 y13 g e k = g (row .d13 e) fun r => k (setRow .d13 r e) := rfl
theorem c_13 (r : N16 (Option AV)) : r.c13 = N16.sel .d13 r := rfl
theorem e_c14 (e : T AV) : e.a.c14 = row .d14 e := rfl
theorem w_y14 (e : T AV) (g : N16 (Option AV) → (N16 (Option AV) → Out) → Out) (k : T AV → Out) : w1 y14 g e k = g (row .d14 e) fun r => k (setRow .d14 r e) := rfl
theorem c_14 (r : N16 (Option AV)) : r.c14 = N16.sel .d14 r := rfl
theorem e_c15 (e : T AV) : e.a.c15 = row .d15 e := rfl
theorem w_y15 (e : T AV) (g : N16 (Option AV) → (N16 (Option AV) → Out) → Out) (k : T AV → Out) : w1 y15 g e k = g (row .d15 e) fun r => k (setRow .d15 r e) := rfl
theorem c_15 (r : N16 (Option AV)) : r.c15 = N16.sel .d15 r := rfl
theorem rd_some (v : AV) (k : K) : rd (some v) k = k v := rfl
/-! ### outcomes -/
noncomputable def fin (res : T AV → H → K → Out) (o : Out) : Out := Out.rec (motive := fun _ => Out) (fun _ _ _ => .err 7) (fun e t n => res e t fun r => .ok (one r) t n) (fun _ _ _ _ => .err 7) (fun _ _ _ _ => .err 7) (fun e t n => res e t fun r => .ok (one r) t n) (fun c => .err c) o
theorem func_eq (np : Nat) (body : DC) (res : T AV → H → K → Out) (y : Yh) (ih : Ih) (a : AV) (t : H) (n : Nat) (h : llen a = np) : func np body res y ih a t n = fin res (body y ih (fillE a 0 .leaf) t n nor) := by
  unfold func; rw [h, Nat.beq_refl]; rfl
theorem func0 (body : DC) (res : T AV → H → K → Out) (y : Yh) (ih : Ih) (t : H) (n : Nat) : func 0 body res y ih .nil t n = fin res (body y ih E0 t n nor) := rfl
theorem func1 (body : DC) (res : T AV → H → K → Out) (y : Yh) (ih : Ih) (a : AV) (t : H) (n : Nat) : func 1 body res y ih (.cons a .nil) t n = fin res (body y ih (setRow .d0 (st .d0 a r0) E0) t n nor) := rfl
theorem func2 (body : DC) (res : T AV → H → K → Out) (y : Yh) (ih : Ih) (a b : AV) (t : H) (n : Nat) : func 2 body res y ih (.cons a (.cons b .nil)) t n = fin res (body y ih (setRow .d0 (st .d1 b (st .d0 a r0)) E0) t n nor) := rfl
theorem func3 (body : DC) (res : T AV → H → K → Out) (y : Yh) (ih : Ih) (a b c : AV) (t : H) (n : Nat) : func 3 body res y ih (.cons a (.cons b (.cons c .nil))) t n = fin res (body y ih (setRow .d0 (st .d2 c (st .d1 b (st .d0 a r0))) E0) t n nor) := rfl
theorem fin_ret (res : T AV → H → K → Out) (e : T AV) (t : H) (n : Nat) : fin res (.ret e t n) = res e t fun r => .ok (one r) t n := rfl
theorem fin_nor (res : T AV → H → K → Out) (e : T AV) (t : H) (n : Nat) : fin res (.nor e t n) = res e t fun r => .ok (one r) t n := rfl
theorem nor_eq (e : T AV) (t : H) (n : Nat) : nor e t n = .nor e t n := rfl
theorem blk_nor (id : Nat) (k : KD) (e : T AV) (t : H) (n : Nat) : blkO id k (.nor e t n) = k e t n := rfl
theorem blk_ret (id : Nat) (k : KD) (e : T AV) (t : H) (n : Nat) : blkO id k (.ret e t n) = .ret e t n := rfl
theorem blk_exit (id : Nat) (k : KD) (e : T AV) (t : H) (n : Nat) : blkO id k (.exit id e t n) = k e t n := by
  show bO (Nat.beq id id) _ _ = _; rw [Nat.beq_refl]
theorem blk_exit_ne (i id : Nat) (k : KD) (e : T AV) (t : H) (n : Nat) (h : i ≠ id) : blkO id k (.exit i e t n) = .exit i e t n := by
  show bO (Nat.beq i id) _ _ = _; rw [Bt.beq_false h]
theorem jn_eq (k : KD) (f : KD → Out) : jn k f = f k := rfl
theorem one_1 (a : AV) : one (.cons a .nil) = a := rfl
theorem one_0 : one .nil = unit := rfl
theorem one_2 (a b c : AV) : one (.cons a (.cons b c)) = .com 1 0 (.cons a (.cons b c)) := rfl
theorem B_ok (v : AV) (t : H) (n : Nat) (k : KH) : B (.ok v t n) k = k v t n := rfl
theorem okK_eq (v : AV) (t : H) (n : Nat) : okK v t n = .ok v t n := rfl
theorem C_ok {ih : Ih} {f : Nat} {args v : AV} {t t' : H} {n n' : Nat} {k : KH} (h : ih noY f args t n = .ok v t' n') : C ih f args t n k = k v t' n' := by unfold C; rw [h]
/-! ### what only computes -/
theorem vbool_tt (a b : Out) : vbool (.num 8 (.ofNat 1)) a b = a := rfl
theorem vbool_ff (a b : Out) : vbool (.num 8 (.ofNat 0)) a b = b := rfl
theorem vbool_if (p : Prop) [Decidable p] (a b : Out) : vbool (if p then tt else ff) a b = if p then a else b := by split <;> rfl
theorem pNilChk1 (b e o l c : Nat) (k : K) : pNilChk (.ref 1 b e o l c) k = k (.ref 1 b e o l c) := rfl
theorem pNilChk17 (b e o l c : Nat) (k : K) : pNilChk (.ref 17 b e o l c) k = k (.ref 17 b e o l c) := rfl
theorem pFad1 (i b e o l c : Nat) (k : K) : pFad i (.ref 1 b e o l c) k = k (.ref 1 b e (o + i) 0 0) := by
  show forceN (Nat.add o i) (fun o' => k (.ref 1 b e o' 0 0)) = _; rw [forceN_eq]; rfl
/-- a bool -/
def bL (p : Prop) [Decidable p] : AV := .num 8 (if p then 1 else 0)
theorem vbool_bL (p : Prop) [Decidable p] (a b : Out) : vbool (bL p) a b = if p then a else b := by
  unfold bL; split <;> rfl
theorem num_eq {q : Nat} {x y : Int} (h : x = y) : AV.num q x = AV.num q y := by rw [h]
theorem pB_bL (b : Bool) (k : K) : pB b k = k (bL (b = true)) := by cases b <;> rfl
theorem nB_bL (b : Bool) (k : K) : nB b k = k (bL (b = false)) := by cases b <;> rfl
theorem bL_congr {p q : Prop} [Decidable p] [Decidable q] (h : p ↔ q) : bL p = bL q := by
  unfold bL; by_cases hp : p
  · rw [if_pos hp, if_pos (h.1 hp)]
  · rw [if_neg hp, if_neg fun hq => hp (h.2 hq)]
variable {q : Nat} {a b : Int} {k : K}
theorem q10_num (hq : q < 8) : q10 (.num q a) (.num q b) k = k (bL (a = b)) := by
  have e : pEql (.num q a) (.num q b) k = k (bL (a = b)) := by
    unfold pEql; rw [two_num hq, pB_bL, ibeq_eq]
    exact congrArg k (bL_congr (by simp))
  have h1 : q10 (.num q a) (.num q b) k = bif Nat.beq q q then (bif Nat.ble q 7 then nn a b (fun m n => bif Nat.beq m n then k tt else k ff) (pEql (.num q a) (.num q b) k) else pEql (.num q a) (.num q b) k) else .err 30 := by
    show ar2 10 (.num q a) (.num q b) k _ = _
    unfold ar2
    show (Bool.rec (motive := fun _ => Out) _ _ (Nat.beq q q) : Out) = _
    cases Nat.beq q q
    · rfl
    · show (Bool.rec (motive := fun _ => Out) _ _ (Nat.ble q 7) : Out) = _
      cases Nat.ble q 7
      · rfl
      · show nn a b (fun m n => Bool.rec (motive := fun _ => Out) (k ff) (k tt) (Nat.beq m n)) _ = nn a b (fun m n => bif Nat.beq m n then k tt else k ff) _
        congr 1
        funext m n
        cases Nat.beq m n <;> rfl
  rw [h1, Nat.beq_refl, show Nat.ble q 7 = true from Nat.ble_eq_true_of_le (by omega), e]
  cases a with
  | negSucc m => rfl
  | ofNat m =>
    cases b with
    | negSucc n => rfl
    | ofNat n =>
      show (bif Nat.beq m n then k tt else k ff) = _
      by_cases h : m = n
      · subst h; rw [Nat.beq_refl]; exact congrArg k (by unfold bL; rw [if_pos rfl]; rfl)
      · rw [Bt.beq_false h]; exact congrArg k (by unfold bL; rw [if_neg fun e => h (Int.ofNat.inj e)]; rfl)
/-! ### cells -/
/-- what a place holds -/
noncomputable def cl (t : H) (b e o : Nat) : Option AV := match t.get b with
  | some (.row _ c _ _) => match c.get o with
    | some ⟨tag, v⟩ => if tag ≤ e then some v else none
    | none => none
  | _ => none
theorem pLd1 {t : H} {b e o l c : Nat} {v : AV} (h : cl t b e o = some v) : pLd (.ref 1 b e o l c) t k = k v := by
  show withRow t b (fun _ c _ _ => cell (c.get o) e k) = _
  unfold withRow; rw [hget_eq]
  unfold cl at h
  split at h
  · rename_i c' _ _ hg
    rw [hg]
    show cell (c'.get o) e k = _
    split at h
    · rename_i tag v' hc
      rw [hc]
      split at h
      · rename_i hle
        injection h with h; subst h
        show bO (Nat.ble tag e) (k v') (.err 23) = _
        rw [Nat.ble_eq_true_of_le hle]
      · cases h
    · cases h
  · cases h
theorem pLdS {t : H} {b e o l c : Nat} (h : (cl t b e o).isSome = true) : pLd (.ref 1 b e o l c) t k = k ((cl t b e o).getD unit) := by
  obtain ⟨v, hv⟩ := Option.isSome_iff_exists.1 h
  rw [pLd1 hv, hv]; rfl
/-- a place may be written -/
def wok (t : H) (b e o : Nat) : Prop := ∃ sz c n x, t.get b = some (.row sz c n e) ∧ c.get o = some x
noncomputable def up (t : H) (b o : Nat) (v : AV) : H := match t.get b with
  | some (.row sz c n ep) => t.set (.row sz (c.set ⟨ep, v⟩ o) n ep) b
  | _ => t
theorem up_eq {t : H} {b e o sz n : Nat} {c : Bt Cell} {v : AV} (h : t.get b = some (.row sz c n e)) : up t b o v = t.set (.row sz (c.set ⟨e, v⟩ o) n e) b := by
  unfold up; rw [h]
theorem pSt1 {t : H} {b e o l c : Nat} {v : AV} {k : H → Out} (hv : cellsK v = fun f => f (.cons v .nil)) (h : wok t b e o) : pSt 1 (.ref 1 b e o l c) v t k = k (up t b o v) := by
  obtain ⟨sz, c', n, x, hg, hc⟩ := h
  unfold pSt
  rw [hv]
  show stAt b e o (.cons v .nil) t k = _
  unfold stAt withRow
  rw [hget_eq, hg]
  show bO (Nat.beq e e) (storeC e (.cons v .nil) o c' fun c' => hset t (.row sz c' n e) b k) _ = _
  rw [Nat.beq_refl]
  show storeC e (.cons v .nil) o c' (fun c' => hset t (.row sz c' n e) b k) = _
  show (Option.rec (.err 24) (fun _ => Bt.seq (Bt.set c' ⟨e, v⟩ o) fun c'' => hset t (.row sz c'' n e) b k) (c'.get o) : Out) = _
  rw [hc]
  show Bt.seq (Bt.set c' ⟨e, v⟩ o) (fun c'' => hset t (.row sz c'' n e) b k) = _
  rw [Bt.seq_eq, hset_eq, up_eq hg]
theorem ck_num (q : Nat) (n : Int) : cellsK (.num q n) = fun f => f (.cons (.num q n) .nil) := rfl
theorem ck_ref (g b e o l c : Nat) : cellsK (.ref g b e o l c) = fun f => f (.cons (.ref g b e o l c) .nil) := rfl
theorem ck_str (s : List Nat) : cellsK (.str s) = fun f => f (.cons (.str s) .nil) := rfl
theorem cl_up {t : H} {b e o b' e' o' : Nat} {v : AV} (h : wok t b e o) : cl (up t b o v) b' e' o' = if b = b' ∧ o = o' then (if e ≤ e' then some v else none) else cl t b' e' o' := by
  obtain ⟨sz, c, n, x, hg, hc⟩ := h
  rw [up_eq hg]
  unfold cl
  rw [M.get_set_if]
  by_cases hb : b = b'
  · subst hb
    rw [if_pos rfl, hg]
    simp only [true_and]
    rw [Bt.get_set_if]
    by_cases ho : o = o'
    · subst ho; rw [if_pos rfl, if_pos rfl]
    · rw [if_neg ho, if_neg ho]
  · rw [if_neg hb, if_neg fun h => hb h.1]
theorem wok_up {t : H} {b e o b' e' o' : Nat} {v : AV} (h : wok t b e o) (h' : wok t b' e' o') : wok (up t b o v) b' e' o' := by
  obtain ⟨sz, c, n, x, hg, hc⟩ := h
  obtain ⟨sz', c', n', x', hg', hc'⟩ := h'
  rw [up_eq hg]
  unfold wok
  rw [M.get_set_if]
  by_cases hb : b = b'
  · subst hb
    rw [hg] at hg'; injection hg' with hg'; injection hg' with h1 h2 h3 h4; subst h1; subst h2; subst h3; subst h4
    rw [if_pos rfl]
    by_cases ho : o = o'
    · subst ho; exact ⟨_, _, _, _, rfl, Bt.get_set _ _ _⟩
    · exact ⟨_, _, _, x', rfl, by rw [Bt.get_set_ne _ _ _ _ ho]; exact hc'⟩
  · rw [if_neg hb]; exact ⟨_, _, _, _, hg', hc'⟩
theorem get_up_ne {t : H} {b o b' : Nat} {v : AV} (h : b ≠ b') : (up t b o v).get b' = t.get b' := by
  unfold up; split
  · rw [M.get_set_ne _ _ _ _ h]
  · rfl

end Ev
