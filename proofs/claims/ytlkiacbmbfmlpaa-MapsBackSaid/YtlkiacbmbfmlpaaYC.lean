import Derived.Test.YtlkiacbmbfmlpaaYB
/- What makes rows; slices that are one's own, and what is added to them. -/
namespace Ev
open Go
set_option linter.unusedSectionVars false
set_option linter.unusedVariables false
set_option linter.unusedSimpArgs false
variable [Told] [TokV] [ToldOK]
/-- blocks ahead of n are as they were, but these -/
structure Gr (F : List Nat) (t : H) (n : Nat) (t' : H) (n' : Nat) : Prop where
  le : n ≤ n'
  get : ∀ b, b < n → b ∉ F → t'.get b = t.get b
theorem Gr.refl (F : List Nat) (t : H) (n : Nat) : Gr F t n t n := ⟨Nat.le_refl _, fun _ _ _ => rfl⟩
theorem Gr.trans {F F' : List Nat} {t t' t'' : H} {n n' n'' : Nat} (h : Gr F t n t' n') (k : Gr F' t' n' t'' n'') (hs : ∀ b ∈ F', b ∈ F ∨ n ≤ b) : Gr F t n t'' n'' :=
  ⟨Nat.le_trans h.le k.le, fun b hb hF => by
    rw [k.get b (Nat.lt_of_lt_of_le hb h.le) fun hb' => (hs b hb').elim hF (fun h => by omega)]
    exact h.get b hb hF⟩
theorem Gr.mono {F F' : List Nat} {t t' : H} {n n' : Nat} (h : Gr F t n t' n') (hs : ∀ b ∈ F, b ∈ F') : Gr F' t n t' n' := ⟨h.le, fun b hb hF => h.get b hb fun hb' => hF (hs b hb')⟩
theorem Gr.weak {F : List Nat} {t t' : H} {n n' m : Nat} (h : Gr F t n t' n') (hm : n' ≤ m) : Gr F t n t' m := ⟨by have := h.le; omega, h.get⟩
theorem Gr.up {t : H} {b n o : Nat} {v : AV} (hb : b < n) : Gr [b] t n (up t b o v) n := ⟨Nat.le_refl _, fun b' _ hF => get_up_ne (fun e => hF (by simp [e]))⟩
/-! ### new rows -/
noncomputable def nw (t : H) (sz : Nat) (l : List AV) (nc n : Nat) : H := t.set (.row sz (fillC 0 (lst l) 0 .leaf) nc 0) n
theorem nw_get {t : H} {sz nc n : Nat} {l : List AV} : (nw t sz l nc n).get n = some (.row sz (fillC 0 (lst l) 0 .leaf) nc 0) := M.get_set _ _ _
theorem nw_ne {t : H} {sz nc n b : Nat} {l : List AV} (h : b ≠ n) : (nw t sz l nc n).get b = t.get b := M.get_set_ne _ _ _ _ (Ne.symm h)
theorem fill_get (ep : Nat) (l : List AV) (o : Nat) (c : Bt Cell) (k : Nat) : (fillC ep (lst l) o c).get k = if o ≤ k then (match l[k - o]? with | some a => some ⟨ep, a⟩ | none => c.get k) else c.get k := by
  have h := fillC_get ep (lst l) o c k
  rw [toL_lst] at h
  refine h.trans ?_
  split
  · cases l[k - o]? <;> rfl
  · rfl
theorem nw_cell {t : H} {sz nc n : Nat} {l : List AV} {i : Nat} {x : AV} (hx : l[i]? = some x) : (fillC 0 (lst l) 0 .leaf).get i = some ⟨0, x⟩ := by
  rw [fill_get, if_pos (Nat.zero_le _), Nat.sub_zero, hx]
theorem nw_row {t : H} {sz nc n : Nat} {l : List AV} : rowIs (nw t sz l nc n) n 0 0 l := fun i x hx => by
  unfold cl; rw [nw_get, Nat.zero_add]
  show (match (fillC 0 (lst l) 0 .leaf).get i with | some ⟨tag, v⟩ => if tag ≤ 0 then some v else none | none => none) = _
  rw [nw_cell (t := t) (sz := sz) (nc := nc) (n := n) hx]; simp
theorem nw_is {t : H} {sz nc n : Nat} {l : List AV} : isRow (nw t sz l nc n) n := ⟨_, _, _, _, nw_get⟩
theorem nw_wok {t : H} {sz nc n : Nat} {l : List AV} {i : Nat} (hi : i < l.length) : wok (nw t sz l nc n) n 0 i :=
  ⟨_, _, _, _, nw_get, nw_cell (t := t) (sz := sz) (nc := nc) (n := n) (List.getElem?_eq_getElem hi)⟩
theorem nw_fr {F : List Nat} {t : H} {sz nc n : Nat} {l : List AV} : Gr F t n (nw t sz l nc n) (n + 1) := ⟨by omega, fun b hb _ => nw_ne (by omega)⟩
theorem newRow_nw (sz : Nat) (l : List AV) (nc : Nat) (t : H) (n : Nat) (k : H → Nat → Out) : newRow sz (lst l) nc t n k = k (nw t sz l nc n) (n + 1) := newRow_eq ..
theorem pBox_com (l : List AV) (x : Nat) (t : H) (n : Nat) (k : KH) : pBox (.com 0 x (lst l)) t n k = k (.ref 1 n 0 0 0 0) (nw t l.length l l.length n) (n + 1) := by
  unfold pBox
  show newRow (llen (lst l)) (lst l) (llen (lst l)) t n _ = _
  rw [llen_lst, newRow_nw]
theorem pRowSl_lst {sz ln : Nat} {l : List AV} (h : l.length = ln * sz) (t : H) (n : Nat) (k : KH) : pRowSl sz ln (lst l) t n k = k (.ref 3 n 0 0 ln ln) (nw t sz l l.length n) (n + 1) := by
  unfold pRowSl
  rw [llen_lst, show Nat.beq l.length (Nat.mul ln sz) = true by rw [h]; exact Nat.beq_refl _]
  show newRow sz (lst l) l.length t n _ = _
  rw [newRow_nw]
/-! ### slices of one's own -/
structure OwR (t : H) (sz g b e len cap : Nat) (xs : List AV) : Prop where
  hg : g = 3 ∨ g = 4
  row : ∃ c, t.get b = some (.row sz c (cap * sz) e) ∧ ∀ i, i < cap * sz → ∃ tg v, c.get i = some ⟨tg, v⟩ ∧ tg ≤ e
  hl : xs.length = len * sz
  hc : len ≤ cap
  hx : rowIs t b e 0 xs
inductive Ow (t : H) (sz : Nat) : AV → List AV → List Nat → Prop
  | nil : Ow t sz (.ref 2 0 0 0 0 0) [] []
  | row {g b e len cap : Nat} {xs : List AV} (h : OwR t sz g b e len cap xs) : Ow t sz (.ref g b e 0 len cap) xs [b]
theorem Ow.sl {t : H} {sz : Nat} {s : AV} {xs : List AV} {F : List Nat} (h : Ow t sz s xs F) : Sl t sz s xs := by
  cases h with
  | nil => exact .nil
  | row h => obtain ⟨c, hc, _⟩ := h.row; exact .row h.hg ⟨_, _, _, hc⟩ h.hl h.hc h.hx
theorem Ow.bk {t : H} {sz : Nat} {s : AV} {xs : List AV} {F : List Nat} (h : Ow t sz s xs F) : Ev.bk s = F := by
  cases h with
  | nil => rfl
  | row h => rcases h.hg with rfl | rfl <;> rfl
theorem Ow.ck {t : H} {sz : Nat} {s : AV} {xs : List AV} {F : List Nat} (h : Ow t sz s xs F) : cellsK s = fun f => f (.cons s .nil) := by cases h <;> rfl
theorem Sl.ck {t : H} {sz : Nat} {s : AV} {xs : List AV} (h : Sl t sz s xs) : cellsK s = fun f => f (.cons s .nil) := by cases h <;> rfl
theorem Ow.get {t t' : H} {sz : Nat} {s : AV} {xs : List AV} {F : List Nat} (h : Ow t sz s xs F) (hf : ∀ b ∈ F, t'.get b = t.get b) : Ow t' sz s xs F := by
  cases h with
  | nil => exact .nil
  | row h =>
    rename_i g b e len cap
    have := hf b (by simp)
    exact .row ⟨h.hg, by rw [this]; exact h.row, h.hl, h.hc, h.hx.get this⟩
theorem storeC_ok {ep : Nat} : ∀ {l : List AV} {o : Nat} {c : Bt Cell} {k : Bt Cell → Out}, (∀ j, j < l.length → (c.get (o + j)).isSome = true) → storeC ep (lst l) o c k = k (fillC ep (lst l) o c) := by
  intro l
  induction l with
  | nil => intro o c k _; rfl
  | cons a l ih =>
    intro o c k h
    obtain ⟨x, hx⟩ := Option.isSome_iff_exists.1 (h 0 (by simp))
    show (Option.rec (motive := fun _ => Out) (.err 24) (fun _ => Bt.seq (Bt.set c ⟨ep, a⟩ o) fun c' => storeC ep (lst l) (o + 1) c' k) (c.get o) : Out) = _
    rw [show c.get o = some x from hx]
    show Bt.seq (Bt.set c ⟨ep, a⟩ o) (fun c' => storeC ep (lst l) (o + 1) c' k) = _
    rw [Bt.seq_eq, ih (fun j hj => by
      rw [Bt.get_set_if]
      split
      · rfl
      · have := h (j + 1) (by simpa using hj)
        rwa [show o + (j + 1) = o + 1 + j by omega] at this)]
    rfl
/-- a row of one's own over which cells are laid -/
theorem over {t : H} {sz b e cap len : Nat} {c : Bt Cell} {xs ys : List AV} {e' nc : Nat} (hc : t.get b = some (.row sz c nc e)) (hx : rowIs t b e 0 xs) (he : e ≤ e')
    (ha : ∀ i, i < nc → ∃ tg v, c.get i = some ⟨tg, v⟩ ∧ tg ≤ e) (hxl : xs.length ≤ nc) (N : Nat) (hN : N ≤ nc ∨ N = xs.length + ys.length) (hN2 : xs.length + ys.length ≤ N) :
    let t' := t.set (.row sz (fillC e' (lst ys) xs.length c) N e') b
    rowIs t' b e' 0 (xs ++ ys) ∧ ∀ i, i < N → ∃ tg v, (fillC e' (lst ys) xs.length c).get i = some ⟨tg, v⟩ ∧ tg ≤ e' := by
  intro t'
  constructor
  · intro i x hi
    unfold cl
    show (match (t.set (.row sz (fillC e' (lst ys) xs.length c) N e') b).get b with | some (.row _ c _ _) => _ | _ => none) = _
    rw [M.get_set]
    show (match (fillC e' (lst ys) xs.length c).get (0 + i) with | some ⟨tag, v⟩ => if tag ≤ e' then some v else none | none => none) = _
    rw [fill_get, Nat.zero_add]
    rw [List.getElem?_append] at hi
    split at hi
    · rename_i hlt
      rw [if_neg (by omega)]
      have := hx i x hi
      unfold cl at this
      rw [hc, Nat.zero_add] at this
      have this : (match c.get i with | some ⟨tag, v⟩ => if tag ≤ e then some v else none | none => none) = some x := this
      split at this
      · rename_i tag v hci
        split at this
        · rename_i hle
          show (if tag ≤ e' then some v else none) = _
          rw [if_pos (by omega)]; exact this
        · cases this
      · cases this
    · rename_i hge
      rw [if_pos (by omega), hi]
      show (if e' ≤ e' then some x else none) = _
      rw [if_pos (Nat.le_refl _)]
  · intro i hi
    rw [fill_get]
    by_cases h1 : xs.length ≤ i
    · rw [if_pos h1]
      cases hy : ys[i - xs.length]? with
      | some a => exact ⟨_, _, rfl, Nat.le_refl _⟩
      | none =>
        have : ys.length ≤ i - xs.length := List.getElem?_eq_none_iff.1 hy
        obtain ⟨tg, v, h2, h3⟩ := ha i (by omega)
        exact ⟨tg, v, h2, by omega⟩
    · rw [if_neg h1]
      obtain ⟨tg, v, h2, h3⟩ := ha i (by omega)
      exact ⟨tg, v, h2, by omega⟩
theorem ble_f {a b : Nat} (h : b < a) : Nat.ble a b = false := by
  cases h' : Nat.ble a b with
  | false => rfl
  | true => have := Nat.le_of_ble_eq_true h'; omega
/-- a new row of one's own -/
theorem own_nw {t : H} {sz n g len : Nat} {l : List AV} (hg : g = 3 ∨ g = 4) (hl : l.length = len * sz) : Ow (nw t sz l l.length n) sz (.ref g n 0 0 len len) l [n] :=
  .row ⟨hg, ⟨_, by rw [nw_get, hl], fun i hi => by
    rw [← hl] at hi
    exact ⟨0, _, nw_cell (t := t) (sz := sz) (nc := 0) (n := n) (List.getElem?_eq_getElem hi), Nat.le_refl _⟩⟩, hl, Nat.le_refl _, nw_row⟩
/-- what is added to a slice of one's own -/
theorem appTo_ow {t : H} {sz bytes n cnt : Nat} {s : AV} {xs ys : List AV} {F : List Nat} (h : Ow t sz s xs F) (hz : 0 < sz) (hy : ys.length = cnt * sz) (hF : ∀ b ∈ F, b < n) (hfit : (xs.length + ys.length) / sz * bytes ≤ 1048576) :
    ∃ s' t' n' F', (∀ k, appTo sz bytes s (lst ys) cnt t n k = k s' t' n') ∧ Ow t' sz s' (xs ++ ys) F' ∧ Gr F t n t' n' ∧ ∀ b ∈ F', (b ∈ F ∨ n ≤ b) ∧ b < n' := by
  cases h with
  | nil =>
    by_cases h0 : cnt = 0
    · subst h0
      have : ys = [] := by simpa using hy
      subst this
      refine ⟨.ref 2 0 0 0 0 0, t, n, [], fun k => rfl, .nil, .refl _ _ _, fun b hb => by cases hb⟩
    · refine ⟨.ref 4 n 0 0 cnt cnt, nw t sz ys ys.length n, n + 1, [n], fun k => ?_, own_nw (.inr rfl) hy, nw_fr, fun b hb => by simp at hb; omega⟩
      unfold appTo
      show bO (Nat.beq cnt 0) _ (bO (Nat.ble (Nat.mul cnt bytes) 1048576) (fresh sz (lst ys) cnt t n k) (.err 58)) = _
      rw [Bt.beq_false h0, show Nat.ble (Nat.mul cnt bytes) 1048576 = true from Nat.ble_eq_true_of_le (by
        have : (([] : List AV).length + ys.length) / sz = cnt := by rw [List.length_nil, Nat.zero_add, hy, Nat.mul_div_cancel _ hz]
        rw [this] at hfit; exact hfit)]
      show fresh sz (lst ys) cnt t n k = _
      unfold fresh
      rw [newRow_nw, hy]; rfl
  | row h =>
    rename_i g b e len cap
    obtain ⟨c, hc, ha⟩ := h.row
    have hlt : b < n := hF b (by simp)
    have hcap : len * sz ≤ cap * sz := Nat.mul_le_mul_right _ h.hc
    have hneed : (xs.length + ys.length) / sz = len + cnt := by rw [h.hl, hy, ← Nat.add_mul, Nat.mul_div_cancel _ hz]
    rw [hneed] at hfit
    have hnl : (xs ++ ys).length = (len + cnt) * sz := by rw [List.length_append, h.hl, hy, Nat.add_mul]
    have start : ∀ k, appTo sz bytes (.ref g b e 0 len cap) (lst ys) cnt t n k = bO (Nat.ble (len + cnt) cap) (stAt b e (Nat.add 0 (Nat.mul len sz)) (lst ys) t fun t' => k (.ref g b e 0 (len + cnt) cap) t' n)
        (bO (Nat.ble (Nat.mul (len + cnt) bytes) 1048576)
        (bO (Nat.beq g 3) (withRow t b fun _ c _ _ => readC c e (Nat.mul len sz) 0 fun old => fresh sz (lapp old (lst ys)) (len + cnt) t n k)
          (bO (Nat.beq 0 0) (bO (Nat.ble len cap) (withRow t b fun sz' c nc e' => bO (Nat.beq sz sz') (bO (Nat.beq e e') (bO (Nat.ble nc (Nat.mul (len + cnt) sz)) (forceN (Nat.succ e) fun ep' => forceN (Nat.mul (len + cnt) sz) fun nc => Bt.seq (fillC ep' (lst ys) (Nat.mul len sz) c) fun c' => hset t (.row sz' c' nc ep') b fun t' => k (.ref 4 b ep' 0 (len + cnt) (len + cnt)) t' n) (.err 55)) (.err 55)) (.err 55)) (.err 55)) (.err 56)))
        (.err 57)) := by
      intro k
      unfold appTo
      rcases h.hg with rfl | rfl
      · simp only [forceN_eq]; rfl
      · simp only [forceN_eq]; rfl
    by_cases hroom : len + cnt ≤ cap
    · -- in place
      have hle : (len + cnt) * sz ≤ cap * sz := Nat.mul_le_mul_right _ hroom
      have hov := over (sz := sz) (cap := cap) (len := len) (ys := ys) (e' := e) hc h.hx (Nat.le_refl _) ha (by rw [h.hl]; exact hcap) (cap * sz) (.inl (Nat.le_refl _)) (by rw [h.hl, hy, ← Nat.add_mul]; exact hle)
      refine ⟨.ref g b e 0 (len + cnt) cap, t.set (.row sz (fillC e (lst ys) xs.length c) (cap * sz) e) b, n, [b], fun k => ?_, .row ⟨h.hg, ⟨_, M.get_set _ _ _, hov.2⟩, hnl, hroom, hov.1⟩,
        ⟨Nat.le_refl _, fun b' _ hb' => M.get_set_ne _ _ _ _ (fun e => hb' (by simp [e]))⟩, fun b' hb' => by simp at hb'; subst hb'; exact ⟨.inl (by simp), hlt⟩⟩
      rw [start k, Nat.ble_eq_true_of_le hroom]
      show stAt b e (Nat.add 0 (Nat.mul len sz)) (lst ys) t _ = _
      unfold stAt
      rw [withRow_ok hc, Nat.beq_refl]
      show storeC e (lst ys) (Nat.add 0 (Nat.mul len sz)) c _ = _
      rw [show Nat.add 0 (Nat.mul len sz) = len * sz from Nat.zero_add _, storeC_ok (fun j hj => by
        obtain ⟨tg, v, h1, _⟩ := ha (len * sz + j) (by rw [hy] at hj; rw [Nat.add_mul] at hle; omega)
        rw [h1]; rfl), hset_eq, h.hl]
    · have hgt : cap < len + cnt := by omega
      have hfit' : Nat.ble (Nat.mul (len + cnt) bytes) 1048576 = true := Nat.ble_eq_true_of_le hfit
      rcases h.hg with rfl | rfl
      · -- a new row
        refine ⟨.ref 4 n 0 0 (len + cnt) (len + cnt), nw t sz (xs ++ ys) (xs ++ ys).length n, n + 1, [n], fun k => ?_, own_nw (.inr rfl) hnl, nw_fr, fun b' hb' => by simp at hb'; omega⟩
        rw [start k, ble_f hgt, hfit']
        show withRow t b (fun _ c _ _ => readC c e (Nat.mul len sz) 0 fun old => fresh sz (lapp old (lst ys)) (len + cnt) t n k) = _
        rw [withRow_ok hc]
        have := readC_ok hc (o := 0) (k := fun old => fresh sz (lapp old (lst ys)) (len + cnt) t n k) h.hx
        rw [h.hl] at this
        refine this.trans ?_
        show fresh sz (lapp (lst xs) (lst ys)) (len + cnt) t n k = _
        unfold fresh
        rw [lapp_lst, newRow_nw, hnl]; rfl
      · have hmul : cap * sz ≤ (len + cnt) * sz := Nat.mul_le_mul_right _ (by omega)
        have hov := over (sz := sz) (cap := cap) (len := len) (ys := ys) (e' := e + 1) hc h.hx (by omega) ha (by rw [h.hl]; exact hcap) ((len + cnt) * sz) (.inr (by rw [h.hl, hy, Nat.add_mul])) (by rw [h.hl, hy, Nat.add_mul]; exact Nat.le_refl _)
        refine ⟨.ref 4 b (e + 1) 0 (len + cnt) (len + cnt), t.set (.row sz (fillC (e + 1) (lst ys) xs.length c) ((len + cnt) * sz) (e + 1)) b, n, [b], fun k => ?_, .row ⟨.inr rfl, ⟨_, M.get_set _ _ _, hov.2⟩, hnl, Nat.le_refl _, hov.1⟩,
          ⟨Nat.le_refl _, fun b' _ hb' => M.get_set_ne _ _ _ _ (fun e => hb' (by simp [e]))⟩, fun b' hb' => by simp at hb'; subst hb'; exact ⟨.inl (by simp), hlt⟩⟩
        rw [start k, ble_f hgt, hfit']
        show bO (Nat.ble len cap) (withRow t b _) (.err 55) = _
        rw [Nat.ble_eq_true_of_le h.hc]
        show withRow t b _ = _
        rw [withRow_ok hc, Nat.beq_refl, Nat.beq_refl, show Nat.ble (cap * sz) (Nat.mul (len + cnt) sz) = true from Nat.ble_eq_true_of_le hmul]
        show forceN (Nat.succ e) _ = _
        rw [forceN_eq, forceN_eq, Bt.seq_eq, hset_eq, h.hl]
        rfl
theorem app_ow {t : H} {sz bytes n : Nat} {s src : AV} {xs ys : List AV} {F : List Nat} (h : Ow t sz s xs F) (hs : Sl t sz src ys) (hz : 0 < sz) (hF : ∀ b ∈ F, b < n) (hfit : (xs.length + ys.length) / sz * bytes ≤ 1048576) :
    ∃ s' t' n' F', (∀ k, pApp sz bytes s src t n k = k s' t' n') ∧ Ow t' sz s' (xs ++ ys) F' ∧ Gr F t n t' n' ∧ ∀ b ∈ F', (b ∈ F ∨ n ≤ b) ∧ b < n' := by
  cases hs with
  | nil =>
    obtain ⟨s', t', n', F', h1, h2⟩ := appTo_ow (cnt := 0) (ys := []) h hz (by simp) hF hfit
    exact ⟨s', t', n', F', fun k => h1 k, h2⟩
  | fin hg =>
    obtain ⟨s', t', n', F', h1, h2⟩ := appTo_ow (cnt := 0) (ys := []) h hz (by simp) hF hfit
    exact ⟨s', t', n', F', fun k => by rcases hg with rfl | rfl <;> exact h1 k, h2⟩
  | row hg hb hl hcp hx =>
    rename_i g b e o len cap
    obtain ⟨s', t', n', F', h1, h2⟩ := appTo_ow (cnt := len) h hz hl hF hfit
    refine ⟨s', t', n', F', fun k => ?_, h2⟩
    obtain ⟨c, nc, ep, hgt⟩ := hb
    have e1 : pApp sz bytes s (.ref g b e o len cap) t n k = withRow t b (fun _ c _ _ => readC c e (Nat.mul len sz) o fun new => appTo sz bytes s new len t n k) := by
      unfold pApp
      rcases hg with rfl | rfl <;> rfl
    rw [e1, withRow_ok hgt]
    have := readC_ok hgt (o := o) (k := fun new => appTo sz bytes s new len t n k) hx
    rw [hl] at this
    exact this.trans (h1 k)
  | arg hl he hx hc =>
    rename_i b e o len cap
    obtain ⟨s', t', n', F', h1, h2⟩ := appTo_ow (cnt := len) h hz hl hF hfit
    refine ⟨s', t', n', F', fun k => ?_, h2⟩
    show readP b e (Nat.mul len sz) o (fun new => appTo sz bytes s new len t n k) = _
    have := readP_ok (b := b) (o := o) (k := fun new => appTo sz bytes s new len t n k) he hx
    rw [hl] at this
    exact this.trans (h1 k)
end Ev
