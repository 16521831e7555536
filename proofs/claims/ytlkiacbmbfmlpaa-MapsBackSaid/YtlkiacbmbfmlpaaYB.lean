import Derived.Test.YtlkiacbmbfmlpaaYA
/- Slices, told as lists: what is read of them, what is added to them. -/
namespace Ev
open Go
set_option linter.unusedSectionVars false
set_option linter.unusedVariables false
set_option linter.unusedSimpArgs false
variable [Told] [TokV] [ToldOK]
/-- a list of values as the evaluator has it -/
def lst : List AV → AV
  | [] => .nil
  | a :: l => .cons a (lst l)
theorem toL_lst : ∀ l : List AV, toL (lst l) = l
  | [] => rfl
  | a :: l => by show a :: toL (lst l) = _; rw [toL_lst l]
theorem llen_lst (l : List AV) : llen (lst l) = l.length := by rw [llen_eq, toL_lst]
theorem lapp_lst : ∀ (l m : List AV), lapp (lst l) (lst m) = lst (l ++ m)
  | [], m => rfl
  | a :: l, m => by show AV.cons a (lapp (lst l) (lst m)) = _; rw [lapp_lst l m]; rfl
theorem lst_inj : ∀ {l m : List AV}, lst l = lst m → l = m
  | [], [], _ => rfl
  | a :: l, b :: m, h => by
    have h : AV.cons a (lst l) = .cons b (lst m) := h
    injection h with h1 h2
    rw [h1, lst_inj h2]
  | [], _ :: _, h => by cases h
  | _ :: _, [], h => by cases h
/-! ### rows -/
/-- a row's cells from a place on, as an epoch sees them -/
def rowIs (t : H) (b e o : Nat) (xs : List AV) : Prop := ∀ i x, xs[i]? = some x → cl t b e (o + i) = some x
def isRow (t : H) (b : Nat) : Prop := ∃ sz c n ep, t.get b = some (.row sz c n ep)
def isRowS (t : H) (b sz : Nat) : Prop := ∃ c n ep, t.get b = some (.row sz c n ep)
theorem cl_get {t t' : H} {b : Nat} (h : t'.get b = t.get b) (e o : Nat) : cl t' b e o = cl t b e o := by unfold cl; rw [h]
theorem rowIs.get {t t' : H} {b e o : Nat} {xs : List AV} (h : rowIs t b e o xs) (hg : t'.get b = t.get b) : rowIs t' b e o xs := fun i x hx => (cl_get hg _ _).trans (h i x hx)
theorem isRow.get {t t' : H} {b : Nat} (h : isRow t b) (hg : t'.get b = t.get b) : isRow t' b := by unfold isRow; rw [hg]; exact h
theorem isRowS.get {t t' : H} {b sz : Nat} (h : isRowS t b sz) (hg : t'.get b = t.get b) : isRowS t' b sz := by unfold isRowS; rw [hg]; exact h
theorem wok.get {t t' : H} {b e o : Nat} (h : wok t b e o) (hg : t'.get b = t.get b) : wok t' b e o := by unfold wok; rw [hg]; exact h
theorem rowIs.app {t : H} {b e o : Nat} {xs ys : List AV} (h1 : rowIs t b e o xs) (h2 : rowIs t b e (o + xs.length) ys) : rowIs t b e o (xs ++ ys) := fun i x hx => by
  rw [List.getElem?_append] at hx
  split at hx
  · exact h1 i x hx
  · have := h2 _ x hx
    rwa [show o + xs.length + (i - xs.length) = o + i by omega] at this
theorem rowIs.sub {t : H} {b e o : Nat} {xs : List AV} (h : rowIs t b e o xs) (l m : Nat) : rowIs t b e (o + l) ((xs.drop l).take m) := fun i x hx => by
  rw [List.getElem?_take] at hx
  split at hx
  · rw [List.getElem?_drop] at hx
    have := h _ x hx
    rwa [show o + (l + i) = o + l + i by omega] at this
  · cases hx
theorem readC_ok {t : H} {b sz n ep : Nat} {c : Bt Cell} (hg : t.get b = some (.row sz c n ep)) {e : Nat} : ∀ {xs : List AV} {o : Nat} {k : K}, rowIs t b e o xs → readC c e xs.length o k = k (lst xs) := by
  intro xs
  induction xs with
  | nil => intro o k _; rfl
  | cons x xs ih =>
    intro o k h
    show cell (c.get o) e (fun v => readC c e xs.length (o + 1) fun r => k (.cons v r)) = _
    have h0 : cl t b e o = some x := h 0 x rfl
    unfold cl at h0
    rw [hg] at h0
    have h0 : (match c.get o with | some ⟨tag, v⟩ => if tag ≤ e then some v else none | none => none) = some x := h0
    split at h0
    · rename_i tag v hc
      split at h0
      · rename_i hle
        injection h0 with h0; subst h0
        rw [hc]
        show bO (Nat.ble tag e) (readC c e xs.length (o + 1) fun r => k (.cons v r)) (.err 23) = _
        rw [Nat.ble_eq_true_of_le hle]
        show readC c e xs.length (o + 1) (fun r => k (.cons v r)) = _
        rw [ih (o := o + 1) (fun i x hx => by have := h (i + 1) x (by simpa using hx); rwa [show o + (i + 1) = o + 1 + i by omega] at this)]
        rfl
      · cases h0
    · cases h0
theorem withRow_ok {t : H} {b sz n ep : Nat} {c : Bt Cell} (hg : t.get b = some (.row sz c n ep)) (k : Nat → Bt Cell → Nat → Nat → Out) : withRow t b k = k sz c n ep := by
  unfold withRow; rw [hget_eq, hg]
theorem readA_ok {b : Nat} : ∀ {xs : List AV} {o : Nat} {k : K}, (∀ i x, xs[i]? = some x → Told.ar b (o + i) = some x) → readA b xs.length o k = k (lst xs) := by
  intro xs
  induction xs with
  | nil => intro o k _; rfl
  | cons x xs ih =>
    intro o k h
    show (Option.rec (motive := fun _ => Out) (.err 90) (fun v => readA b xs.length (Nat.succ o) fun l => k (.cons v l)) (Told.ar b o) : Out) = _
    rw [show Told.ar b o = some x from h 0 x rfl]
    show readA b xs.length (o + 1) (fun l => k (.cons x l)) = _
    rw [ih (o := o + 1) (fun i x hx => by have := h (i + 1) x (by simpa using hx); rwa [show o + (i + 1) = o + 1 + i by omega] at this)]
    rfl
theorem readP_ok {b e o : Nat} {xs : List AV} {k : K} (he : xs.length ≠ 0 → e = 0) (h : ∀ i x, xs[i]? = some x → Told.ar b (o + i) = some x) : readP b e xs.length o k = k (lst xs) := by
  unfold readP
  by_cases h0 : xs.length = 0
  · have : xs = [] := by simpa using h0
    subst this; rfl
  · rw [Bt.beq_false h0, he h0]
    exact readA_ok h
/-! ### slices that are read -/
/-- the slice is the list of these cells (so many an element) -/
inductive Sl (t : H) (sz : Nat) : AV → List AV → Prop
  | nil : Sl t sz (.ref 2 0 0 0 0 0) []
  | row {g b e o len cap : Nat} {xs : List AV} (hg : g = 3 ∨ g = 4) (hb : isRowS t b sz) (hl : xs.length = len * sz) (hc : len ≤ cap) (hx : rowIs t b e o xs) : Sl t sz (.ref g b e o len cap) xs
  | arg {b e o len cap : Nat} {xs : List AV} (hl : xs.length = len * sz) (he : xs.length ≠ 0 → e = 0) (hx : ∀ i x, xs[i]? = some x → Told.ar b (o + i) = some x) (hc : len ≤ cap) : Sl t sz (.ref 16 b e o len cap) xs
  | fin {g b e o len cap : Nat} (hg : g = 5 ∨ g = 6) : Sl t sz (.ref g b e o len cap) []
/-- its block, if it has one that may be written -/
def bk : AV → List Nat
  | .ref 3 b _ _ _ _ => [b]
  | .ref 4 b _ _ _ _ => [b]
  | _ => []
theorem Sl.get {t t' : H} {sz : Nat} {s : AV} {xs : List AV} (h : Sl t sz s xs) (hf : ∀ b ∈ bk s, t'.get b = t.get b) : Sl t' sz s xs := by
  cases h with
  | nil => exact .nil
  | row hg hb hl hcp hx =>
    rename_i g b e o len cap
    have : t'.get b = t.get b := hf b (by rcases hg with rfl | rfl <;> simp [bk])
    exact .row hg (hb.get this) hl hcp (hx.get this)
  | arg hl he hx hc => exact .arg hl he hx hc
  | fin hg => exact .fin hg
theorem isSl_3 (b c : Out) : isSl 3 b c = b := rfl
theorem isSl_4 (b c : Out) : isSl 4 b c = b := rfl
theorem pLenL_sl {t : H} {sz : Nat} {s : AV} {xs : List AV} (h : Sl t sz s xs) (hz : 0 < sz) (k : K) : pLenL s k = k (.num 3 (.ofNat (xs.length / sz))) := by
  cases h with
  | nil => simp; rfl
  | row hg hb hl hcp hx =>
    rw [hl, Nat.mul_div_cancel _ hz]
    rcases hg with rfl | rfl <;> rfl
  | arg hl he hx hc => rw [hl, Nat.mul_div_cancel _ hz]; rfl
  | fin hg => rcases hg with rfl | rfl <;> simp <;> rfl
/-- the place of an element -/
def plc (sz : Nat) (s : AV) (i : Nat) : AV := match s with
  | .ref 16 b e o _ _ => if i * sz = 0 then .ref 17 b e o 0 0 else .ref 17 b 0 (o + i * sz) 0 0
  | .ref _ b e o _ _ => .ref 1 b e (o + i * sz) 0 0
  | _ => unit
theorem blt_t {a b : Nat} (h : a < b) : Nat.blt a b = true := Nat.ble_eq_true_of_le h
theorem blt_f {a b : Nat} (h : b ≤ a) : Nat.blt a b = false := by
  cases h' : Nat.blt a b with
  | false => rfl
  | true => have : a < b := by simpa [Nat.blt_eq] using h'
            omega
theorem adA_eq (b e o n : Nat) (k : Nat → Nat → Out) : adA b e o n k = if n = 0 then k e o else k 0 (o + n) := by
  unfold adA
  split
  · rename_i h; rw [h]; rfl
  · rename_i h; rw [Bt.beq_false h, forceN_eq]; rfl
theorem vnat_of (n : Nat) (k : Nat → Out) : vnat (.num 3 (.ofNat n)) k = k n := by
  unfold vnat vint vnum
  rfl
theorem pIad_sl {t : H} {sz : Nat} {s : AV} {xs : List AV} (h : Sl t sz s xs) {i : Nat} (hi : i * sz < xs.length) (k : K) : pIad sz s (.num 3 (.ofNat i)) k = k (plc sz s i) := by
  cases h with
  | nil => simp at hi
  | row hg hb hl hcp hx =>
    rename_i g b e o len cap
    have hil : i < len := by rw [hl] at hi; exact Nat.lt_of_mul_lt_mul_right hi
    unfold pIad
    rw [vnat_of]
    rcases hg with rfl | rfl
    · show bO (Nat.blt i len) (forceN (Nat.add o (Nat.mul i sz)) fun o' => k (.ref 1 b e o' 0 0)) (.err 42) = _
      rw [blt_t hil, forceN_eq]; rfl
    · show bO (Nat.blt i len) (forceN (Nat.add o (Nat.mul i sz)) fun o' => k (.ref 1 b e o' 0 0)) (.err 42) = _
      rw [blt_t hil, forceN_eq]; rfl
  | arg hl he hx hc =>
    rename_i b e o len cap
    have hil : i < len := by rw [hl] at hi; exact Nat.lt_of_mul_lt_mul_right hi
    unfold pIad
    rw [vnat_of]
    show bO (Nat.blt i len) (adA b e o (Nat.mul i sz) fun e' o' => k (.ref 17 b e' o' 0 0)) (.err 42) = _
    rw [blt_t hil]
    show adA b e o (i * sz) (fun e' o' => k (.ref 17 b e' o' 0 0)) = _
    rw [adA_eq]
    show _ = k (if i * sz = 0 then .ref 17 b e o 0 0 else .ref 17 b 0 (o + i * sz) 0 0)
    split <;> rfl
  | fin hg => simp at hi
theorem lt_of_get {α : Type} {xs : List α} {i : Nat} {x : α} (h : xs[i]? = some x) : i < xs.length := (List.getElem?_eq_some_iff.1 h).1
/-- a cell of an element -/
theorem pLd_plc {t : H} {s : AV} {xs : List AV} (h : Sl t 1 s xs) {i : Nat} {x : AV} (hx : xs[i]? = some x) (k : K) : pLd (plc 1 s i) t k = k x := by
  have hi := lt_of_get hx
  cases h with
  | nil => simp at hi
  | row hg hb hl hcp hr =>
    rename_i g b e o len cap
    have e1 : plc 1 (.ref g b e o len cap) i = .ref 1 b e (o + i) 0 0 := by rcases hg with rfl | rfl <;> simp [plc]
    rw [e1]
    exact pLd1 (hr i x hx)
  | arg hl he ha hc =>
    rename_i b e o len cap
    have he := he (by omega)
    subst he
    have e1 : plc 1 (.ref 16 b 0 o len cap) i = .ref 17 b 0 (o + i) 0 0 := by
      show (if i * 1 = 0 then AV.ref 17 b 0 o 0 0 else .ref 17 b 0 (o + i * 1) 0 0) = _
      split
      · rename_i h0; rw [show o + i = o by omega]
      · rw [Nat.mul_one]
    rw [e1]
    show (Option.rec (motive := fun _ => Out) (.err 92) k (Told.ar b (o + i)) : Out) = _
    rw [ha i x hx]
  | fin hg => simp at hi
/-- a struct's cells -/
theorem pLdC_plc {t : H} {sz : Nat} {s : AV} {xs : List AV} (h : Sl t sz s xs) {i : Nat} (hi : i * sz < xs.length) (hs : ((xs.drop (i * sz)).take sz).length = sz) (k : K) : pLdC sz (plc sz s i) t k = k (.com 0 0 (lst ((xs.drop (i * sz)).take sz))) := by
  cases h with
  | nil => simp at hi
  | row hg hb hl hcp hr =>
    rename_i g b e o len cap
    have e1 : plc sz (.ref g b e o len cap) i = .ref 1 b e (o + i * sz) 0 0 := by rcases hg with rfl | rfl <;> simp [plc]
    rw [e1]
    obtain ⟨c, n, ep, hgt⟩ := hb
    show withRow t b (fun _ c _ _ => readC c e sz (o + i * sz) fun l => k (.com 0 0 l)) = _
    rw [withRow_ok hgt]
    have := readC_ok hgt (k := fun l => k (.com 0 0 l)) (hr.sub (i * sz) sz)
    rwa [hs] at this
  | arg hl he ha hc =>
    rename_i b e o len cap
    have he := he (by omega)
    subst he
    have e1 : plc sz (.ref 16 b 0 o len cap) i = .ref 17 b 0 (o + i * sz) 0 0 := by
      show (if i * sz = 0 then AV.ref 17 b 0 o 0 0 else .ref 17 b 0 (o + i * sz) 0 0) = _
      split
      · rename_i h0; rw [h0]; rfl
      · rfl
    rw [e1]
    show readA b sz (o + i * sz) (fun l => k (.com 0 0 l)) = _
    have := readA_ok (b := b) (o := o + i * sz) (xs := (xs.drop (i * sz)).take sz) (k := fun l => k (.com 0 0 l)) (fun j x hj => by
      rw [List.getElem?_take] at hj
      split at hj
      · rw [List.getElem?_drop] at hj
        have := ha _ x hj
        rwa [show o + (i * sz + j) = o + i * sz + j by omega] at this
      · cases hj)
    rwa [hs] at this
  | fin hg => simp at hi
end Ev
