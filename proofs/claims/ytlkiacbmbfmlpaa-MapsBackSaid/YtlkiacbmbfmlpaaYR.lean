import Derived.Test.YtlkiacbmbfmlpaaYE
/- The rules in one. -/
namespace Ev
open Go
set_option linter.unusedSectionVars false
set_option linter.unusedVariables false
variable [Told] [TokV] [ToldOK]
theorem q10_3 (a b : Int) (k : K) : q10 (.num 3 a) (.num 3 b) k = k (bL (a = b)) := q10_num (by omega)
theorem q11_3 (a b : Int) (k : K) : q11 (.num 3 a) (.num 3 b) k = k (bL (a ≠ b)) := q11_num (by omega)
theorem q12_3 (a b : Int) (k : K) : q12 (.num 3 a) (.num 3 b) k = k (bL (a < b)) := q12_num (by omega)
theorem q13_3 (a b : Int) (k : K) : q13 (.num 3 a) (.num 3 b) k = k (bL (a ≤ b)) := q13_num (by omega)
theorem q14_3 (a b : Int) (k : K) : q14 (.num 3 a) (.num 3 b) k = k (bL (b < a)) := q14_num (by omega)
theorem q15_3 (a b : Int) (k : K) : q15 (.num 3 a) (.num 3 b) k = k (bL (b ≤ a)) := q15_num (by omega)
theorem SY :
  (∀ (e : T AV), e.a.c0 = row .d0 e) ∧
  (∀ (e : T AV) (g : N16 (Option AV) → (N16 (Option AV) → Out) → Out) (k : T AV → Out), w1 y0 g e k = g (row .d0 e) fun r => k (setRow .d0 r e)) ∧
  (∀ (r : N16 (Option AV)), r.c0 = N16.sel .d0 r) ∧
  (∀ (v : AV) (r : N16 (Option AV)) (k : N16 (Option AV) → Out), P0 v r k = k (st .d0 v r)) ∧
  (∀ (v : AV) (g : N16 (Option AV) → (N16 (Option AV) → Out) → Out) (r : N16 (Option AV)) (k : N16 (Option AV) → Out), O0 v g r k = g (st .d0 v r) k) ∧
  (∀ (e : T AV), e.a.c1 = row .d1 e) ∧
  (∀ (e : T AV) (g : N16 (Option AV) → (N16 (Option AV) → Out) → Out) (k : T AV → Out), w1 y1 g e k = g (row .d1 e) fun r => k (setRow .d1 r e)) ∧
  (∀ (r : N16 (Option AV)), r.c1 = N16.sel .d1 r) ∧
  (∀ (v : AV) (r : N16 (Option AV)) (k : N16 (Option AV) → Out), P1 v r k = k (st .d1 v r)) ∧
  (∀ (v : AV) (g : N16 (Option AV) → (N16 (Option AV) → Out) → Out) (r : N16 (Option AV)) (k : N16 (Option AV) → Out), O1 v g r k = g (st .d1 v r) k) ∧
  (∀ (e : T AV), e.a.c2 = row .d2 e) ∧
  (∀ (e : T AV) (g : N16 (Option AV) → (N16 (Option AV) → Out) → Out) (k : T AV → Out), w1 y2 g e k = g (row .d2 e) fun r => k (setRow .d2 r e)) ∧
  (∀ (r : N16 (Option AV)), r.c2 = N16.sel .d2 r) ∧
  (∀ (v : AV) (r : N16 (Option AV)) (k : N16 (Option AV) → Out), P2 v r k = k (st .d2 v r)) ∧
  (∀ (v : AV) (g : N16 (Option AV) → (N16 (Option AV) → Out) → Out) (r : N16 (Option AV)) (k : N16 (Option AV) → Out), O2 v g r k = g (st .d2 v r) k) ∧
  (∀ (e : T AV), e.a.c3 = row .d3 e) ∧
  (∀ (e : T AV) (g : N16 (Option AV) → (N16 (Option AV) → Out) → Out) (k : T AV → Out), w1 y3 g e k = g (row .d3 e) fun r => k (setRow .d3 r e)) ∧
  (∀ (r : N16 (Option AV)), r.c3 = N16.sel .d3 r) ∧
  (∀ (v : AV) (r : N16 (Option AV)) (k : N16 (Option AV) → Out), P3 v r k = k (st .d3 v r)) ∧
  (∀ (v : AV) (g : N16 (Option AV) → (N16 (Option AV) → Out) → Out) (r : N16 (Option AV)) (k : N16 (Option AV) → Out), O3 v g r k = g (st .d3 v r) k) ∧
  (∀ (e : T AV), e.a.c4 = row .d4 e) ∧
  (∀ (e : T AV) (g : N16 (Option AV) → (N16 (Option AV) → Out) → Out) (k : T AV → Out), w1 y4 g e k = g (row .d4 e) fun r => k (setRow .d4 r e)) ∧
  (∀ (r : N16 (Option AV)), r.c4 = N16.sel .d4 r) ∧
  (∀ (v : AV) (r : N16 (Option AV)) (k : N16 (Option AV) → Out), P4 v r k = k (st .d4 v r)) ∧
  (∀ (v : AV) (g : N16 (Option AV) → (N16 (Option AV) → Out) → Out) (r : N16 (Option AV)) (k : N16 (Option AV) → Out), O4 v g r k = g (st .d4 v r) k) ∧
  (∀ (e : T AV), e.a.c5 = row .d5 e) ∧
  (∀ (e : T AV) (g : N16 (Option AV) → (N16 (Option AV) → Out) → Out) (k : T AV → Out), w1 y5 g e k = g (row .d5 e) fun r => k (setRow .d5 r e)) ∧
  (∀ (r : N16 (Option AV)), r.c5 = N16.sel .d5 r) ∧
  (∀ (v : AV) (r : N16 (Option AV)) (k : N16 (Option AV) → Out), P5 v r k = k (st .d5 v r)) ∧
  (∀ (v : AV) (g : N16 (Option AV) → (N16 (Option AV) → Out) → Out) (r : N16 (Option AV)) (k : N16 (Option AV) → Out), O5 v g r k = g (st .d5 v r) k) ∧
  (∀ (e : T AV), e.a.c6 = row .d6 e) ∧
  (∀ (e : T AV) (g : N16 (Option AV) → (N16 (Option AV) → Out) → Out) (k : T AV → Out), w1 y6 g e k = g (row .d6 e) fun r => k (setRow .d6 r e)) ∧
  (∀ (r : N16 (Option AV)), r.c6 = N16.sel .d6 r) ∧
  (∀ (v : AV) (r : N16 (Option AV)) (k : N16 (Option AV) → Out), P6 v r k = k (st .d6 v r)) ∧
  (∀ (v : AV) (g : N16 (Option AV) → (N16 (Option AV) → Out) → Out) (r : N16 (Option AV)) (k : N16 (Option AV) → Out), O6 v g r k = g (st .d6 v r) k) ∧
  (∀ (e : T AV), e.a.c7 = row .d7 e) ∧
  (∀ (e : T AV) (g : N16 (Option AV) → (N16 (Option AV) → Out) → Out) (k : T AV → Out), w1 y7 g e k = g (row .d7 e) fun r => k (setRow .d7 r e)) ∧
  (∀ (r : N16 (Option AV)), r.c7 = N16.sel .d7 r) ∧
  (∀ (v : AV) (r : N16 (Option AV)) (k : N16 (Option AV) → Out), P7 v r k = k (st .d7 v r)) ∧
  (∀ (v : AV) (g : N16 (Option AV) → (N16 (Option AV) → Out) → Out) (r : N16 (Option AV)) (k : N16 (Option AV) → Out), O7 v g r k = g (st .d7 v r) k) ∧
  (∀ (e : T AV), e.a.c8 = row .d8 e) ∧
  (∀ (e : T AV) (g : N16 (Option AV) → (N16 (Option AV) → Out) → Out) (k : T AV → Out), w1 y8 g e k = g (row .d8 e) fun r => k (setRow .d8 r e)) ∧
  (∀ (r : N16 (Option AV)), r.c8 = N16.sel .d8 r) ∧
  (∀ (v : AV) (r : N16 (Option AV)) (k : N16 (Option AV) → Out), P8 v r k = k (st .d8 v r)) ∧
  (∀ (v : AV) (g : N16 (Option AV) → (N16 (Option AV) → Out) → Out) (r : N16 (Option AV)) (k : N16 (Option AV) → Out), O8 v g r k = g (st .d8 v r) k) ∧
  (∀ (e : T AV), e.a.c9 = row .d9 e) ∧
  (∀ (e : T AV) (g : N16 (Option AV) → (N16 (Option AV) → Out) → Out) (k : T AV → Out), w1 y9 g e k = g (row .d9 e) fun r => k (setRow .d9 r e)) ∧
  (∀ (r : N16 (Option AV)), r.c9 = N16.sel .d9 r) ∧
  (∀ (v : AV) (r : N16 (Option AV)) (k : N16 (Option AV) → Out), P9 v r k = k (st .d9 v r)) ∧
  (∀ (v : AV) (g : N16 (Option AV) → (N16 (Option AV) → Out) → Out) (r : N16 (Option AV)) (k : N16 (Option AV) → Out), O9 v g r k = g (st .d9 v r) k) ∧
  (∀ (e : T AV), e.a.c10 = row .d10 e) ∧
  (∀ (e : T AV) (g : N16 (Option AV) → (N16 (Option AV) → Out) → Out) (k : T AV → Out), w1 y10 g e k = g (row .d10 e) fun r => k (setRow .d10 r e)) ∧
  (∀ (r : N16 (Option AV)), r.c10 = N16.sel .d10 r) ∧
  (∀ (v : AV) (r : N16 (Option AV)) (k : N16 (Option AV) → Out), P10 v r k = k (st .d10 v r)) ∧
  (∀ (v : AV) (g : N16 (Option AV) → (N16 (Option AV) → Out) → Out) (r : N16 (Option AV)) (k : N16 (Option AV) → Out), O10 v g r k = g (st .d10 v r) k) ∧
  (∀ (e : T AV), e.a.c11 = row .d11 e) ∧
  (∀ (e : T AV) (g : N16 (Option AV) → (N16 (Option AV) → Out) → Out) (k : T AV → Out), w1 y11 g e k = g (row .d11 e) fun r => k (setRow .d11 r e)) ∧
  (∀ (r : N16 (Option AV)), r.c11 = N16.sel .d11 r) ∧
  (∀ (v : AV) (r : N16 (Option AV)) (k : N16 (Option AV) → Out), P11 v r k = k (st .d11 v r)) ∧
  (∀ (v : AV) (g : N16 (Option AV) → (N16 (Option AV) → Out) → Out) (r : N16 (Option AV)) (k : N16 (Option AV) → Out), O11 v g r k = g (st .d11 v r) k) ∧
  (∀ (e : T AV), e.a.c12 = row .d12 e) ∧
  (∀ (e : T AV) (g : N16 (Option AV) → (N16 (Option AV) → Out) → Out) (k : T AV → Out), w1 y12 g e k = g (row .d12 e) fun r => k (setRow .d12 r e)) ∧
  (∀ (r : N16 (Option AV)), r.c12 = N16.sel .d12 r) ∧
  (∀ (v : AV) (r : N16 (Option AV)) (k : N16 (Option AV) → Out), P12 v r k = k (st .d12 v r)) ∧
  (∀ (v : AV) (g : N16 (Option AV) → (N16 (Option AV) → Out) → Out) (r : N16 (Option AV)) (k : N16 (Option AV) → Out), O12 v g r k = g (st .d12 v r) k) ∧
  (∀ (e : T AV), e.a.c13 = row .d13 e) ∧
  (∀ (e : T AV) (g : N16 (Option AV) → (N16 (Option AV) → Out) → Out) (k : T AV → Out), w1 y13 g e k = g (row .d13 e) fun r => k (setRow .d13 r e)) ∧
  (∀ (r : N16 (Option AV)), r.c13 = N16.sel .d13 r) ∧
  (∀ (v : AV) (r : N16 (Option AV)) (k : N16 (Option AV) → Out), P13 v r k = k (st .d13 v r)) ∧
  (∀ (v : AV) (g : N16 (Option AV) → (N16 (Option AV) → Out) → Out) (r : N16 (Option AV)) (k : N16 (Option AV) → Out), O13 v g r k = g (st .d13 v r) k) ∧
  (∀ (e : T AV), e.a.c14 = row .d14 e) ∧
  (∀ (e : T AV) (g : N16 (Option AV) → (N16 (Option AV) → Out) → Out) (k : T AV → Out), w1 y14 g e k = g (row .d14 e) fun r => k (setRow .d14 r e)) ∧
  (∀ (r : N16 (Option AV)), r.c14 = N16.sel .d14 r) ∧
  (∀ (v : AV) (r : N16 (Option AV)) (k : N16 (Option AV) → Out), P14 v r k = k (st .d14 v r)) ∧
  (∀ (v : AV) (g : N16 (Option AV) → (N16 (Option AV) → Out) → Out) (r : N16 (Option AV)) (k : N16 (Option AV) → Out), O14 v g r k = g (st .d14 v r) k) ∧
  (∀ (e : T AV), e.a.c15 = row .d15 e) ∧
  (∀ (e : T AV) (g : N16 (Option AV) → (N16 (Option AV) → Out) → Out) (k : T AV → Out), w1 y15 g e k = g (row .d15 e) fun r => k (setRow .d15 r e)) ∧
  (∀ (r : N16 (Option AV)), r.c15 = N16.sel .d15 r) ∧
  (∀ (v : AV) (r : N16 (Option AV)) (k : N16 (Option AV) → Out), P15 v r k = k (st .d15 v r)) ∧
  (∀ (v : AV) (g : N16 (Option AV) → (N16 (Option AV) → Out) → Out) (r : N16 (Option AV)) (k : N16 (Option AV) → Out), O15 v g r k = g (st .d15 v r) k) ∧
  (∀ (i j : D16) (r : N16 (Option AV)) (e : T AV), row j (setRow i r e) = if i = j then r else row j e) ∧
  (∀ (i : D16), row i E0 = r0) ∧
  (∀ (i j : D16) (v : AV) (r : N16 (Option AV)), N16.sel j (st i v r) = if i = j then some v else N16.sel j r) ∧
  (∀ (j : D16), N16.sel j r0 = none) ∧
  (∀ (v : AV) (k : K), rd (some v) k = k v) ∧
  (∀ (body : DC) (res : T AV → H → K → Out) (y : Yh) (ih : Ih) (t : H) (n : Nat), func 0 body res y ih .nil t n = fin res (body y ih E0 t n nor)) ∧
  (∀ (body : DC) (res : T AV → H → K → Out) (y : Yh) (ih : Ih) (a : AV) (t : H) (n : Nat), func 1 body res y ih (.cons a .nil) t n = fin res (body y ih (setRow .d0 (st .d0 a r0) E0) t n nor)) ∧
  (∀ (body : DC) (res : T AV → H → K → Out) (y : Yh) (ih : Ih) (a b : AV) (t : H) (n : Nat), func 2 body res y ih (.cons a (.cons b .nil)) t n = fin res (body y ih (setRow .d0 (st .d1 b (st .d0 a r0)) E0) t n nor)) ∧
  (∀ (body : DC) (res : T AV → H → K → Out) (y : Yh) (ih : Ih) (a b c : AV) (t : H) (n : Nat), func 3 body res y ih (.cons a (.cons b (.cons c .nil))) t n = fin res (body y ih (setRow .d0 (st .d2 c (st .d1 b (st .d0 a r0))) E0) t n nor)) ∧
  (∀ (res : T AV → H → K → Out) (e : T AV) (t : H) (n : Nat), fin res (.ret e t n) = res e t fun r => .ok (one r) t n) ∧
  (∀ (res : T AV → H → K → Out) (e : T AV) (t : H) (n : Nat), fin res (.nor e t n) = res e t fun r => .ok (one r) t n) ∧
  (∀ (e : T AV) (t : H) (n : Nat), nor e t n = .nor e t n) ∧
  (∀ (id : Nat) (k : KD) (e : T AV) (t : H) (n : Nat), blkO id k (.nor e t n) = k e t n) ∧
  (∀ (id : Nat) (k : KD) (e : T AV) (t : H) (n : Nat), blkO id k (.ret e t n) = .ret e t n) ∧
  (∀ (id : Nat) (k : KD) (e : T AV) (t : H) (n : Nat), blkO id k (.exit id e t n) = k e t n) ∧
  (∀ (k : KD) (f : KD → Out), jn k f = f k) ∧
  (one .nil = unit) ∧
  (∀ (a : AV), one (.cons a .nil) = a) ∧
  (∀ (a b c : AV), one (.cons a (.cons b c)) = .com 1 0 (.cons a (.cons b c))) ∧
  (∀ (v : AV) (t : H) (n : Nat) (k : KH), B (.ok v t n) k = k v t n) ∧
  (∀ (v : AV) (t : H) (n : Nat), okK v t n = .ok v t n) ∧
  (∀ (t : H) (n : Nat) (v : AV), kk t n v = .ok v t n) ∧
  (∀ (a b : Out), vbool (.num 8 (.ofNat 1)) a b = a) ∧
  (∀ (a b : Out), vbool (.num 8 (.ofNat 0)) a b = b) ∧
  (∀ (p : Prop) [Decidable p] (a b : Out), vbool (bL p) a b = if p then a else b) ∧
  (∀ (b e o l c : Nat) (k : K), pNilChk (.ref 1 b e o l c) k = k (.ref 1 b e o l c)) ∧
  (∀ (b e o l c : Nat) (k : K), pNilChk (.ref 17 b e o l c) k = k (.ref 17 b e o l c)) ∧
  (∀ (i b e o l c : Nat) (k : K), pFad i (.ref 1 b e o l c) k = k (.ref 1 b e (o + i) 0 0)) ∧
  (∀ (p : Prop) [Decidable p] (x : KH → Out) (t : H) (n : Nat) (k : KH), gd (bL p) true x t n k = if p then x k else k unit t n) ∧
  (∀ (p : Prop) [Decidable p] (x : KH → Out) (t : H) (n : Nat) (k : KH), gd (bL p) false x t n k = if p then k unit t n else x k) ∧
  (∀ (p : Prop) [Decidable p] (a b : AV) (k : K), pPick (bL p) a b k = if p then k a else k b) ∧
  (∀ (p : Prop) [Decidable p] (k : K), pNot (bL p) k = k (bL ¬ p)) ∧
  (∀ (x : Nat) (a r : AV) (k : K), pExt 0 (.com 1 x (.cons a r)) k = k a) ∧
  (∀ (x : Nat) (a b r : AV) (k : K), pExt 1 (.com 1 x (.cons a (.cons b r))) k = k b) ∧
  (∀ (q : Nat) (n : Int), cellsK (.num q n) = fun f => f (.cons (.num q n) .nil)) ∧
  (∀ (g b e o l c : Nat), cellsK (.ref g b e o l c) = fun f => f (.cons (.ref g b e o l c) .nil)) ∧
  (∀ (s : List Nat), cellsK (.str s) = fun f => f (.cons (.str s) .nil)) ∧
  (∀ (p : Prop) [Decidable p], cellsK (bL p) = fun f => f (.cons (bL p) .nil)) ∧
  (∀ {t : H} {b e o l c : Nat} {k : K} (h : (cl t b e o).isSome = true), pLd (.ref 1 b e o l c) t k = k ((cl t b e o).getD unit)) ∧
  (∀ (a b : Int) (k : K), q10 (.num 3 a) (.num 3 b) k = k (bL (a = b))) ∧
  (∀ (a b : Int) (k : K), q11 (.num 3 a) (.num 3 b) k = k (bL (a ≠ b))) ∧
  (∀ (a b : Int) (k : K), q12 (.num 3 a) (.num 3 b) k = k (bL (a < b))) ∧
  (∀ (a b : Int) (k : K), q13 (.num 3 a) (.num 3 b) k = k (bL (a ≤ b))) ∧
  (∀ (a b : Int) (k : K), q14 (.num 3 a) (.num 3 b) k = k (bL (b < a))) ∧
  (∀ (a b : Int) (k : K), q15 (.num 3 a) (.num 3 b) k = k (bL (b ≤ a))) ∧
  (∀ {q q' : Nat} {a : Int} {k : K} (hq : q' < 8), pConvT q (.num q' a) k = k (.num q ((Ev.kind q).wrap a))) ∧
  (∀ (a b : Nat), (Int.ofNat a = Int.ofNat b) = (a = b)) ∧
  (∀ (a b : Nat), (Int.ofNat a ≠ Int.ofNat b) = (a ≠ b)) ∧
  (∀ (a b : Nat), (Int.ofNat a < Int.ofNat b) = (a < b)) ∧
  (∀ (a b : Nat), (Int.ofNat a ≤ Int.ofNat b) = (a ≤ b)) := by
  refine ⟨?_, ?_, ?_, ?_, ?_, ?_, ?_, ?_, ?_, ?_, ?_, ?_, ?_, ?_, ?_, ?_, ?_, ?_, ?_, ?_, ?_, ?_, ?_, ?_, ?_, ?_, ?_, ?_, ?_, ?_, ?_, ?_, ?_, ?_, ?_, ?_, ?_, ?_, ?_, ?_, ?_, ?_, ?_, ?_, ?_, ?_, ?_, ?_, ?_, ?_, ?_, ?_, ?_, ?_, ?_, ?_, ?_, ?_, ?_, ?_, ?_, ?_, ?_, ?_, ?_, ?_, ?_, ?_, ?_, ?_, ?_, ?_, ?_, ?_, ?_, ?_, ?_, ?_, ?_, ?_, ?_, ?_, ?_, ?_, ?_, ?_, ?_, ?_, ?_, ?_, ?_, ?_, ?_, ?_, ?_, ?_, ?_, ?_, ?_, ?_, ?_, ?_, ?_, ?_, ?_, ?_, ?_, ?_, ?_, ?_, ?_, ?_, ?_, ?_, ?_, ?_, ?_, ?_, ?_, ?_, ?_, ?_, ?_, ?_, ?_, ?_, ?_, ?_, ?_, ?_⟩
  · intros; first | exact e_c0 .. | (apply e_c0; assumption) | exact e_c0
  · intros; first | exact w_y0 .. | (apply w_y0; assumption) | exact w_y0
  · intros; first | exact c_0 .. | (apply c_0; assumption) | exact c_0
  · intros; first | exact s_P0 .. | (apply s_P0; assumption) | exact s_P0
  · intros; first | exact s_O0 .. | (apply s_O0; assumption) | exact s_O0
  · intros; first | exact e_c1 .. | (apply e_c1; assumption) | exact e_c1
  · intros; first | exact w_y1 .. | (apply w_y1; assumption) | exact w_y1
  · intros; first | exact c_1 .. | (apply c_1; assumption) | exact c_1
  · intros; first | exact s_P1 .. | (apply s_P1; assumption) | exact s_P1
  · intros; first | exact s_O1 .. | (apply s_O1; assumption) | exact s_O1
  · intros; first | exact e_c2 .. | (apply e_c2; assumption) | exact e_c2
  · intros; first | exact w_y2 .. | (apply w_y2; assumption) | exact w_y2
  · intros; first | exact c_2 .. | (apply c_2; assumption) | exact c_2
  · intros; first | exact s_P2 .. | (apply s_P2; assumption) | exact s_P2
  · intros; first | exact s_O2 .. | (apply s_O2; assumption) | exact s_O2
  · intros; first | exact e_c3 .. | (apply e_c3; assumption) | exact e_c3
  · intros; first | exact w_y3 .. | (apply w_y3; assumption) | exact w_y3
  · intros; first | exact c_3 .. | (apply c_3; assumption) | exact c_3
  · intros; first | exact s_P3 .. | (apply s_P3; assumption) | exact s_P3
  · intros; first | exact s_O3 .. | (apply s_O3; assumption) | exact s_O3
  · intros; first | exact e_c4 .. | (apply e_c4; assumption) | exact e_c4
  · intros; first | exact w_y4 .. | (apply w_y4; assumption) | exact w_y4
  · intros; first | exact c_4 .. | (apply c_4; assumption) | exact c_4
  · intros; first | exact s_P4 .. | (apply s_P4; assumption) | exact s_P4
  · intros; first | exact s_O4 .. | (apply s_O4; assumption) | exact s_O4
  · intros; first | exact e_c5 .. | (apply e_c5; assumption) | exact e_c5
  · intros; first | exact w_y5 .. | (apply w_y5; assumption) | exact w_y5
  · intros; first | exact c_5 .. | (apply c_5; assumption) | exact c_5
  · intros; first | exact s_P5 .. | (apply s_P5; assumption) | exact s_P5
  · intros; first | exact s_O5 .. | (apply s_O5; assumption) | exact s_O5
  · intros; first | exact e_c6 .. | (apply e_c6; assumption) | exact e_c6
  · intros; first | exact w_y6 .. | (apply w_y6; assumption) | exact w_y6
  · intros; first | exact c_6 .. | (apply c_6; assumption) | exact c_6
  · intros; first | exact s_P6 .. | (apply s_P6; assumption) | exact s_P6
  · intros; first | exact s_O6 .. | (apply s_O6; assumption) | exact s_O6
  · intros; first | exact e_c7 .. | (apply e_c7; assumption) | exact e_c7
  · intros; first | exact w_y7 .. | (apply w_y7; assumption) | exact w_y7
  · intros; first | exact c_7 .. | (apply c_7; assumption) | exact c_7
  · intros; first | exact s_P7 .. | (apply s_P7; assumption) | exact s_P7
  · intros; first | exact s_O7 .. | (apply s_O7; assumption) | exact s_O7
  · intros; first | exact e_c8 .. | (apply e_c8; assumption) | exact e_c8
  · intros; first | exact w_y8 .. | (apply w_y8; assumption) | exact w_y8
  · intros; first | exact c_8 .. | (apply c_8; assumption) | exact c_8
  · intros; first | exact s_P8 .. | (apply s_P8; assumption) | exact s_P8
  · intros; first | exact s_O8 .. | (apply s_O8; assumption) | exact s_O8
  · intros; first | exact e_c9 .. | (apply e_c9; assumption) | exact e_c9
  · intros; first | exact w_y9 .. | (apply w_y9; assumption) | exact w_y9
  · intros; first | exact c_9 .. | (apply c_9; assumption) | exact c_9
  · intros; first | exact s_P9 .. | (apply s_P9; assumption) | exact s_P9
  · intros; first | exact s_O9 .. | (apply s_O9; assumption) | exact s_O9
  · intros; first | exact e_c10 .. | (apply e_c10; assumption) | exact e_c10
  · intros; first | exact w_y10 .. | (apply w_y10; assumption) | exact w_y10
  · intros; first | exact c_10 .. | (apply c_10; assumption) | exact c_10
  · intros; first | exact s_P10 .. | (apply s_P10; assumption) | exact s_P10
  · intros; first | exact s_O10 .. | (apply s_O10; assumption) | exact s_O10
  · intros; first | exact e_c11 .. | (apply e_c11; assumption) | exact e_c11
  · intros; first | exact w_y11 .. | (apply w_y11; assumption) | exact w_y11
  · intros; first | exact c_11 .. | (apply c_11; assumption) | exact c_11
  · intros; first | exact s_P11 .. | (apply s_P11; assumption) | exact s_P11
  · intros; first | exact s_O11 .. | (apply s_O11; assumption) | exact s_O11
  · intros; first | exact e_c12 .. | (apply e_c12; assumption) | exact e_c12
  · intros; first | exact w_y12 .. | (apply w_y12; assumption) | exact w_y12
  · intros; first | exact c_12 .. | (apply c_12; assumption) | exact c_12
  · intros; first | exact s_P12 .. | (apply s_P12; assumption) | exact s_P12
  · intros; first | exact s_O12 .. | (apply s_O12; assumption) | exact s_O12
  · intros; first | exact e_c13 .. | (apply e_c13; assumption) | exact e_c13
  · intros; first | exact w_y13 .. | (apply w_y13; assumption) | exact w_y13
  · intros; first | exact c_13 .. | (apply c_13; assumption) | exact c_13
  · intros; first | exact s_P13 .. | (apply s_P13; assumption) | exact s_P13
  · intros; first | exact s_O13 .. | (apply s_O13; assumption) | exact s_O13
  · intros; first | exact e_c14 .. | (apply e_c14; assumption) | exact e_c14
  · intros; first | exact w_y14 .. | (apply w_y14; assumption) | exact w_y14
  · intros; first | exact c_14 .. | (apply c_14; assumption) | exact c_14
  · intros; first | exact s_P14 .. | (apply s_P14; assumption) | exact s_P14
  · intros; first | exact s_O14 .. | (apply s_O14; assumption) | exact s_O14
  · intros; first | exact e_c15 .. | (apply e_c15; assumption) | exact e_c15
  · intros; first | exact w_y15 .. | (apply w_y15; assumption) | exact w_y15
  · intros; first | exact c_15 .. | (apply c_15; assumption) | exact c_15
  · intros; first | exact s_P15 .. | (apply s_P15; assumption) | exact s_P15
  · intros; first | exact s_O15 .. | (apply s_O15; assumption) | exact s_O15
  · intros; first | exact row_set .. | (apply row_set; assumption) | exact row_set
  · intros; first | exact row_E0 .. | (apply row_E0; assumption) | exact row_E0
  · intros; first | exact sel_st .. | (apply sel_st; assumption) | exact sel_st
  · intros; first | exact sel_r0 .. | (apply sel_r0; assumption) | exact sel_r0
  · intros; first | exact rd_some .. | (apply rd_some; assumption) | exact rd_some
  · intros; first | exact func0 .. | (apply func0; assumption) | exact func0
  · intros; first | exact func1 .. | (apply func1; assumption) | exact func1
  · intros; first | exact func2 .. | (apply func2; assumption) | exact func2
  · intros; first | exact func3 .. | (apply func3; assumption) | exact func3
  · intros; first | exact fin_ret .. | (apply fin_ret; assumption) | exact fin_ret
  · intros; first | exact fin_nor .. | (apply fin_nor; assumption) | exact fin_nor
  · intros; first | exact nor_eq .. | (apply nor_eq; assumption) | exact nor_eq
  · intros; first | exact blk_nor .. | (apply blk_nor; assumption) | exact blk_nor
  · intros; first | exact blk_ret .. | (apply blk_ret; assumption) | exact blk_ret
  · intros; first | exact blk_exit .. | (apply blk_exit; assumption) | exact blk_exit
  · intros; first | exact jn_eq .. | (apply jn_eq; assumption) | exact jn_eq
  · intros; first | exact one_0 .. | (apply one_0; assumption) | exact one_0
  · intros; first | exact one_1 .. | (apply one_1; assumption) | exact one_1
  · intros; first | exact one_2 .. | (apply one_2; assumption) | exact one_2
  · intros; first | exact B_ok .. | (apply B_ok; assumption) | exact B_ok
  · intros; first | exact okK_eq .. | (apply okK_eq; assumption) | exact okK_eq
  · intros; first | exact kk_eq .. | (apply kk_eq; assumption) | exact kk_eq
  · intros; first | exact vbool_tt .. | (apply vbool_tt; assumption) | exact vbool_tt
  · intros; first | exact vbool_ff .. | (apply vbool_ff; assumption) | exact vbool_ff
  · intros; first | exact vbool_bL .. | (apply vbool_bL; assumption) | exact vbool_bL
  · intros; first | exact pNilChk1 .. | (apply pNilChk1; assumption) | exact pNilChk1
  · intros; first | exact pNilChk17 .. | (apply pNilChk17; assumption) | exact pNilChk17
  · intros; first | exact pFad1 .. | (apply pFad1; assumption) | exact pFad1
  · intros; first | exact gd_t .. | (apply gd_t; assumption) | exact gd_t
  · intros; first | exact gd_f .. | (apply gd_f; assumption) | exact gd_f
  · intros; first | exact pPick_bL .. | (apply pPick_bL; assumption) | exact pPick_bL
  · intros; first | exact pNot_bL .. | (apply pNot_bL; assumption) | exact pNot_bL
  · intros; first | exact pExt_0 .. | (apply pExt_0; assumption) | exact pExt_0
  · intros; first | exact pExt_1 .. | (apply pExt_1; assumption) | exact pExt_1
  · intros; first | exact ck_num .. | (apply ck_num; assumption) | exact ck_num
  · intros; first | exact ck_ref .. | (apply ck_ref; assumption) | exact ck_ref
  · intros; first | exact ck_str .. | (apply ck_str; assumption) | exact ck_str
  · intros; first | exact ck_bL .. | (apply ck_bL; assumption) | exact ck_bL
  · intros; first | exact pLdS .. | (apply pLdS; assumption) | exact pLdS
  · intros; first | exact q10_3 .. | (apply q10_3; assumption) | exact q10_3
  · intros; first | exact q11_3 .. | (apply q11_3; assumption) | exact q11_3
  · intros; first | exact q12_3 .. | (apply q12_3; assumption) | exact q12_3
  · intros; first | exact q13_3 .. | (apply q13_3; assumption) | exact q13_3
  · intros; first | exact q14_3 .. | (apply q14_3; assumption) | exact q14_3
  · intros; first | exact q15_3 .. | (apply q15_3; assumption) | exact q15_3
  · intros; first | exact pConvT_num .. | (apply pConvT_num; assumption) | exact pConvT_num
  · intros; first | exact ofN_eq .. | (apply ofN_eq; assumption) | exact ofN_eq
  · intros; first | exact ofN_ne .. | (apply ofN_ne; assumption) | exact ofN_ne
  · intros; first | exact ofN_lt .. | (apply ofN_lt; assumption) | exact ofN_lt
  · intros; first | exact ofN_le .. | (apply ofN_le; assumption) | exact ofN_le
end Ev
