import Derived.Test.YtppcobdghedkgaaGreatDoorR0
/- What is told in each case is right. Conditions: those of each case. -/
namespace Go.Proofs.YtppcobdghedkgaaGreatDoor
open Go Ev
set_option linter.unusedVariables false
set_option linter.unusedSimpArgs false
def bits2 (f : BitVec IntKind.i64.bits → BitVec IntKind.i64.bits → BitVec IntKind.i64.bits) (a b : Int) : Int := IntKind.i64.wrap ((f (BitVec.ofInt IntKind.i64.bits a) (BitVec.ofInt IntKind.i64.bits b)).toNat : Nat)
def pw (b : Int) : Int := 2 ^ (b % 64).toNat
theorem pw_pos (b : Int) : 1 ≤ pw b := by
  unfold pw
  have : (0 : Int) < 2 ^ (b % 64).toNat := Int.pow_pos (by omega)
  omega
def shv (a b r : Int) (l : List (IntKind × Int)) : List (IntKind × Int) := [(.i64, a), (.i64, b), (.i64, r), (.i64, b % 64), (.u64, IntKind.u64.wrap a), (.u64, IntKind.u64.wrap b), (.u64, b % 64)] ++ l
def vals (c : Nat) (a b : Int) : List (IntKind × Int) := match c with
  | 0 => [(.i64, a), (.i64, b), (.i64, IntKind.i64.wrap (a + b))]
  | 1 => [(.i64, a), (.i64, b), (.i64, IntKind.i64.wrap (a - b))]
  | 2 => [(.i64, a), (.i64, b), (.i64, IntKind.i64.wrap (a * b))]
  | 31 => [(.i64, a), (.i64, b), (.i64, IntKind.i64.wrap (0 - a))]
  | 32 => [(.i64, a), (.i64, b), (.i64, IntKind.i64.wrap (a.tdiv b))]
  | 42 => [(.i64, a), (.i64, b), (.i64, a.tmod b)]
  | 6 => [(.i64, a), (.i64, b), (.i64, bits2 (· &&& ·) a b)]
  | 7 => [(.i64, a), (.i64, b), (.i64, bits2 (· ||| ·) a b)]
  | 8 => [(.i64, a), (.i64, b), (.i64, bits2 (· ^^^ ·) a b)]
  | 9 => shv a b (IntKind.i64.wrap (a * pw b)) [(.u64, IntKind.u64.wrap (IntKind.u64.wrap a * pw b))]
  | 100 => shv a b (a.fdiv (pw b)) [(.u64, (IntKind.u64.wrap a).fdiv (pw b))]
  | 101 => shv a b (a.fdiv (pw b)) [(.u64, 0), (.u64, IntKind.u64.wrap (-1 - IntKind.u64.wrap a)), (.u64, (IntKind.u64.wrap (-1 - IntKind.u64.wrap a)).fdiv (pw b)), (.u64, IntKind.u64.wrap (-1 - (IntKind.u64.wrap (-1 - IntKind.u64.wrap a)).fdiv (pw b)))]
  | _ => [(.i64, a), (.i64, b)]
theorem all_ok {l : List (IntKind × Int)} {c : Nat} (h : ∀ e ∈ tbs c, @Sound (tkv l) e.1 e.2.1 e.2.2.1 e.2.2.2) : @ToldOK (tkv l) (TT c) := @ToldOK.mk (tkv l) (TT c) fun c' x y v hh => h _ (lookT_mem hh)
theorem fm {α : Type} {p : α → Prop} {a : α} {l : List α} (h1 : p a) (h2 : ∀ x ∈ l, p x) : ∀ x ∈ a :: l, p x := fun x hx => by
  rcases List.mem_cons.1 hx with rfl | h
  · exact h1
  · exact h2 x h
theorem fn {α : Type} {p : α → Prop} : ∀ x ∈ ([] : List α), p x := fun x h => by cases h
theorem eq2 {l : List (IntKind × Int)} {q : IntKind} {r : Int} (h : l[2]? = some (q, r)) : ∀ e ∈ eqs, @Sound (tkv l) e.1 e.2.1 e.2.2.1 e.2.2.2 := by
  letI : TokV := tkv l
  have e : tv (tok 2) = some (.int q r) := by show (l[2]?).map _ = _; rw [h]; rfl
  exact fm (s_eq (q := q) (a := r) (b := r) e e (by rw [beq_self_eq_true]; rfl)) fn
variable {a b : Int}
theorem ok_0 : @ToldOK (tkv (vals 0 a b)) (TT 0) := all_ok (by
  letI : TokV := tkv (vals 0 a b)
  exact fm (s_op (op := .add) (a := a) (b := b) (V := .int .i64 (IntKind.i64.wrap (a + b))) (by omega) (by omega) (by omega) rfl rfl rfl rfl fun P w t => by simp [binOp, Op.intArith]) (eq2 rfl))
theorem ok_1 : @ToldOK (tkv (vals 1 a b)) (TT 1) := all_ok (by
  letI : TokV := tkv (vals 1 a b)
  exact fm (s_op (op := .sub) (a := a) (b := b) (V := .int .i64 (IntKind.i64.wrap (a - b))) (by omega) (by omega) (by omega) rfl rfl rfl rfl fun P w t => by simp [binOp, Op.intArith]) (eq2 rfl))
theorem ok_2 : @ToldOK (tkv (vals 2 a b)) (TT 2) := all_ok (by
  letI : TokV := tkv (vals 2 a b)
  exact fm (s_op (op := .mul) (a := a) (b := b) (V := .int .i64 (IntKind.i64.wrap (a * b))) (by omega) (by omega) (by omega) rfl rfl rfl rfl fun P w t => by simp [binOp, Op.intArith]) (eq2 rfl))
theorem ok_6 : @ToldOK (tkv (vals 6 a b)) (TT 6) := all_ok (by
  letI : TokV := tkv (vals 6 a b)
  exact fm (s_op (op := .and) (a := a) (b := b) (V := .int .i64 (bits2 (· &&& ·) a b)) (by omega) (by omega) (by omega) rfl rfl rfl rfl fun P w t => by simp [binOp, Op.intBits, bits2]) (eq2 rfl))
theorem ok_7 : @ToldOK (tkv (vals 7 a b)) (TT 7) := all_ok (by
  letI : TokV := tkv (vals 7 a b)
  exact fm (s_op (op := .or) (a := a) (b := b) (V := .int .i64 (bits2 (· ||| ·) a b)) (by omega) (by omega) (by omega) rfl rfl rfl rfl fun P w t => by simp [binOp, Op.intBits, bits2]) (eq2 rfl))
theorem ok_8 : @ToldOK (tkv (vals 8 a b)) (TT 8) := all_ok (by
  letI : TokV := tkv (vals 8 a b)
  exact fm (s_op (op := .xor) (a := a) (b := b) (V := .int .i64 (bits2 (· ^^^ ·) a b)) (by omega) (by omega) (by omega) rfl rfl rfl rfl fun P w t => by simp [binOp, Op.intBits, bits2]) (eq2 rfl))
theorem z_tt {l : List (IntKind × Int)} {n : Nat} (h : l[1]? = some (.i64, b)) (hb : b = Int.ofNat n) : @Sound (tkv l) 10 (tok 1) (i3 n) tt := by
  letI : TokV := tkv l
  have e : tv (tok 1) = some (.int .i64 b) := by show (l[1]?).map _ = _; rw [h]; rfl
  exact s_eq (q := .i64) (a := b) (b := Int.ofNat n) e rfl (by rw [hb, beq_self_eq_true]; rfl)
theorem z_ff {l : List (IntKind × Int)} (h : l[1]? = some (.i64, b)) (hb : b ≠ 0) : @Sound (tkv l) 10 (tok 1) (i3 0) ff := by
  letI : TokV := tkv l
  have e : tv (tok 1) = some (.int .i64 b) := by show (l[1]?).map _ = _; rw [h]; rfl
  exact s_eq (q := .i64) (a := b) (b := Int.ofNat 0) e rfl (by have : (b == Int.ofNat 0) = false := (by simpa using hb); rw [this]; rfl)
theorem m_tt {l : List (IntKind × Int)} (h : l[1]? = some (.i64, b)) (hb : b = -1) : @Sound (tkv l) 10 (tok 1) m1 tt := by
  letI : TokV := tkv l
  have e : tv (tok 1) = some (.int .i64 b) := by show (l[1]?).map _ = _; rw [h]; rfl
  exact s_eq (q := .i64) (a := b) (b := Int.negSucc 0) e rfl (by rw [hb]; rfl)
theorem m_ff {l : List (IntKind × Int)} (h : l[1]? = some (.i64, b)) (hb : b ≠ -1) : @Sound (tkv l) 10 (tok 1) m1 ff := by
  letI : TokV := tkv l
  have e : tv (tok 1) = some (.int .i64 b) := by show (l[1]?).map _ = _; rw [h]; rfl
  exact s_eq (q := .i64) (a := b) (b := Int.negSucc 0) e rfl (by have : (b == Int.negSucc 0) = false := (by rw [beq_eq_false_iff_ne]; exact hb); rw [this]; rfl)
theorem ok_30 (hb : b = 0) : @ToldOK (tkv (vals 30 a b)) (TT 30) := all_ok (fm (z_tt rfl hb) fn)
theorem ok_31 (hb : b = -1) : @ToldOK (tkv (vals 31 a b)) (TT 31) := all_ok (by
  letI : TokV := tkv (vals 31 a b)
  exact fm (z_ff rfl (by omega)) (fm (m_tt rfl hb) (fm (s_neg (q := .i64) (a := a) (V := .int .i64 (IntKind.i64.wrap (0 - a))) rfl rfl fun P w => by simp [Op.unary, Op.intArith])
    (fm (s_op (op := .sub) (q := .i64) (q' := .i64) (a := 0) (b := a) (V := .int .i64 (IntKind.i64.wrap (0 - a))) (by omega) (by omega) (by omega) rfl rfl rfl rfl fun P w t => by simp [binOp, Op.intArith]) (eq2 rfl)))))
theorem ok_32 (h0 : b ≠ 0) (h1 : b ≠ -1) : @ToldOK (tkv (vals 32 a b)) (TT 32) := all_ok (by
  letI : TokV := tkv (vals 32 a b)
  exact fm (z_ff rfl h0) (fm (m_ff rfl h1) (fm (s_op (op := .quo) (a := a) (b := b) (V := .int .i64 (IntKind.i64.wrap (a.tdiv b))) (by omega) (by omega) (by omega) rfl rfl rfl rfl fun P w t => by simp [binOp, Op.intDiv, h0]) (eq2 rfl))))
theorem ok_42 (h0 : b ≠ 0) (h1 : b ≠ -1) : @ToldOK (tkv (vals 42 a b)) (TT 42) := all_ok (by
  letI : TokV := tkv (vals 42 a b)
  exact fm (z_ff rfl h0) (fm (m_ff rfl h1) (fm (s_op (op := .rem) (a := a) (b := b) (V := .int .i64 (a.tmod b)) (by omega) (by omega) (by omega) rfl rfl rfl rfl fun P w t => by simp [binOp, Op.intDiv, h0]) (eq2 rfl))))
theorem sh_min (b : Int) : min (b % 64).toNat 64 = (b % 64).toNat := Nat.min_eq_left (by omega)
theorem sh_all {r : Int} {l : List (IntKind × Int)} : ∀ e ∈ shs, @Sound (tkv (shv a b r l)) e.1 e.2.1 e.2.2.1 e.2.2.2 := by
  letI : TokV := tkv (shv a b r l)
  refine fm (s_op (op := .and) (q := .i64) (q' := .i64) (a := b) (b := 63) (V := .int .i64 (b % 64)) (by omega) (by omega) (by omega) rfl rfl rfl rfl fun P w t => ?_) (fm (s_u64 (q := .i64) (a := a) rfl rfl) (fm (s_u64 (q := .i64) (a := b) rfl rfl) (fm (s_op (op := .rem) (q := .u64) (q' := .u64) (a := IntKind.u64.wrap b) (b := 64) (V := .int .u64 (b % 64)) (by omega) (by omega) (by omega) rfl rfl rfl rfl fun P w t => ?_) (eq2 rfl))))
  · rw [← and63 b]; simp [binOp, Op.intBits]
  · rw [← rem64 b]; simp [binOp, Op.intDiv]
theorem r_shl {k k' : IntKind} {x : Int} (hk : k.bits = 64) (P : Program) (w : World) (t : TypeId) : (binOp .shl t (.int k x) (.int k' (b % 64))).run P w = .ok (.int k (k.wrap (x * pw b))) w := by
  have h : ¬ b % 64 < 0 := by omega
  simp [binOp, Op.shift, h, hk, sh_min, pw]
theorem r_shr {k k' : IntKind} {x : Int} (hk : k.bits = 64) (P : Program) (w : World) (t : TypeId) : (binOp .shr t (.int k x) (.int k' (b % 64))).run P w = .ok (.int k (x.fdiv (pw b))) w := by
  have h : ¬ b % 64 < 0 := by omega
  simp [binOp, Op.shift, h, hk, sh_min, pw]
theorem ok_9 : @ToldOK (tkv (vals 9 a b)) (TT 9) := all_ok (by
  letI : TokV := tkv (vals 9 a b)
  refine fm (s_op (op := .shl) (q := .i64) (q' := .i64) (a := a) (b := b % 64) (by omega) (by omega) (by omega) rfl rfl rfl rfl (r_shl rfl)) (fm (s_op (op := .shl) (q := .u64) (q' := .u64) (a := IntKind.u64.wrap a) (b := b % 64) (by omega) (by omega) (by omega) rfl rfl rfl rfl (r_shl rfl))
    (fm (s_i64 (q := .u64) (a := IntKind.u64.wrap (IntKind.u64.wrap a * pw b)) rfl ?_) sh_all))
  rw [shl_same]; rfl)
theorem ok_100 (h0 : 0 ≤ a) (h1 : a < 9223372036854775808) : @ToldOK (tkv (vals 100 a b)) (TT 100) := all_ok (by
  letI : TokV := tkv (vals 100 a b)
  refine fm (s_op (op := .shr) (q := .i64) (q' := .i64) (a := a) (b := b % 64) (by omega) (by omega) (by omega) rfl rfl rfl rfl (r_shr rfl)) (fm (s_op (op := .geq) (q := .i64) (q' := .i64) (a := a) (b := 0) (V := .bool true) (by omega) (by omega) (by omega) rfl rfl rfl rfl fun P w t => by simp [binOp, Op.intCmp, h0]) (fm (s_op (op := .shr) (q := .u64) (q' := .u64) (a := IntKind.u64.wrap a) (b := b % 64) (by omega) (by omega) (by omega) rfl rfl rfl rfl (r_shr rfl))
    (fm (s_i64 (q := .u64) (a := (IntKind.u64.wrap a).fdiv (pw b)) rfl ?_) sh_all)))
  rw [shr_pos h0 h1 (pw_pos b)]; rfl)
theorem un_xor (x : Int) (P : Program) (w : World) : (Op.unary .xor (.int .u64 x)).run P w = .ok (.int .u64 (IntKind.u64.wrap (-1 - x))) w := by
  have := @xor_ones T0 V0 O0 .u64 x
  simp only [Op.unary]
  rw [this]; rfl
theorem ok_101 (h0 : a < 0) (h1 : -9223372036854775808 ≤ a) : @ToldOK (tkv (vals 101 a b)) (TT 101) := all_ok (by
  letI : TokV := tkv (vals 101 a b)
  refine fm (s_op (op := .shr) (q := .i64) (q' := .i64) (a := a) (b := b % 64) (by omega) (by omega) (by omega) rfl rfl rfl rfl (r_shr rfl)) (fm (s_op (op := .geq) (q := .i64) (q' := .i64) (a := a) (b := 0) (V := .bool false) (by omega) (by omega) (by omega) rfl rfl rfl rfl fun P w t => by simp [binOp, Op.intCmp, h0])
    (fm (s_xor (q := .u64) (a := IntKind.u64.wrap a) rfl rfl (un_xor _)) (fm (s_op (op := .shr) (q := .u64) (q' := .u64) (a := IntKind.u64.wrap (-1 - IntKind.u64.wrap a)) (b := b % 64) (by omega) (by omega) (by omega) rfl rfl rfl rfl (r_shr rfl))
    (fm (s_xor (q := .u64) (a := (IntKind.u64.wrap (-1 - IntKind.u64.wrap a)).fdiv (pw b)) rfl rfl (un_xor _)) (fm (s_i64 (q := .u64) (a := IntKind.u64.wrap (-1 - (IntKind.u64.wrap (-1 - IntKind.u64.wrap a)).fdiv (pw b))) rfl ?_) sh_all)))))
  rw [shr_neg h0 h1 (pw_pos b)]; rfl)
end Go.Proofs.YtppcobdghedkgaaGreatDoor
