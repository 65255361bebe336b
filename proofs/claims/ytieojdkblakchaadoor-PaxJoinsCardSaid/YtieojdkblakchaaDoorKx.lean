/-
  The engine's laws, operation by operation: numbers, bools, strings.
-/
import Derived.Test.YtieojdkblakchaaDoorKw
namespace Go.Proofs.YtieojdkblakchaaDoor
open Go.RowKit
set_option linter.unusedSimpArgs false
set_option linter.unusedVariables false

def maxN : IntKind → Nat
  | .i8 => 127 | .i16 => 32767 | .i32 => 2147483647 | .i64 => 9223372036854775807
  | .u8 => 255 | .u16 => 65535 | .u32 => 4294967295 | .u64 => 18446744073709551615
/-- the modulus of an unsigned kind -/
def modN : IntKind → Nat
  | .u8 => 256 | .u16 => 65536 | .u32 => 4294967296 | .u64 => 18446744073709551616 | _ => 0
theorem wrap_fit {k : IntKind} {m a : Nat} (hm : maxN k = m) (h : a ≤ m) : k.wrap (a : Int) = a := by
  subst hm
  cases k <;> simp only [maxN] at h <;> first
    | exact IntWalk.i8_in _ (by omega) | exact IntWalk.i16_in _ (by omega) | exact IntWalk.i32_in _ (by omega) | exact IntWalk.i64_in _ (by omega)
    | exact IntWalk.u8_in _ (by omega) | exact IntWalk.u16_in _ (by omega) | exact IntWalk.u32_in _ (by omega) | exact IntWalk.u64_in _ (by omega)
theorem wrap_mod {k : IntKind} {m a : Nat} (hm : modN k = m) (hp : 0 < m) : k.wrap (a : Int) = ((a % m : Nat) : Int) := by
  subst hm
  cases k <;> simp [modN] at hp <;> simp [modN, IntKind.wrap, IntKind.bits, IntKind.signed]
theorem wrap_fitZ {k : IntKind} {m : Nat} {a : Int} (hs : k.signed = true) (hm : maxN k = m) (h : -((m : Int) + 1) ≤ a ∧ a ≤ m) : k.wrap a = a := by
  subst hm
  cases k <;> simp [IntKind.signed] at hs <;> simp only [maxN] at h <;> first
    | exact IntWalk.i8_in _ (by omega) | exact IntWalk.i16_in _ (by omega) | exact IntWalk.i32_in _ (by omega) | exact IntWalk.i64_in _ (by omega)
theorem maxN_lt (k : IntKind) : maxN k < 2 ^ k.bits := by cases k <;> decide

/-- a text -/
abbrev str (l : List UInt8) : Value := .string ⟨⟨l⟩⟩

section
variable {P : Program} {n : Nat} {σ : Sig} {w : World} {t t' : TypeId} {ty : TypeId} {x y : Operand} {k : IntKind} {a b m : Nat} {c d : Int}
theorem EX.move {v : Value} (hx : ev σ x = some v) : EX P n σ (.move x) ty w v w := fun a ha dst pos after g => by
  simp only [execOp, ha.ev hx]; rfl
theorem EX.assign {v : Value} (hx : ev σ x = some v) : EX P n σ (.assign x) ty w v w := fun a ha dst pos after g => by
  simp only [execOp, ha.ev hx]; rfl
theorem EX.pickT {z : Operand} {v : Value} (hx : ev σ x = some (.bool true)) (hy : ev σ y = some v) : EX P n σ (.pick x y z) ty w v w := fun a ha dst pos after g => by
  simp only [execOp, ha.ev hx, ha.ev hy]; rfl
theorem EX.pickF {z : Operand} {v : Value} (hx : ev σ x = some (.bool false)) (hz : ev σ z = some v) : EX P n σ (.pick x y z) ty w v w := fun a ha dst pos after g => by
  simp only [execOp, ha.ev hx, ha.ev hz]; rfl
theorem EX.bin {op : BinOp} {u v r : Value} (hx : ev σ x = some u) (hy : ev σ y = some v) (hg : (eqGuard op t x y u v).run P w = .ok () w) (hr : (binOp op t u v).run P w = .ok r w) : EX P n σ (.binOp op t x y t') ty w r w := fun a ha dst pos after g => by
  simp only [execOp, ha.ev hx, ha.ev hy, Sem.run_bind, hg, hr, Result.andThen_ok]; rfl
theorem guard_int (op : BinOp) (i j : Int) : (eqGuard op t x y (.int k i) (.int k j)).run P w = .ok () w := by
  unfold eqGuard; cases op <;> rfl
theorem guard_bool (op : BinOp) (i j : Bool) : (eqGuard op t x y (.bool i) (.bool j)).run P w = .ok () w := by
  unfold eqGuard; cases op <;> rfl
theorem guard_str (op : BinOp) (i j : ByteArray) : (eqGuard op t x y (.string i) (.string j)).run P w = .ok () w := by
  unfold eqGuard; cases op <;> rfl
theorem EX.binI {op : BinOp} {i j : Int} {r : Value} (hx : ev σ x = some (.int k i)) (hy : ev σ y = some (.int k j)) (hr : (binOp op t (.int k i) (.int k j)).run P w = .ok r w) : EX P n σ (.binOp op t x y t') ty w r w :=
  EX.bin hx hy (guard_int op i j) hr
theorem EX.addN (hx : ev σ x = some (.int k (a : Int))) (hy : ev σ y = some (.int k (b : Int))) (hm : maxN k = m) (h : a + b ≤ m) : EX P n σ (.binOp .add t x y t') ty w (.int k ((a + b : Nat) : Int)) w :=
  EX.binI hx hy (by
    have := wrap_fit hm h
    simp only [Int.natCast_add] at this ⊢
    simp [binOp, Op.intArith, this])
theorem EX.subN (hx : ev σ x = some (.int k (a : Int))) (hy : ev σ y = some (.int k (b : Int))) (hm : maxN k = m) (h : b ≤ a ∧ a ≤ m) : EX P n σ (.binOp .sub t x y t') ty w (.int k ((a - b : Nat) : Int)) w :=
  EX.binI hx hy (by
    have := wrap_fit hm (show a - b ≤ m by omega)
    rw [Int.natCast_sub h.1] at this ⊢
    simp [binOp, Op.intArith, this])
theorem EX.mulN (hx : ev σ x = some (.int k (a : Int))) (hy : ev σ y = some (.int k (b : Int))) (hm : maxN k = m) (h : a * b ≤ m) : EX P n σ (.binOp .mul t x y t') ty w (.int k ((a * b : Nat) : Int)) w :=
  EX.binI hx hy (by
    have := wrap_fit hm h
    simp only [Int.natCast_mul] at this ⊢
    simp [binOp, Op.intArith, this])
theorem EX.addW (hx : ev σ x = some (.int k (a : Int))) (hy : ev σ y = some (.int k (b : Int))) (hm : modN k = m) (hp : 0 < m) : EX P n σ (.binOp .add t x y t') ty w (.int k (((a + b) % m : Nat) : Int)) w :=
  EX.binI hx hy (by
    have := wrap_mod (a := a + b) hm hp
    rw [← this]
    simp [binOp, Op.intArith])
theorem EX.mulW (hx : ev σ x = some (.int k (a : Int))) (hy : ev σ y = some (.int k (b : Int))) (hm : modN k = m) (hp : 0 < m) : EX P n σ (.binOp .mul t x y t') ty w (.int k (((a * b) % m : Nat) : Int)) w :=
  EX.binI hx hy (by
    have := wrap_mod (a := a * b) hm hp
    rw [← this]
    simp [binOp, Op.intArith])
theorem EX.quoN (hx : ev σ x = some (.int k (a : Int))) (hy : ev σ y = some (.int k (b : Int))) (hm : maxN k = m) (h : 0 < b ∧ a ≤ m) : EX P n σ (.binOp .quo t x y t') ty w (.int k ((a / b : Nat) : Int)) w :=
  EX.binI hx hy (by
    have hle : a / b ≤ a := Nat.div_le_self _ _
    have := wrap_fit hm (show a / b ≤ m by omega)
    have hb : ¬ (b : Int) = 0 := by omega
    have hq : (a : Int).tdiv b = ((a / b : Nat) : Int) := rfl
    unfold binOp
    simp only [ne_eq, not_true_eq_false, if_false, Op.intDiv, if_neg hb, hq, this]
    rfl)
theorem EX.remN (hx : ev σ x = some (.int k (a : Int))) (hy : ev σ y = some (.int k (b : Int))) (h : 0 < b) : EX P n σ (.binOp .rem t x y t') ty w (.int k ((a % b : Nat) : Int)) w :=
  EX.binI hx hy (by
    have hb : ¬ (b : Int) = 0 := by omega
    have hq : (a : Int).tmod b = ((a % b : Nat) : Int) := rfl
    unfold binOp
    simp only [ne_eq, not_true_eq_false, if_false, Op.intDiv, if_neg hb, hq]
    rfl)
theorem ofInt_fit {k : IntKind} {a : Nat} (h : a ≤ maxN k) : (BitVec.ofInt k.bits (a : Int)).toNat = a := by
  rw [BitVec.ofInt_natCast, BitVec.toNat_ofNat]
  exact Nat.mod_eq_of_lt (Nat.lt_of_le_of_lt h (maxN_lt k))
theorem mod_fit {k : IntKind} {a : Nat} (h : a ≤ maxN k) : a % 2 ^ k.bits = a := Nat.mod_eq_of_lt (Nat.lt_of_le_of_lt h (maxN_lt k))
theorem bits_le (k : IntKind) : ∃ j, maxN k + 1 = 2 ^ j := by cases k <;> first | exact ⟨7, rfl⟩ | exact ⟨15, rfl⟩ | exact ⟨31, rfl⟩ | exact ⟨63, rfl⟩ | exact ⟨8, rfl⟩ | exact ⟨16, rfl⟩ | exact ⟨32, rfl⟩ | exact ⟨64, rfl⟩
theorem EX.andN (hx : ev σ x = some (.int k (a : Int))) (hy : ev σ y = some (.int k (b : Int))) (hm : maxN k = m) (h : a ≤ m ∧ b ≤ m) : EX P n σ (.binOp .and t x y t') ty w (.int k ((a &&& b : Nat) : Int)) w :=
  EX.binI hx hy (by
    subst hm
    have hle : a &&& b ≤ a := Nat.and_le_left
    have := wrap_fit rfl (show a &&& b ≤ maxN k by omega)
    simp [binOp, Op.intBits, mod_fit h.1, mod_fit h.2, this])
theorem EX.orN (hx : ev σ x = some (.int k (a : Int))) (hy : ev σ y = some (.int k (b : Int))) (hm : maxN k = m) (h : a ≤ m ∧ b ≤ m) : EX P n σ (.binOp .or t x y t') ty w (.int k ((a ||| b : Nat) : Int)) w :=
  EX.binI hx hy (by
    subst hm
    obtain ⟨j, hj⟩ := bits_le k
    have hlt : a ||| b < 2 ^ j := Nat.or_lt_two_pow (by omega) (by omega)
    have := wrap_fit rfl (show a ||| b ≤ maxN k by omega)
    simp [binOp, Op.intBits, mod_fit h.1, mod_fit h.2, this])
theorem EX.xorN (hx : ev σ x = some (.int k (a : Int))) (hy : ev σ y = some (.int k (b : Int))) (hm : maxN k = m) (h : a ≤ m ∧ b ≤ m) : EX P n σ (.binOp .xor t x y t') ty w (.int k ((a ^^^ b : Nat) : Int)) w :=
  EX.binI hx hy (by
    subst hm
    obtain ⟨j, hj⟩ := bits_le k
    have hlt : a ^^^ b < 2 ^ j := Nat.xor_lt_two_pow (by omega) (by omega)
    have := wrap_fit rfl (show a ^^^ b ≤ maxN k by omega)
    simp [binOp, Op.intBits, mod_fit h.1, mod_fit h.2, this])
/-- the lowest j bits -/
theorem EX.maskN {j p : Nat} (hx : ev σ x = some (.int k (a : Int))) (hy : ev σ y = some (.int k (b : Int))) (hp : 2 ^ j = p) (hb : b + 1 = p) (hm : maxN k = m) (h : a ≤ m ∧ b ≤ m) : EX P n σ (.binOp .and t x y t') ty w (.int k ((a % p : Nat) : Int)) w := by
  have h1 := EX.andN (P := P) (n := n) (w := w) (t := t) (t' := t') (ty := ty) hx hy hm h
  have : a &&& b = a % p := by
    rw [show b = p - 1 by omega, ← hp]
    exact Nat.and_two_pow_sub_one_eq_mod a j
  rwa [this] at h1
theorem EX.maskN' {j p : Nat} (hx : ev σ x = some (.int k (a : Int))) (hy : ev σ y = some (.int k (b : Int))) (hp : 2 ^ j = p) (hb : a + 1 = p) (hm : maxN k = m) (h : a ≤ m ∧ b ≤ m) : EX P n σ (.binOp .and t x y t') ty w (.int k ((b % p : Nat) : Int)) w := by
  have h1 := EX.andN (P := P) (n := n) (w := w) (t := t) (t' := t') (ty := ty) hx hy hm h
  have : a &&& b = b % p := by
    rw [Nat.and_comm, show a = p - 1 by omega, ← hp]
    exact Nat.and_two_pow_sub_one_eq_mod b j
  rwa [this] at h1
/-- a shift by a constant below the kind's bits -/
theorem EX.shlN {s p : Nat} {k' : IntKind} (hx : ev σ x = some (.int k (a : Int))) (hy : ev σ y = some (.int k' (s : Int))) (hp : 2 ^ s = p) (hs : s ≤ k.bits) (hm : maxN k = m) (h : a * p ≤ m) :
    EX P n σ (.binOp .shl t x y t') ty w (.int k ((a * p : Nat) : Int)) w :=
  EX.bin hx hy (by unfold eqGuard; rfl) (by
    subst hp
    have := wrap_fit hm h
    have hn : ¬ (s : Int) < 0 := by omega
    simp only [Int.natCast_mul, Int.natCast_pow, Int.cast_ofNat_Int] at this ⊢
    simp [binOp, Op.shift, hn, Nat.min_eq_left hs, this])
theorem EX.shlW {s p : Nat} {k' : IntKind} (hx : ev σ x = some (.int k (a : Int))) (hy : ev σ y = some (.int k' (s : Int))) (hp : 2 ^ s = p) (hs : s ≤ k.bits) (hm : modN k = m) (h : 0 < m) :
    EX P n σ (.binOp .shl t x y t') ty w (.int k (((a * p) % m : Nat) : Int)) w :=
  EX.bin hx hy (by unfold eqGuard; rfl) (by
    subst hp
    have := wrap_mod (a := a * 2 ^ s) hm h
    have hn : ¬ (s : Int) < 0 := by omega
    rw [← this]
    simp only [Int.natCast_mul, Int.natCast_pow, Int.cast_ofNat_Int]
    simp [binOp, Op.shift, hn, Nat.min_eq_left hs])
theorem EX.shrN {s p : Nat} {k' : IntKind} (hx : ev σ x = some (.int k (a : Int))) (hy : ev σ y = some (.int k' (s : Int))) (hp : 2 ^ s = p) (hs : s ≤ k.bits) :
    EX P n σ (.binOp .shr t x y t') ty w (.int k ((a / p : Nat) : Int)) w :=
  EX.bin hx hy (by unfold eqGuard; rfl) (by
    subst hp
    have hn : ¬ (s : Int) < 0 := by omega
    have hf : (a : Int).fdiv (2 ^ s) = ((a / 2 ^ s : Nat) : Int) := by
      rw [Int.fdiv_eq_ediv_of_nonneg _ (by exact_mod_cast Nat.zero_le _)]
      simp
    simp [binOp, Op.shift, hn, Nat.min_eq_left hs, hf])
theorem run_cmp {op : BinOp} {i j : Int} {q : Bool} (h : (Op.intCmp op i j).run P w = .ok (.bool q) w) (ho : (match op with | .eql | .neq | .lss | .leq | .gtr | .geq => true | _ => false) = true) : (binOp op t (.int k i) (.int k j)).run P w = .ok (.bool q) w := by
  cases op <;> simp at ho <;> simpa [binOp] using h
theorem EX.lssN (hx : ev σ x = some (.int k (a : Int))) (hy : ev σ y = some (.int k (b : Int))) : EX P n σ (.binOp .lss t x y t') ty w (.bool (decide (a < b))) w :=
  EX.binI hx hy (run_cmp (by simp [Op.intCmp]) rfl)
theorem EX.leqN (hx : ev σ x = some (.int k (a : Int))) (hy : ev σ y = some (.int k (b : Int))) : EX P n σ (.binOp .leq t x y t') ty w (.bool (decide (a ≤ b))) w :=
  EX.binI hx hy (run_cmp (by simp [Op.intCmp]) rfl)
theorem EX.gtrN (hx : ev σ x = some (.int k (a : Int))) (hy : ev σ y = some (.int k (b : Int))) : EX P n σ (.binOp .gtr t x y t') ty w (.bool (decide (b < a))) w :=
  EX.binI hx hy (run_cmp (by simp [Op.intCmp]) rfl)
theorem EX.geqN (hx : ev σ x = some (.int k (a : Int))) (hy : ev σ y = some (.int k (b : Int))) : EX P n σ (.binOp .geq t x y t') ty w (.bool (decide (b ≤ a))) w :=
  EX.binI hx hy (run_cmp (by simp [Op.intCmp]) rfl)
theorem EX.eqlN (hx : ev σ x = some (.int k (a : Int))) (hy : ev σ y = some (.int k (b : Int))) : EX P n σ (.binOp .eql t x y t') ty w (.bool (decide (a = b))) w :=
  EX.binI hx hy (run_cmp (by
    have : ((a : Int) == (b : Int)) = decide (a = b) := by rw [Bool.eq_iff_iff]; simp; omega
    simp only [Op.intCmp, this]; rfl) rfl)
theorem EX.neqN (hx : ev σ x = some (.int k (a : Int))) (hy : ev σ y = some (.int k (b : Int))) : EX P n σ (.binOp .neq t x y t') ty w (.bool (decide (a ≠ b))) w :=
  EX.binI hx hy (run_cmp (by
    have : ((a : Int) != (b : Int)) = decide (a ≠ b) := by rw [Bool.eq_iff_iff]; simp; omega
    simp only [Op.intCmp, this]; rfl) rfl)
theorem EX.lssZ (hx : ev σ x = some (.int k c)) (hy : ev σ y = some (.int k d)) : EX P n σ (.binOp .lss t x y t') ty w (.bool (decide (c < d))) w :=
  EX.binI hx hy (run_cmp (by simp [Op.intCmp]) rfl)
theorem EX.leqZ (hx : ev σ x = some (.int k c)) (hy : ev σ y = some (.int k d)) : EX P n σ (.binOp .leq t x y t') ty w (.bool (decide (c ≤ d))) w :=
  EX.binI hx hy (run_cmp (by simp [Op.intCmp]) rfl)
theorem EX.gtrZ (hx : ev σ x = some (.int k c)) (hy : ev σ y = some (.int k d)) : EX P n σ (.binOp .gtr t x y t') ty w (.bool (decide (d < c))) w :=
  EX.binI hx hy (run_cmp (by simp [Op.intCmp]) rfl)
theorem EX.geqZ (hx : ev σ x = some (.int k c)) (hy : ev σ y = some (.int k d)) : EX P n σ (.binOp .geq t x y t') ty w (.bool (decide (d ≤ c))) w :=
  EX.binI hx hy (run_cmp (by simp [Op.intCmp]) rfl)
theorem EX.eqlZ (hx : ev σ x = some (.int k c)) (hy : ev σ y = some (.int k d)) : EX P n σ (.binOp .eql t x y t') ty w (.bool (decide (c = d))) w :=
  EX.binI hx hy (run_cmp (by simp [Op.intCmp, BEq.beq]) rfl)
theorem EX.neqZ (hx : ev σ x = some (.int k c)) (hy : ev σ y = some (.int k d)) : EX P n σ (.binOp .neq t x y t') ty w (.bool (decide (c ≠ d))) w :=
  EX.binI hx hy (run_cmp (by simp [Op.intCmp, bne, BEq.beq]) rfl)
theorem EX.addZ (hx : ev σ x = some (.int k c)) (hy : ev σ y = some (.int k d)) (hs : k.signed = true) (hm : maxN k = m) (h : -((m : Int) + 1) ≤ c + d ∧ c + d ≤ m) : EX P n σ (.binOp .add t x y t') ty w (.int k (c + d)) w :=
  EX.binI hx hy (by simp [binOp, Op.intArith, wrap_fitZ hs hm h])
theorem EX.subZ (hx : ev σ x = some (.int k c)) (hy : ev σ y = some (.int k d)) (hs : k.signed = true) (hm : maxN k = m) (h : -((m : Int) + 1) ≤ c - d ∧ c - d ≤ m) : EX P n σ (.binOp .sub t x y t') ty w (.int k (c - d)) w :=
  EX.binI hx hy (by simp [binOp, Op.intArith, wrap_fitZ hs hm h])
theorem EX.mulZ (hx : ev σ x = some (.int k c)) (hy : ev σ y = some (.int k d)) (hs : k.signed = true) (hm : maxN k = m) (h : -((m : Int) + 1) ≤ c * d ∧ c * d ≤ m) : EX P n σ (.binOp .mul t x y t') ty w (.int k (c * d)) w :=
  EX.binI hx hy (by simp [binOp, Op.intArith, wrap_fitZ hs hm h])
/-- complement -/
theorem EX.notN (hx : ev σ x = some (.int k (a : Int))) (hs : k.signed = false) (hm : maxN k = m) (h : a ≤ m) : EX P n σ (.unOp .xor t x) ty w (.int k ((m - a : Nat) : Int)) w := fun A ha dst pos after g => by
  subst hm
  have hk : (maxN k : Int) = k.max := by cases k <;> first | rfl | simp [IntKind.signed] at hs
  have h1 : (BitVec.ofInt k.bits k.max ^^^ BitVec.ofInt k.bits (a : Int)).toNat = maxN k - a := by
    have hall : BitVec.ofInt k.bits k.max = BitVec.allOnes k.bits := by cases k <;> first | rfl | simp [IntKind.signed] at hs
    rw [hall, BitVec.allOnes_xor, BitVec.toNat_not, ofInt_fit h]
    have : maxN k + 1 = 2 ^ k.bits := by cases k <;> first | rfl | simp [IntKind.signed] at hs
    omega
  have := wrap_fit rfl (show maxN k - a ≤ maxN k by omega)
  simp only [execOp, ha.ev hx]
  simp only [Op.unary, Op.intBits, hs, Bool.false_eq_true, if_false, h1, this]
  rfl
theorem EX.convN {s e : TypeId} {k' : IntKind} {dd : TypeDesc} (hu : P.underlying s = some dd) (hv : P.underlying e = some (.int k)) (hx : ev σ x = some (.int k' (a : Int))) (hm : maxN k = m) (h : a ≤ m) : EX P n σ (.convert s e x) ty w (.int k (a : Int)) w := fun A ha dst pos after g => by
  have := wrap_fit hm h
  simp only [execOp, ha.ev hx]
  simp [convert, run_underlying hu, run_underlying hv, Sem.run_bind, Conv.intToInt, this]
theorem EX.convW {s e : TypeId} {k' : IntKind} {dd : TypeDesc} (hu : P.underlying s = some dd) (hv : P.underlying e = some (.int k)) (hx : ev σ x = some (.int k' (a : Int))) (hm : modN k = m) (h : 0 < m) : EX P n σ (.convert s e x) ty w (.int k ((a % m : Nat) : Int)) w := fun A ha dst pos after g => by
  have := wrap_mod (a := a) hm h
  simp only [execOp, ha.ev hx]
  simp [convert, run_underlying hu, run_underlying hv, Sem.run_bind, Conv.intToInt, this]
theorem EX.convZ {s e : TypeId} {k' : IntKind} {dd : TypeDesc} (hu : P.underlying s = some dd) (hv : P.underlying e = some (.int k)) (hx : ev σ x = some (.int k' c)) : EX P n σ (.convert s e x) ty w (.int k (k.wrap c)) w := fun A ha dst pos after g => by
  simp only [execOp, ha.ev hx]
  simp [convert, run_underlying hu, run_underlying hv, Sem.run_bind, Conv.intToInt]
theorem EX.extract {i : Nat} {vs : Array Value} {v : Value} (hx : ev σ x = some (.tuple vs)) (hi : vs[i]? = some v) : EX P n σ (.extract x i) ty w v w := fun A ha dst pos after g => by
  simp only [execOp, ha.ev hx]
  simp [Instr.extract, hi]
theorem EX.notB {p : Bool} (hx : ev σ x = some (.bool p)) : EX P n σ (.unOp .not t x) ty w (.bool !p) w := fun A ha dst pos after g => by
  simp only [execOp, ha.ev hx]; rfl
end
section
variable {P : Program} {n : Nat} {σ : Sig} {w : World} {t t' : TypeId} {ty : TypeId} {x y : Operand} {s r : List UInt8}
theorem EX.lenS (ht : P.underlying t = some .string) (hx : ev σ x = some (str s)) : EX P n σ (.call { callee := .builtin .len, args := #[x], argTypes := #[t] }) ty w (.int .i64 (s.length : Int)) w := fun A ha dst pos after g => by
  simp only [execOp, resolve, invoke, builtin, Sem.run_bind, Sem.run_pure, Result.andThen_ok, List.map_toArray, List.map_cons, List.map_nil, ha.ev hx]
  simp [Builtin.len_, run_underlying ht, goInt]
  rfl
theorem EX.lenA {e : TypeId} {A : Option Addr} {l c : Nat} (ht : P.underlying t = some (.slice e)) (hx : ev σ x = some (.slice A l c)) : EX P n σ (.call { callee := .builtin .len, args := #[x], argTypes := #[t] }) ty w (.int .i64 (l : Int)) w := fun A ha dst pos after g => by
  simp only [execOp, resolve, invoke, builtin, Sem.run_bind, Sem.run_pure, Result.andThen_ok, List.map_toArray, List.map_cons, List.map_nil, ha.ev hx]
  simp [Builtin.len_, run_underlying ht, goInt]
theorem EX.indexS {i : Nat} {k : IntKind} {c : UInt8} (ht : P.underlying t = some .string) (hx : ev σ x = some (str s)) (hy : ev σ y = some (.int k (i : Int))) (hi : s[i]? = some c) : EX P n σ (.index t x y) ty w (.int .u8 (c.toNat : Int)) w := fun A ha dst pos after g => by
  obtain ⟨hlt, he⟩ := List.getElem?_eq_some_iff.1 hi
  have h1 : (⟨⟨s⟩⟩ : ByteArray)[i]? = some c := by
    have hsz : i < (⟨⟨s⟩⟩ : ByteArray).size := hlt
    have h2 : (⟨⟨s⟩⟩ : ByteArray)[i] = c := he
    rw [getElem?_pos (⟨⟨s⟩⟩ : ByteArray) i hsz, h2]
  simp only [execOp, ha.ev hx, ha.ev hy]
  simp [Instr.index, asIntOf, run_underlying ht, Sem.run_bind, h1]
theorem EX.eqlS (hx : ev σ x = some (str s)) (hy : ev σ y = some (str r)) : EX P n σ (.binOp .eql t x y t') ty w (.bool (decide (s = r))) w :=
  EX.bin hx hy (guard_str _ _ _) (by
    have : (ByteArray.toList ⟨⟨s⟩⟩ == ByteArray.toList ⟨⟨r⟩⟩) = decide (s = r) := by
      rw [Bool.eq_iff_iff]; simp
    simp only [binOp, Op.stringOp, this]
    rfl)
theorem EX.neqS (hx : ev σ x = some (str s)) (hy : ev σ y = some (str r)) : EX P n σ (.binOp .neq t x y t') ty w (.bool (decide (s ≠ r))) w :=
  EX.bin hx hy (guard_str _ _ _) (by
    have : (!(ByteArray.toList ⟨⟨s⟩⟩ == ByteArray.toList ⟨⟨r⟩⟩)) = decide (s ≠ r) := by
      rw [Bool.eq_iff_iff]; simp
    simp only [binOp, Op.stringOp, this]
    rfl)
/-- a text ahead of another, byte by byte -/
def lessB : List UInt8 → List UInt8 → Bool := Op.bytesLess
theorem EX.lssS (hx : ev σ x = some (str s)) (hy : ev σ y = some (str r)) : EX P n σ (.binOp .lss t x y t') ty w (.bool (lessB s r)) w :=
  EX.bin hx hy (guard_str _ _ _) (by
    have h1 : ByteArray.toList ⟨⟨s⟩⟩ = s := by simp
    have h2 : ByteArray.toList ⟨⟨r⟩⟩ = r := by simp
    simp only [binOp, Op.stringOp, h1, h2]
    rfl)
theorem EX.gtrS (hx : ev σ x = some (str s)) (hy : ev σ y = some (str r)) : EX P n σ (.binOp .gtr t x y t') ty w (.bool !(lessB s r || s == r)) w :=
  EX.bin hx hy (guard_str _ _ _) (by
    have h1 : ByteArray.toList ⟨⟨s⟩⟩ = s := by simp
    have h2 : ByteArray.toList ⟨⟨r⟩⟩ = r := by simp
    simp only [binOp, Op.stringOp, h1, h2]
    rfl)
theorem EX.addS (hx : ev σ x = some (str s)) (hy : ev σ y = some (str r)) (h : s.length + r.length ≤ 9223372036854775807) : EX P n σ (.binOp .add t x y t') ty w (str (s ++ r)) w :=
  EX.bin hx hy (guard_str _ _ _) (by
    have h0 : ¬ (((ByteArray.size ⟨⟨s⟩⟩ + ByteArray.size ⟨⟨r⟩⟩ : Nat) : Int) > IntKind.i64.max) := by
      show ¬ (((s.length + r.length : Nat) : Int) > 9223372036854775807)
      omega
    have h1 : ((⟨⟨s⟩⟩ : ByteArray) ++ ⟨⟨r⟩⟩) = ⟨⟨s ++ r⟩⟩ := by
      apply ByteArray.ext
      rw [ByteArray.data_append]
      simp
    unfold binOp
    simp only [Op.stringOp, if_neg h0, h1]
    rfl)
theorem run_equalB {p q : Bool} (hu : P.underlying t = some .bool) : (Op.equal t (.bool p) (.bool q)).run P w = .ok (p == q) w := by
  have h : ∀ d : Nat, (Op.equalIn (d + 1) t (.bool p) (.bool q)).run P w = .ok (p == q) w := fun d => by
    simp [Op.equalIn, run_underlying hu, Sem.run_bind]
  exact h 9999
theorem EX.eqlB {p q : Bool} (hu : P.underlying t = some .bool) (hx : ev σ x = some (.bool p)) (hy : ev σ y = some (.bool q)) : EX P n σ (.binOp .eql t x y t') ty w (.bool (p == q)) w :=
  EX.bin hx hy (guard_bool _ _ _) (by
    unfold binOp
    simp only [Sem.run_bind, run_equalB hu, Result.andThen_ok]
    rfl)
theorem EX.neqB {p q : Bool} (hu : P.underlying t = some .bool) (hx : ev σ x = some (.bool p)) (hy : ev σ y = some (.bool q)) : EX P n σ (.binOp .neq t x y t') ty w (.bool !(p == q)) w :=
  EX.bin hx hy (guard_bool _ _ _) (by
    unfold binOp
    simp only [Sem.run_bind, run_equalB hu, Result.andThen_ok]
    rfl)
theorem EX.notD {p : Prop} [Decidable p] (hx : ev σ x = some (.bool (decide p))) : EX P n σ (.unOp .not t x) ty w (.bool (decide (¬ p))) w := fun A ha dst pos after g => by
  simp only [execOp, ha.ev hx, decide_not]; rfl
theorem EX.convSS (ht : P.underlying t = some .string) (ht' : P.underlying t' = some .string) (hx : ev σ x = some (str s)) : EX P n σ (.convert t t' x) ty w (str s) w := fun A ha dst pos after g => by
  simp only [execOp, ha.ev hx]
  simp [convert, run_underlying ht, run_underlying ht', Sem.run_bind]
theorem extract_str (s : List UInt8) (i j : Nat) : (⟨⟨s⟩⟩ : ByteArray).extract i j = ⟨⟨(s.drop i).take (j - i)⟩⟩ := by
  apply ByteArray.ext
  rw [ByteArray.data_extract]
  apply Array.ext'
  simp [List.extract_eq_take_drop]
theorem run_sliceBound {k : IntKind} {i : Nat} (y : Nat) (c : BoundsCode) (h : i ≤ y) : (Instr.sliceBound (.int k (i : Int)) y c).run P w = .ok i w := by
  have h1 : (0 : Int) ≤ (i : Int) ∧ (i : Int) ≤ (y : Int) := by omega
  simp [Instr.sliceBound, asIntOf, Sem.run_bind, h]
section
variable {k k' : IntKind} {i j : Nat} {lo hi : Operand}
theorem EX.sliceLH (ht : P.underlying t = some .string) (hx : ev σ x = some (str s)) (hl : ev σ lo = some (.int k (i : Int))) (hh : ev σ hi = some (.int k' (j : Int))) (h : i ≤ j ∧ j ≤ s.length) :
    EX P n σ (.slice t x (some lo) (some hi) none) ty w (str ((s.drop i).take (j - i))) w := fun A ha dst pos after g => by
  have hj : j ≤ ByteArray.size ⟨⟨s⟩⟩ := h.2
  simp only [execOp, ha.ev hx, ha.ev hl, ha.ev hh, Option.map_some, Option.map_none]
  simp [Instr.sliceAt, run_underlying ht, Instr.slice, Instr.sliceBounds, Sem.run_bind, run_sliceBound _ _ hj, run_sliceBound _ _ h.1, extract_str]
theorem EX.sliceLE (ht : P.underlying t = some .string) (hx : ev σ x = some (str s)) (hl : ev σ lo = some (.int k (i : Int))) (h : i ≤ s.length) :
    EX P n σ (.slice t x (some lo) none none) ty w (str (s.drop i)) w := fun A ha dst pos after g => by
  have hj : i ≤ ByteArray.size ⟨⟨s⟩⟩ := h
  have e : (s.drop i).take (ByteArray.size ⟨⟨s⟩⟩ - i) = s.drop i := List.take_of_length_le (by rw [List.length_drop]; exact Nat.le_refl _)
  simp only [execOp, ha.ev hx, ha.ev hl, Option.map_some, Option.map_none]
  simp [Instr.sliceAt, run_underlying ht, Instr.slice, Instr.sliceBounds, Sem.run_bind, run_sliceBound _ _ hj, extract_str, e]
theorem EX.sliceFH (ht : P.underlying t = some .string) (hx : ev σ x = some (str s)) (hh : ev σ hi = some (.int k' (j : Int))) (h : j ≤ s.length) :
    EX P n σ (.slice t x none (some hi) none) ty w (str (s.take j)) w := fun A ha dst pos after g => by
  have hj : j ≤ ByteArray.size ⟨⟨s⟩⟩ := h
  simp only [execOp, ha.ev hx, ha.ev hh, Option.map_some, Option.map_none]
  simp [Instr.sliceAt, run_underlying ht, Instr.slice, Instr.sliceBounds, Sem.run_bind, run_sliceBound _ _ hj, extract_str]
end
theorem EX.minN {k : IntKind} {a b : Nat} {ats : Array TypeId} (hx : ev σ x = some (.int k (a : Int))) (hy : ev σ y = some (.int k (b : Int))) : EX P n σ (.call { callee := .builtin .min, args := #[x, y], argTypes := ats }) ty w (.int k ((min a b : Nat) : Int)) w := fun A ha dst pos after g => by
  simp only [execOp, resolve, invoke, builtin, Sem.run_bind, Sem.run_pure, Result.andThen_ok, List.map_toArray, List.map_cons, List.map_nil, ha.ev hx, ha.ev hy]
  have : (if (b : Int) < a then (b : Int) else a) = ((min a b : Nat) : Int) := by split <;> omega
  simp only [Builtin.min_, Builtin.min2, List.foldlM, Sem.run_bind, Sem.run_pure, Result.andThen_ok, this]
end
end Go.Proofs.YtieojdkblakchaaDoor
