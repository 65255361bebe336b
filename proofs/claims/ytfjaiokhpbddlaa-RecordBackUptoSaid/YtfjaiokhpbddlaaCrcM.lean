/-
  crc: the plain laws: the sum by the table is the division's rest; sums are linear. No program is spoken of.
-/
import Derived.Test.YtfjaiokhpbddlaaCrcD
namespace Go.Proofs.Ytfjaiokhpbddlaa
set_option linter.unusedSimpArgs false
set_option linter.unusedVariables false

/-! ### bits -/
theorem tb_mul2 (a j : Nat) : (a * 2 % 4294967296).testBit j = (decide (j < 32) && (decide (1 ≤ j) && a.testBit (j - 1))) := by
  rw [show a * 2 = a <<< 1 by rw [Nat.shiftLeft_eq], show 4294967296 = 2 ^ 32 by decide, Nat.testBit_mod_two_pow, Nat.testBit_shiftLeft]
theorem top_bit (r : Nat) : (r &&& 2147483648 ≠ 0) ↔ r.testBit 31 = true := by
  rw [show 2147483648 = 2 ^ 31 by decide]
  constructor
  · intro h
    cases hb : r.testBit 31 with
    | true => rfl
    | false =>
      exfalso
      apply h
      apply Nat.eq_of_testBit_eq
      intro j
      rw [Nat.testBit_and, Nat.testBit_two_pow, Nat.zero_testBit]
      by_cases e : 31 = j
      · subst e; rw [hb]; rfl
      · simp [e]
  · intro h e
    have := congrArg (·.testBit 31) e
    simp only [Nat.testBit_and, h, Nat.testBit_two_pow, Nat.zero_testBit] at this
    exact absurd this (by decide)
theorem cstep_eq (r : Nat) : cstep r = (r * 2 % 4294967296) ^^^ (if r.testBit 31 then 79764919 else 0) := by
  unfold cstep
  by_cases h : r &&& 2147483648 ≠ 0
  · rw [if_pos h, if_pos ((top_bit r).1 h)]
  · have : ¬ r.testBit 31 = true := fun e => h ((top_bit r).2 e)
    rw [if_neg h, if_neg this, Nat.xor_zero]
theorem mul2_xor (a b : Nat) : ((a ^^^ b) * 2 % 4294967296) = (a * 2 % 4294967296) ^^^ (b * 2 % 4294967296) := by
  apply Nat.eq_of_testBit_eq
  intro j
  simp only [tb_mul2, Nat.testBit_xor]
  cases decide (j < 32) <;> cases decide (1 ≤ j) <;> simp
theorem cstep_xor (a b : Nat) : cstep (a ^^^ b) = cstep a ^^^ cstep b := by
  rw [cstep_eq, cstep_eq, cstep_eq, mul2_xor, Nat.testBit_xor]
  cases a.testBit 31 <;> cases b.testBit 31
  · simp
  · simp [Nat.xor_assoc]
  · simp only [Bool.bne_false, Bool.xor_false, if_true]
    simp only [Bool.false_eq_true, if_false, Nat.xor_zero]
    rw [Nat.xor_assoc, Nat.xor_comm (b * 2 % 4294967296), ← Nat.xor_assoc]
  · simp only [bne_self_eq_false, Bool.false_eq_true, if_false, if_true, Nat.xor_zero]
    rw [Nat.xor_assoc, Nat.xor_comm 79764919 (b * 2 % 4294967296 ^^^ 79764919), Nat.xor_assoc (b * 2 % 4294967296), Nat.xor_self, Nat.xor_zero]
theorem citer_xor : ∀ (k a b : Nat), citer k (a ^^^ b) = citer k a ^^^ citer k b
  | 0, _, _ => rfl
  | k + 1, a, b => by rw [citer_succ, citer_succ, citer_succ, citer_xor k, cstep_xor]
theorem citer_comm : ∀ (k r : Nat), citer k (cstep r) = cstep (citer k r)
  | 0, _ => rfl
  | k + 1, r => by rw [citer_succ, citer_comm k, ← citer_succ]
theorem tb_big (a j : Nat) (h : a < 2147483648) : a.testBit 31 = false := Nat.testBit_lt_two_pow (by rw [show 2 ^ 31 = 2147483648 by decide]; exact h)
theorem cstep_small (a : Nat) (h : a < 2147483648) : cstep a = a * 2 := by
  rw [cstep_eq, tb_big a 0 h]
  simp
  omega
theorem citer_small : ∀ (k a : Nat), a * 2 ^ k ≤ 4294967295 → citer k a = a * 2 ^ k
  | 0, a, _ => by simp [citer]
  | k + 1, a, h => by
    have h2 : a * 2 ^ (k + 1) = a * 2 ^ k * 2 := by rw [Nat.pow_succ, Nat.mul_assoc]
    rw [citer_succ, citer_small k a (by omega), cstep_small _ (by omega), h2]
theorem xor_split (r k : Nat) : r = (r / 2 ^ k * 2 ^ k) ^^^ (r % 2 ^ k) := by
  apply Nat.eq_of_testBit_eq
  intro j
  rw [Nat.testBit_xor, Nat.testBit_mul_two_pow, Nat.testBit_div_two_pow, Nat.testBit_mod_two_pow]
  by_cases h : k ≤ j
  · rw [show j - k + k = j by omega]
    simp [h, show ¬ j < k by omega]
  · simp [h, show j < k by omega]
theorem shl_xor (a b k : Nat) : (a ^^^ b) * 2 ^ k = (a * 2 ^ k) ^^^ (b * 2 ^ k) := by
  rw [← Nat.shiftLeft_eq, ← Nat.shiftLeft_eq, ← Nat.shiftLeft_eq, Nat.shiftLeft_xor_distrib]
theorem shr_xor (a b k : Nat) : (a ^^^ b) / 2 ^ k = (a / 2 ^ k) ^^^ (b / 2 ^ k) := by
  rw [← Nat.shiftRight_eq_div_pow, ← Nat.shiftRight_eq_div_pow, ← Nat.shiftRight_eq_div_pow, Nat.shiftRight_xor_distrib]
theorem cnext_eq (r b : Nat) (hr : r < 4294967296) : cnext r b = citer 8 (r ^^^ b * 2 ^ 24) := by
  have h1 : r ^^^ b * 2 ^ 24 = ((r / 2 ^ 24 ^^^ b) * 2 ^ 24) ^^^ (r % 2 ^ 24) := by
    rw [shl_xor]
    conv => lhs; rw [xor_split r 24]
    rw [Nat.xor_assoc, Nat.xor_comm (r % 2 ^ 24), ← Nat.xor_assoc]
  rw [h1, citer_xor, citer_small 8 (r % 2 ^ 24) (by omega), Nat.xor_comm]
  unfold cnext ctab
  rw [show r % 2 ^ 24 * 2 ^ 8 = r * 256 % 4294967296 by omega, show r / 2 ^ 24 = r / 16777216 from rfl, show (2 : Nat) ^ 24 = 16777216 from rfl]

/-! ### bit by bit -/
def cbit (r b : Nat) : Nat := cstep (r ^^^ b * 2 ^ 31)
theorem cbit_lt (r b : Nat) : cbit r b < 4294967296 := cstep_lt _
theorem bitsN_succ (k X : Nat) : bitsN (k + 1) X = X / 2 ^ k % 2 :: bitsN k X := by
  simp only [bitsN, List.range_succ_eq_map, List.map_cons, List.map_map]
  congr 1
  apply List.map_congr_left
  intro i hi
  have := List.mem_range.1 hi
  simp only [Function.comp]
  rw [show k + 1 - 1 - (i + 1) = k - 1 - i by omega]
theorem bitsN_mod (k X : Nat) : bitsN k (X % 2 ^ k) = bitsN k X := by
  apply List.map_congr_left
  intro i hi
  have := List.mem_range.1 hi
  have h1 := Nat.testBit_mod_two_pow X k (k - 1 - i)
  simp only [Nat.testBit_eq_decide_div_mod_eq] at h1
  have h2 : k - 1 - i < k := by omega
  simp only [h2, decide_true, Bool.true_and, decide_eq_decide] at h1
  omega
theorem bits8_eq (b : Nat) : bits8 b = bitsN 8 b := rfl
theorem feed (k : Nat) : ∀ (X r : Nat), k ≤ 32 → X < 2 ^ k → (bitsN k X).foldl cbit r = citer k (r ^^^ X * 2 ^ (32 - k)) := by
  induction k with
  | zero =>
    intro X r _ hX
    obtain rfl : X = 0 := by omega
    simp [bitsN, citer]
  | succ k ih =>
    intro X r hk hX
    have hp : (2 : Nat) ^ (k + 1) = 2 ^ k * 2 := Nat.pow_succ 2 k
    have hpos : 0 < 2 ^ k := Nat.two_pow_pos k
    have hb : X / 2 ^ k < 2 := by rw [Nat.div_lt_iff_lt_mul hpos]; omega
    rw [bitsN_succ, List.foldl_cons, Nat.mod_eq_of_lt hb, ← bitsN_mod, ih (X % 2 ^ k) _ (by omega) (Nat.mod_lt _ hpos)]
    have e1 : (2 : Nat) ^ (32 - k) = 2 ^ (32 - (k + 1)) * 2 := by rw [← Nat.pow_succ]; congr 1; omega
    have e2 : (2 : Nat) ^ k * 2 ^ (32 - (k + 1)) = 2 ^ 31 := by rw [← Nat.pow_add]; congr 1; omega
    have hlow : X % 2 ^ k * 2 ^ (32 - (k + 1)) < 2147483648 := by
      have h1 : X % 2 ^ k < 2 ^ k := Nat.mod_lt _ hpos
      have h2 := Nat.mul_lt_mul_of_pos_right h1 (Nat.two_pow_pos (32 - (k + 1)))
      rw [e2] at h2
      exact h2
    have hX : X * 2 ^ (32 - (k + 1)) = (X / 2 ^ k * 2 ^ 31) ^^^ (X % 2 ^ k * 2 ^ (32 - (k + 1))) := by
      conv => lhs; rw [xor_split X k]
      rw [shl_xor, Nat.mul_assoc, e2]
    rw [hX, ← Nat.xor_assoc]
    show citer k (cstep (r ^^^ X / 2 ^ k * 2 ^ 31) ^^^ X % 2 ^ k * 2 ^ (32 - k)) = _
    rw [citer_succ, ← citer_comm, cstep_xor (r ^^^ X / 2 ^ k * 2 ^ 31), cstep_small _ hlow, e1, Nat.mul_assoc]
theorem cnext_bits (r : Nat) (hr : r < 4294967296) (b : Nat) (hb : b < 256) : cnext r b = (bits8 b).foldl cbit r := by
  rw [bits8_eq, feed 8 b r (by decide) hb, cnext_eq r b hr]
theorem cmore_bits (s : List UInt8) : ∀ (r : Nat), r < 4294967296 → cmore r s = (bitsOf s).foldl cbit r := by
  induction s with
  | nil => intro r _; rfl
  | cons c s ih =>
    intro r hr
    have h1 := ih (cnext r c.toNat) (cnext_lt _ _)
    simp only [cmore, bitsOf, List.foldl_cons, List.flatMap_cons, List.foldl_append] at h1 ⊢
    rw [h1, cnext_bits r hr c.toNat c.toNat_lt]

/-! ### the division -/
theorem div_bit (n i : Nat) : n / 2 ^ i % 2 = (n.testBit i).toNat := by
  rw [Nat.testBit_eq_decide_div_mod_eq]
  have : n / 2 ^ i % 2 < 2 := Nat.mod_lt _ (by decide)
  by_cases h : n / 2 ^ i % 2 = 1
  · simp [h]
  · have : n / 2 ^ i % 2 = 0 := by omega
    simp [this]
theorem bit_xor (a b i : Nat) : (a ^^^ b) / 2 ^ i % 2 = (a / 2 ^ i % 2 + b / 2 ^ i % 2) % 2 := by
  rw [div_bit, div_bit, div_bit, Nat.testBit_xor]
  cases a.testBit i <;> cases b.testBit i <;> rfl
theorem addP_addP (q : List Nat) (n a b : Nat) : addP (addP q (bitsN n a)) (bitsN n b) = addP q (bitsN n (a ^^^ b)) := by
  apply List.ext_getElem?
  intro j
  rw [addP_get, addP_get, addP_get]
  cases q[j]? with
  | none => rfl
  | some x =>
    simp only [Option.map_some]
    by_cases hj : j < n
    · rw [bitsN_get n a j hj, bitsN_get n b j hj, bitsN_get n (a ^^^ b) j hj]
      simp only [bit_xor]
      congr 1
      omega
    · rw [List.getElem?_eq_none (by rw [bitsN_length]; omega), List.getElem?_eq_none (by rw [bitsN_length]; omega), List.getElem?_eq_none (by rw [bitsN_length]; omega)]
theorem addP_zero (q : List Nat) (h : ∀ x ∈ q, x ≤ 1) (n : Nat) (a : Nat) : addP q (bitsN n a) = addP q (bitsN (n + 1) (a * 2)) := by
  apply List.ext_getElem?
  intro j
  rw [addP_get, addP_get]
  cases hq : q[j]? with
  | none => rfl
  | some x =>
    have hx := h x (List.mem_of_getElem? hq)
    simp only [Option.map_some]
    by_cases hj : j < n
    · rw [bitsN_get n a j hj, bitsN_get (n + 1) (a * 2) j (by omega)]
      have : a * 2 / 2 ^ (n + 1 - 1 - j) = a / 2 ^ (n - 1 - j) := by
        rw [show n + 1 - 1 - j = (n - 1 - j) + 1 by omega, Nat.pow_succ, Nat.mul_comm (2 ^ (n - 1 - j)) 2, ← Nat.div_div_eq_div_mul, Nat.mul_div_cancel _ (by decide)]
      rw [this]
    · rw [List.getElem?_eq_none (by rw [bitsN_length]; omega)]
      by_cases hj2 : j < n + 1
      · obtain rfl : j = n := by omega
        rw [bitsN_get _ _ _ hj2, show j + 1 - 1 - j = 0 by omega]
        simp
        omega
      · rw [List.getElem?_eq_none (by rw [bitsN_length]; omega)]
theorem polyP_cons : polyP = 1 :: bitsN 32 79764919 := by decide +kernel
theorem bitsN_num : ∀ (n v : Nat), v < 2 ^ n → numN (bitsN n v) = v := by
  have key : ∀ (n v o : Nat), v < 2 ^ n → (bitsN n v).foldl (fun v x => v * 2 + x) o = o * 2 ^ n + v := by
    intro n
    induction n with
    | zero => intro v o h; obtain rfl : v = 0 := by omega
              simp [bitsN]
    | succ n ih =>
      intro v o h
      have hpos : 0 < 2 ^ n := Nat.two_pow_pos n
      have hp : (2 : Nat) ^ (n + 1) = 2 ^ n * 2 := Nat.pow_succ 2 n
      have hb : v / 2 ^ n < 2 := by rw [Nat.div_lt_iff_lt_mul hpos]; omega
      rw [bitsN_succ, List.foldl_cons, Nat.mod_eq_of_lt hb, ← bitsN_mod, ih _ _ (Nat.mod_lt _ hpos), Nat.add_mul]
      have hd := Nat.div_add_mod v (2 ^ n)
      rw [hp, Nat.mul_comm (2 ^ n) 2, ← Nat.mul_assoc, Nat.mul_comm (v / 2 ^ n)]
      omega
  intro n v h
  have := key n v 0 h
  simpa [numN] using this
theorem addP_self_zero (a : Nat) : addP (List.replicate 32 0) (bitsN 32 a) = bitsN 32 a := by
  apply List.ext_getElem?
  intro j
  rw [addP_get]
  by_cases hj : j < 32
  · rw [bitsN_get 32 a j hj, List.getElem?_replicate, if_pos hj]
    simp
  · have e1 : (List.replicate 32 0)[j]? = none := List.getElem?_eq_none (by rw [List.length_replicate]; omega)
    rw [e1, List.getElem?_eq_none (show (bitsN 32 a).length ≤ j by rw [bitsN_length]; omega)]
    rfl
theorem rest_bits : ∀ (m : List Nat) (r : Nat), r < 4294967296 → (∀ x ∈ m, x ≤ 1) → numN (divB m.length (addP (m ++ List.replicate 32 0) (bitsN 32 r))) = m.foldl cbit r
  | [], r, hr, _ => by
    rw [List.nil_append, List.length_nil, divB, addP_self_zero, List.foldl_nil]
    exact bitsN_num 32 r hr
  | b :: m, r, hr, h => by
    have hb := h b (by simp)
    have hm : ∀ x ∈ m, x ≤ 1 := fun x hx => h x (by simp [hx])
    have hq : ∀ x ∈ m ++ List.replicate 32 0, x ≤ 1 := fun x hx => by
      rcases List.mem_append.1 hx with h | h
      · exact hm x h
      · rw [(List.mem_replicate.1 h).2]; omega
    rw [List.length_cons, divB, List.foldl_cons, ← rest_bits m (cbit r b) (cbit_lt _ _) hm]
    congr 2
    have htop : r / 2 ^ 31 < 2 := by omega
    rw [bitsN_succ 31 r, Nat.mod_eq_of_lt htop]
    show divStep ((b + r / 2 ^ 31) % 2 :: addP (m ++ List.replicate 32 0) (bitsN 31 r)) = _
    have hlow : addP (m ++ List.replicate 32 0) (bitsN 31 r) = addP (m ++ List.replicate 32 0) (bitsN 32 (r % 2 ^ 31 * 2)) := by
      rw [← bitsN_mod 31 r, addP_zero _ hq 31]
    have hbit : cbit r b = (r % 2 ^ 31 * 2) ^^^ (if (b + r / 2 ^ 31) % 2 = 1 then 79764919 else 0) := by
      unfold cbit
      rw [cstep_eq]
      congr 1
      · apply Nat.eq_of_testBit_eq
        intro j
        rw [tb_mul2, Nat.testBit_xor, Nat.testBit_mul_two_pow, show r % 2 ^ 31 * 2 = r % 2 ^ 31 * 2 ^ 1 from rfl, Nat.testBit_mul_two_pow, Nat.testBit_mod_two_pow]
        by_cases h1 : 1 ≤ j
        · by_cases h2 : j < 32
          · have : ¬ 31 ≤ j - 1 := by omega
            simp [h1, h2, this]
            omega
          · have h3 : ¬ j - 1 < 31 := by omega
            simp [h2, h3]
        · simp [h1]
      · have ht : (r ^^^ b * 2 ^ 31).testBit 31 = decide ((b + r / 2 ^ 31) % 2 = 1) := by
          rw [Nat.testBit_xor, Nat.testBit_mul_two_pow, Nat.testBit_eq_decide_div_mod_eq, Nat.mod_eq_of_lt htop]
          have e : ∀ b : Nat, b ≤ 1 → b.testBit 0 = decide (b = 1) := fun b hb => by
            rcases (by omega : b = 0 ∨ b = 1) with rfl | rfl <;> rfl
          rw [Nat.sub_self, e b hb]
          generalize r / 2 ^ 31 = t at htop
          rcases (by omega : b = 0 ∨ b = 1) with rfl | rfl <;> rcases (by omega : t = 0 ∨ t = 1) with rfl | rfl <;> rfl
        rw [ht]
        by_cases h1 : (b + r / 2 ^ 31) % 2 = 1 <;> simp [h1]
    rw [hbit, hlow]
    unfold divStep
    simp only
    split
    · rw [polyP_cons]
      show addP (addP (m ++ List.replicate 32 0) (bitsN 32 (r % 2 ^ 31 * 2))) (bitsN 32 79764919) = _
      rw [addP_addP]
    · rw [Nat.xor_zero]
theorem more_eq (r : Nat) (hr : r < 4294967296) (s : List UInt8) : rmore r s = cmore r s := by
  have h := rest_bits (bitsOf s) r hr (bitsOf_le s)
  unfold rmore restN
  rw [addP_length, List.length_append, List.length_replicate, Nat.add_sub_cancel, h, cmore_bits s r hr]

/-! ### the low bit first -/
theorem or_eq_xor (o v : Nat) : (o * 2 % 4294967296 ||| v % 2) = (o * 2 % 4294967296) ^^^ (v % 2) := by
  apply Nat.eq_of_testBit_eq
  intro j
  rw [Nat.testBit_or, Nat.testBit_xor, tb_mul2, show v % 2 = v % 2 ^ 1 from rfl, Nat.testBit_mod_two_pow]
  by_cases h : 1 ≤ j
  · simp [h, show ¬ j < 1 by omega]
  · simp [h]
theorem trn_xor : ∀ (n v v' o o' : Nat), trn n (v ^^^ v') (o ^^^ o') = trn n v o ^^^ trn n v' o'
  | 0, _, _, _, _ => rfl
  | n + 1, v, v', o, o' => by
    simp only [trn]
    have h1 := shr_xor v v' 1
    simp only [Nat.pow_one] at h1
    have h2 : (v ^^^ v') % 2 = (v % 2) ^^^ (v' % 2) := by
      have := Nat.xor_mod_two_pow (a := v) (b := v') (n := 1)
      simpa using this
    rw [h1, or_eq_xor, or_eq_xor, or_eq_xor, h2, mul2_xor, ← trn_xor n]
    congr 1
    rw [Nat.xor_assoc, Nat.xor_assoc]
    congr 1
    rw [← Nat.xor_assoc, Nat.xor_comm (o' * 2 % 4294967296), Nat.xor_assoc]
theorem trn_fold : ∀ (n v o : Nat), n ≤ 32 → o < 2 ^ (32 - n) → trn n v o = ((List.range n).map fun i => v / 2 ^ i % 2).foldl (fun b x => b * 2 + x) o
  | 0, _, _, _, _ => rfl
  | n + 1, v, o, hn, ho => by
    have hp : (2 : Nat) ^ (32 - n) = 2 ^ (32 - (n + 1)) * 2 := by rw [← Nat.pow_succ]; congr 1; omega
    have hle : (2 : Nat) ^ (32 - n) ≤ 2 ^ 32 := Nat.pow_le_pow_right (by decide) (by omega)
    have e1 : o * 2 % 4294967296 = o * 2 := Nat.mod_eq_of_lt (by omega)
    have e2 : (o * 2 ||| v % 2) = o * 2 + v % 2 := by
      have h2 : v % 2 < 2 ^ 1 := by omega
      have := Nat.two_pow_add_eq_or_of_lt h2 o
      rw [Nat.mul_comm o 2]
      exact this.symm
    rw [trn, e1, e2, trn_fold n (v / 2) _ (by omega) (by omega), List.range_succ_eq_map, List.map_cons, List.foldl_cons, List.map_map]
    simp only [Nat.pow_zero, Nat.div_one]
    congr 1
    apply List.map_congr_left
    intro i _
    simp only [Function.comp, Nat.succ_eq_add_one]
    rw [Nat.pow_succ, Nat.mul_comm (2 ^ i) 2, ← Nat.div_div_eq_div_mul]
theorem bitsN_rev (n v : Nat) : (bitsN n v).reverse = (List.range n).map fun i => v / 2 ^ i % 2 := by
  apply List.ext_getElem
  · simp [bitsN]
  · intro i h1 h2
    simp only [List.length_reverse, bitsN_length] at h1
    simp [bitsN]
    rw [show n - 1 - (n - 1 - i) = i by omega]
theorem trn_num (n v : Nat) (hn : n ≤ 32) : numN (bitsN n v).reverse = trn n v 0 := by
  rw [bitsN_rev, trn_fold n v 0 hn (Nat.two_pow_pos _)]
  rfl
/-- the bytes turned -/
def turnB (s : List UInt8) : List UInt8 := s.map fun c => UInt8.ofNat (trn 8 c.toNat 0)
theorem u8_trn (v : Nat) : (UInt8.ofNat (trn 8 v 0)).toNat = trn 8 v 0 := by
  rw [UInt8.toNat_ofNat']
  exact Nat.mod_eq_of_lt (trn8_lt v)
theorem cieeeR_eq (s : List UInt8) : cieeeR s = cmore 4294967295 (turnB s) := by
  have h : ∀ (s : List UInt8) (r : Nat), s.foldl (fun r c => cnext r (trn 8 c.toNat 0)) r = cmore r (turnB s) := by
    intro s
    induction s with
    | nil => intro r; simp only [turnB, cmore, List.map_nil, List.foldl_nil]
    | cons c s ih =>
      intro r
      have e : cmore r (turnB (c :: s)) = cmore (cnext r (UInt8.ofNat (trn 8 c.toNat 0)).toNat) (turnB s) := rfl
      rw [e, u8_trn, List.foldl_cons]
      exact ih _
  exact h s 4294967295
theorem flat_getD (f : UInt8 → List Nat) (hf : ∀ c, (f c).length = 8) : ∀ (s : List UInt8) (i k : Nat) (hi : i < s.length), k < 8 → (s.flatMap f).getD (8 * i + k) 0 = (f s[i]).getD k 0
  | c :: s, 0, k, _, hk => by
    simp only [List.flatMap_cons, List.getD, List.getElem_cons_zero, Nat.mul_zero, Nat.zero_add]
    rw [List.getElem?_append_left (by rw [hf]; exact hk)]
  | c :: s, i + 1, k, hi, hk => by
    have ih := flat_getD f hf s i k (by simpa using hi) hk
    simp only [List.flatMap_cons, List.getD, List.getElem_cons_succ] at ih ⊢
    rw [List.getElem?_append_right (by rw [hf]; omega), hf, show 8 * (i + 1) + k - 8 = 8 * i + k by omega]
    exact ih
theorem text_rev (s : List UInt8) : textOf (s.flatMap fun c => (bits8 c.toNat).reverse) = turnB s := by
  have hf : ∀ c : UInt8, ((bits8 c.toNat).reverse).length = 8 := fun c => by rw [List.length_reverse, bits8_length]
  have hl : (s.flatMap fun c => (bits8 c.toNat).reverse).length = 8 * s.length := by
    induction s with
    | nil => rfl
    | cons c s ih => rw [List.flatMap_cons, List.length_append, ih, hf, List.length_cons]; omega
  apply List.ext_getElem
  · simp [textOf, hl, turnB]; omega
  · intro i h1 h2
    have hi : i < s.length := by simpa [turnB] using h2
    simp only [textOf, turnB, List.getElem_map, List.getElem_range]
    congr 1
    unfold byteOf
    rw [← trn_num 8 _ (by decide), ← bits8_eq, numN]
    have : (bits8 s[i].toNat).reverse = (List.range 8).map fun k => (s.flatMap fun c => (bits8 c.toNat).reverse).getD (8 * i + k) 0 := by
      apply List.ext_getElem
      · rw [hf]; simp
      · intro k h3 h4
        have hk : k < 8 := by simpa using h4
        simp only [List.getElem_map, List.getElem_range]
        rw [flat_getD _ hf s i k hi hk]
        simp [List.getD, h3]
        rw [List.getElem?_eq_getElem h3]
        simp
    rw [this, List.foldl_map]
theorem ieee_eq (s : List UInt8) : rieee s = cieee s := by
  unfold rieee cieee
  rw [text_rev, more_eq _ (by decide), trn_num 32 _ (by decide), cieeeR_eq]

/-! ### linear -/
theorem comp_xor (x : Nat) (h : x < 4294967296) : 4294967295 - x = 4294967295 ^^^ x := by
  have h1 : (BitVec.allOnes 32 ^^^ BitVec.ofNat 32 x).toNat = 4294967295 ^^^ x := by
    rw [BitVec.toNat_xor, BitVec.toNat_allOnes, BitVec.toNat_ofNat, Nat.mod_eq_of_lt (by exact h)]
  have h2 : (BitVec.allOnes 32 ^^^ BitVec.ofNat 32 x).toNat = 4294967295 - x := by
    rw [BitVec.allOnes_xor, BitVec.toNat_not, BitVec.toNat_ofNat, Nat.mod_eq_of_lt (by exact h)]
  rw [← h1, h2]
theorem cnext_xor (r r' b b' : Nat) (hr : r < 4294967296) (hr' : r' < 4294967296) : cnext (r ^^^ r') (b ^^^ b') = cnext r b ^^^ cnext r' b' := by
  rw [cnext_eq _ _ (Nat.xor_lt_two_pow (n := 32) hr hr'), cnext_eq _ _ hr, cnext_eq _ _ hr', ← citer_xor, shl_xor]
  congr 1
  rw [Nat.xor_assoc, Nat.xor_assoc]
  congr 1
  rw [← Nat.xor_assoc, Nat.xor_comm r', Nat.xor_assoc]
theorem cmore_mix : ∀ (a b : List UInt8) (r r' : Nat), a.length = b.length → r < 4294967296 → r' < 4294967296 → cmore (r ^^^ r') (mix a b) = cmore r a ^^^ cmore r' b
  | [], [], _, _, _, _, _ => rfl
  | x :: a, y :: b, r, r', hl, hr, hr' => by
    have ih := cmore_mix a b (cnext r x.toNat) (cnext r' y.toNat) (by simpa using hl) (cnext_lt _ _) (cnext_lt _ _)
    simp only [cmore, mix, List.zipWith_cons_cons, List.foldl_cons] at ih ⊢
    rw [UInt8.toNat_xor, cnext_xor r r' _ _ hr hr', ih]
  | [], _ :: _, _, _, h, _, _ => by simp at h
  | _ :: _, [], _, _, h, _, _ => by simp at h
theorem mix_len (a b : List UInt8) (h : a.length = b.length) : (mix a b).length = a.length := by simp [mix, h]
theorem bzip_lin (a b c : List UInt8) (h1 : a.length = b.length) (h2 : a.length = c.length) : cbzip (mix (mix a b) c) = cbzip a ^^^ cbzip b ^^^ cbzip c := by
  have hF : (4294967295 : Nat) < 4294967296 := by decide
  have h := cmore_mix (mix a b) c (4294967295 ^^^ 4294967295) 4294967295 (by rw [mix_len a b h1, h2]) (by decide) hF
  rw [cmore_mix a b _ _ h1 hF hF, Nat.xor_self, Nat.zero_xor] at h
  unfold cbzip
  rw [comp_xor _ (cmore_lt _ _ hF), comp_xor _ (cmore_lt _ _ hF), comp_xor _ (cmore_lt _ _ hF), comp_xor _ (cmore_lt _ _ hF), h]
  generalize cmore 4294967295 a = x
  generalize cmore 4294967295 b = y
  generalize cmore 4294967295 c = z
  apply Nat.eq_of_testBit_eq
  intro j
  simp only [Nat.testBit_xor]
  cases (4294967295 : Nat).testBit j <;> cases x.testBit j <;> cases y.testBit j <;> cases z.testBit j <;> rfl
theorem turnB_mix : ∀ (a b : List UInt8), turnB (mix a b) = mix (turnB a) (turnB b)
  | [], _ => rfl
  | _ :: _, [] => rfl
  | x :: a, y :: b => by
    have ih := turnB_mix a b
    simp only [turnB, mix, List.zipWith_cons_cons, List.map_cons] at ih ⊢
    rw [ih]
    congr 1
    have := trn_xor 8 x.toNat y.toNat 0 0
    simp only [Nat.xor_zero] at this
    rw [UInt8.toNat_xor, this]
    apply UInt8.toNat_inj.1
    rw [UInt8.toNat_xor, u8_trn, u8_trn, UInt8.toNat_ofNat']
    exact Nat.mod_eq_of_lt (Nat.xor_lt_two_pow (n := 8) (trn8_lt _) (trn8_lt _))
theorem turnB_length (s : List UInt8) : (turnB s).length = s.length := by simp [turnB]
theorem ieee_lin (a b c : List UInt8) (h1 : a.length = b.length) (h2 : a.length = c.length) : cieee (mix (mix a b) c) = cieee a ^^^ cieee b ^^^ cieee c := by
  have e : ∀ s, cieee s = trn 32 (cbzip (turnB s)) 0 := fun s => by unfold cieee cbzip; rw [cieeeR_eq]
  rw [e, e, e, e, turnB_mix, turnB_mix, bzip_lin _ _ _ (by simpa [turnB_length] using h1) (by simpa [turnB_length] using h2)]
  have h3 := trn_xor 32 (cbzip (turnB a) ^^^ cbzip (turnB b)) (cbzip (turnB c)) 0 0
  have h4 := trn_xor 32 (cbzip (turnB a)) (cbzip (turnB b)) 0 0
  simp only [Nat.xor_zero] at h3 h4
  rw [h3, h4]
theorem cmore_append (r : Nat) (a b : List UInt8) : cmore r (a ++ b) = cmore (cmore r a) b := by simp [cmore]
end Go.Proofs.Ytfjaiokhpbddlaa
