/-
  crc: the sums, as numbers. No program is spoken of.
-/
namespace Go.Proofs.Ytfjaiokhpbddlaa
/-- the low bits turned -/
def trn : Nat → Nat → Nat → Nat
  | 0, _, out => out
  | n + 1, v, out => trn n (v / 2) ((out * 2) % 4294967296 ||| v % 2)
def cstep (r : Nat) : Nat := if r &&& 2147483648 ≠ 0 then (r * 2 % 4294967296) ^^^ 79764919 else r * 2 % 4294967296
def citer : Nat → Nat → Nat
  | 0, r => r
  | k + 1, r => cstep (citer k r)
theorem citer_succ (k r : Nat) : citer (k + 1) r = cstep (citer k r) := rfl
def ctab (i : Nat) : Nat := citer 8 (i * 16777216)
def cnext (r b : Nat) : Nat := (r * 256 % 4294967296) ^^^ ctab ((r / 16777216) ^^^ b)
def cmore (r : Nat) (s : List UInt8) : Nat := s.foldl (fun r c => cnext r c.toNat) r
def cbzip (s : List UInt8) : Nat := 4294967295 - cmore 4294967295 s
def cieeeR (s : List UInt8) : Nat := s.foldl (fun r c => cnext r (trn 8 c.toNat 0)) 4294967295
def cieee (s : List UInt8) : Nat := trn 32 (4294967295 - cieeeR s) 0
def crot (c x : Nat) : Nat := ((c * 2 % 4294967296) ||| c / 2147483648) ^^^ x
def cstream (l : List Nat) : Nat := l.foldl crot 0
/-! ### The reference's lists of bits -/
def bits8 (b : Nat) : List Nat := (List.range 8).map fun j => b / 2 ^ (7 - j) % 2
def bitsOf (l : List UInt8) : List Nat := l.flatMap fun b => bits8 b.toNat
theorem bits8_length (b : Nat) : (bits8 b).length = 8 := by simp [bits8]
theorem bitsOf_length : ∀ l, (bitsOf l).length = 8 * l.length
  | [] => rfl
  | b :: l => by
    have := bitsOf_length l
    simp only [bitsOf] at this ⊢
    rw [List.flatMap_cons, List.length_append, bits8_length, this, List.length_cons]; omega
theorem bits8_snoc (b j : Nat) (hj : j < 8) : (bits8 b).take (j + 1) = (bits8 b).take j ++ [b / 2 ^ (7 - j) % 2] := by
  rw [List.take_add_one]; simp [bits8, hj]
theorem bitsOf_snoc (l : List UInt8) (c : UInt8) : bitsOf (l ++ [c]) = bitsOf l ++ bits8 c.toNat := by simp [bitsOf]
theorem take_snoc {α : Type} (l : List α) (k : Nat) (h : k < l.length) : l.take (k + 1) = l.take k ++ [l[k]] := by
  rw [List.take_add_one]; simp [h]
theorem bits8_le (b : Nat) : ∀ x ∈ bits8 b, x ≤ 1 := by
  intro x hx
  obtain ⟨j, _, rfl⟩ := List.mem_map.1 hx
  omega
theorem bitsOf_le (l : List UInt8) : ∀ x ∈ bitsOf l, x ≤ 1 := by
  intro x hx
  obtain ⟨b, _, h⟩ := List.mem_flatMap.1 hx
  exact bits8_le _ x h
def bitsN (n v : Nat) : List Nat := (List.range n).map fun i => v / 2 ^ (n - 1 - i) % 2
theorem bitsN_length (n v : Nat) : (bitsN n v).length = n := by simp [bitsN]
theorem bitsN_get (n v i : Nat) (h : i < n) : (bitsN n v)[i]? = some (v / 2 ^ (n - 1 - i) % 2) := by simp [bitsN, h]
theorem bitsN_le (n v : Nat) : ∀ x ∈ bitsN n v, x ≤ 1 := by
  intro x hx
  obtain ⟨j, _, rfl⟩ := List.mem_map.1 hx
  omega
def numN (l : List Nat) : Nat := l.foldl (fun v x => v * 2 + x) 0
theorem numN_snoc (l : List Nat) (x : Nat) : numN (l ++ [x]) = numN l * 2 + x := by simp [numN]
theorem foldl_bits_lt : ∀ (l : List Nat) (v : Nat), (∀ x ∈ l, x ≤ 1) → l.foldl (fun v x => v * 2 + x) v < (v + 1) * 2 ^ l.length
  | [], v, _ => by simp
  | x :: l, v, h => by
    have ih := foldl_bits_lt l (v * 2 + x) (fun y hy => h y (by simp [hy]))
    have hx := h x (by simp)
    have h1 : (v * 2 + x + 1) * 2 ^ l.length ≤ (v * 2 + 2) * 2 ^ l.length := Nat.mul_le_mul_right _ (by omega)
    have h2 : (v + 1) * 2 ^ (x :: l).length = (v * 2 + 2) * 2 ^ l.length := by
      rw [List.length_cons, Nat.pow_succ, Nat.mul_comm (2 ^ l.length) 2, ← Nat.mul_assoc]
      congr 1
      omega
    rw [h2, List.foldl_cons]
    omega
theorem numN_lt (l : List Nat) (h : ∀ x ∈ l, x ≤ 1) : numN l < 2 ^ l.length := by
  have := foldl_bits_lt l 0 h
  simpa [numN] using this
def addP : List Nat → List Nat → List Nat
  | l, [] => l
  | [], _ :: _ => []
  | x :: l, q :: p => (x + q) % 2 :: addP l p
def polyP : List Nat := bitsN 33 4374732215
def divStep (l : List Nat) : List Nat := match l with
  | [] => []
  | x :: r => if x = 1 then (addP (x :: r) polyP).tail else r
def divB : Nat → List Nat → List Nat
  | 0, l => l
  | n + 1, l => divB n (divStep l)
/-- what a division leaves -/
def restN (l : List Nat) : List Nat := divB (l.length - 32) l
def rmore (r : Nat) (s : List UInt8) : Nat := numN (restN (addP (bitsOf s ++ List.replicate 32 0) (bitsN 32 r)))
theorem addP_get : ∀ (l p : List Nat) (j : Nat), (addP l p)[j]? = (l[j]?).map fun x => match p[j]? with | some q => (x + q) % 2 | none => x
  | l, [], j => by cases h : l[j]? <;> simp [addP, h]
  | [], _ :: _, j => by simp [addP]
  | x :: l, q :: p, 0 => by simp [addP]
  | x :: l, q :: p, j + 1 => by simpa [addP] using addP_get l p j
theorem addP_length (l p : List Nat) : (addP l p).length = l.length := by
  induction l generalizing p with
  | nil => cases p <;> simp [addP]
  | cons x l ih => cases p <;> simp [addP, ih]
theorem addP_le (l p : List Nat) (h : ∀ x ∈ l, x ≤ 1) : ∀ x ∈ addP l p, x ≤ 1 := by
  induction l generalizing p with
  | nil => cases p <;> simp [addP]
  | cons x l ih =>
    cases p with
    | nil => simpa [addP] using h
    | cons q p =>
      intro y hy
      simp only [addP, List.mem_cons] at hy
      rcases hy with rfl | hy
      · omega
      · exact ih p (fun z hz => h z (by simp [hz])) y hy
theorem divStep_length (l : List Nat) : (divStep l).length = l.length - 1 := by
  unfold divStep
  cases l with
  | nil => rfl
  | cons x r =>
    simp only
    split
    · rw [List.length_tail, addP_length]
    · simp
theorem divStep_le (l : List Nat) (h : ∀ x ∈ l, x ≤ 1) : ∀ x ∈ divStep l, x ≤ 1 := by
  unfold divStep
  cases l with
  | nil => simp
  | cons x r =>
    simp only
    split
    · exact fun y hy => addP_le _ _ h y (List.mem_of_mem_tail hy)
    · exact fun y hy => h y (by simp [hy])
theorem divB_length : ∀ (n : Nat) (l : List Nat), (divB n l).length = l.length - n
  | 0, l => rfl
  | n + 1, l => by rw [divB, divB_length n, divStep_length]; omega
theorem divB_le : ∀ (n : Nat) (l : List Nat), (∀ x ∈ l, x ≤ 1) → ∀ x ∈ divB n l, x ≤ 1
  | 0, l, h => h
  | n + 1, l, h => by rw [divB]; exact divB_le n _ (divStep_le l h)
theorem restN_length (l : List Nat) (h : 32 ≤ l.length) : (restN l).length = 32 := by rw [restN, divB_length]; omega
theorem restN_le (l : List Nat) (h : ∀ x ∈ l, x ≤ 1) : ∀ x ∈ restN l, x ≤ 1 := divB_le _ _ h
theorem polyP_length : polyP.length = 33 := bitsN_length _ _
theorem polyP_le : ∀ x ∈ polyP, x ≤ 1 := bitsN_le _ _
/-- a part of a sum, cell by cell -/
theorem addP_part {d e p : List Nat} {i : Nat} (he : ∀ j, e[j]? = (d[j]?).map fun x => if i ≤ j ∧ j < i + p.length then (x + p.getD (j - i) 0) % 2 else x) : e.drop i = addP (d.drop i) p := by
  apply List.ext_getElem?
  intro j
  rw [List.getElem?_drop, he, addP_get, List.getElem?_drop]
  cases h : d[i + j]? with
  | none => rfl
  | some x =>
    simp only [Option.map_some]
    by_cases hj : j < p.length
    · rw [if_pos ⟨by omega, by omega⟩, show i + j - i = j by omega]
      simp [hj, List.getD]
    · rw [if_neg (by omega)]
      simp [List.getElem?_eq_none (Nat.le_of_not_lt hj)]
theorem cstep_lt (r : Nat) : cstep r < 4294967296 := by
  unfold cstep
  split
  · exact Nat.xor_lt_two_pow (n := 32) (by omega) (by omega)
  · omega
theorem ctab_lt (i : Nat) : ctab i < 4294967296 := cstep_lt _
theorem cnext_lt (r b : Nat) : cnext r b < 4294967296 := Nat.xor_lt_two_pow (n := 32) (by omega) (ctab_lt _)
theorem cmore_lt (r : Nat) (s : List UInt8) (h : r < 4294967296) : cmore r s < 4294967296 := by
  unfold cmore
  induction s generalizing r with
  | nil => exact h
  | cons c s ih => exact ih _ (cnext_lt _ _)
theorem cmore_snoc (r : Nat) (s : List UInt8) (c : UInt8) : cmore r (s ++ [c]) = cnext (cmore r s) c.toNat := by simp [cmore]
theorem trn_lt : ∀ n v o, o < 4294967296 → trn n v o < 4294967296
  | 0, _, _, h => h
  | n + 1, v, o, h => by
    unfold trn
    exact trn_lt n _ _ (Nat.or_lt_two_pow (n := 32) (by omega) (by omega))
theorem trn_small : ∀ n v o j, o < 2 ^ j → j + n ≤ 32 → trn n v o < 2 ^ (j + n)
  | 0, _, _, _, h, _ => h
  | n + 1, v, o, j, h, hj => by
    unfold trn
    have hp : 2 ^ (j + 1) ≤ 2 ^ 32 := Nat.pow_le_pow_right (by decide) (by omega)
    have h2 : 2 ^ (j + 1) = 2 * 2 ^ j := by rw [Nat.pow_succ, Nat.mul_comm]
    have hm : o * 2 % 4294967296 < 2 ^ (j + 1) := by
      have := Nat.mod_le (o * 2) 4294967296
      omega
    have h1 : 1 ≤ 2 ^ j := Nat.one_le_two_pow
    have := trn_small n (v / 2) (o * 2 % 4294967296 ||| v % 2) (j + 1) (Nat.or_lt_two_pow hm (by omega)) (by omega)
    rwa [show j + 1 + n = j + (n + 1) by omega] at this
theorem trn8_lt (v : Nat) : trn 8 v 0 < 256 := trn_small 8 v 0 0 (by decide) (by decide)
theorem cieeeR_lt (s : List UInt8) : cieeeR s < 4294967296 := by
  unfold cieeeR
  generalize h : 4294967295 = r
  have hr : r < 4294967296 := by omega
  clear h
  induction s generalizing r with
  | nil => exact hr
  | cons c s ih => exact ih _ (cnext_lt _ _)
theorem cieeeR_snoc (s : List UInt8) (c : UInt8) : cieeeR (s ++ [c]) = cnext (cieeeR s) (trn 8 c.toNat 0) := by simp [cieeeR]
theorem crot_lt (c x : Nat) (hx : x < 4294967296) (hc : c < 4294967296) : crot c x < 4294967296 :=
  Nat.xor_lt_two_pow (n := 32) (Nat.or_lt_two_pow (n := 32) (by omega) (by omega)) hx
theorem cstream_snoc (l : List Nat) (x : Nat) : cstream (l ++ [x]) = crot (cstream l) x := by simp [cstream]
theorem cstream_lt (l : List Nat) (h : ∀ x ∈ l, x < 4294967296) : cstream l < 4294967296 := by
  unfold cstream
  have : ∀ (l : List Nat) (c : Nat), c < 4294967296 → (∀ x ∈ l, x < 4294967296) → l.foldl crot c < 4294967296 := by
    intro l
    induction l with
    | nil => intro c hc _; exact hc
    | cons x l ih => intro c hc h; exact ih _ (crot_lt c x (h x (by simp)) hc) (fun y hy => h y (by simp [hy]))
  exact this l 0 (by omega) h
/-- the reference's stream -/
def rrot (c x : Nat) : Nat := (c % 2147483648 * 2 + c / 2147483648) ^^^ x
theorem rrot_eq (c x : Nat) (hc : c < 4294967296) : rrot c x = crot c x := by
  unfold rrot crot
  congr 1
  have h1 : c * 2 % 4294967296 = c % 2147483648 * 2 := by omega
  rw [h1]
  have h2 : c / 2147483648 < 2 ^ 1 := by omega
  have := Nat.two_pow_add_eq_or_of_lt h2 (c % 2147483648)
  rw [show c % 2147483648 * 2 = 2 ^ 1 * (c % 2147483648) by omega]
  exact this
/-- bits in bytes -/
def byteOf (l : List Nat) (i : Nat) : Nat := (List.range 8).foldl (fun b k => b * 2 + l.getD (i + k) 0) 0
def textOf (l : List Nat) : List UInt8 := (List.range ((l.length + 7) / 8)).map fun i => UInt8.ofNat (byteOf l (8 * i))
/-- the reference's sum of IEEE -/
def rieee (s : List UInt8) : Nat :=
  numN (bitsN 32 (4294967295 - rmore 4294967295 (textOf (s.flatMap fun c => (bits8 c.toNat).reverse)))).reverse
def mix (a b : List UInt8) : List UInt8 := List.zipWith (fun x y => x ^^^ y) a b
end Go.Proofs.Ytfjaiokhpbddlaa
