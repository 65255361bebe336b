/-
  record, in plain words: a record with another byte is none. No program is spoken of.
-/
import Derived.Test.YtfjaiokhpbddlaaRecM
namespace Go.Proofs.Ytfjaiokhpbddlaa.Rec
open Go.Proofs.Ytfjaiokhpbddlaa Pth
set_option linter.unusedSimpArgs false
set_option linter.unusedVariables false
theorem xor_zero_eq {a b : Nat} (h : a ^^^ b = 0) : a = b := by
  have h1 : a ^^^ b ^^^ b = 0 ^^^ b := by rw [h]
  rw [Nat.xor_assoc, Nat.xor_self, Nat.xor_zero, Nat.zero_xor] at h1
  exact h1
theorem cstep_zero {r : Nat} (hr : r < 4294967296) (h : cstep r = 0) : r = 0 := by
  unfold cstep at h
  split at h
  · have h1 := xor_zero_eq h
    omega
  · rename_i h2
    have h3 : r &&& 2147483648 = 0 := by simpa using h2
    have h4 : r.testBit 31 = false := by
      have : (r &&& 2 ^ 31).testBit 31 = (0 : Nat).testBit 31 := congrArg (Nat.testBit · 31) h3
      rw [Nat.testBit_and, Nat.testBit_two_pow_self] at this
      simpa using this
    rw [Nat.testBit_eq_decide_div_mod_eq] at h4
    simp at h4
    omega
theorem citer_lt {r : Nat} (hr : r < 4294967296) : ∀ k, citer k r < 4294967296
  | 0 => hr
  | k + 1 => cstep_lt _
theorem citer_zero {r : Nat} (hr : r < 4294967296) : ∀ k, citer k r = 0 → r = 0
  | 0, h => h
  | k + 1, h => citer_zero hr k (cstep_zero (citer_lt hr k) h)
theorem cnext_zero {r b : Nat} (hr : r < 4294967296) (hb : b < 256) (h : cnext r b = 0) : r = b * 16777216 := by
  rw [cnext_eq r b hr] at h
  exact xor_zero_eq (citer_zero (Nat.xor_lt_two_pow (n := 32) hr (by omega)) 8 h)
theorem cnext_inj_r {r r' b : Nat} (hr : r < 4294967296) (hr' : r' < 4294967296) (h : cnext r b = cnext r' b) : r = r' := by
  have h1 := cnext_xor r r' b b hr hr'
  rw [h, Nat.xor_self, Nat.xor_self] at h1
  exact xor_zero_eq (by simpa using cnext_zero (Nat.xor_lt_two_pow (n := 32) hr hr') (by decide) h1)
theorem cnext_inj_b {r b b' : Nat} (hr : r < 4294967296) (hb : b < 256) (hb' : b' < 256) (h : cnext r b = cnext r b') : b = b' := by
  have h1 := cnext_xor r r b b' hr hr
  rw [h, Nat.xor_self, Nat.xor_self] at h1
  have h2 := cnext_zero (by decide) (Nat.xor_lt_two_pow (n := 8) hb hb') h1
  exact xor_zero_eq (by omega)
theorem fold_zero : ∀ (l : List Nat) (o : Nat), l.foldl (fun b x => b * 2 + x) o = 0 → o = 0 ∧ ∀ x ∈ l, x = 0
  | [], o, h => ⟨h, by simp⟩
  | x :: l, o, h => by
    obtain ⟨h1, h2⟩ := fold_zero l (o * 2 + x) h
    refine ⟨by omega, fun y hy => ?_⟩
    rcases List.mem_cons.1 hy with rfl | hy
    · omega
    · exact h2 y hy
theorem bits_zero (v : Nat) : ∀ n, v < 2 ^ n → (∀ i, i < n → v / 2 ^ i % 2 = 0) → v = 0
  | 0, h, _ => by simpa using h
  | n + 1, h, hb => by
    have h1 : v / 2 ^ n % 2 = 0 := hb n (by omega)
    have hp : 0 < 2 ^ n := Nat.two_pow_pos n
    have h2 : v / 2 ^ n < 2 := by rw [Nat.div_lt_iff_lt_mul hp, Nat.mul_comm, ← Nat.pow_succ]; exact h
    refine bits_zero v n ?_ fun i hi => hb i (by omega)
    have h3 : v / 2 ^ n = 0 := by
      generalize v / 2 ^ n = q at h1 h2
      omega
    exact (Nat.div_eq_zero_iff_lt hp).1 h3
theorem trn_zero {n v : Nat} (hn : n ≤ 32) (hv : v < 2 ^ n) (h : trn n v 0 = 0) : v = 0 := by
  rw [trn_fold n v 0 hn (Nat.two_pow_pos _)] at h
  obtain ⟨_, h2⟩ := fold_zero _ _ h
  exact bits_zero v n hv fun i hi => h2 _ (List.mem_map.2 ⟨i, List.mem_range.2 hi, rfl⟩)
theorem trn_inj {n v v' : Nat} (hn : n ≤ 32) (hv : v < 2 ^ n) (hv' : v' < 2 ^ n) (h : trn n v 0 = trn n v' 0) : v = v' := by
  have h1 := trn_xor n v v' 0 0
  rw [h, Nat.xor_self, Nat.xor_self] at h1
  exact xor_zero_eq (trn_zero hn (Nat.xor_lt_two_pow hv hv') h1)
def cfold (r : Nat) (s : List UInt8) : Nat := s.foldl (fun r c => cnext r (trn 8 c.toNat 0)) r
theorem cfold_lt : ∀ (s : List UInt8) {r : Nat}, r < 4294967296 → cfold r s < 4294967296
  | [], r, h => h
  | c :: s, r, _ => cfold_lt s (cnext_lt _ _)
theorem cfold_inj : ∀ (s : List UInt8) {r r' : Nat}, r < 4294967296 → r' < 4294967296 → cfold r s = cfold r' s → r = r'
  | [], _, _, _, _, h => h
  | c :: s, r, r', h, h', e => cnext_inj_r h h' (cfold_inj s (cnext_lt _ _) (cnext_lt _ _) e)
theorem set_parts {α : Type} (s : List α) (j : Nat) (x : α) (h : j < s.length) : s.set j x = s.take j ++ x :: s.drop (j + 1) := by
  rw [List.set_eq_take_append_cons_drop, if_pos h]
/-- texts that differ in one byte have unlike sums -/
theorem ieee_set {s : List UInt8} {j : Nat} (hj : j < s.length) {x : UInt8} (h : cieee (s.set j x) = cieee s) : x = s[j] := by
  have e1 : s = s.take j ++ s[j] :: s.drop (j + 1) := by rw [← set_parts s j s[j] hj, List.set_getElem_self]
  have hF : (4294967295 : Nat) < 4294967296 := by decide
  have key : ∀ y, cieeeR (s.take j ++ y :: s.drop (j + 1)) = cfold (cnext (cfold 4294967295 (s.take j)) (trn 8 y.toNat 0)) (s.drop (j + 1)) := fun y => by
    unfold cieeeR cfold
    rw [List.foldl_append, List.foldl_cons]
  unfold cieee at h
  have h1 := trn_inj (n := 32) (by decide) (by have := cieeeR_lt (s.set j x); omega) (by have := cieeeR_lt s; omega) h
  have h2 : cieeeR (s.set j x) = cieeeR s := by have := cieeeR_lt (s.set j x); have := cieeeR_lt s; omega
  rw [set_parts s j x hj, key] at h2
  have h3 : cieeeR s = cfold (cnext (cfold 4294967295 (s.take j)) (trn 8 s[j].toNat 0)) (s.drop (j + 1)) := by
    have := key s[j]
    rw [← e1] at this
    exact this
  rw [h3] at h2
  have h4 := cfold_inj _ (cnext_lt _ _) (cnext_lt _ _) h2
  have h5 := cnext_inj_b (cfold_lt _ hF) (trn8_lt _) (trn8_lt _) h4
  have h6 := trn_inj (n := 8) (by decide) x.toNat_lt s[j].toNat_lt h5
  exact UInt8.toNat_inj.1 h6
theorem enc_text {k : Nat} {g i : Int} {d t : List UInt8} (h : encodeR k g i d = (t, 0)) : t = text k g.toNat i.toNat d ∧ d.length ≤ 486 := by
  unfold encodeR at h
  split at h
  · simp at h
  · rename_i hb
    simp only [Prod.mk.injEq, and_true] at h
    exact ⟨h.symm, (not_bad hb).2.2.2.2.2⟩
theorem be4_inj {a b : Nat} (ha : a < 4294967296) (hb : b < 4294967296) (h : be 4 a = be 4 b) : a = b := by
  have := congrArg nb h
  rwa [nb_be 4 a ha, nb_be 4 b hb] at this
theorem cieee_lt32 (s : List UInt8) : cieee s < 4294967296 := trn_lt _ _ _ (by decide)
/-- the sum stands behind what it is of -/
theorem text_sum {k g i : Nat} {d : List UInt8} (h : d.length ≤ 486) : (text k g i d).drop 508 = be 4 (cieee ((text k g i d).take 508)) := by
  have hl := body_length k g i d h
  unfold text
  rw [List.drop_left' hl, List.take_left' hl]
theorem turned {k : Nat} {g i : Int} {d t : List UInt8} (h : encodeR k g i d = (t, 0)) {j : Nat} (hj : j < t.length) {x : UInt8} (hx : x ≠ t[j]) : decodeR (t.set j x) = (R0, 200) := by
  obtain ⟨ht, hd⟩ := enc_text h
  unfold decodeR
  rw [if_neg]
  rintro ⟨h1, h2, h3⟩
  obtain ⟨ht', hd'⟩ := enc_text h3
  have hl : t.length = 512 := by rw [ht, text_length _ _ _ _ hd]
  have s1 : t.drop 508 = be 4 (cieee (t.take 508)) := by rw [ht]; exact text_sum hd
  have s2 : (t.set j x).drop 508 = be 4 (cieee ((t.set j x).take 508)) := by
    have := text_sum (k := (decR (t.set j x)).kind) (g := (decR (t.set j x)).gen.toNat) (i := (decR (t.set j x)).index.toNat) hd'
    rwa [← ht'] at this
  by_cases hj5 : j < 508
  · rw [List.drop_set_of_lt hj5, s1, List.take_set] at s2
    have h4 := be4_inj (cieee_lt32 _) (cieee_lt32 _) s2
    have h5 := ieee_set (s := t.take 508) (j := j) (by rw [List.length_take]; omega) h4.symm
    rw [List.getElem_take] at h5
    exact hx h5
  · rw [List.take_set_of_le (by omega), ← s1] at s2
    have h4 : (t.set j x).drop j = t.drop j := by
      have e : j = 508 + (j - 508) := by omega
      rw [e, ← List.drop_drop, ← List.drop_drop, ← e, s2]
    have h5 := congrArg List.head? h4
    rw [List.head?_drop, List.head?_drop, List.getElem?_set_self hj, List.getElem?_eq_getElem hj] at h5
    exact hx (Option.some.inj h5)
end Go.Proofs.Ytfjaiokhpbddlaa.Rec
