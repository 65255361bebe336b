/-
  ustar, in plain words: headers. No program is spoken of.
-/
import Derived.Test.YtaoieiiggbpjeaaFieF
import Derived.Test.YtaoieiiggbpjeaaPthS
namespace Go.Proofs.Ytaoieiiggbpjeaa.Ust
open Fld
set_option linter.unusedSimpArgs false
set_option linter.unusedVariables false
abbrev By := List UInt8
structure Hd where
  path : By
  size : Int
  kind : Nat
  mode : Int
  time : Int
  link : By
  n0 : By
  n1 : By
  i0 : Int
  i1 : Int
  deriving DecidableEq
def hd0 : Hd := ⟨[], 0, 0, 0, 0, [], [], [], 0, 0⟩
def sl (s : By) (k n : Nat) : By := (s.drop k).take n
def lay (s : By) (n : Nat) : By := s ++ nul (n - s.length)
def oc (n : Int) (k : Nat) : By := octs n.toNat k ++ [0]
def magic : By := [117, 115, 116, 97, 114, 0, 48, 48]
theorem nul_len (n : Nat) : (nul n).length = n := by simp [nul]
theorem lay_len {s : By} {n : Nat} (h : s.length ≤ n) : (lay s n).length = n := by unfold lay; rw [List.length_append, nul_len]; omega
theorem oc_len (n : Int) (k : Nat) : (oc n k).length = k + 1 := by unfold oc; rw [List.length_append, octs_length]; rfl
/-- what stands ahead of the sum, the sum's place left out, and what stands behind it -/
def headL (h : Hd) (name : By) : List By := [lay name 100, oc h.mode 7, oc h.i0 7, oc h.i1 7, oc h.size 11, oc h.time 11]
def tailL (h : Hd) (pre : By) : List By := [[UInt8.ofNat h.kind], lay h.link 100, magic, lay h.n0 32, lay h.n1 32, oc 0 7 ++ oc 0 7, lay pre 155, nul 12]
def withS (h : Hd) (pre name s : By) : By := (headL h name).flatten ++ s ++ (tailL h pre).flatten
def hdSum (h : Hd) : Nat := sumTo (withS h (splitP h.path).1 (splitP h.path).2.1 (nul 8)) 512
def sumF (n : Nat) : By := octs n 6 ++ [0, 32]
def hdText (h : Hd) : By := withS h (splitP h.path).1 (splitP h.path).2.1 (sumF (hdSum h))
def mayK (k : Nat) : Prop := k = 48 ∨ k = 53 ∨ k = 120 ∨ k = 103
instance (k : Nat) : Decidable (mayK k) := by unfold mayK; infer_instance
def mayN (n : Int) (m : Int) : Prop := 0 ≤ n ∧ n ≤ m
instance (n m : Int) : Decidable (mayN n m) := by unfold mayN; infer_instance
def mayT (s : By) (m : Nat) : Prop := s.length ≤ m ∧ (0 : UInt8) ∉ s
instance (s : By) (m : Nat) : Decidable (mayT s m) := by unfold mayT; infer_instance
structure May (h : Hd) : Prop where
  kind : mayK h.kind
  path : (0 : UInt8) ∉ h.path
  link : mayT h.link 100
  n0 : mayT h.n0 31
  n1 : mayT h.n1 31
  mode : mayN h.mode 2097151
  i0 : mayN h.i0 2097151
  i1 : mayN h.i1 2097151
  size : mayN h.size 8589934591
  time : mayN h.time 8589934591
theorem may_iff (h : Hd) : May h ↔ mayK h.kind ∧ (0 : UInt8) ∉ h.path ∧ mayT h.link 100 ∧ mayT h.n0 31 ∧ mayT h.n1 31 ∧ mayN h.mode 2097151 ∧ mayN h.i0 2097151 ∧ mayN h.i1 2097151 ∧ mayN h.size 8589934591 ∧ mayN h.time 8589934591 :=
  ⟨fun ⟨a, b, c, d, e, f, g, i, j, k⟩ => ⟨a, b, c, d, e, f, g, i, j, k⟩, fun ⟨a, b, c, d, e, f, g, i, j, k⟩ => ⟨a, b, c, d, e, f, g, i, j, k⟩⟩
instance (h : Hd) : Decidable (May h) := decidable_of_iff _ (may_iff h).symm
def encH (h : Hd) : By × Nat :=
  if (splitP h.path).2.2 = false ∨ h.path = [] then ([], 140) else if May h then (hdText h, 0) else ([], 160)
/-! ### Reading -/
def pathD (s : By) : By := if cut (sl s 345 155) ≠ [] then cut (sl s 345 155) ++ [47] ++ cut (sl s 0 100) else cut (sl s 0 100)
def kindD (s : By) : Nat := if (s.getD 156 0).toNat = 0 then 48 else (s.getD 156 0).toNat
def hdD (s : By) : Hd := ⟨pathD s, (num (sl s 124 12)).1, kindD s, (num (sl s 100 8)).1, (num (sl s 136 12)).1, cut (sl s 157 100), cut (sl s 265 32), cut (sl s 297 32), (num (sl s 108 8)).1, (num (sl s 116 8)).1⟩
structure OkD (s : By) : Prop where
  len : s.length = 512
  magic : sl s 257 8 = magic
  mode : (num (sl s 100 8)).2 = 0
  i0 : (num (sl s 108 8)).2 = 0
  i1 : (num (sl s 116 8)).2 = 0
  size : (num (sl s 124 12)).2 = 0
  time : (num (sl s 136 12)).2 = 0
  sum : (num (sl s 148 8)).2 = 0
  sums : (num (sl s 148 8)).1 = sumTo s 512
  path : pathD s ≠ []
theorem okD_iff (s : By) : OkD s ↔ s.length = 512 ∧ sl s 257 8 = magic ∧ (num (sl s 100 8)).2 = 0 ∧ (num (sl s 108 8)).2 = 0 ∧ (num (sl s 116 8)).2 = 0 ∧ (num (sl s 124 12)).2 = 0 ∧ (num (sl s 136 12)).2 = 0 ∧ (num (sl s 148 8)).2 = 0 ∧ (num (sl s 148 8)).1 = sumTo s 512 ∧ pathD s ≠ [] :=
  ⟨fun ⟨a, b, c, d, e, f, g, i, j, k⟩ => ⟨a, b, c, d, e, f, g, i, j, k⟩, fun ⟨a, b, c, d, e, f, g, i, j, k⟩ => ⟨a, b, c, d, e, f, g, i, j, k⟩⟩
instance (s : By) : Decidable (OkD s) := decidable_of_iff _ (okD_iff s).symm
def decH (s : By) : Hd × Nat := if OkD s then (hdD s, 0) else (hd0, 160)
def zeroH (s : By) : Bool := decide (s.length = 512 ∧ ∀ c ∈ s, c = 0)
/-! ### What is read is what was laid -/
theorem sl_flatten : ∀ (L : List By) (i k n : Nat) (h : i < L.length), ((L.map List.length).take i).sum = k → (L[i]).length = n → sl L.flatten k n = L[i]
  | [], i, k, n, h, _, _ => by simp at h
  | a :: L, 0, k, n, h, hk, hn => by
    simp at hk hn
    subst hk hn
    simp [sl]
  | a :: L, i + 1, k, n, h, hk, hn => by
    simp only [List.map_cons, List.take_succ_cons, List.sum_cons] at hk
    have ih := sl_flatten L i (k - a.length) n (by simpa using h) (by omega) (by simpa using hn)
    have hle : a.length ≤ k := by omega
    simp only [List.getElem_cons_succ]
    rw [← ih]
    unfold sl
    rw [List.flatten_cons, List.drop_append, List.drop_of_length_le hle, List.nil_append]
theorem sumTo_congr {s t : By} : ∀ i, (∀ k, k < i → ¬ (148 ≤ k ∧ k < 156) → s.getD k 0 = t.getD k 0) → sumTo s i = sumTo t i
  | 0, _ => rfl
  | i + 1, h => by
    simp only [sumTo]
    rw [sumTo_congr i (fun k hk => h k (by omega))]
    split
    · rfl
    · rename_i hn
      rw [h i (by omega) hn]
theorem sumTo_mid {a b b' c : By} (ha : a.length = 148) (hb : b.length = 8) (hb' : b'.length = 8) (i : Nat) : sumTo (a ++ b ++ c) i = sumTo (a ++ b' ++ c) i := by
  apply sumTo_congr
  intro k hk hn
  simp only [List.getD_eq_getElem?_getD]
  by_cases h : k < 148
  · rw [List.append_assoc, List.append_assoc, List.getElem?_append_left (by omega), List.getElem?_append_left (by omega)]
  · rw [List.getElem?_append_right (by simp; omega), List.getElem?_append_right (by simp; omega)]
    simp only [List.length_append, ha, hb, hb']
theorem num_sum {n : Nat} (h : n / 8 ^ 6 = 0) : num (sumF n) = (n, 0) := by
  have e1 : (octs n 6 ++ [0, 32]).dropWhile (one 32 32) = octs n 6 ++ [0, 32] := by
    rw [octs_cons, List.cons_append, List.dropWhile_cons_of_neg]
    simp only [one, Bool.or_eq_true, decide_eq_true_eq]
    rw [dgtN (by omega)]
    omega
  have e2 : (octs n 6 ++ [0, 32]).takeWhile oct = octs n 6 := by
    rw [List.takeWhile_append_of_pos (fun a ha => octs_all _ _ a ha)]
    simp [oct]
  have e3 : (octs n 6 ++ [0, 32]).dropWhile oct = [0, 32] := by
    rw [List.dropWhile_append_of_pos (fun a ha => octs_all _ _ a ha)]
    decide
  unfold num sumF
  have hn : n ≤ 9007199254740992 := by
    have := Nat.div_eq_zero_iff.1 h
    omega
  simp only [e1, e2, e3, fold_octs _ _ h hn]
  rw [if_neg (by decide), if_neg (by omega)]
theorem num_oc {n : Int} {k : Nat} (hk : 1 ≤ k) (h0 : 0 ≤ n) (h : n.toNat / 8 ^ k = 0) (hn : n ≤ 9007199254740992) : num (oc n k) = (n.toNat, 0) := num_octs hk h (by omega)
theorem head_len (h : Hd) {name : By} (hn : name.length ≤ 100) : (headL h name).map List.length = [100, 8, 8, 8, 12, 12] := by
  simp only [headL, List.map_cons, List.map_nil, lay_len hn, oc_len]
theorem tail_len (h : Hd) {pre : By} (hp : pre.length ≤ 155) (h1 : h.link.length ≤ 100) (h2 : h.n0.length ≤ 32) (h3 : h.n1.length ≤ 32) : (tailL h pre).map List.length = [1, 100, 8, 32, 32, 16, 155, 12] := by
  simp only [tailL, List.map_cons, List.map_nil, lay_len hp, lay_len h1, lay_len h2, lay_len h3, List.length_append, oc_len, nul_len]
  rfl
theorem withS_flat (h : Hd) (pre name s : By) : withS h pre name s = (headL h name ++ [s] ++ tailL h pre).flatten := by simp [withS]
theorem cut_lay {s : By} (h : (0 : UInt8) ∉ s) (n : Nat) : cut (lay s n) = s := cut_nul (cut_none h) _
theorem sumTo_small (s : By) : sumTo s 512 / 8 ^ 6 = 0 := by
  have := sumTo_le s 512
  omega
theorem sumF_len (n : Nat) : (sumF n).length = 8 := by unfold sumF; rw [List.length_append, octs_length]; rfl
/-- a header's fields -/
theorem fields_of {h : Hd} {pre name s : By} (hm : May h) (hn : name.length ≤ 100) (hp : pre.length ≤ 155) (hs : s.length = 8) :
    (withS h pre name s).length = 512 ∧ ∀ (i k n : Nat), i < 15 → (([100, 8, 8, 8, 12, 12, 8, 1, 100, 8, 32, 32, 16, 155, 12] : List Nat).take i).sum = k → ([100, 8, 8, 8, 12, 12, 8, 1, 100, 8, 32, 32, 16, 155, 12] : List Nat)[i]? = some n → ∃ x, (headL h name ++ [s] ++ tailL h pre)[i]? = some x ∧ sl (withS h pre name s) k n = x := by
  have h1 := hm.link.1
  have h2 := hm.n0.1
  have h3 := hm.n1.1
  have hl : (headL h name ++ [s] ++ tailL h pre).map List.length = [100, 8, 8, 8, 12, 12, 8, 1, 100, 8, 32, 32, 16, 155, 12] := by
    rw [List.map_append, List.map_append, head_len h hn, tail_len h hp h1 (by omega) (by omega)]
    simp [hs]
  refine ⟨?_, fun i k n hi hk hx => ?_⟩
  · rw [withS_flat, List.length_flatten, hl]
    rfl
  · have hlen : (headL h name ++ [s] ++ tailL h pre).length = 15 := by simp [headL, tailL]
    have hi' : i < (headL h name ++ [s] ++ tailL h pre).length := by omega
    refine ⟨_, List.getElem?_eq_getElem hi', ?_⟩
    rw [withS_flat]
    refine sl_flatten _ i k n hi' (by rw [hl]; exact hk) ?_
    rw [← hl, List.getElem?_map, List.getElem?_eq_getElem hi'] at hx
    simpa using hx
theorem div_zero {n : Int} {k : Nat} {m : Int} (h : mayN n m) (hm : m < ((8 ^ k : Nat) : Int)) : n.toNat / 8 ^ k = 0 := Nat.div_eq_zero_iff.2 (.inr (by have := h.1; have := h.2; omega))
theorem getD_sl {s : By} {k : Nat} {x : UInt8} (h : sl s k 1 = [x]) : s.getD k 0 = x := by
  unfold sl at h
  rw [List.getD_eq_getElem?_getD]
  by_cases hk : k < s.length
  · rw [List.drop_eq_getElem_cons hk, List.take_succ_cons, List.take_zero] at h
    rw [List.getElem?_eq_getElem hk]
    simpa using h
  · rw [List.drop_of_length_le (by omega)] at h
    simp at h
theorem hdText_len {h : Hd} (hm : May h) (hs : (splitP h.path).2.2 = true) (hp : h.path ≠ []) : (hdText h).length = 512 := by
  obtain ⟨s1, s2, s3, s4, s5, s6, s7⟩ := splitP_ok hs hp
  exact (fields_of hm s1 s3 (sumF_len _)).1
theorem dec_enc {h : Hd} (hm : May h) (hs : (splitP h.path).2.2 = true) (hp : h.path ≠ []) : decH (hdText h) = (h, 0) := by
  obtain ⟨s1, s2, s3, s4, s5, s6, s7⟩ := splitP_ok hs hp
  obtain ⟨hlen, hf⟩ := fields_of (s := sumF (hdSum h)) hm s1 s3 (sumF_len _)
  have f0 := hf 0 0 100 (by decide) rfl rfl
  have f1 := hf 1 100 8 (by decide) rfl rfl
  have f2 := hf 2 108 8 (by decide) rfl rfl
  have f3 := hf 3 116 8 (by decide) rfl rfl
  have f4 := hf 4 124 12 (by decide) rfl rfl
  have f5 := hf 5 136 12 (by decide) rfl rfl
  have f6 := hf 6 148 8 (by decide) rfl rfl
  have f7 := hf 7 156 1 (by decide) rfl rfl
  have f8 := hf 8 157 100 (by decide) rfl rfl
  have f9 := hf 9 257 8 (by decide) rfl rfl
  have f10 := hf 10 265 32 (by decide) rfl rfl
  have f11 := hf 11 297 32 (by decide) rfl rfl
  have f13 := hf 13 345 155 (by decide) rfl rfl
  change ∃ x, some _ = some x ∧ _ at f0 f1 f2 f3 f4 f5 f6 f7 f8 f9 f10 f11 f13
  obtain ⟨_, e, f0⟩ := f0; cases e
  obtain ⟨_, e, f1⟩ := f1; cases e
  obtain ⟨_, e, f2⟩ := f2; cases e
  obtain ⟨_, e, f3⟩ := f3; cases e
  obtain ⟨_, e, f4⟩ := f4; cases e
  obtain ⟨_, e, f5⟩ := f5; cases e
  obtain ⟨_, e, f6⟩ := f6; cases e
  obtain ⟨_, e, f7⟩ := f7; cases e
  obtain ⟨_, e, f8⟩ := f8; cases e
  obtain ⟨_, e, f9⟩ := f9; cases e
  obtain ⟨_, e, f10⟩ := f10; cases e
  obtain ⟨_, e, f11⟩ := f11; cases e
  obtain ⟨_, e, f13⟩ := f13; cases e
  change sl (hdText h) _ _ = _ at f0 f1 f2 f3 f4 f5 f6 f7 f8 f9 f10 f11 f13
  change (hdText h).length = 512 at hlen
  have z1 : (0 : UInt8) ∉ (splitP h.path).2.1 := fun q => hm.path (s5 _ q)
  have z2 : (0 : UInt8) ∉ (splitP h.path).1 := fun q => hm.path (s4 _ q)
  have m1 := hm.mode
  have m2 := hm.i0
  have m3 := hm.i1
  have m4 := hm.size
  have m5 := hm.time
  have n1 : num (sl (hdText h) 100 8) = (h.mode.toNat, 0) := by rw [f1]; exact num_oc (by decide) m1.1 (div_zero m1 (by decide)) (by have := m1.2; omega)
  have n2 : num (sl (hdText h) 108 8) = (h.i0.toNat, 0) := by rw [f2]; exact num_oc (by decide) m2.1 (div_zero m2 (by decide)) (by have := m2.2; omega)
  have n3 : num (sl (hdText h) 116 8) = (h.i1.toNat, 0) := by rw [f3]; exact num_oc (by decide) m3.1 (div_zero m3 (by decide)) (by have := m3.2; omega)
  have n4 : num (sl (hdText h) 124 12) = (h.size.toNat, 0) := by rw [f4]; exact num_oc (by decide) m4.1 (div_zero m4 (by decide)) (by have := m4.2; omega)
  have n5 : num (sl (hdText h) 136 12) = (h.time.toNat, 0) := by rw [f5]; exact num_oc (by decide) m5.1 (div_zero m5 (by decide)) (by have := m5.2; omega)
  have n6 : num (sl (hdText h) 148 8) = (hdSum h, 0) := by rw [f6]; exact num_sum (sumTo_small _)
  have hsum : sumTo (hdText h) 512 = hdSum h := by
    unfold hdText hdSum withS
    refine sumTo_mid ?_ (sumF_len _) (nul_len 8) _
    rw [List.length_flatten, head_len h s1]
    rfl
  have hk : kindD (hdText h) = h.kind := by
    unfold kindD
    rw [getD_sl f7]
    have := hm.kind
    unfold mayK at this
    rcases this with e | e | e | e <;> rw [e] <;> rfl
  have hpa : pathD (hdText h) = h.path := by
    unfold pathD
    rw [f0, f13, cut_lay z1, cut_lay z2]
    exact s6
  have hok : OkD (hdText h) := ⟨hlen, f9, by rw [n1], by rw [n2], by rw [n3], by rw [n4], by rw [n5], by rw [n6], by rw [n6, hsum], by rw [hpa]; exact hp⟩
  unfold decH
  rw [if_pos hok]
  unfold hdD
  rw [hpa, hk, n1, n2, n3, n4, n5, f8, f10, f11, cut_lay hm.link.2, cut_lay hm.n0.2, cut_lay hm.n1.2]
  simp only [Int.toNat_of_nonneg m1.1, Int.toNat_of_nonneg m2.1, Int.toNat_of_nonneg m3.1, Int.toNat_of_nonneg m4.1, Int.toNat_of_nonneg m5.1]
theorem enc_ok {h : Hd} (he : (encH h).2 = 0) : (splitP h.path).2.2 = true ∧ h.path ≠ [] ∧ May h ∧ encH h = (hdText h, 0) := by
  unfold encH at he ⊢
  split at he
  · exact absurd he (by decide)
  · rename_i h1
    rw [if_neg h1]
    split at he
    · rename_i h2
      rw [if_pos h2]
      rw [not_or] at h1
      exact ⟨by simpa using h1.1, h1.2, h2, rfl⟩
    · exact absurd he (by decide)
theorem enc_no {h : Hd} (he : (encH h).2 ≠ 0) : (encH h).1 = [] := by
  unfold encH at he ⊢
  split
  · rfl
  · split
    · rename_i h1 h2
      rw [if_neg h1, if_pos h2] at he
      exact absurd rfl he
    · rfl
theorem sl_set {s : By} {k at_ n : Nat} {v : UInt8} (h : at_ < k ∨ k + n ≤ at_) : sl (s.set at_ v) k n = sl s k n := by
  unfold sl
  apply List.ext_getElem?
  intro i
  by_cases hi : i < n
  · rw [List.getElem?_take_of_lt hi, List.getElem?_take_of_lt hi, List.getElem?_drop, List.getElem?_drop, List.getElem?_set_ne (by omega)]
  · rw [List.getElem?_eq_none (by simp; omega), List.getElem?_eq_none (by simp; omega)]
/-- a byte that is not in the sum's place is turned -/
theorem dec_turned {h : Hd} (hm : May h) (hs : (splitP h.path).2.2 = true) (hp : h.path ≠ []) {k : Nat} (hk : k < 512) (hn : ¬ (148 ≤ k ∧ k < 156)) {v : UInt8} (hv : v.toNat ≠ ((hdText h).getD k 0).toNat) : decH ((hdText h).set k v) = (hd0, 160) := by
  have hd := dec_enc hm hs hp
  have hok : OkD (hdText h) := by
    unfold decH at hd
    split at hd
    · assumption
    · exact absurd (congrArg Prod.snd hd) (show ¬ (160 : Nat) = 0 by decide)
  unfold decH
  rw [if_neg]
  intro ho
  have h1 := ho.sums
  rw [sl_set (by omega), hok.sums, sum_set hok.len hk v hv] at h1
  exact hn h1
theorem not_zero {h : Hd} (hm : May h) (hs : (splitP h.path).2.2 = true) (hp : h.path ≠ []) : zeroH (hdText h) = false := by
  have hd := dec_enc hm hs hp
  have hok : OkD (hdText h) := by
    unfold decH at hd
    split at hd
    · assumption
    · exact absurd (congrArg Prod.snd hd) (show ¬ (160 : Nat) = 0 by decide)
  refine decide_eq_false fun hz => ?_
  have hmem : (117 : UInt8) ∈ sl (hdText h) 257 8 := by rw [hok.magic]; simp [magic]
  have := hz.2 _ (List.mem_of_mem_drop (List.mem_of_mem_take hmem))
  exact absurd this (by decide)
theorem names {a b : Hd} (ha : (encH a).2 = 0) (hb : (encH b).2 = 0) : (encH a).1 = (encH b).1 ↔ a = b := by
  obtain ⟨a1, a2, a3, a4⟩ := enc_ok ha
  obtain ⟨b1, b2, b3, b4⟩ := enc_ok hb
  rw [a4, b4]
  constructor
  · intro h
    have h' : hdText a = hdText b := h
    have := dec_enc a3 a1 a2
    rw [h', dec_enc b3 b1 b2] at this
    exact (Prod.mk.inj this).1.symm
  · rintro rfl; rfl
end Go.Proofs.Ytaoieiiggbpjeaa.Ust
