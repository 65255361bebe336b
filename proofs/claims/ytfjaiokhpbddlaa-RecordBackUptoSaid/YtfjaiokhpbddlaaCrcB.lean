/-
  crc: what the reference's functions compute.
-/
import Derived.Test.YtfjaiokhpbddlaaCrcA
namespace Go.Proofs.Ytfjaiokhpbddlaa
open Go.RowKit
set_option linter.unusedVariables false

theorem of_s (s : List UInt8) (hs : s.length ≤ 1000000) (w : World) :
    Ret Try.prog 40 [str s] w fun v w' => Own w' w.heap.size 3 1 v (8 * s.length) (ints .i64 (bitsOf s)) ∧ Ext w w' := by
  refine Ret.enter Try.func40 rfl Try.ntmps40 (by kernel_rfl) rfl ?_
  refine KW.seq (KW.region ?_)
  refine OW.val rfl rfl (EX.assign rfl) ?_
  refine OW.nil ?_
  refine KW.seq (KW.region ?_)
  refine OW.val rfl rfl (EX.assign rfl) ?_
  refine OW.nil ?_
  refine KW.seq (KW.seq (KW.region ?_))
  refine OW.val rfl rfl (EX.assign rfl) ?_
  refine OW.nil ?_
  refine KW.block ?_
  refine KW.loop3 (fun (k : Nat) (v : Value) (wr : World) => k ≤ s.length ∧ Own wr w.heap.size 3 1 v (8 * k) (ints .i64 (bitsOf (s.take k))) ∧ Ext w wr) (fun (k : Nat) (v : Value) (wr : World) => [(0, str (s)), (3, v), (4, .int .i64 ((k : Nat) : Int))]) (fun (k : Nat) (v : Value) (wr : World) => wr) (fun (k : Nat) (v : Value) (wr : World) => s.length - k) (0) (.slice none 0 0) (w) ⟨rfl, rfl, rfl, trivial⟩ rfl ?_ ?_
  · exact ⟨by omega, Own.nil _ _ _ _, Ext.refl w⟩
  · rintro k v wr ⟨hk, hown, hx⟩
    refine KW.seq (KW.seq (KW.region ?_))
    refine OW.val rfl rfl (EX.move rfl) ?_
    refine OW.val rfl rfl (EX.move rfl) ?_
    refine OW.val rfl rfl (EX.lenS Try.underlying9 rfl) ?_
    refine OW.val rfl rfl (by first | exact EX.lssN rfl rfl | exact EX.lssZ rfl rfl) ?_
    refine OW.nil ?_
    refine KW.condD rfl (fun h => ?_) (fun h => ?_)
    · refine KW.skip (KW.seq (KW.block (KW.seq (KW.region ?_))))
      refine OW.val rfl rfl (EX.assign rfl) ?_
      refine OW.nil ?_
      refine KW.block ?_
      have hc : s[k].toNat < 256 := s[k].toNat_lt
      refine KW.loop3 (fun (j : Nat) (v2 : Value) (w2 : World) => j ≤ 8 ∧ Own w2 w.heap.size 3 1 v2 (8 * k + j) (ints .i64 (bitsOf (s.take k) ++ (bits8 s[k].toNat).take j)) ∧ Ext w w2) (fun (j : Nat) (v2 : Value) (w2 : World) => [(0, str (s)), (3, v2), (4, .int .i64 ((k : Nat) : Int)), (5, .int .i64 ((7 - (j : Int)) : Int))]) (fun (j : Nat) (v2 : Value) (w2 : World) => w2) (fun (j : Nat) (v2 : Value) (w2 : World) => 8 - j) (0) (v) (wr) ⟨rfl, rfl, rfl, rfl, trivial⟩ rfl ?_ ?_
      · exact ⟨by omega, by simpa using hown, hx⟩
      · rintro j v2 w2 ⟨hj, hown2, hx2⟩
        refine KW.seq (KW.seq (KW.region ?_))
        refine OW.val rfl rfl (EX.move rfl) ?_
        refine OW.val rfl rfl (by first | exact EX.geqN (b := 0) rfl rfl | exact EX.geqZ rfl rfl) ?_
        refine OW.nil ?_
        refine KW.condD rfl (fun h2 => ?_) (fun h2 => ?_)
        · refine KW.as 5 (.int .i64 (((7 - j) : Nat) : Int)) rfl (by congr 1; omega) ?_
          refine KW.skip (KW.seq (KW.block (KW.region ?_)))
          refine OW.val rfl rfl (EX.move rfl) ?_
          refine OW.val rfl rfl (EX.move rfl) ?_
          refine OW.val rfl rfl (EX.move rfl) ?_
          refine OW.val rfl rfl (EX.indexS Try.underlying9 rfl rfl (List.getElem?_eq_getElem (by omega))) ?_
          refine OW.val rfl rfl (by first | exact EX.convN (m := 9223372036854775807) Try.underlying5 Try.underlying3 rfl rfl (by omega) | exact EX.convZ Try.underlying5 Try.underlying3 rfl) ?_
          refine OW.val rfl rfl (EX.move rfl) ?_
          refine OW.val rfl rfl (by first | exact EX.convN (m := 18446744073709551615) Try.underlying3 Try.underlying68 rfl rfl (by omega) | exact EX.convW (m := 18446744073709551616) Try.underlying3 Try.underlying68 rfl rfl (by decide) | exact EX.convZ Try.underlying3 Try.underlying68 rfl) ?_
          have hb : s[k].toNat / 2 ^ (7 - j) ≤ s[k].toNat := Nat.div_le_self _ _
          refine OW.val rfl rfl (EX.shrN rfl rfl rfl (by show 7 - j ≤ 64; omega)) ?_
          refine OW.val rfl rfl (EX.maskN (b := 1) (j := 1) (p := 2) (m := 9223372036854775807) rfl rfl (by decide) (by decide) rfl (by omega)) ?_
          refine OW.push rfl rfl (fun _ => rfl) rfl Try.underlying85 ti3 rfl rfl (fun _ => rfl) rfl (hx2) (hown2) (by simp only [maxLen]; omega) (by omega) ?_
          rintro _ v' w' hown' hx' _ _
          refine OW.val rfl rfl (EX.assign rfl) ?_
          refine OW.nil ?_
          refine KW.leave (KW.region ?_)
          refine OW.val rfl rfl (EX.move rfl) ?_
          refine OW.val rfl rfl (by first | exact EX.subN (b := 1) (m := 9223372036854775807) rfl rfl rfl (by omega) | exact EX.subZ (m := 9223372036854775807) rfl rfl rfl rfl (by omega)) ?_
          refine OW.val rfl rfl (EX.assign rfl) ?_
          refine OW.nil ?_
          refine KW.as 5 (.int .i64 ((7 - ((j + 1 : Nat) : Int)) : Int)) rfl (by congr 1; omega) ?_
          refine KW.back3 (j + 1) (v') (w') ⟨rfl, rfl, rfl, rfl, trivial⟩ rfl ?_ (by omega)
          refine ⟨by omega, ?_, hx'⟩
          rw [bits8_snoc _ _ (by omega), ← List.append_assoc, ints_append _ (bitsOf (s.take k) ++ _)]
          exact hown'
        · refine KW.exit rfl (KW.leave (KW.region ?_))
          refine OW.val rfl rfl (EX.move rfl) ?_
          refine OW.val rfl rfl (by first | exact EX.addN (b := 1) (m := 9223372036854775807) rfl rfl rfl (by omega) | exact EX.addZ (m := 9223372036854775807) rfl rfl rfl rfl (by omega)) ?_
          refine OW.val rfl rfl (EX.assign rfl) ?_
          refine OW.nil ?_
          obtain rfl : j = 8 := by omega
          refine KW.back3 (k + 1) (v2) (w2) ⟨rfl, rfl, rfl, trivial⟩ rfl ?_ (by omega)
          refine ⟨by omega, ?_, hx2⟩
          rw [take_snoc s k h, bitsOf_snoc]
          rw [List.take_of_length_le (l := bits8 s[k].toNat) (by rw [bits8_length]; exact Nat.le_refl _)] at hown2
          exact hown2
    · refine KW.exit rfl (KW.seq (KW.region ?_))
      refine OW.val rfl rfl (EX.move rfl) ?_
      refine OW.val rfl rfl (EX.assign rfl) ?_
      refine OW.nil ?_
      refine KW.ret (ret1 rfl rfl ?_)
      obtain rfl : k = s.length := by omega
      rw [List.take_length] at hown
      exact ⟨hown, hx⟩

theorem bits_s (v n : Nat) (hv : v < 18446744073709551616) (hn : n ≤ 64) (w : World) :
    Ret Try.prog 41 [.int .u64 v, .int .i64 n] w fun r w' => ∃ u, r = .tuple #[u, .bool (decide (v / 2 ^ n = 0))] ∧ Own w' w.heap.size 3 1 u n (ints .i64 (bitsN n v)) ∧ Ext w w' := by
  refine Ret.enter Try.func41 rfl Try.ntmps41 (by kernel_rfl) rfl ?_
  refine KW.seq (KW.region ?_)
  refine OW.val rfl rfl (EX.assign rfl) ?_
  refine OW.val rfl rfl (EX.assign rfl) ?_
  refine OW.nil ?_
  refine KW.seq (KW.seq ?_)
  refine KW.region ?_
  refine OW.val rfl rfl (EX.move rfl) ?_
  refine OW.val rfl rfl (by first | exact EX.lssN (b := 0) rfl rfl | exact EX.lssZ rfl rfl) ?_
  refine OW.val rfl rfl (EX.move rfl) ?_
  refine OW.as 10 (.bool false) rfl (congrArg Value.bool (decide_eq_false (by omega))) ?_
  refine OW.val rfl rfl (EX.move rfl) ?_
  refine OW.val rfl rfl (by first | exact EX.gtrN (b := 64) rfl rfl | exact EX.gtrZ rfl rfl) ?_
  refine OW.val rfl rfl (EX.pickF rfl rfl) ?_
  refine OW.nil ?_
  refine KW.as 13 (.bool false) rfl (congrArg Value.bool (decide_eq_false (by omega))) ?_
  refine KW.condF rfl (KW.skip (KW.seq (KW.region ?_)))
  refine OW.val rfl rfl (EX.move rfl) ?_
  refine OW.val rfl rfl (EX.makeSlice Try.underlying85 ti3 rfl rfl rfl (by omega) (by omega)) ?_
  refine OW.val rfl rfl (EX.assign rfl) ?_
  refine OW.nil ?_
  refine KW.seq (KW.seq (KW.region ?_))
  refine OW.val rfl rfl (EX.move rfl) ?_
  refine OW.val rfl rfl (by first | exact EX.subN (b := 1) (m := 9223372036854775807) rfl rfl rfl (by omega) | exact EX.subZ (m := 9223372036854775807) rfl rfl rfl rfl (by omega)) ?_
  refine OW.val rfl rfl (EX.assign rfl) ?_
  refine OW.nil ?_
  refine KW.block ?_
  have hmk := Own.of_bk (B := w.heap.size) (s := 1) (Bk.new w 3 (List.replicate n (.int .i64 0))) (Nat.le_refl _) (by simp) (cap := n) (by simp only [maxLen]; omega)
  refine KW.as 7 (.int .i64 (((n : Int) - 1 - ((0 : Nat) : Int)) : Int)) rfl (by simp) ?_
  refine KW.loop4 (fun (j : Nat) (x : Nat) (l : List Value) (wr : World) => j ≤ n ∧ x = v / 2 ^ j ∧ Own wr w.heap.size 3 1 (.slice (some ⟨w.heap.size, 0, none⟩) n n) n l ∧ (∀ i, n - j ≤ i → i < n → l[i]? = some (.int .i64 (v / 2 ^ (n - 1 - i) % 2 : Nat))) ∧ Ext w wr) (fun (j : Nat) (x : Nat) (l : List Value) (wr : World) => [(0, .int .u64 ((x : Nat) : Int)), (6, .slice (some ⟨w.heap.size, 0, none⟩) n n), (7, .int .i64 (((n : Int) - 1 - (j : Int)) : Int))]) (fun (j : Nat) (x : Nat) (l : List Value) (wr : World) => wr) (fun (j : Nat) (x : Nat) (l : List Value) (wr : World) => n - j) (0) (v) (List.replicate n (.int .i64 0)) (_) ⟨rfl, rfl, rfl, trivial⟩ rfl ?_ ?_
  · exact ⟨by omega, by simp, hmk, fun i h1 h2 => absurd h1 (by omega), Ext.alloc w _⟩
  · rintro j x l wr ⟨hj, hx, hown, hl, hext⟩
    have hxl : x ≤ v := by rw [hx]; exact Nat.div_le_self _ _
    refine KW.seq (KW.seq (KW.region ?_))
    refine OW.val rfl rfl (EX.move rfl) ?_
    refine OW.val rfl rfl (by first | exact EX.geqN (b := 0) rfl rfl | exact EX.geqZ rfl rfl) ?_
    refine OW.nil ?_
    refine KW.condD rfl (fun h => ?_) (fun h => ?_)
    · obtain ⟨i, hi⟩ : ∃ i, i = n - 1 - j := ⟨_, rfl⟩
      refine KW.as 7 (.int .i64 ((i : Nat) : Int)) rfl (by congr 1; omega) ?_
      refine KW.skip (KW.seq (KW.block (KW.seq (KW.region ?_))))
      refine OW.val rfl rfl (EX.move rfl) ?_
      refine OW.val rfl rfl (EX.move rfl) ?_
      refine OW.val rfl rfl (EX.move rfl) ?_
      refine OW.val rfl rfl (EX.remN (b := 2) rfl rfl (by omega)) ?_
      refine OW.val rfl rfl (by first | exact EX.convN (m := 9223372036854775807) Try.underlying56 Try.underlying3 rfl rfl (by omega) | exact EX.convZ Try.underlying56 Try.underlying3 rfl) ?_
      refine OW.val rfl rfl (by first | exact EX.indexAddrS0 Try.underlying85 ti3 rfl rfl (by omega) | exact EX.indexAddrS1 Try.underlying85 ti3 rfl rfl (by omega)) ?_
      obtain ⟨g', cap', rest, hve, _, hbk, _⟩ := hown.blk (by have := hown.1; omega)
      simp only [Value.slice.injEq, Option.some.injEq, Addr.mk.injEq, and_true, true_and] at hve
      obtain ⟨rfl, rfl⟩ := hve
      have hln : l.length = n := by have := hown.1; omega
      refine OW.eff rfl (EU.storeBk ti3 rfl rfl rfl (hbk) (by simp; omega)) ?_
      refine OW.nil ?_
      refine KW.region ?_
      refine OW.val rfl rfl (EX.move rfl) ?_
      refine OW.val rfl rfl (EX.quoN (b := 2) (m := 18446744073709551615) rfl rfl rfl (by omega)) ?_
      refine OW.val rfl rfl (EX.assign rfl) ?_
      refine OW.nil ?_
      refine KW.leave (KW.region ?_)
      refine OW.val rfl rfl (EX.move rfl) ?_
      refine OW.val rfl rfl (by first | exact EX.subN (b := 1) (m := 9223372036854775807) rfl rfl rfl (by omega) | exact EX.subZ (m := 9223372036854775807) rfl rfl rfl rfl (by omega)) ?_
      refine OW.val rfl rfl (EX.assign rfl) ?_
      refine OW.nil ?_
      have hset := hown.set i (by omega) (.int .i64 (x % 2 : Nat))
      refine KW.as 7 (.int .i64 (((n : Int) - 1 - ((j + 1 : Nat) : Int)) : Int)) rfl (by congr 1; omega) ?_
      refine KW.back4 (j + 1) (x / 2) (l.set i (.int .i64 (x % 2 : Nat))) (_) ⟨rfl, rfl, rfl, trivial⟩ rfl ?_ (by omega)
      refine ⟨by omega, by rw [hx, Nat.div_div_eq_div_mul, Nat.pow_succ], hset.1, fun i' h1 h2 => ?_, hext.grown hset.2 (fun g hg => by cases hg; exact Nat.le_refl _)⟩
      rcases Nat.lt_or_ge i i' with h3 | h3
      · rw [List.getElem?_set_ne (by omega)]; exact hl i' (by omega) h2
      · obtain rfl : i' = i := by omega
        rw [List.getElem?_set_self (by omega), hx, show n - 1 - i' = j by omega]
    · refine KW.exit rfl (KW.seq (KW.region ?_))
      refine OW.val rfl rfl (EX.move rfl) ?_
      refine OW.val rfl rfl (EX.move rfl) ?_
      refine OW.val rfl rfl (by first | exact EX.eqlN (b := 0) rfl rfl | exact EX.eqlZ rfl rfl) ?_
      refine OW.val rfl rfl (EX.assign rfl) ?_
      refine OW.val rfl rfl (EX.assign rfl) ?_
      refine OW.nil ?_
      refine KW.ret (ret2 rfl rfl rfl ?_)
      obtain rfl : j = n := by omega
      refine ⟨_, by rw [hx], ?_, hext⟩
      have : l = ints .i64 (bitsN j v) := by
        apply List.ext_getElem?
        intro i
        have hln : l.length = j := by have := hown.1; omega
        rcases Nat.lt_or_ge i j with h1 | h1
        · rw [hl i (by omega) h1]; simp [ints, bitsN_get _ _ _ h1]
        · rw [List.getElem?_eq_none (by omega), List.getElem?_eq_none (by simp [ints, bitsN_length]; omega)]
      rw [← this]
      exact hown

theorem ints_get {k : IntKind} {l : List Nat} {i : Nat} (h : i < l.length) : (ints k l)[i]? = some (.int k (l[i] : Nat)) := by simp [ints, h]

theorem number_s (l : List Nat) (A : Option Addr) (c : Nat) (hl : ∀ x ∈ l, x ≤ 1) (hn : l.length ≤ 60) (w : World) (B : Nat) (hs : Sl w B A (ints .i64 l)) :
    Ret Try.prog 44 [.slice A l.length c] w fun r w' => r = .int .u64 (numN l : Nat) ∧ w = w' := by
  refine Ret.enter Try.func44 rfl Try.ntmps44 (by kernel_rfl) rfl ?_
  refine KW.seq (KW.region ?_)
  refine OW.val rfl rfl (EX.assign rfl) ?_
  refine OW.nil ?_
  refine KW.seq (KW.region ?_)
  refine OW.val rfl rfl (EX.assign rfl) ?_
  refine OW.nil ?_
  refine KW.seq (KW.seq (KW.region ?_))
  refine OW.val rfl rfl (EX.assign rfl) ?_
  refine OW.nil ?_
  refine KW.block ?_
  refine KW.loop2 (fun (i : Nat) (v : Nat) => i ≤ l.length ∧ v = numN (l.take i) ∧ v < 1152921504606846976) (fun (i : Nat) (v : Nat) => [(0, .slice A l.length c), (3, .int .u64 ((v : Nat) : Int)), (4, .int .i64 ((i : Nat) : Int))]) (fun (i : Nat) (v : Nat) => w) (fun (i : Nat) (v : Nat) => l.length - i) (0) (0) ⟨rfl, rfl, rfl, trivial⟩ rfl ?_ ?_
  · exact ⟨by omega, by simp [numN], by omega⟩
  · rintro i v ⟨hi, hv, hvb⟩
    refine KW.seq (KW.seq (KW.region ?_))
    refine OW.val rfl rfl (EX.move rfl) ?_
    refine OW.val rfl rfl (EX.move rfl) ?_
    refine OW.val rfl rfl (EX.lenA Try.underlying85 rfl) ?_
    refine OW.val rfl rfl (by first | exact EX.lssN rfl rfl | exact EX.lssZ rfl rfl) ?_
    refine OW.nil ?_
    refine KW.condD rfl (fun h => ?_) (fun h => ?_)
    · obtain ⟨b, o, rfl, _, hc⟩ := hs.at_ (by rw [ints_length]; omega)
      have hx1 := hl l[i] (by simp)
      refine KW.skip (KW.seq (KW.block (KW.region ?_)))
      refine OW.val rfl rfl (EX.move rfl) ?_
      refine OW.val rfl rfl (by first | exact EX.mulN (b := 2) (m := 18446744073709551615) rfl rfl rfl (by omega) | exact EX.mulW (b := 2) (m := 18446744073709551616) rfl rfl rfl (by decide)) ?_
      refine OW.val rfl rfl (EX.move rfl) ?_
      refine OW.val rfl rfl (EX.move rfl) ?_
      refine OW.val rfl rfl (by first | exact EX.indexAddrS0 Try.underlying85 ti3 rfl rfl (by omega) | exact EX.indexAddrS1 Try.underlying85 ti3 rfl rfl (by omega)) ?_
      refine OW.val rfl rfl (EX.load Try.underlying3 rfl rfl (hc i _ (ints_get h))) ?_
      refine OW.val rfl rfl (by first | exact EX.convN (m := 18446744073709551615) Try.underlying3 Try.underlying56 rfl rfl (by omega) | exact EX.convW (m := 18446744073709551616) Try.underlying3 Try.underlying56 rfl rfl (by decide) | exact EX.convZ Try.underlying3 Try.underlying56 rfl) ?_
      refine OW.val rfl rfl (by first | exact EX.addN (m := 18446744073709551615) rfl rfl rfl (by omega) | exact EX.addW (m := 18446744073709551616) rfl rfl rfl (by decide)) ?_
      refine OW.val rfl rfl (EX.assign rfl) ?_
      refine OW.nil ?_
      refine KW.leave (KW.region ?_)
      refine OW.val rfl rfl (EX.move rfl) ?_
      refine OW.val rfl rfl (by first | exact EX.addN (b := 1) (m := 9223372036854775807) rfl rfl rfl (by omega) | exact EX.addZ (m := 9223372036854775807) rfl rfl rfl rfl (by omega)) ?_
      refine OW.val rfl rfl (EX.assign rfl) ?_
      refine OW.nil ?_
      have hnew : v * 2 + l[i] = numN (l.take (i + 1)) := by rw [take_snoc l i h, numN_snoc, hv]
      have hlt : v * 2 + l[i] < 1152921504606846976 := by
        rw [hnew]
        refine Nat.lt_of_lt_of_le (numN_lt _ fun x hx => hl x (List.mem_of_mem_take hx)) ?_
        exact Nat.le_trans (Nat.pow_le_pow_right (by decide) (by rw [List.length_take]; omega)) (show 2 ^ 60 ≤ 1152921504606846976 by decide)
      refine KW.back2 (i + 1) (v * 2 + l[i]) ⟨rfl, rfl, rfl, trivial⟩ rfl ?_ (by omega)
      exact ⟨by omega, hnew, hlt⟩
    · refine KW.exit rfl (KW.seq (KW.region ?_))
      refine OW.val rfl rfl (EX.move rfl) ?_
      refine OW.val rfl rfl (EX.assign rfl) ?_
      refine OW.nil ?_
      refine KW.ret (ret1 rfl rfl ?_)
      rw [List.take_of_length_le (by omega)] at hv
      exact ⟨by rw [hv], rfl⟩

end Go.Proofs.Ytfjaiokhpbddlaa
