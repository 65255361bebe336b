/-
  What the statements rest on, part 2 of 5: many small texts, one behind the other.
-/
import Derived.Test.YthgfdpcpbghkpaaGreatDoorMrgA
import Derived.RangeFuncFrom
import Derived.RangeFuncLeaves
import Derived.RangeFuncCalls
import Derived.RangeFuncBound
import Derived.Shelf.Strings.Builder1
import Derived.Shelf.Strings.Builder2
import Derived.Shelf.Strings.OnBuilder
import Derived.Shelf.Small.Strs
import Derived.Shelf.Strings.BuilderF
import Derived.Shelf.Strings.Search1
import Derived.Shelf.Strings.Search2
import Derived.Shelf.Strings.Search3
import Derived.Shelf.Strings.Count
import Derived.Shelf.LaysM
import Derived.Shelf.Strings.Shaped
import Derived.Shelf.Strings.Prefix
import Derived.Shelf.Strings.Split
import Derived.Shelf.Strings.SplitShaped
import Derived.Shelf.Bits.Mul64
import Derived.Shelf.Strings.Repeat
import Derived.Shelf.Unicode.DecodeSlow
import Derived.Test.YthgfdpcpbghkpaaGreatDoorProg
import Derived.OrdersHeld
set_option linter.unusedSimpArgs false
set_option linter.unusedVariables false
set_option linter.unnecessarySimpa false
namespace Go.Proofs.YthgfdpcpbghkpaaGreatDoor
open Go.RowKit
theorem u8_lt (c : UInt8) : c.toNat < 256 := c.toNat_lt
theorem ieee_s (s : List UInt8) (hs : s.length ≤ 9223372036854775807) (w : World) :
    Ret Tryz.prog 65 [str s] w fun v w' => v = .int .u32 (cieee s : Nat) ∧ Ext w w' := by
  refine Ret.enter Tryz.func65 rfl Tryz.ntmps65 (by kernel_rfl) rfl ?_
  refine KW.seq (KW.region ?_)
  refine OW.val rfl rfl (EX.assign rfl) ?_
  refine OW.nil ?_
  refine KW.seq (KW.region ?_)
  refine OW.call rfl rfl rfl (table_s w) ?_
  rintro _ w1 ⟨rfl, hx1⟩
  refine OW.val rfl rfl (EX.alloc (l := zt256) ti_tab rfl) ?_
  have hb0 := Bk.new w1 148 zt256
  have hx2 := hx1.trans (Ext.alloc w1 (.cells zt256.toArray 148))
  refine OW.storeW rfl ti_tab rfl rfl tabV_length (List.all_eq_true.2 fun v hv => by obtain ⟨_, _, rfl⟩ := List.mem_map.1 hv; rfl) hb0 List.length_replicate ?_
  intro w2 hb hg
  refine OW.nil ?_
  refine KW.seq (KW.region ?_)
  refine OW.val rfl rfl (EX.assign rfl) ?_
  refine OW.nil ?_
  refine KW.seq (KW.seq (KW.region ?_))
  refine OW.val rfl rfl (EX.move rfl) ?_
  refine OW.val rfl rfl (EX.lenS Tryz.underlying9 rfl) ?_
  refine OW.val rfl rfl (EX.move rfl) ?_
  refine OW.nil ?_
  refine KW.block ?_
  have hx := hx2.grown hg (fun g hg => by cases hg; exact hx1.size)
  refine KW.loop2 (fun (k : Nat) (x : Nat) => k ≤ s.length ∧ x < 4294967296 ∧ x = cieeeR (s.take k)) (fun (k : Nat) (x : Nat) => [(0, str (s)), (3, .pointer (some ⟨w1.heap.size, 0, none⟩)), (4, .int .u32 ((x : Nat) : Int)), (8, .int .i64 ((s.length : Nat) : Int)), (9, .int .i64 ((k : Nat) : Int))]) (fun (k : Nat) (x : Nat) => w2) (fun (k : Nat) (x : Nat) => s.length - k) (0) (4294967295) ⟨rfl, rfl, rfl, rfl, rfl, trivial⟩ rfl ?_ ?_
  · exact ⟨by omega, by omega, rfl⟩
  · rintro k x ⟨hk, hx1, hxe⟩
    refine KW.seq (KW.region ?_)
    refine OW.val rfl rfl (by first | exact EX.lssN rfl rfl | exact EX.lssZ rfl rfl) ?_
    refine OW.nil ?_
    refine KW.seq ?_
    refine KW.condD rfl (fun h => ?_) (fun h => ?_)
    · have hc := u8_lt s[k]
      have ht8 := trn8_lt s[k].toNat
      have hxor : x / 16777216 ^^^ trn 8 s[k].toNat 0 < 256 := Nat.xor_lt_two_pow (n := 8) (by omega) ht8
      have hct := ctab_lt (x / 16777216 ^^^ trn 8 s[k].toNat 0)
      refine KW.skip (KW.seq (KW.block (KW.seq (KW.region ?_))))
      refine OW.val rfl rfl (EX.move rfl) ?_
      refine OW.val rfl rfl (EX.assign rfl) ?_
      refine OW.nil ?_
      refine KW.region ?_
      refine OW.val rfl rfl (EX.move rfl) ?_
      refine OW.val rfl rfl (by first | exact EX.shlN (s := 8) (p := 256) (m := 4294967295) rfl rfl (by decide) (by decide) rfl (by omega) | exact EX.shlW (s := 8) (p := 256) (m := 4294967296) rfl rfl (by decide) (by decide) rfl (by decide)) ?_
      refine OW.val rfl rfl (EX.move rfl) ?_
      refine OW.val rfl rfl (EX.shrN (s := 24) (p := 16777216) rfl rfl (by decide) (by decide)) ?_
      refine OW.val rfl rfl (by first | exact EX.convN (m := 255) Tryz.underlying68 Tryz.underlying5 rfl rfl (by omega) | exact EX.convW (m := 256) Tryz.underlying68 Tryz.underlying5 rfl rfl (by decide) | exact EX.convZ Tryz.underlying68 Tryz.underlying5 rfl) ?_
      refine OW.val rfl rfl (EX.move rfl) ?_
      refine OW.val rfl rfl (EX.move rfl) ?_
      refine OW.val rfl rfl (EX.indexS Tryz.underlying9 rfl rfl (List.getElem?_eq_getElem (by omega))) ?_
      refine OW.val rfl rfl (by first | exact EX.convN (m := 4294967295) Tryz.underlying5 Tryz.underlying68 rfl rfl (by omega) | exact EX.convW (m := 4294967296) Tryz.underlying5 Tryz.underlying68 rfl rfl (by decide) | exact EX.convZ Tryz.underlying5 Tryz.underlying68 rfl) ?_
      refine OW.call rfl rfl rfl (turned_s s[k].toNat 8 (by omega) (by omega) w2) ?_
      rintro _ _ ⟨rfl, rfl⟩
      refine OW.val rfl rfl (by first | exact EX.convN (m := 255) Tryz.underlying68 Tryz.underlying5 rfl rfl (by omega) | exact EX.convW (m := 256) Tryz.underlying68 Tryz.underlying5 rfl rfl (by decide) | exact EX.convZ Tryz.underlying68 Tryz.underlying5 rfl) ?_
      refine OW.val rfl rfl (EX.xorN (m := 255) rfl rfl rfl (by omega)) ?_
      refine OW.val rfl rfl (by first | exact EX.indexAddrA0 Tryz.underlying148 ti68 rfl rfl (by omega) | exact EX.indexAddrA1 Tryz.underlying148 ti68 rfl rfl (by omega)) ?_
      refine OW.val rfl rfl (EX.load Tryz.underlying68 rfl rfl (hb.cell_of (tabV_get _ hxor))) ?_
      refine OW.val rfl rfl (EX.xorN (m := 4294967295) rfl rfl rfl (by omega)) ?_
      refine OW.val rfl rfl (EX.assign rfl) ?_
      refine OW.nil ?_
      refine KW.leave (KW.region ?_)
      refine OW.val rfl rfl (by first | exact EX.addN (b := 1) (m := 9223372036854775807) rfl rfl rfl (by omega) | exact EX.addZ (m := 9223372036854775807) rfl rfl rfl rfl (by omega)) ?_
      refine OW.val rfl rfl (EX.move rfl) ?_
      refine OW.nil ?_
      refine KW.back2 (k + 1) (cnext x (trn 8 s[k].toNat 0)) ⟨rfl, rfl, rfl, rfl, rfl, trivial⟩ rfl ?_ (by omega)
      exact ⟨by omega, cnext_lt _ _, by rw [take_snoc s k h, cieeeR_snoc, ← hxe]⟩
    · refine KW.exit rfl (KW.seq (KW.region ?_))
      refine OW.val rfl rfl (EX.move rfl) ?_
      refine OW.val rfl rfl (EX.notN (m := 4294967295) rfl rfl rfl (by omega)) ?_
      refine OW.call rfl rfl rfl (turned_s (4294967295 - x) 32 (by omega) (by omega) w2) ?_
      rintro _ _ ⟨rfl, rfl⟩
      refine OW.val rfl rfl (EX.assign rfl) ?_
      refine OW.nil ?_
      refine KW.ret (ret1 rfl rfl ?_)
      rw [List.take_of_length_le (by omega)] at hxe
      exact ⟨by rw [hxe]; rfl, hx⟩
theorem rmore_lt (r : Nat) (s : List UInt8) : rmore r s < 4294967296 := by
  have h1 : ∀ x ∈ addP (bitsOf s ++ List.replicate 32 0) (bitsN 32 r), x ≤ 1 := addP_le _ _ fun x hx => by
    rcases List.mem_append.1 hx with h | h
    · exact bitsOf_le _ x h
    · rw [(List.mem_replicate.1 h).2]; omega
  have := numN_lt _ (restN_le _ h1)
  rw [restN_length _ (by rw [addP_length]; simp)] at this
  exact this
theorem rbzip_s (s : List UInt8) (hs : s.length ≤ 100000) (w : World) :
    Ret Tryz.prog 92 [str s] w fun v w' => v = .int .u32 (4294967295 - rmore 4294967295 s : Nat) ∧ Ext w w' := by
  have hlt := rmore_lt 4294967295 s
  refine Ret.enter Tryz.func92 rfl Tryz.ntmps92 (by kernel_rfl) rfl ?_
  refine KW.seq (KW.region ?_)
  refine OW.val rfl rfl (EX.assign rfl) ?_
  refine OW.nil ?_
  refine KW.seq (KW.region ?_)
  refine OW.val rfl rfl (EX.move rfl) ?_
  refine OW.call rfl rfl rfl (rmore_s 4294967295 (by omega) s hs w) ?_
  rintro _ w1 ⟨rfl, hx1⟩
  refine OW.val rfl rfl (EX.subN (a := 4294967295) (m := 4294967295) rfl rfl rfl (by omega)) ?_
  refine OW.val rfl rfl (EX.assign rfl) ?_
  refine OW.nil ?_
  refine KW.ret (ret1 rfl rfl ?_)
  exact ⟨rfl, hx1⟩
theorem rturned_s (l : List Nat) (A : Option Addr) (c : Nat) (hn : l.length ≤ 1000000) (w : World) (B : Nat) (hs : Sl w B A (ints .i64 l)) :
    Ret Tryz.prog 89 [.slice A l.length c] w fun v w' => Own w' w.heap.size 3 1 v l.length (ints .i64 l.reverse) ∧ Ext w w' := by
  refine Ret.enter Tryz.func89 rfl Tryz.ntmps89 (by kernel_rfl) rfl ?_
  refine KW.seq (KW.region ?_)
  refine OW.val rfl rfl (EX.assign rfl) ?_
  refine OW.nil ?_
  refine KW.seq (KW.region ?_)
  refine OW.val rfl rfl (EX.assign rfl) ?_
  refine OW.nil ?_
  refine KW.seq (KW.seq (KW.region ?_))
  refine OW.val rfl rfl (EX.move rfl) ?_
  refine OW.val rfl rfl (EX.lenA Tryz.underlying151 rfl) ?_
  refine OW.val rfl rfl (by first | exact EX.subN (b := 1) (m := 9223372036854775807) rfl rfl rfl (by omega) | exact EX.subZ (m := 9223372036854775807) rfl rfl rfl rfl (by omega)) ?_
  refine OW.val rfl rfl (EX.assign rfl) ?_
  refine OW.nil ?_
  refine KW.block ?_
  refine KW.as 4 (.int .i64 (((l.length : Int) - 1 - ((0 : Nat) : Int)) : Int)) rfl (by simp) ?_
  refine KW.loop3 (fun (j : Nat) (v : Value) (wr : World) => j ≤ l.length ∧ Own wr w.heap.size 3 1 v j (ints .i64 (l.reverse.take j)) ∧ Ext w wr) (fun (j : Nat) (v : Value) (wr : World) => [(0, .slice A l.length c), (3, v), (4, .int .i64 (((l.length : Int) - 1 - (j : Int)) : Int))]) (fun (j : Nat) (v : Value) (wr : World) => wr) (fun (j : Nat) (v : Value) (wr : World) => l.length - j) (0) (.slice none 0 0) (w) ⟨rfl, rfl, rfl, trivial⟩ rfl ?_ ?_
  · exact ⟨by omega, Own.nil _ _ _ _, Ext.refl _⟩
  · rintro j v wr ⟨hj, hown, hx⟩
    refine KW.seq (KW.seq (KW.region ?_))
    refine OW.val rfl rfl (EX.move rfl) ?_
    refine OW.val rfl rfl (by first | exact EX.geqN (b := 0) rfl rfl | exact EX.geqZ rfl rfl) ?_
    refine OW.nil ?_
    refine KW.condD rfl (fun h => ?_) (fun h => ?_)
    · obtain ⟨i, hi⟩ : ∃ i, i = l.length - 1 - j := ⟨_, rfl⟩
      refine KW.as 4 (.int .i64 ((i : Nat) : Int)) rfl (by congr 1; omega) ?_
      obtain ⟨b, o, rfl, _, hc⟩ := (hs.ext hx).at_ (by rw [ints_length]; omega)
      have hil : i < l.length := by omega
      refine KW.skip (KW.seq (KW.block (KW.region ?_)))
      refine OW.val rfl rfl (EX.move rfl) ?_
      refine OW.val rfl rfl (EX.move rfl) ?_
      refine OW.val rfl rfl (EX.move rfl) ?_
      refine OW.val rfl rfl (by first | exact EX.indexAddrS0 Tryz.underlying151 ti3 rfl rfl (by omega) | exact EX.indexAddrS1 Tryz.underlying151 ti3 rfl rfl (by omega)) ?_
      refine OW.val rfl rfl (EX.load Tryz.underlying3 rfl rfl (hc i _ (ints_get hil))) ?_
      refine OW.push rfl rfl (fun _ => rfl) rfl Tryz.underlying151 ti3 rfl rfl (fun _ => rfl) rfl (hx) (hown) (by simp only [maxLen]; omega) (by omega) ?_
      rintro _ v' w' hown' hx' _ _
      refine OW.val rfl rfl (EX.assign rfl) ?_
      refine OW.nil ?_
      refine KW.leave (KW.region ?_)
      refine OW.val rfl rfl (EX.move rfl) ?_
      refine OW.val rfl rfl (by first | exact EX.subN (b := 1) (m := 9223372036854775807) rfl rfl rfl (by omega) | exact EX.subZ (m := 9223372036854775807) rfl rfl rfl rfl (by omega)) ?_
      refine OW.val rfl rfl (EX.assign rfl) ?_
      refine OW.nil ?_
      refine KW.as 4 (.int .i64 (((l.length : Int) - 1 - ((j + 1 : Nat) : Int)) : Int)) rfl (by congr 1; omega) ?_
      refine KW.back3 (j + 1) (v') (w') ⟨rfl, rfl, rfl, trivial⟩ rfl ?_ (by omega)
      refine ⟨by omega, ?_, hx'⟩
      have hrev : l.reverse.take (j + 1) = l.reverse.take j ++ [l[i]] := by
        rw [take_snoc _ _ (by simp; omega)]
        congr 2
        rw [List.getElem_reverse]
        congr 1
        omega
      rw [hrev, ints_append]
      exact hown'
    · refine KW.exit rfl (KW.seq (KW.region ?_))
      refine OW.val rfl rfl (EX.move rfl) ?_
      refine OW.val rfl rfl (EX.assign rfl) ?_
      refine OW.nil ?_
      refine KW.ret (ret1 rfl rfl ?_)
      obtain rfl : j = l.length := by omega
      rw [List.take_of_length_le (by simp)] at hown
      exact ⟨hown, hx⟩
theorem text_s (l : List Nat) (A : Option Addr) (c : Nat) (h1 : ∀ x ∈ l, x ≤ 1) (hn : l.length ≤ 1000000) (w : World) (B : Nat) (hs : Sl w B A (ints .i64 l)) :
    Ret Tryz.prog 93 [.slice A l.length c] w fun v w' => v = str (textOf l) ∧ Ext w w' := by
  refine Ret.enter Tryz.func93 rfl Tryz.ntmps93 (by kernel_rfl) rfl ?_
  refine KW.seq (KW.region ?_)
  refine OW.val rfl rfl (EX.assign rfl) ?_
  refine OW.nil ?_
  refine KW.seq (KW.region ?_)
  refine OW.val rfl rfl (EX.assign rfl) ?_
  refine OW.nil ?_
  refine KW.seq (KW.seq (KW.region ?_))
  refine OW.val rfl rfl (EX.assign rfl) ?_
  refine OW.nil ?_
  refine KW.block ?_
  refine KW.loop3 (fun (i : Nat) (v : Value) (wr : World) => i ≤ (l.length + 7) / 8 ∧ Own wr w.heap.size 5 1 v i (bytesV ((textOf l).take i)) ∧ Ext w wr) (fun (i : Nat) (v : Value) (wr : World) => [(0, .slice A l.length c), (3, v), (4, .int .i64 (((8 * i) : Nat) : Int))]) (fun (i : Nat) (v : Value) (wr : World) => wr) (fun (i : Nat) (v : Value) (wr : World) => (l.length + 7) / 8 - i) (0) (.slice none 0 0) (w) ⟨rfl, rfl, rfl, trivial⟩ rfl ?_ ?_
  · exact ⟨by omega, Own.nil _ _ _ _, Ext.refl _⟩
  · rintro i v wr ⟨hi, hown, hx⟩
    refine KW.seq (KW.seq (KW.region ?_))
    refine OW.val rfl rfl (EX.move rfl) ?_
    refine OW.val rfl rfl (EX.move rfl) ?_
    refine OW.val rfl rfl (EX.lenA Tryz.underlying151 rfl) ?_
    refine OW.val rfl rfl (by first | exact EX.lssN rfl rfl | exact EX.lssZ rfl rfl) ?_
    refine OW.nil ?_
    refine KW.condD rfl (fun h => ?_) (fun h => ?_)
    · refine KW.skip (KW.seq (KW.block (KW.seq (KW.region ?_))))
      refine OW.val rfl rfl (EX.assign rfl) ?_
      refine OW.nil ?_
      refine KW.seq (KW.seq (KW.region ?_))
      refine OW.val rfl rfl (EX.assign rfl) ?_
      refine OW.nil ?_
      refine KW.block ?_
      refine KW.loop2 (fun (k : Nat) (b : Nat) => k ≤ 8 ∧ b = (List.range k).foldl (fun b k => b * 2 + l.getD (8 * i + k) 0) 0 ∧ b < 2 ^ k) (fun (k : Nat) (b : Nat) => [(0, .slice A l.length c), (3, v), (4, .int .i64 (((8 * i) : Nat) : Int)), (5, .int .i64 ((b : Nat) : Int)), (6, .int .i64 ((k : Nat) : Int))]) (fun (k : Nat) (b : Nat) => wr) (fun (k : Nat) (b : Nat) => 8 - k) (0) (0) ⟨rfl, rfl, rfl, rfl, rfl, trivial⟩ rfl ?_ ?_
      · exact ⟨by omega, rfl, by decide⟩
      · rintro k b ⟨hk, hb, hbl⟩
        have hp : 2 ^ k ≤ 2 ^ 8 := Nat.pow_le_pow_right (by decide) hk
        have hp2 : 2 ^ (k + 1) = 2 * 2 ^ k := by rw [Nat.pow_succ, Nat.mul_comm]
        have hsn : ∀ x, x = l.getD (8 * i + k) 0 → b * 2 + x = (List.range (k + 1)).foldl (fun b k => b * 2 + l.getD (8 * i + k) 0) 0 := by
          intro x hx
          rw [List.range_succ, List.foldl_append, ← hb, hx]
          rfl
        refine KW.seq (KW.seq (KW.region ?_))
        refine OW.val rfl rfl (EX.move rfl) ?_
        refine OW.val rfl rfl (by first | exact EX.lssN (b := 8) rfl rfl | exact EX.lssZ rfl rfl) ?_
        refine OW.nil ?_
        refine KW.condD rfl (fun h8 => ?_) (fun h8 => ?_)
        · refine KW.skip (KW.seq (KW.block (KW.seq (KW.region ?_))))
          refine OW.val rfl rfl (EX.move rfl) ?_
          refine OW.val rfl rfl (by first | exact EX.mulN (b := 2) (m := 9223372036854775807) rfl rfl rfl (by omega) | exact EX.mulZ (m := 9223372036854775807) rfl rfl rfl rfl (by omega)) ?_
          refine OW.val rfl rfl (EX.assign rfl) ?_
          refine OW.nil ?_
          refine KW.seq (KW.region ?_)
          refine OW.val rfl rfl (EX.move rfl) ?_
          refine OW.val rfl rfl (EX.move rfl) ?_
          refine OW.val rfl rfl (by first | exact EX.addN (m := 9223372036854775807) rfl rfl rfl (by omega) | exact EX.addZ (m := 9223372036854775807) rfl rfl rfl rfl (by omega)) ?_
          refine OW.val rfl rfl (EX.move rfl) ?_
          refine OW.val rfl rfl (EX.lenA Tryz.underlying151 rfl) ?_
          refine OW.val rfl rfl (by first | exact EX.lssN rfl rfl | exact EX.lssZ rfl rfl) ?_
          refine OW.nil ?_
          refine KW.condD rfl (fun hik => ?_) (fun hik => ?_)
          · obtain ⟨bb, o, rfl, _, hc⟩ := (hs.ext hx).at_ (by rw [ints_length]; omega)
            have hx1 := h1 l[8 * i + k] (by simp)
            refine KW.region ?_
            refine OW.val rfl rfl (EX.move rfl) ?_
            refine OW.val rfl rfl (EX.move rfl) ?_
            refine OW.val rfl rfl (EX.move rfl) ?_
            refine OW.val rfl rfl (EX.move rfl) ?_
            refine OW.val rfl rfl (by first | exact EX.addN (m := 9223372036854775807) rfl rfl rfl (by omega) | exact EX.addZ (m := 9223372036854775807) rfl rfl rfl rfl (by omega)) ?_
            refine OW.val rfl rfl (by first | exact EX.indexAddrS0 Tryz.underlying151 ti3 rfl rfl (by omega) | exact EX.indexAddrS1 Tryz.underlying151 ti3 rfl rfl (by omega)) ?_
            refine OW.val rfl rfl (EX.load Tryz.underlying3 rfl rfl (hc (8 * i + k) _ (ints_get hik))) ?_
            refine OW.val rfl rfl (by first | exact EX.addN (m := 9223372036854775807) rfl rfl rfl (by omega) | exact EX.addZ (m := 9223372036854775807) rfl rfl rfl rfl (by omega)) ?_
            refine OW.val rfl rfl (EX.assign rfl) ?_
            refine OW.nil ?_
            refine KW.leave (KW.region ?_)
            refine OW.val rfl rfl (EX.move rfl) ?_
            refine OW.val rfl rfl (by first | exact EX.addN (b := 1) (m := 9223372036854775807) rfl rfl rfl (by omega) | exact EX.addZ (m := 9223372036854775807) rfl rfl rfl rfl (by omega)) ?_
            refine OW.val rfl rfl (EX.assign rfl) ?_
            refine OW.nil ?_
            refine KW.back2 (k + 1) (b * 2 + l[8 * i + k]) ⟨rfl, rfl, rfl, rfl, rfl, trivial⟩ rfl ?_ (by omega)
            exact ⟨by omega, hsn _ (by simp [List.getD, hik]), by omega⟩
          · refine KW.skip (KW.leave (KW.region ?_))
            refine OW.val rfl rfl (EX.move rfl) ?_
            refine OW.val rfl rfl (by first | exact EX.addN (b := 1) (m := 9223372036854775807) rfl rfl rfl (by omega) | exact EX.addZ (m := 9223372036854775807) rfl rfl rfl rfl (by omega)) ?_
            refine OW.val rfl rfl (EX.assign rfl) ?_
            refine OW.nil ?_
            refine KW.back2 (k + 1) (b * 2) ⟨rfl, rfl, rfl, rfl, rfl, trivial⟩ rfl ?_ (by omega)
            exact ⟨by omega, by rw [← hsn 0 (by simp [List.getD, List.getElem?_eq_none (Nat.le_of_not_lt hik)]), Nat.add_zero], by omega⟩
        · obtain rfl : k = 8 := by omega
          have hb256 : b < 256 := hbl
          refine KW.exit rfl (KW.region ?_)
          refine OW.val rfl rfl (EX.move rfl) ?_
          refine OW.val rfl rfl (EX.move rfl) ?_
          refine OW.val rfl rfl (by first | exact EX.convN (m := 255) Tryz.underlying3 Tryz.underlying5 rfl rfl (by omega) | exact EX.convW (m := 256) Tryz.underlying3 Tryz.underlying5 rfl rfl (by decide) | exact EX.convZ Tryz.underlying3 Tryz.underlying5 rfl) ?_
          refine OW.push rfl rfl (fun _ => rfl) rfl Tryz.underlying54 ti5 rfl rfl (fun _ => rfl) rfl (hx) (hown) (by simp only [maxLen]; omega) (by omega) ?_
          rintro _ v' w' hown' hx' _ _
          refine OW.val rfl rfl (EX.assign rfl) ?_
          refine OW.nil ?_
          refine KW.leave (KW.region ?_)
          refine OW.val rfl rfl (EX.move rfl) ?_
          refine OW.val rfl rfl (by first | exact EX.addN (b := 8) (m := 9223372036854775807) rfl rfl rfl (by omega) | exact EX.addZ (m := 9223372036854775807) rfl rfl rfl rfl (by omega)) ?_
          refine OW.val rfl rfl (EX.assign rfl) ?_
          refine OW.nil ?_
          refine KW.as 4 (.int .i64 (((8 * (i + 1)) : Nat) : Int)) rfl (rfl) ?_
          refine KW.back3 (i + 1) (v') (w') ⟨rfl, rfl, rfl, trivial⟩ rfl ?_ (by omega)
          refine ⟨by omega, ?_, hx'⟩
          have hit : i < (textOf l).length := by simp [textOf]; omega
          have hti : (textOf l)[i] = UInt8.ofNat b := by simp [textOf, byteOf, hb]
          rw [take_snoc _ _ hit, bytesV_append, hti]
          have : bytesV [UInt8.ofNat b] = [.int .u8 (b : Nat)] := by
            simp [bytesV, Nat.mod_eq_of_lt hb256]
          rw [this]
          exact hown'
    · obtain ⟨A', c', rfl, _, hsl⟩ := hown.slice
      have hil : i = (textOf l).length := by simp [textOf]; omega
      refine KW.exit rfl (KW.seq (KW.region ?_))
      refine OW.val rfl rfl (EX.move rfl) ?_
      refine OW.val rfl rfl (EX.strOf Tryz.underlying54 Tryz.underlying5 Tryz.underlying9 rfl hsl (by rw [List.length_take]; omega)) ?_
      refine OW.val rfl rfl (EX.assign rfl) ?_
      refine OW.nil ?_
      refine KW.ret (ret1 rfl rfl ?_)
      rw [List.take_of_length_le (by omega)]
      exact ⟨rfl, hx⟩
theorem revs_length (s : List UInt8) : (s.flatMap fun c => (bits8 c.toNat).reverse).length = 8 * s.length := by
  induction s with
  | nil => rfl
  | cons c s ih => rw [List.flatMap_cons, List.length_append, ih, List.length_reverse, bits8_length, List.length_cons]; omega
theorem revs_le (s : List UInt8) : ∀ x ∈ s.flatMap fun c => (bits8 c.toNat).reverse, x ≤ 1 := by
  intro x hx
  obtain ⟨c, _, h⟩ := List.mem_flatMap.1 hx
  exact bits8_le _ x (List.mem_reverse.1 h)
theorem rieee_s (s : List UInt8) (hs : s.length ≤ 100000) (w : World) :
    Ret Tryz.prog 67 [str s] w fun v w' => v = .int .u32 (rieee s : Nat) ∧ Ext w w' := by
  refine Ret.enter Tryz.func67 rfl Tryz.ntmps67 (by kernel_rfl) rfl ?_
  refine KW.seq (KW.region ?_)
  refine OW.val rfl rfl (EX.assign rfl) ?_
  refine OW.nil ?_
  refine KW.seq (KW.region ?_)
  refine OW.val rfl rfl (EX.assign rfl) ?_
  refine OW.nil ?_
  refine KW.seq (KW.seq (KW.region ?_))
  refine OW.val rfl rfl (EX.assign rfl) ?_
  refine OW.nil ?_
  refine KW.block ?_
  refine KW.loop3 (fun (i : Nat) (v : Value) (wr : World) => i ≤ s.length ∧ Own wr w.heap.size 3 1 v (8 * i) (ints .i64 ((s.take i).flatMap fun c => (bits8 c.toNat).reverse)) ∧ Ext w wr) (fun (i : Nat) (v : Value) (wr : World) => [(0, str (s)), (3, v), (4, .int .i64 ((i : Nat) : Int))]) (fun (i : Nat) (v : Value) (wr : World) => wr) (fun (i : Nat) (v : Value) (wr : World) => s.length - i) (0) (.slice none 0 0) (w) ⟨rfl, rfl, rfl, trivial⟩ rfl ?_ ?_
  · exact ⟨by omega, Own.nil _ _ _ _, Ext.refl _⟩
  · rintro i v wr ⟨hi, hown, hx⟩
    refine KW.seq (KW.seq (KW.region ?_))
    refine OW.val rfl rfl (EX.move rfl) ?_
    refine OW.val rfl rfl (EX.move rfl) ?_
    refine OW.val rfl rfl (EX.lenS Tryz.underlying9 rfl) ?_
    refine OW.val rfl rfl (by first | exact EX.lssN rfl rfl | exact EX.lssZ rfl rfl) ?_
    refine OW.nil ?_
    refine KW.condD rfl (fun h => ?_) (fun h => ?_)
    · refine KW.skip (KW.seq (KW.block (KW.region ?_)))
      refine OW.val rfl rfl (EX.move rfl) ?_
      refine OW.val rfl rfl (EX.move rfl) ?_
      refine OW.val rfl rfl (EX.move rfl) ?_
      refine OW.val rfl rfl (EX.move rfl) ?_
      refine OW.val rfl rfl (by first | exact EX.addN (b := 1) (m := 9223372036854775807) rfl rfl rfl (by omega) | exact EX.addZ (m := 9223372036854775807) rfl rfl rfl rfl (by omega)) ?_
      refine OW.val rfl rfl (EX.sliceLH Tryz.underlying9 rfl rfl rfl (by omega)) ?_
      refine OW.as 18 (str ([s[i]])) rfl (by rw [show i + 1 - i = 1 by omega, List.drop_eq_getElem_cons h]; rfl) ?_
      refine OW.call rfl rfl rfl (of_s [s[i]] (by simp) wr) ?_
      rintro u w2 ⟨hou, hx2⟩
      simp only [List.length_singleton, Nat.mul_one] at hou
      obtain ⟨A, cp, rfl, _, hsl⟩ := hou.slice
      have hrc := rturned_s (bitsOf [s[i]]) A cp (by rw [bitsOf_length]; simp) w2 _ hsl
      rw [bitsOf_length] at hrc
      simp only [List.length_singleton, Nat.mul_one] at hrc
      refine OW.call rfl rfl rfl (hrc) ?_
      rintro u2 w3 ⟨hou2, hx3⟩
      obtain ⟨A2, cp2, rfl, _, hsl2⟩ := hou2.slice
      have hext := (hx.trans hx2).trans hx3
      refine OW.appendX rfl rfl Tryz.underlying151 ti3 rfl (by decide) rfl rfl (hext) ((hown.ext hx2).ext hx3) (Src.of_sl Tryz.underlying151 hsl2 (by rw [ints_length, List.length_reverse, bitsOf_length, List.length_singleton]) ints_one (by decide)) (by simp only [maxLen]; omega) (by omega) ?_
      rintro v' w' hown' hx' _ _
      refine OW.val rfl rfl (EX.assign rfl) ?_
      refine OW.nil ?_
      refine KW.leave (KW.region ?_)
      refine OW.val rfl rfl (EX.move rfl) ?_
      refine OW.val rfl rfl (by first | exact EX.addN (b := 1) (m := 9223372036854775807) rfl rfl rfl (by omega) | exact EX.addZ (m := 9223372036854775807) rfl rfl rfl rfl (by omega)) ?_
      refine OW.val rfl rfl (EX.assign rfl) ?_
      refine OW.nil ?_
      refine KW.back3 (i + 1) (v') (w') ⟨rfl, rfl, rfl, trivial⟩ rfl ?_ (by omega)
      refine ⟨by omega, ?_, hx'⟩
      have e : (s.take (i + 1)).flatMap (fun c => (bits8 c.toNat).reverse) = (s.take i).flatMap (fun c => (bits8 c.toNat).reverse) ++ (bitsOf [s[i]]).reverse := by
        rw [take_snoc s i h, List.flatMap_append]
        simp [bitsOf]
      rw [e, ints_append]
      exact hown'
    · obtain rfl : i = s.length := by omega
      rw [List.take_length] at hown
      obtain ⟨A, cp, rfl, _, hsl⟩ := hown.slice
      have hlen := revs_length s
      have htc := text_s _ A cp (revs_le s) (by omega) wr _ hsl
      rw [hlen] at htc
      generalize hq : (s.flatMap fun c => (bits8 c.toNat).reverse) = q at *
      have htl : (textOf q).length = s.length := by simp [textOf]; omega
      refine KW.exit rfl (KW.seq (KW.region ?_))
      refine OW.val rfl rfl (EX.move rfl) ?_
      refine OW.call rfl rfl rfl (htc) ?_
      rintro _ w2 ⟨rfl, hx2⟩
      have hlt := rmore_lt 4294967295 (textOf q)
      refine OW.call rfl rfl rfl (rbzip_s (textOf q) (by omega) w2) ?_
      rintro _ w3 ⟨rfl, hx3⟩
      refine OW.val rfl rfl (by first | exact EX.convN (m := 18446744073709551615) Tryz.underlying68 Tryz.underlying122 rfl rfl (by omega) | exact EX.convW (m := 18446744073709551616) Tryz.underlying68 Tryz.underlying122 rfl rfl (by decide) | exact EX.convZ Tryz.underlying68 Tryz.underlying122 rfl) ?_
      generalize hz : 4294967295 - rmore 4294967295 (textOf q) = z at *
      refine OW.call rfl rfl rfl (bits_s z 32 (by omega) (by omega) w3) ?_
      rintro _ w4 ⟨u, rfl, hob, hx4⟩
      refine OW.val rfl rfl (EX.move rfl) ?_
      refine OW.val rfl rfl (EX.extract rfl rfl) ?_
      refine OW.val rfl rfl (EX.extract rfl rfl) ?_
      refine OW.val rfl rfl (EX.assign rfl) ?_
      refine OW.val rfl rfl (EX.assign rfl) ?_
      refine OW.nil ?_
      refine KW.seq (KW.region ?_)
      refine OW.val rfl rfl (EX.move rfl) ?_
      obtain ⟨A2, cp2, rfl, _, hsl2⟩ := hob.slice
      have hrc := rturned_s (bitsN 32 z) A2 cp2 (by rw [bitsN_length]; omega) w4 _ hsl2
      rw [bitsN_length] at hrc
      refine OW.call rfl rfl rfl (hrc) ?_
      rintro u2 w5 ⟨hou2, hx5⟩
      obtain ⟨A3, cp3, rfl, _, hsl3⟩ := hou2.slice
      have hle : ∀ x ∈ (bitsN 32 z).reverse, x ≤ 1 := fun x hx => bitsN_le _ _ x (List.mem_reverse.1 hx)
      have hnc := number_s (bitsN 32 z).reverse A3 cp3 hle (by rw [List.length_reverse, bitsN_length]; omega) w5 _ hsl3
      have hl5 : (bitsN 32 z).reverse.length = 32 := by rw [List.length_reverse, bitsN_length]
      rw [hl5] at hnc
      have hnl := numN_lt _ hle
      rw [hl5, show 2 ^ 32 = 4294967296 by decide] at hnl
      refine OW.call rfl rfl rfl (hnc) ?_
      rintro _ _ ⟨rfl, rfl⟩
      refine OW.val rfl rfl (by first | exact EX.convN (m := 4294967295) Tryz.underlying122 Tryz.underlying68 rfl rfl (by omega) | exact EX.convW (m := 4294967296) Tryz.underlying122 Tryz.underlying68 rfl rfl (by decide) | exact EX.convZ Tryz.underlying122 Tryz.underlying68 rfl) ?_
      refine OW.val rfl rfl (EX.assign rfl) ?_
      refine OW.nil ?_
      refine KW.ret (ret1 rfl rfl ?_)
      refine ⟨?_, (((hx.trans hx2).trans hx3).trans hx4).trans hx5⟩
      rw [rieee, hq, hz]
end Go.Proofs.YthgfdpcpbghkpaaGreatDoor
namespace Go.Proofs.YthgfdpcpbghkpaaGreatDoor
open Go.RowKit
structure RP where
  round : Option Nat
  m : Nat
  ds : List Deferred
  post : Exit → Act → World → Prop
def RP.F (R : RP) : Fence := { Fence.wide with round := R.round }
structure FrD (R : RP) (n : Nat) (σ : Sig) (a : Act) : Prop where
  fr : Fr n σ { a with defers := [] }
  df : a.defers = R.ds
section
variable {R : RP} {n : Nat} {σ σ' : Sig} {a : Act}
theorem FrD.ev (h : FrD R n σ a) {x : Operand} {v : Value} (hx : ev σ x = some v) : a.eval x = v := by
  have := h.fr.ev hx
  cases x <;> exact this
theorem FrD.sub (h : FrD R n σ a) (hs : Subs σ' σ) : FrD R n σ' a := ⟨h.fr.sub hs, h.df⟩
theorem FrD.put (h : FrD R n σ a) {d : Nat} (hd : Nat.blt d n = true) (v : Value) : FrD R n ((d, v) :: σ) (a.put (some d) v) := ⟨h.fr.put hd v, h.df⟩
end
def psr (P : Program) (R : RP) : List KI → Exit → Act → World → Prop
  | [], e => R.post e
  | .code c :: k, e => match e with | .normal => fun a w => c.wpIn R.F R.m P (psr P R k) a w | e => psr P R k e
  | .blk id :: k, e => match e with | .exit i => fun a w => if i = id then psr P R k .normal a w else psr P R k (.exit i) a w | e => psr P R k e
  | .asr I :: k, e => match e with | .normal => I | e => psr P R k e
def KR (P : Program) (R : RP) (k : List KI) (n : Nat) (σ : Sig) (w : World) : Prop := ∀ a, FrD R n σ a → psr P R k .normal a w
section
variable {P : Program} {R : RP} {k : List KI} {n : Nat} {σ : Sig} {w : World}
theorem psr_then (c : Code) (k : List KI) : psr P R (.code c :: k) = Exit.then (fun a w => c.wpIn R.F R.m P (psr P R k) a w) (psr P R k) := by
  funext e a w
  cases e <;> simp [psr, Exit.then]
theorem psr_blk (id : Nat) (k : List KI) : psr P R (.blk id :: k) = Exit.inBlock id (psr P R k) := by
  funext e a w
  cases e <;> simp [psr, Exit.inBlock]
theorem psr_exit {id : Nat} : ∀ {k k' : List KI}, popTo id k = some k' → ∀ a w, psr P R k (.exit id) a w = psr P R k' .normal a w
  | [], _, h, _, _ => by simp [popTo] at h
  | .code c :: k, k', h, a, w => by simp only [popTo] at h; simp only [psr]; exact psr_exit h a w
  | .asr I :: k, k', h, a, w => by simp only [popTo] at h; simp only [psr]; exact psr_exit h a w
  | .blk i :: k, k', h, a, w => by
    simp only [popTo] at h
    simp only [psr]
    by_cases e : id = i
    · subst e
      have : Nat.beq id id = true := by simp
      rw [this] at h
      injection h with h
      subst h
      simp
    · have : Nat.beq id i = false := by
        cases hb : Nat.beq id i with
        | false => rfl
        | true => exact absurd (Nat.eq_of_beq_eq_true hb) e
      rw [this] at h
      rw [if_neg e]
      exact psr_exit h a w
theorem psr_ret : ∀ (k : List KI) (a : Act) (w : World), psr P R k .ret a w = R.post .ret a w
  | [], _, _ => rfl
  | .code _ :: k, a, w => psr_ret k a w
  | .blk _ :: k, a, w => psr_ret k a w
  | .asr _ :: k, a, w => psr_ret k a w
theorem KR.seq {x y : Code} (h : KR P R (.code x :: .code y :: k) n σ w) : KR P R (.code (.seq x y) :: k) n σ w := fun a ha => by
  have := h a ha
  simp only [psr] at this ⊢
  refine wpIn_seq ?_
  rw [← psr_then]
  exact this
theorem KR.block {id : Nat} {c : Code} (h : KR P R (.code c :: .blk id :: k) n σ w) : KR P R (.code (.block id c) :: k) n σ w := fun a ha => by
  have := h a ha
  simp only [psr] at this ⊢
  refine wpIn_block ?_
  rw [← psr_blk]
  exact this
theorem KR.leave {id : Nat} (h : KR P R k n σ w) : KR P R (.blk id :: k) n σ w := fun a ha => h a ha
theorem KR.skip (h : KR P R k n σ w) : KR P R (.code .skip :: k) n σ w := fun a ha => wpIn_skip (h a ha)
theorem KR.label {l : Nat} (h : KR P R k n σ w) : KR P R (.code (.label l) :: k) n σ w := fun a ha => wpIn_label (h a ha)
theorem KR.exit {id : Nat} {k' : List KI} (hk : popTo id k = some k') (h : KR P R k' n σ w) : KR P R (.code (.exit id) :: k) n σ w := fun a ha =>
  wpIn_exit (by rw [psr_exit hk]; exact h a ha)
theorem KR.ret (h : ∀ a, FrD R n σ a → R.post .ret a w) : KR P R (.code .ret :: k) n σ w := fun a ha => wpIn_ret (by rw [psr_ret]; exact h a ha)
theorem KR.done (h : ∀ a, FrD R n σ a → R.post .normal a w) : KR P R [] n σ w := h
theorem KR.sub {σ' : Sig} (hs : Subs σ' σ) (h : KR P R k n σ' w) : KR P R k n σ w := fun a ha => h a (ha.sub hs)
theorem KR.cond {c : Operand} {x y : Code} {b : Bool} (hc : ev σ c = some (.bool b)) (ht : b = true → KR P R (.code x :: k) n σ w) (hf : b = false → KR P R (.code y :: k) n σ w) :
    KR P R (.code (.cond c x y) :: k) n σ w := fun a ha =>
  wpIn_cond_split (ha.ev hc) (fun e => ht e a ha) (fun e => hf e a ha)
theorem KR.condD {c : Operand} {x y : Code} {p : Prop} [Decidable p] (hc : ev σ c = some (.bool (decide p))) (ht : p → KR P R (.code x :: k) n σ w) (hf : ¬ p → KR P R (.code y :: k) n σ w) :
    KR P R (.code (.cond c x y) :: k) n σ w :=
  KR.cond hc (fun e => ht (of_decide_eq_true e)) (fun e => hf (of_decide_eq_false e))
theorem KR.condT {c : Operand} {x y : Code} (hc : ev σ c = some (.bool true)) (h : KR P R (.code x :: k) n σ w) : KR P R (.code (.cond c x y) :: k) n σ w :=
  KR.cond hc (fun _ => h) (fun e => by cases e)
theorem KR.condF {c : Operand} {x y : Code} (hc : ev σ c = some (.bool false)) (h : KR P R (.code y :: k) n σ w) : KR P R (.code (.cond c x y) :: k) n σ w :=
  KR.cond hc (fun e => by cases e) (fun _ => h)
def MetR {ι : Type} (R : RP) (n : Nat) (I : ι → Prop) (S : ι → Sig) (W : ι → World) (a : Act) (w : World) : Prop := ∃ i, I i ∧ FrD R n (S i) a ∧ w = W i
theorem KR.cut {ι : Type} (I : ι → Prop) (S : ι → Sig) (W : ι → World) {c : Code} (h : KR P R (.code c :: .asr (MetR R n I S W) :: k) n σ w) (h2 : ∀ i, I i → KR P R k n (S i) (W i)) :
    KR P R (.code c :: k) n σ w := fun a ha => by
  have h1 := h a ha
  simp only [psr] at h1 ⊢
  refine Code.wpIn_mono (fun e a' w' q => ?_) h1
  cases e with
  | normal => obtain ⟨i, hi, hf, rfl⟩ := q; exact h2 i hi a' hf
  | _ => exact q
theorem KR.meet {ι : Type} {I : ι → Prop} {S : ι → Sig} {W : ι → World} (i : ι) (hs : Subs (S i) σ) (hw : w = W i) (hi : I i) : KR P R (.asr (MetR R n I S W) :: k) n σ w :=
  fun _ ha => ⟨i, hi, ha.sub hs, hw⟩
def BackR {ι : Type} (R : RP) (n : Nat) (I : ι → Prop) (S : ι → Sig) (W : ι → World) (μ : ι → Nat) (i : ι) (a : Act) (w : World) : Prop := ∃ j, I j ∧ μ j < μ i ∧ FrD R n (S j) a ∧ w = W j
theorem KR.back {ι : Type} {I : ι → Prop} {S : ι → Sig} {W : ι → World} {μ : ι → Nat} {i : ι} (j : ι) (hs : Subs (S j) σ) (hw : w = W j) (hi : I j) (hm : μ j < μ i) :
    KR P R (.asr (BackR R n I S W μ i) :: k) n σ w := fun _ ha => ⟨j, hi, hm, ha.sub hs, hw⟩
theorem KR.loop {ι : Type} (I : ι → Prop) (S : ι → Sig) (W : ι → World) (μ : ι → Nat) {c : Code} (i : ι) (hs : Subs (S i) σ) (hw : w = W i) (hi : I i)
    (round : ∀ i, I i → KR P R (.code c :: .asr (BackR R n I S W μ i) :: k) n (S i) (W i)) : KR P R (.code (.loop c) :: k) n σ w := fun a ha => by
  let M (a : Act) (w : World) (m : Nat) : Prop := ∃ i, I i ∧ FrD R n (S i) a ∧ w = W i ∧ μ i = m
  have hex : ∀ a w, (∃ m, M a w m) → ∃ m, M a w m ∧ ∀ m', M a w m' → m ≤ m' := fun a w ⟨m, hm⟩ => least_nat _ m hm
  let ν (a : Act) (w : World) : Nat := Classical.epsilon fun m => M a w m ∧ ∀ m', M a w m' → m ≤ m'
  have hν : ∀ a w, (∃ m, M a w m) → M a w (ν a w) ∧ ∀ m', M a w m' → ν a w ≤ m' := fun a w h => Classical.epsilon_spec (hex a w h)
  simp only [psr]
  refine wpIn_loop (fun a w => ∃ m, M a w m) ν ⟨μ i, i, hi, ha.sub hs, hw, rfl⟩ fun a' w' hm => ?_
  obtain ⟨⟨j, hj, hf, hw', hmu⟩, _⟩ := hν a' w' hm
  have h := round j hj a' hf
  simp only [psr] at h
  subst hw'
  refine Code.wpIn_mono (fun e a'' w'' q => ?_) h
  cases e with
  | normal =>
    obtain ⟨j', h1, h2, h3, h4⟩ := q
    refine ⟨⟨μ j', j', h1, h3, h4, rfl⟩, ?_⟩
    have := (hν a'' w'' ⟨μ j', j', h1, h3, h4, rfl⟩).2 (μ j') ⟨j', h1, h3, h4, rfl⟩
    omega
  | _ => exact q
end
section
variable {P : Program} {R : RP} {k : List KI} {n : Nat} {σ : Sig} {w : World}
def BackR1 {α : Type} (R : RP) (n : Nat) (I : α → Prop) (S : α → Sig) (W : α → World) (μ : α → Nat) (x0 : α) : Act → World → Prop :=
  BackR R n (fun p : α => I p) (fun p => S p) (fun p => W p) (fun p => μ p) x0
def MetR1 {α : Type} (R : RP) (n : Nat) (I : α → Prop) (S : α → Sig) (W : α → World) : Act → World → Prop :=
  MetR R n (fun p : α => I p) (fun p => S p) (fun p => W p)
theorem KR.loop1 {α : Type} (I : α → Prop) (S : α → Sig) (W : α → World) (μ : α → Nat) {c : Code} (x0 : α) (hs : Subs (S x0) σ) (hw : w = W x0) (hi : I x0)
    (round : ∀ x0, I x0 → KR P R (.code c :: .asr (BackR1 R n I S W μ x0) :: k) n (S x0) (W x0)) : KR P R (.code (.loop c) :: k) n σ w :=
  KR.loop (fun p : α => I p) (fun p => S p) (fun p => W p) (fun p => μ p) x0 hs hw hi fun p hp => round p hp
theorem KR.back1 {α : Type} {I : α → Prop} {S : α → Sig} {W : α → World} {μ : α → Nat} {y0 : α} (x0 : α) (hs : Subs (S x0) σ) (hw : w = W x0) (hi : I x0) (hm : μ x0 < μ y0) :
    KR P R (.asr (BackR1 R n I S W μ y0) :: k) n σ w :=
  KR.back (I := fun p : α => I p) (S := fun p => S p) (W := fun p => W p) (μ := fun p => μ p) x0 hs hw hi hm
theorem KR.cut1 {α : Type} (I : α → Prop) (S : α → Sig) (W : α → World) {c : Code} (h : KR P R (.code c :: .asr (MetR1 R n I S W) :: k) n σ w)
    (h2 : ∀ x0, I x0 → KR P R k n (S x0) (W x0)) : KR P R (.code c :: k) n σ w :=
  KR.cut (fun p : α => I p) (fun p => S p) (fun p => W p) h fun p hp => h2 p hp
theorem KR.meet1 {α : Type} {I : α → Prop} {S : α → Sig} {W : α → World} (x0 : α) (hs : Subs (S x0) σ) (hw : w = W x0) (hi : I x0) :
    KR P R (.asr (MetR1 R n I S W) :: k) n σ w :=
  KR.meet (I := fun p : α => I p) (S := fun p => S p) (W := fun p => W p) x0 hs hw hi
def BackR2 {α β : Type} (R : RP) (n : Nat) (I : α → β → Prop) (S : α → β → Sig) (W : α → β → World) (μ : α → β → Nat) (x0 : α) (x1 : β) : Act → World → Prop :=
  BackR R n (fun p : α × β => I p.1 p.2) (fun p => S p.1 p.2) (fun p => W p.1 p.2) (fun p => μ p.1 p.2) (x0, x1)
def MetR2 {α β : Type} (R : RP) (n : Nat) (I : α → β → Prop) (S : α → β → Sig) (W : α → β → World) : Act → World → Prop :=
  MetR R n (fun p : α × β => I p.1 p.2) (fun p => S p.1 p.2) (fun p => W p.1 p.2)
theorem KR.loop2 {α β : Type} (I : α → β → Prop) (S : α → β → Sig) (W : α → β → World) (μ : α → β → Nat) {c : Code} (x0 : α) (x1 : β) (hs : Subs (S x0 x1) σ) (hw : w = W x0 x1) (hi : I x0 x1)
    (round : ∀ x0 x1, I x0 x1 → KR P R (.code c :: .asr (BackR2 R n I S W μ x0 x1) :: k) n (S x0 x1) (W x0 x1)) : KR P R (.code (.loop c) :: k) n σ w :=
  KR.loop (fun p : α × β => I p.1 p.2) (fun p => S p.1 p.2) (fun p => W p.1 p.2) (fun p => μ p.1 p.2) (x0, x1) hs hw hi fun p hp => round p.1 p.2 hp
theorem KR.back2 {α β : Type} {I : α → β → Prop} {S : α → β → Sig} {W : α → β → World} {μ : α → β → Nat} {y0 : α} {y1 : β} (x0 : α) (x1 : β) (hs : Subs (S x0 x1) σ) (hw : w = W x0 x1) (hi : I x0 x1) (hm : μ x0 x1 < μ y0 y1) :
    KR P R (.asr (BackR2 R n I S W μ y0 y1) :: k) n σ w :=
  KR.back (I := fun p : α × β => I p.1 p.2) (S := fun p => S p.1 p.2) (W := fun p => W p.1 p.2) (μ := fun p => μ p.1 p.2) (x0, x1) hs hw hi hm
theorem KR.cut2 {α β : Type} (I : α → β → Prop) (S : α → β → Sig) (W : α → β → World) {c : Code} (h : KR P R (.code c :: .asr (MetR2 R n I S W) :: k) n σ w)
    (h2 : ∀ x0 x1, I x0 x1 → KR P R k n (S x0 x1) (W x0 x1)) : KR P R (.code c :: k) n σ w :=
  KR.cut (fun p : α × β => I p.1 p.2) (fun p => S p.1 p.2) (fun p => W p.1 p.2) h fun p hp => h2 p.1 p.2 hp
theorem KR.meet2 {α β : Type} {I : α → β → Prop} {S : α → β → Sig} {W : α → β → World} (x0 : α) (x1 : β) (hs : Subs (S x0 x1) σ) (hw : w = W x0 x1) (hi : I x0 x1) :
    KR P R (.asr (MetR2 R n I S W) :: k) n σ w :=
  KR.meet (I := fun p : α × β => I p.1 p.2) (S := fun p => S p.1 p.2) (W := fun p => W p.1 p.2) (x0, x1) hs hw hi
def BackR3 {α β γ : Type} (R : RP) (n : Nat) (I : α → β → γ → Prop) (S : α → β → γ → Sig) (W : α → β → γ → World) (μ : α → β → γ → Nat) (x0 : α) (x1 : β) (x2 : γ) : Act → World → Prop :=
  BackR R n (fun p : α × β × γ => I p.1 p.2.1 p.2.2) (fun p => S p.1 p.2.1 p.2.2) (fun p => W p.1 p.2.1 p.2.2) (fun p => μ p.1 p.2.1 p.2.2) (x0, x1, x2)
def MetR3 {α β γ : Type} (R : RP) (n : Nat) (I : α → β → γ → Prop) (S : α → β → γ → Sig) (W : α → β → γ → World) : Act → World → Prop :=
  MetR R n (fun p : α × β × γ => I p.1 p.2.1 p.2.2) (fun p => S p.1 p.2.1 p.2.2) (fun p => W p.1 p.2.1 p.2.2)
theorem KR.loop3 {α β γ : Type} (I : α → β → γ → Prop) (S : α → β → γ → Sig) (W : α → β → γ → World) (μ : α → β → γ → Nat) {c : Code} (x0 : α) (x1 : β) (x2 : γ) (hs : Subs (S x0 x1 x2) σ) (hw : w = W x0 x1 x2) (hi : I x0 x1 x2)
    (round : ∀ x0 x1 x2, I x0 x1 x2 → KR P R (.code c :: .asr (BackR3 R n I S W μ x0 x1 x2) :: k) n (S x0 x1 x2) (W x0 x1 x2)) : KR P R (.code (.loop c) :: k) n σ w :=
  KR.loop (fun p : α × β × γ => I p.1 p.2.1 p.2.2) (fun p => S p.1 p.2.1 p.2.2) (fun p => W p.1 p.2.1 p.2.2) (fun p => μ p.1 p.2.1 p.2.2) (x0, x1, x2) hs hw hi fun p hp => round p.1 p.2.1 p.2.2 hp
theorem KR.back3 {α β γ : Type} {I : α → β → γ → Prop} {S : α → β → γ → Sig} {W : α → β → γ → World} {μ : α → β → γ → Nat} {y0 : α} {y1 : β} {y2 : γ} (x0 : α) (x1 : β) (x2 : γ) (hs : Subs (S x0 x1 x2) σ) (hw : w = W x0 x1 x2) (hi : I x0 x1 x2) (hm : μ x0 x1 x2 < μ y0 y1 y2) :
    KR P R (.asr (BackR3 R n I S W μ y0 y1 y2) :: k) n σ w :=
  KR.back (I := fun p : α × β × γ => I p.1 p.2.1 p.2.2) (S := fun p => S p.1 p.2.1 p.2.2) (W := fun p => W p.1 p.2.1 p.2.2) (μ := fun p => μ p.1 p.2.1 p.2.2) (x0, x1, x2) hs hw hi hm
theorem KR.cut3 {α β γ : Type} (I : α → β → γ → Prop) (S : α → β → γ → Sig) (W : α → β → γ → World) {c : Code} (h : KR P R (.code c :: .asr (MetR3 R n I S W) :: k) n σ w)
    (h2 : ∀ x0 x1 x2, I x0 x1 x2 → KR P R k n (S x0 x1 x2) (W x0 x1 x2)) : KR P R (.code c :: k) n σ w :=
  KR.cut (fun p : α × β × γ => I p.1 p.2.1 p.2.2) (fun p => S p.1 p.2.1 p.2.2) (fun p => W p.1 p.2.1 p.2.2) h fun p hp => h2 p.1 p.2.1 p.2.2 hp
theorem KR.meet3 {α β γ : Type} {I : α → β → γ → Prop} {S : α → β → γ → Sig} {W : α → β → γ → World} (x0 : α) (x1 : β) (x2 : γ) (hs : Subs (S x0 x1 x2) σ) (hw : w = W x0 x1 x2) (hi : I x0 x1 x2) :
    KR P R (.asr (MetR3 R n I S W) :: k) n σ w :=
  KR.meet (I := fun p : α × β × γ => I p.1 p.2.1 p.2.2) (S := fun p => S p.1 p.2.1 p.2.2) (W := fun p => W p.1 p.2.1 p.2.2) (x0, x1, x2) hs hw hi
def BackR4 {α β γ δ : Type} (R : RP) (n : Nat) (I : α → β → γ → δ → Prop) (S : α → β → γ → δ → Sig) (W : α → β → γ → δ → World) (μ : α → β → γ → δ → Nat) (x0 : α) (x1 : β) (x2 : γ) (x3 : δ) : Act → World → Prop :=
  BackR R n (fun p : α × β × γ × δ => I p.1 p.2.1 p.2.2.1 p.2.2.2) (fun p => S p.1 p.2.1 p.2.2.1 p.2.2.2) (fun p => W p.1 p.2.1 p.2.2.1 p.2.2.2) (fun p => μ p.1 p.2.1 p.2.2.1 p.2.2.2) (x0, x1, x2, x3)
theorem KR.loop4 {α β γ δ : Type} (I : α → β → γ → δ → Prop) (S : α → β → γ → δ → Sig) (W : α → β → γ → δ → World) (μ : α → β → γ → δ → Nat) {c : Code} (x0 : α) (x1 : β) (x2 : γ) (x3 : δ) (hs : Subs (S x0 x1 x2 x3) σ) (hw : w = W x0 x1 x2 x3) (hi : I x0 x1 x2 x3)
    (round : ∀ x0 x1 x2 x3, I x0 x1 x2 x3 → KR P R (.code c :: .asr (BackR4 R n I S W μ x0 x1 x2 x3) :: k) n (S x0 x1 x2 x3) (W x0 x1 x2 x3)) : KR P R (.code (.loop c) :: k) n σ w :=
  KR.loop (fun p : α × β × γ × δ => I p.1 p.2.1 p.2.2.1 p.2.2.2) (fun p => S p.1 p.2.1 p.2.2.1 p.2.2.2) (fun p => W p.1 p.2.1 p.2.2.1 p.2.2.2) (fun p => μ p.1 p.2.1 p.2.2.1 p.2.2.2) (x0, x1, x2, x3) hs hw hi fun p hp => round p.1 p.2.1 p.2.2.1 p.2.2.2 hp
theorem KR.back4 {α β γ δ : Type} {I : α → β → γ → δ → Prop} {S : α → β → γ → δ → Sig} {W : α → β → γ → δ → World} {μ : α → β → γ → δ → Nat} {y0 : α} {y1 : β} {y2 : γ} {y3 : δ} (x0 : α) (x1 : β) (x2 : γ) (x3 : δ) (hs : Subs (S x0 x1 x2 x3) σ) (hw : w = W x0 x1 x2 x3) (hi : I x0 x1 x2 x3) (hm : μ x0 x1 x2 x3 < μ y0 y1 y2 y3) :
    KR P R (.asr (BackR4 R n I S W μ y0 y1 y2 y3) :: k) n σ w :=
  KR.back (I := fun p : α × β × γ × δ => I p.1 p.2.1 p.2.2.1 p.2.2.2) (S := fun p => S p.1 p.2.1 p.2.2.1 p.2.2.2) (W := fun p => W p.1 p.2.1 p.2.2.1 p.2.2.2) (μ := fun p => μ p.1 p.2.1 p.2.2.1 p.2.2.2) (x0, x1, x2, x3) hs hw hi hm
def BackR5 {α β γ δ ε : Type} (R : RP) (n : Nat) (I : α → β → γ → δ → ε → Prop) (S : α → β → γ → δ → ε → Sig) (W : α → β → γ → δ → ε → World) (μ : α → β → γ → δ → ε → Nat) (x0 : α) (x1 : β) (x2 : γ) (x3 : δ) (x4 : ε) : Act → World → Prop :=
  BackR R n (fun p : α × β × γ × δ × ε => I p.1 p.2.1 p.2.2.1 p.2.2.2.1 p.2.2.2.2) (fun p => S p.1 p.2.1 p.2.2.1 p.2.2.2.1 p.2.2.2.2) (fun p => W p.1 p.2.1 p.2.2.1 p.2.2.2.1 p.2.2.2.2) (fun p => μ p.1 p.2.1 p.2.2.1 p.2.2.2.1 p.2.2.2.2) (x0, x1, x2, x3, x4)
theorem KR.loop5 {α β γ δ ε : Type} (I : α → β → γ → δ → ε → Prop) (S : α → β → γ → δ → ε → Sig) (W : α → β → γ → δ → ε → World) (μ : α → β → γ → δ → ε → Nat) {c : Code} (x0 : α) (x1 : β) (x2 : γ) (x3 : δ) (x4 : ε) (hs : Subs (S x0 x1 x2 x3 x4) σ) (hw : w = W x0 x1 x2 x3 x4) (hi : I x0 x1 x2 x3 x4)
    (round : ∀ x0 x1 x2 x3 x4, I x0 x1 x2 x3 x4 → KR P R (.code c :: .asr (BackR5 R n I S W μ x0 x1 x2 x3 x4) :: k) n (S x0 x1 x2 x3 x4) (W x0 x1 x2 x3 x4)) : KR P R (.code (.loop c) :: k) n σ w :=
  KR.loop (fun p : α × β × γ × δ × ε => I p.1 p.2.1 p.2.2.1 p.2.2.2.1 p.2.2.2.2) (fun p => S p.1 p.2.1 p.2.2.1 p.2.2.2.1 p.2.2.2.2) (fun p => W p.1 p.2.1 p.2.2.1 p.2.2.2.1 p.2.2.2.2) (fun p => μ p.1 p.2.1 p.2.2.1 p.2.2.2.1 p.2.2.2.2) (x0, x1, x2, x3, x4) hs hw hi fun p hp => round p.1 p.2.1 p.2.2.1 p.2.2.2.1 p.2.2.2.2 hp
theorem KR.back5 {α β γ δ ε : Type} {I : α → β → γ → δ → ε → Prop} {S : α → β → γ → δ → ε → Sig} {W : α → β → γ → δ → ε → World} {μ : α → β → γ → δ → ε → Nat} {y0 : α} {y1 : β} {y2 : γ} {y3 : δ} {y4 : ε} (x0 : α) (x1 : β) (x2 : γ) (x3 : δ) (x4 : ε) (hs : Subs (S x0 x1 x2 x3 x4) σ) (hw : w = W x0 x1 x2 x3 x4) (hi : I x0 x1 x2 x3 x4) (hm : μ x0 x1 x2 x3 x4 < μ y0 y1 y2 y3 y4) :
    KR P R (.asr (BackR5 R n I S W μ y0 y1 y2 y3 y4) :: k) n σ w :=
  KR.back (I := fun p : α × β × γ × δ × ε => I p.1 p.2.1 p.2.2.1 p.2.2.2.1 p.2.2.2.2) (S := fun p => S p.1 p.2.1 p.2.2.1 p.2.2.2.1 p.2.2.2.2) (W := fun p => W p.1 p.2.1 p.2.2.1 p.2.2.2.1 p.2.2.2.2) (μ := fun p => μ p.1 p.2.1 p.2.2.1 p.2.2.2.1 p.2.2.2.2) (x0, x1, x2, x3, x4) hs hw hi hm
end
def OR (P : Program) (R : RP) (ops : Array Oper) (l : List Oper) (k : List KI) (n : Nat) (σ : Sig) (w : World) : Prop := ∀ a, FrD R n σ a → wpListIn R.F R.m P ops (psr P R k) l a w
section
variable {P : Program} {R : RP} {ops : Array Oper} {l rest : List Oper} {k : List KI} {n : Nat} {σ : Sig} {w w' : World}
theorem KR.region {id : Nat} (h : OR P R l.toArray l k n σ w) : KR P R (.code (.region id l.toArray false) :: k) n σ w := fun a ha => wpIn_region_lit (h a ha)
theorem OR.nil (h : KR P R k n σ w) : OR P R ops [] k n σ w := h
theorem OR.sub {σ' : Sig} (hs : Subs σ' σ) (h : OR P R ops l k n σ' w) : OR P R ops l k n σ w := fun a ha => h a (ha.sub hs)
theorem FrD.as {a : Act} (t : Nat) (v' : Value) {v : Value} (ht : lk σ t = some v) (e : v = v') (ha : FrD R n σ a) : FrD R n ((t, v') :: σ) a :=
  ⟨⟨ha.fr.size, fun i u hu => by
    rw [lk_cons] at hu
    by_cases e' : t = i
    · subst e'
      simp at hu
      subst hu
      rw [← e]
      exact ha.fr.val t _ ht
    · simp [e'] at hu
      exact ha.fr.val i u hu, ha.fr.df⟩, ha.df⟩
theorem OR.as (t : Nat) (v' : Value) {v : Value} (ht : lk σ t = some v) (e : v = v') (h : OR P R ops l k n ((t, v') :: σ) w) : OR P R ops l k n σ w := fun a ha => h a (ha.as t v' ht e)
theorem KR.as (t : Nat) (v' : Value) {v : Value} (ht : lk σ t = some v) (e : v = v') (h : KR P R k n ((t, v') :: σ) w) : KR P R k n σ w := fun a ha => h a (ha.as t v' ht e)
theorem OR.split (t : Nat) {b : Bool} (ht : lk σ t = some (.bool b)) (h1 : b = true → OR P R ops l k n ((t, .bool true) :: σ) w) (h2 : b = false → OR P R ops l k n ((t, .bool false) :: σ) w) : OR P R ops l k n σ w := by
  cases b with
  | true => exact OR.as t _ ht rfl (h1 rfl)
  | false => exact OR.as t _ ht rfl (h2 rfl)
theorem OR.splitD (t : Nat) {p : Prop} [Decidable p] (ht : lk σ t = some (.bool (decide p))) (h1 : p → OR P R ops l k n ((t, .bool true) :: σ) w) (h2 : ¬ p → OR P R ops l k n ((t, .bool false) :: σ) w) : OR P R ops l k n σ w :=
  OR.split t ht (fun e => h1 (of_decide_eq_true e)) (fun e => h2 (of_decide_eq_false e))
theorem wantD {a : Act} (ha : FrD R n σ a) {o : Oper} {b : Bool} (h : wantS ops σ o.guard = some b) : Region.wanted o (yielded ops a.tmps) = b := wantS_spec ha.fr h
theorem RP.semAt (R : RP) {ρ : Operand → Value} {o : Oper} {r : Result Next} {w : World} (h : (execOp ρ o).run P w = r) (hd : ∀ c, o.op ≠ .defer c) : (o.semAt R.F.round ρ).run P w = r := by rw [Oper.semAt_eq _ _ _ hd]; exact h
theorem EX.noDefer {op : Op} {ty : TypeId} {v : Value} (he : EX P n σ op ty w v w') {a : Act} (ha : Fr n σ a) : ∀ c, op ≠ .defer c := fun c e => by
  subst e
  have h := he a ha none "" #[] none
  unfold execOp at h
  simp only [Sem.run_bind] at h
  unfold Result.andThen at h
  split at h <;> simp at h
theorem EU.noDefer {op : Op} {ty : TypeId} (he : EU P n σ op ty w w') {a : Act} (ha : Fr n σ a) : ∀ c, op ≠ .defer c := fun c e => by
  subst e
  have h := he a ha none "" #[] none
  unfold execOp at h
  simp only [Sem.run_bind] at h
  unfold Result.andThen at h
  split at h <;> simp at h
theorem EC.noDefer {op : Op} {ty : TypeId} {f : FuncId} {args : Array Value} (he : EC P n σ op ty w f args) {a : Act} (ha : Fr n σ a) : ∀ c, op ≠ .defer c := fun c e => by
  subst e
  have h := he a ha none "" #[] none
  unfold execOp at h
  simp only [Sem.run_bind] at h
  unfold Result.andThen at h
  split at h <;> simp at h
theorem evalD (a : Act) : ({ a with defers := [] } : Act).eval = a.eval := by funext x; cases x <;> rfl
theorem OR.val {d : Nat} {op : Op} {ty : TypeId} {pos : String} {after : Array Edge} {g : Option (Nat × Bool)} {v : Value} (hg : wantS ops σ g = some true) (hd : Nat.blt d n = true) (he : EX P n σ op ty w v w')
    (h : OR P R ops rest k n ((d, v) :: σ) w') : OR P R ops (⟨some d, op, ty, pos, after, g⟩ :: rest) k n σ w := fun a ha => by
  have h1 := he _ ha.fr (some d) pos after g
  rw [evalD] at h1
  unfold wpListIn
  rw [if_pos (wantD ha (o := ⟨some d, op, ty, pos, after, g⟩) hg)]
  refine ⟨fun _ _ => trivial, ?_⟩
  rw [R.semAt h1 (he.noDefer ha.fr)]
  exact h _ (ha.put hd v)
theorem OR.eff {op : Op} {ty : TypeId} {pos : String} {after : Array Edge} {g : Option (Nat × Bool)} (hg : wantS ops σ g = some true) (he : EU P n σ op ty w w')
    (h : OR P R ops rest k n σ w') : OR P R ops (⟨none, op, ty, pos, after, g⟩ :: rest) k n σ w := fun a ha => by
  have h1 := he _ ha.fr none pos after g
  rw [evalD] at h1
  unfold wpListIn
  rw [if_pos (wantD ha (o := ⟨none, op, ty, pos, after, g⟩) hg)]
  refine ⟨fun _ _ => trivial, ?_⟩
  rw [R.semAt h1 (he.noDefer ha.fr)]
  exact h _ ha
theorem OR.pass {d : Nat} {op : Op} {ty : TypeId} {pos : String} {after : Array Edge} {g : Option (Nat × Bool)} (hg : wantS ops σ g = some false) (hd : Nat.blt d n = true)
    (h : OR P R ops rest k n ((d, undef) :: σ) w) : OR P R ops (⟨some d, op, ty, pos, after, g⟩ :: rest) k n σ w := fun a ha => by
  unfold wpListIn
  rw [if_neg (by rw [wantD ha (o := ⟨some d, op, ty, pos, after, g⟩) hg]; simp)]
  exact ⟨fun _ _ => trivial, h _ (ha.put hd undef)⟩
theorem callsIn_round {r : Option Nat} {m : Nat} {f : FuncId} {args : Array Value} {Q : Ending → World → Prop} (h : Calls P f args w Q) : CallsIn { Fence.wide with round := r } m P f args w Q := by
  have h1 : CallsIn Fence.wide m P f args w Q := callsIn_wide.2 h
  exact h1
theorem OR.callE {d : Nat} {op : Op} {ty : TypeId} {pos : String} {after : Array Edge} {g : Option (Nat × Bool)} {f : FuncId} {args : List Value} {Q : Value → World → Prop} (hg : wantS ops σ g = some true) (hd : Nat.blt d n = true)
    (he : EC P n σ op ty w f args.toArray) (hc : Ret P f args w Q) (h : ∀ v w', Q v w' → OR P R ops rest k n ((d, v) :: σ) w') : OR P R ops (⟨some d, op, ty, pos, after, g⟩ :: rest) k n σ w := fun a ha => by
  have h1 := he _ ha.fr (some d) pos after g
  rw [evalD] at h1
  unfold wpListIn
  rw [if_pos (wantD ha (o := ⟨some d, op, ty, pos, after, g⟩) hg)]
  refine ⟨fun _ _ => trivial, ?_⟩
  rw [R.semAt h1 (he.noDefer ha.fr)]
  refine ⟨fun q => (by cases q), ?_⟩
  refine callsIn_round (hc.2.mono fun e w'' ⟨v, he, q⟩ => ?_)
  subst he
  exact h v w'' q _ (ha.put hd v)
theorem OR.call {d : Nat} {f : FuncId} {xs : List Operand} {ats : Array TypeId} {ty : TypeId} {pos : String} {after : Array Edge} {g : Option (Nat × Bool)} {vs : List Value} {Q : Value → World → Prop}
    (hg : wantS ops σ g = some true) (hd : Nat.blt d n = true) (hx : evs σ xs = some vs) (hc : Ret P f vs w Q) (h : ∀ v w', Q v w' → OR P R ops rest k n ((d, v) :: σ) w') :
    OR P R ops (⟨some d, .call { callee := .value (.func f), args := xs.toArray, argTypes := ats }, ty, pos, after, g⟩ :: rest) k n σ w := by
  obtain ⟨⟨fn, h1, h2⟩, _⟩ := id hc
  exact OR.callE hg hd (EC.go h1 h2 hx) hc h
def YieldR (P : Program) (m l : Nat) (args : List Value) (W : World) (Q : Value → World → Prop) : Prop := YieldAt Fence.wide m P l args.toArray W fun e W' => ∃ v, e = .returned v ∧ Q v W'
theorem OR.yield {d : Nat} {x t : Operand} {ats : Array TypeId} {ty : TypeId} {pos : String} {after : Array Edge} {g : Option (Nat × Bool)} {lr : Nat} {v : Value} {Q : Value → World → Prop} (hr : R.round = none)
    (hg : wantS ops σ g = some true) (hd : Nat.blt d n = true) (ht : ev σ t = some (.func (.yield lr) #[] #[])) (hx : ev σ x = some v) (hc : YieldR P (R.m - 1) lr [v] w Q)
    (h : ∀ u w', Q u w' → OR P R ops rest k n ((d, u) :: σ) w') :
    OR P R ops (⟨some d, .call { callee := .value t, args := #[x], argTypes := ats }, ty, pos, after, g⟩ :: rest) k n σ w := fun a ha => by
  obtain ⟨ro, m, ds, post⟩ := R
  simp only at hr
  subst hr
  obtain ⟨fn, tmps, assign, body, hy, hR⟩ := hc
  have et : a.eval t = .func (.yield lr) #[] #[] := by have := ha.fr.ev ht; rwa [evalD] at this
  have ex : a.eval x = v := by have := ha.fr.ev hx; rwa [evalD] at this
  unfold wpListIn
  rw [if_pos (wantD ha (o := ⟨some d, .call { callee := .value t, args := #[x], argTypes := ats }, ty, pos, after, g⟩) hg)]
  refine ⟨fun _ _ => trivial, ?_⟩
  have h1 : (execOp a.eval ⟨some d, .call { callee := .value t, args := #[x], argTypes := ats }, ty, pos, after, g⟩).run P w = .ok (.round lr fn tmps assign body) w := by
    simp only [execOp, resolve, Deferred.ofValue, et, Sem.run_bind, Sem.run_pure, Result.andThen_ok, invoke]
    simpa [ex] using hy
  rw [RP.semAt _ h1 (by simp)]
  refine ⟨fun q => (by cases q), ?_⟩
  have hR' : RoundIn (RP.F ⟨none, m, ds, post⟩) (m - 1) P lr fn tmps assign body w _ := hR
  refine hR'.mono fun e w'' ⟨u, he, q⟩ => ?_
  subst he
  exact h u w'' q _ (ha.put hd u)
end
section
variable {P : Program} {R : RP} {ops : Array Oper} {rest : List Oper} {k : List KI} {n : Nat} {σ : Sig} {w : World} {x y t : Operand} {T T' e ty : TypeId} {pos : String} {after : Array Edge} {gd : Option (Nat × Bool)} {d : Nat} {v z : Value} {s bs : Nat} {l : List Value}
theorem OR.boxB (hg : wantS ops σ gd = some true) (hd : Nat.blt d n = true) (hx : ev σ x = some v) (h1 : v.oneCell' = true)
    (h : ∀ b w', w.heap.size ≤ b → Bk w' b T [v] → Ext w w' → OR P R ops rest k n ((d, .pointer (some ⟨b, 0, none⟩)) :: σ) w') :
    OR P R ops (⟨some d, .box T x, ty, pos, after, gd⟩ :: rest) k n σ w :=
  OR.val hg hd (EX.box1 hx h1) (h _ _ (Nat.le_refl _) (Bk.new w T [v]) (Ext.alloc w _))
theorem OR.allocB (hg : wantS ops σ gd = some true) (hd : Nat.blt d n = true) (hi : TI P T z s bs) (hl : z.cells.toList = l)
    (h : ∀ b w', w.heap.size ≤ b → Bk w' b T l → Ext w w' → OR P R ops rest k n ((d, .pointer (some ⟨b, 0, none⟩)) :: σ) w') :
    OR P R ops (⟨some d, .alloc T, ty, pos, after, gd⟩ :: rest) k n σ w :=
  OR.val hg hd (EX.alloc hi hl) (h _ _ (Nat.le_refl _) (Bk.new w T l) (Ext.alloc w _))
theorem OR.storeB {b i : Nat} (hg : wantS ops σ gd = some true) (hi : TI P T z 1 bs) (hx : ev σ x = some (.pointer (some ⟨b, i, none⟩))) (hy : ev σ y = some v) (h1 : v.oneCell' = true) (hb : Bk w b T' l) (hlt : i < l.length)
    (h : ∀ w', Bk w' b T' (l.set i v) → Mo w w' [b] → OR P R ops rest k n σ w') :
    OR P R ops (⟨none, .store T x y, ty, pos, after, gd⟩ :: rest) k n σ w :=
  OR.eff hg (EU.storeBk hi hx hy h1 hb hlt) (h _ (hb.set i v) (Mo.set w b i v))
theorem OR.buildB {parts : Array (Nat × Operand)} {vs : List Value} (len : Nat) (hg : wantS ops σ gd = some true) (hd : Nat.blt d n = true) (ht : P.underlying T = some (.slice e)) (hi : TI P e z 1 bs) (hz1 : z.oneCell' = true)
    (hv : evs σ (parts.toList.map (·.2)) = some vs) (hp : parts.toList.map (·.1) = List.range' 0 parts.toList.length) (hl : vs.length = len) (h1 : vs.all (·.oneCell') = true) (hlen : len ≤ 16777216)
    (h : ∀ b w', w.heap.size ≤ b → Bk w' b e vs → Ext w w' → OR P R ops rest k n ((d, .slice (some ⟨b, 0, none⟩) len len) :: σ) w') :
    OR P R ops (⟨some d, .buildSlice T len parts, ty, pos, after, gd⟩ :: rest) k n σ w :=
  OR.val hg hd (EX.buildSlice len ht hi hz1 hv hp hl h1 hlen) (h _ _ (Nat.le_refl _) (Bk.new w e vs) (Ext.alloc w _))
theorem OR.callV {f : FuncId} {xs : List Operand} {ats : Array TypeId} {vs fv cv args : List Value} {Q : Value → World → Prop}
    (hg : wantS ops σ gd = some true) (hd : Nat.blt d n = true) (ht : ev σ t = some (.func (.func f) fv.toArray cv.toArray)) (hx : evs σ xs = some vs) (he : fv ++ vs ++ cv = args) (hc : Ret P f args w Q)
    (h : ∀ v w', Q v w' → OR P R ops rest k n ((d, v) :: σ) w') :
    OR P R ops (⟨some d, .call { callee := .value t, args := xs.toArray, argTypes := ats }, ty, pos, after, gd⟩ :: rest) k n σ w := by
  obtain ⟨⟨fn, h1, h2⟩, _⟩ := id hc
  exact OR.callE hg hd (EC.val h1 h2 ht hx he) hc h
end
section
variable {P : Program} {R : RP} {ops : Array Oper} {rest : List Oper} {k : List KI} {n : Nat} {σ : Sig} {w : World} {x y : Operand} {t t' e ty : TypeId} {pos : String} {after : Array Edge} {gd : Option (Nat × Bool)} {d : Nat}
theorem OR.append (B : Nat) {z : Value} {s bs : Nat} (hg : wantS ops σ gd = some true) (hd : Nat.blt d n = true) (ht : P.underlying t = some (.slice e)) (hi : TI P e z s bs) (hzs : z.cells.size = s) (hs0 : 0 < s)
    {v xv : Value} {m l : Nat} {xs news : List Value} (hx : ev σ x = some v) (hy : ev σ y = some xv) (hown : Own w B e s v l xs) (hsrc : Src P s t' xv m news w)
    (h63 : l + m ≤ maxLen) (hbytes : (l + m) * bs ≤ 140737488355328) (hB : B ≤ w.heap.size)
    (h : ∀ v' w', Own w' B e s v' (l + m) (xs ++ news) → w.grownBy w' v.ownBlock → (v'.ownBlock = v.ownBlock ∨ v'.ownBlock = some w.heap.size) → OR P R ops rest k n ((d, v') :: σ) w') :
    OR P R ops (⟨some d, .call { callee := .builtin .append, args := #[x, y], argTypes := #[t, t'] }, ty, pos, after, gd⟩ :: rest) k n σ w := by
  obtain ⟨v', w', hr, h2, h3, h4⟩ := run_append (P := P) B t t' ty e ht hi hzs hs0 hown hsrc h63 hbytes hB
  refine OR.val hg hd (v := v') (w' := w') ?_ (h v' w' h2 h3 h4)
  intro A ha dst pos after g
  simp only [execOp, resolve, invoke, builtin, Sem.run_bind, Sem.run_pure, Result.andThen_ok, List.map_toArray, List.map_cons, List.map_nil, ha.ev hx, ha.ev hy, hr]
end
section
variable {P : Program} {R : RP} {ops : Array Oper} {rest : List Oper} {k : List KI} {n : Nat} {σ : Sig} {w w0 : World} {x y : Operand} {t t' e ty ty1 : TypeId} {pos pos1 : String} {after after1 : Array Edge} {gd gd1 : Option (Nat × Bool)} {d d1 : Nat}
theorem OR.appendX {z : Value} {s bs : Nat} (hg : wantS ops σ gd = some true) (hd : Nat.blt d n = true) (ht : P.underlying t = some (.slice e)) (hi : TI P e z s bs) (hzs : z.cells.size = s) (hs0 : 0 < s)
    {v xv : Value} {m l : Nat} {xs news : List Value} (hx : ev σ x = some v) (hy : ev σ y = some xv) (hext : Ext w0 w) (hown : Own w w0.heap.size e s v l xs) (hsrc : Src P s t' xv m news w)
    (h63 : l + m ≤ maxLen) (hbytes : (l + m) * bs ≤ 140737488355328)
    (h : ∀ v' w', Own w' w0.heap.size e s v' (l + m) (xs ++ news) → Ext w0 w' → w.grownBy w' v.ownBlock → (v'.ownBlock = v.ownBlock ∨ v'.ownBlock = some w.heap.size) → OR P R ops rest k n ((d, v') :: σ) w') :
    OR P R ops (⟨some d, .call { callee := .builtin .append, args := #[x, y], argTypes := #[t, t'] }, ty, pos, after, gd⟩ :: rest) k n σ w :=
  OR.append w0.heap.size hg hd ht hi hzs hs0 hx hy hown hsrc h63 hbytes hext.size fun v' w' h1 h2 h3 => h v' w' h1 (hext.grown h2 fun g hg => (hown.lt g hg).1) h2 h3
theorem OR.push {z : Value} {bs : Nat} (hg1 : wantS ops σ gd1 = some true) (hd1 : Nat.blt d1 n = true) (hg : ∀ u, wantS ops ((d1, u) :: σ) gd = some true) (hd : Nat.blt d n = true) (ht : P.underlying t = some (.slice e)) (hi : TI P e z 1 bs) (hz1 : z.oneCell' = true)
    {v u : Value} {l : Nat} {xs : List Value} (hy : ev σ y = some u) (hx : ∀ q, ev ((d1, q) :: σ) x = some v) (hu : u.oneCell' = true) (hext : Ext w0 w) (hown : Own w w0.heap.size e 1 v l xs)
    (h63 : l + 1 ≤ maxLen) (hbytes : (l + 1) * bs ≤ 140737488355328)
    (h : ∀ q v' w', Own w' w0.heap.size e 1 v' (l + 1) (xs ++ [u]) → Ext w0 w' → w.grownBy w' v.ownBlock → (v'.ownBlock = v.ownBlock ∨ ∃ g, v'.ownBlock = some g ∧ w.heap.size ≤ g) → OR P R ops rest k n ((d, v') :: (d1, q) :: σ) w') :
    OR P R ops (⟨some d1, .buildSlice t 1 #[(0, y)], ty1, pos1, after1, gd1⟩ :: ⟨some d, .call { callee := .builtin .append, args := #[x, .tmp d1], argTypes := #[t, t] }, ty, pos, after, gd⟩ :: rest) k n σ w := by
  refine OR.val hg1 hd1 (EX.buildSlice (vs := [u]) 1 ht hi hz1 (by simp [evs, hy]) rfl rfl (by simp [hu]) (by decide)) ?_
  have hx1 : Ext w0 (w.alloc (.cells [u].toArray e)) := hext.trans (Ext.alloc w _)
  have hb := Bk.new w e [u]
  refine OR.appendX (hg _) hd ht hi (by rw [oneCell_cells hz1]; rfl) (by decide) (hx _) (lk_cons_same _ _ _) hx1 (hown.alloc _) (Src.of_sl ht (Sl.of_bk hb hb.lt) rfl (by simpa using hu) (by decide)) h63 hbytes ?_
  intro v' w' h1 h2 h3 h4
  refine h _ v' w' h1 h2 ⟨h3.os, h3.tape, h3.output, by have := h3.size; simp at this; omega, fun j hj hne => ?_⟩ ?_
  · rw [h3.block j (by simp; omega) hne]
    exact Below.heap_alloc w _ j hj
  · rcases h4 with h4 | h4
    · exact .inl h4
    · exact .inr ⟨_, h4, by simp⟩
end
def RP.mark (R : RP) (D : Nat) : RP := { R with ds := { target := .collected D, args := #[] } :: R.ds }
theorem psr_mark {P : Program} {R : RP} {D : Nat} : ∀ (k : List KI) (e : Exit), psr P (R.mark D) k e = psr P R k e
  | [], e => rfl
  | .code c :: k, e => by
    have ih : psr P (R.mark D) k = psr P R k := funext (psr_mark k)
    cases e <;> (simp only [psr, ih]; try rfl)
  | .blk id :: k, e => by
    have ih : psr P (R.mark D) k = psr P R k := funext (psr_mark k)
    cases e <;> simp only [psr, ih]
  | .asr I :: k, e => by
    have ih : psr P (R.mark D) k = psr P R k := funext (psr_mark k)
    cases e <;> simp only [psr, ih]
section
variable {P : Program} {R : RP} {k : List KI} {n : Nat} {σ : Sig} {w : World}
theorem stepR_scope {b : Frame} {a : Act} {c : Code} {k : List Item} {cs : List Frame} : step P (lone (b.atR a (.code (.scope c) :: k)) cs w) = .next (lone (b.atR a (.code c :: .inScope c :: k)) cs w) :=
  step_lone_go (by simp [stepG, stepG.exec, Frame.atR])
theorem stepR_inScope {b : Frame} {a : Act} {c : Code} {k : List Item} {cs : List Frame} : step P (lone (b.atR a (.inScope c :: k)) cs w) = .next (lone (b.atR a k) cs w) :=
  step_lone_go (by simp [stepG, stepG.exec, Frame.atR])
theorem wpIn_scope {F : Fence} {n : Nat} {a : Act} {Q : Exit → Act → World → Prop} {c : Code} (h : c.wpIn F n P Q a w) (hg : ∀ l a w, Q (.goto l) a w → False) : (Code.scope c).wpIn F n P Q a w := by
  intro b k cs hro hb hr
  have h0 : (lone (b.atR a (.code (.scope c) :: k)) cs w).fenced P F := fenced_calm hb hr rfl
  obtain ⟨e, a₁, w₁, hq, harr⟩ := h b (.inScope c :: k) cs hro hb hr
  cases e with
  | normal => exact ⟨.normal, a₁, w₁, hq, .head h0 stepR_scope (StepsIn.trans harr (.one (fenced_calm hb hr rfl) stepR_inScope))⟩
  | exit id =>
    have hx : exitTo id (.inScope c :: k) = exitTo id k := by simp [exitTo]
    exact ⟨_, a₁, w₁, hq, fun k' hk => .head h0 stepR_scope (harr.1 k' (by rw [hx]; exact hk)),
      fun hr' hk => let ⟨k₁, h1, h2⟩ := harr.2 hr' (by rw [hx]; exact hk); ⟨k₁, h1, .head h0 stepR_scope h2⟩⟩
  | goto l => exact (hg _ _ _ hq).elim
  | ret => exact ⟨_, a₁, w₁, hq, .of_steps (.one h0 stepR_scope) harr⟩
  | panic ch => exact ⟨_, a₁, w₁, hq, .of_steps (.one h0 stepR_scope) harr⟩
  | outgrown => exact ⟨_, a₁, w₁, hq, .of_steps (.one h0 stepR_scope) harr⟩
theorem psr_goto {l : Nat} : ∀ (k : List KI) (a : Act) (w : World), psr P R k (.goto l) a w = R.post (.goto l) a w
  | [], _, _ => rfl
  | .code _ :: k, a, w => psr_goto k a w
  | .blk _ :: k, a, w => psr_goto k a w
  | .asr _ :: k, a, w => psr_goto k a w
theorem KR.scope {c : Code} (hg : ∀ l a w, R.post (.goto l) a w → False) (h : KR P R (.code c :: k) n σ w) : KR P R (.code (.scope c) :: k) n σ w := fun a ha =>
  wpIn_scope (h a ha) (fun l a w q => hg l a w (by rw [psr_goto] at q; exact q))
theorem KR.exitOut {id : Nat} (hk : popTo id k = none) (h : ∀ a, FrD R n σ a → R.post (.exit id) a w) : KR P R (.code (.exit id) :: k) n σ w := fun a ha => by
  refine wpIn_exit ?_
  have key : ∀ k, popTo id k = none → psr P R k (.exit id) a w = R.post (.exit id) a w := by
    intro k
    induction k with
    | nil => intro _; rfl
    | cons x k ih =>
      intro hk
      cases x with
      | code c => exact ih hk
      | asr I => exact ih hk
      | blk i =>
        simp only [popTo] at hk
        by_cases e : id = i
        · subst e
          have : Nat.beq id id = true := by simp
          rw [this] at hk
          cases hk
        · have : Nat.beq id i = false := by
            cases hb : Nat.beq id i with
            | false => rfl
            | true => exact absurd (Nat.eq_of_beq_eq_true hb) e
          rw [this] at hk
          simp only [psr]
          rw [if_neg e]
          exact ih hk
  rw [key k hk]
  exact h a ha
theorem KR.rangeF {α : Type} (hr : R.round = none) (hm : 1 ≤ R.m) {g : Operand} {p d id : Nat} {op : Op} {ty : TypeId} {pos : String} {after : Array Edge} {body : Code} {gf : Nat} {lb : List Value} {fn : Func}
    (hf : P.funcs[gf]? = some fn) (hn : (!(fn.name == "runtime.NumGoroutine") && fn.body.isSome) = true)
    (hg : ev σ g = some (.func (.func gf) #[] lb.toArray)) (hp : Nat.blt p n = true) (hd : Nat.blt d n = true)
    (hop : ∀ (a : Act) (W : World), (execOp a.eval ⟨some d, op, ty, pos, after, none⟩).run P W = .ok (.value (a.eval (.tmp p))) W) (hopd : ∀ c, op ≠ .defer c)
    {enc : α → Value} {Kp : World → World → Prop} {S Sp : List α → Prop} {N : Nat} (hseq : SeqStopsK Fence.wide (R.m - 1) P gf lb.toArray (fun x => #[enc x]) Kp S Sp N w)
    (hKt : ∀ {A B C : World}, Kp A B → Kp B C → Kp A C) (hKb : ∀ (W : World) (l : Nat) (o o' : Obj), w.heap.size ≤ l → W.heap[l]? = some o → o.isCells = false → o.isWalk = false → Kp W (W.putObj l o'))
    (I : List α → World → Prop) (Ix : Code → List α → World → Prop) (hI : OwnFrom w.heap.size I) (hIx : ∀ c, OwnFrom w.heap.size (Ix c)) (h0 : I [] w)
    (hbody : ∀ (l : Nat) (pre : List α) (x : α) (W : World), I pre W → pre.length < N → KR P ⟨some l, R.m - 1 - 1, [], ownPostK Kp I Ix (pre ++ [x]) W⟩ [.code body] n ((d, enc x) :: (p, enc x) :: σ) W)
    (hdone : ∀ (D : Nat) (xs : List α) (W : World), w.heap.size ≤ D → S xs → I xs W → W.heap[D]? = some (.deferred (some [])) → KR P (R.mark D) k n σ W)
    (hstop : ∀ (D : Nat) (c : Code) (pre : List α) (W : World), w.heap.size ≤ D → Sp pre → Ix c pre W → W.heap[D]? = some (.deferred (some [])) → KR P (R.mark D) (.code c :: k) n σ W) :
    KR P R (.code (.rangeFunc g #[p] (.region id #[⟨some d, op, ty, pos, after, none⟩] false) body) :: k) n σ w := fun a ha => by
  obtain ⟨ro, m, ds, post⟩ := R
  simp only at hr
  subst hr
  have hge : a.eval g = .func (.func gf) #[] lb.toArray := ha.ev hg
  have hps : p < a.tmps.size := by have := ha.fr.size; simp only at this; rw [this]; simpa [Nat.blt_eq] using hp
  show Code.wpIn Fence.wide m P _ (psr P _ k) a w
  refine wpIn_rangeFunc_ownF (F := Fence.wide) (n := m) rfl hm (lb := lb.toArray) hge trivial (fun args w => run_callFunc hf hn args) hseq hKt hKb (Below.refl _ _) (fun _ => rfl) I Ix hI hIx h0
    (fun x => { tmps := (a.tmps.setIfInBounds p (enc x)).setIfInBounds d (enc x), defers := [] }) ?_ ?_ ?_ ?_
  · intro l x W K hK
    refine wpIn_region_lit (l := [⟨some d, op, ty, pos, after, none⟩]) ?_
    have ez : ∀ f : Array Value → Tmp × Value → Array Value, ((#[p] : Array Tmp).zip #[enc x]).foldl f a.tmps = f a.tmps (p, enc x) := fun f => by simp
    rw [ez]
    unfold wpListIn
    rw [if_pos (by rfl)]
    refine ⟨fun _ _ => trivial, ?_⟩
    rw [Oper.semAt_eq _ _ _ hopd, hop]
    have e : (({ tmps := a.tmps.setIfInBounds p (enc x), defers := [] } : Act).eval (.tmp p)) = enc x := by simp [Act.eval, hps]
    show K (Act.put { tmps := a.tmps.setIfInBounds p (enc x), defers := [] } (some d) (Act.eval { tmps := a.tmps.setIfInBounds p (enc x), defers := [] } (.tmp p))) W
    rw [e]
    exact hK
  · intro l pre x W hi hl
    exact hbody l pre x W hi hl _ ⟨(ha.fr.put hp (enc x)).put hd (enc x), rfl⟩
  · intro D xs W hD hS hi hK
    have h := hdone D xs W hD hS hi hK { a with defers := { target := .collected D, args := #[] } :: a.defers } ⟨ha.fr, by show _ :: a.defers = _ :: ds; rw [ha.df]⟩
    rw [psr_mark] at h
    exact h
  · intro D c pre W hD hS hi hK
    have h := hstop D c pre W hD hS hi hK { a with defers := { target := .collected D, args := #[] } :: a.defers } ⟨ha.fr, by show _ :: a.defers = _ :: ds; rw [ha.df]⟩
    rw [psr_mark] at h
    exact h
end
theorem Ret.enterR {P : Program} {f : FuncId} {fn : Func} {c : Code} {args : List Value} {w : World} {Q : Value → World → Prop} {n : Nat} (m : Nat) (hf : P.funcs[f]? = some fn) (hb : fn.body = some c) (hnt : fn.ntmps = n)
    (hn : (!(fn.name == "runtime.NumGoroutine") && fn.body.isSome) = true) (hl : args.length + (n - args.length) = n)
    (h : KR P ⟨none, m, [], bodyPostM Fence.wide m P fn (fun e w' => ∃ v, e = .returned v ∧ Q v w')⟩ [.code c] n (argSig 0 args) w) : Ret P f args w Q := by
  refine ⟨⟨fn, hf, hn⟩, (callsIn_wide (n := m)).1 (callsIn_of_wp_marks hf hb trivial ?_)⟩
  have hfr : Fr n (argSig 0 args) { tmps := args.toArray ++ Array.replicate (fn.ntmps - args.toArray.size) undef, defers := [] } := by
    have := Fr.start args (n - args.length)
    rw [hl] at this
    simpa [hnt] using this
  exact h _ ⟨hfr, rfl⟩
section
variable {P : Program} {fn : Func} {Q : Value → World → Prop} {n m D : Nat} {σ : Sig} {w : World} {R : RP}
theorem retR_of {v : Value} {e : Exit} (he : e = .normal ∨ e = .ret) (hds : R.ds = []) (hp : R.post = bodyPostM Fence.wide m P fn (fun e w' => ∃ v, e = .returned v ∧ Q v w')) (hr : ∀ a, FrD R n σ a → (results fn a.tmps).run P w = .ok v w) (hq : Q v w) :
    ∀ a, FrD R n σ a → R.post e a w := fun a ha => by
  rw [hp]
  have h1 : LeavesInM Fence.wide m P fn a.tmps (fun e w' => ∃ v, e = .returned v ∧ Q v w') a.defers .returning w := by
    rw [ha.df, hds]
    exact ⟨v, hr a ha, v, rfl, hq⟩
  rcases he with rfl | rfl <;> exact h1
theorem retM_of {v : Value} {e : Exit} (he : e = .normal ∨ e = .ret) (hds : R.ds = [{ target := .collected D, args := #[] }]) (hp : R.post = bodyPostM Fence.wide m P fn (fun e w' => ∃ v, e = .returned v ∧ Q v w')) (hK : w.heap[D]? = some (.deferred (some [])))
    (hr : ∀ a w, FrD R n σ a → (results fn a.tmps).run P w = .ok v w) (hq : Q v (w.putObj D (.deferred none))) :
    ∀ a, FrD R n σ a → R.post e a w := fun a ha => by
  rw [hp]
  have h1 : LeavesInM Fence.wide m P fn a.tmps (fun e w' => ∃ v, e = .returned v ∧ Q v w') a.defers .returning w := by
    rw [ha.df, hds]
    exact ⟨by simp, .inl ⟨D, _, rfl, run_takeDeferred hK, v, hr a _ ha, v, rfl, hq⟩⟩
  rcases he with rfl | rfl <;> exact h1
theorem retR0 {e : Exit} (he : e = .normal ∨ e = .ret) (hds : R.ds = []) (hp : R.post = bodyPostM Fence.wide m P fn (fun e w' => ∃ v, e = .returned v ∧ Q v w')) (hs : fn.results = #[]) (hq : Q (.tuple #[]) w) : ∀ a, FrD R n σ a → R.post e a w :=
  retR_of he hds hp (fun _ _ => results_none hs _ _ _) hq
theorem retR2 {e : Exit} (he : e = .normal ∨ e = .ret) {t u : Nat} {v x : Value} (hds : R.ds = []) (hp : R.post = bodyPostM Fence.wide m P fn (fun e w' => ∃ v, e = .returned v ∧ Q v w')) (hs : fn.results = #[.tmp t, .tmp u]) (hv : lk σ t = some v) (hx : lk σ u = some x) (hq : Q (.tuple #[v, x]) w) :
    ∀ a, FrD R n σ a → R.post e a w :=
  retR_of he hds hp (fun a ha => by rw [results_tmp2 hs]; have h1 := ha.fr.val t v hv; have h2 := ha.fr.val u x hx; simp only at h1 h2; simp [h1, h2]) hq
theorem retM2 {e : Exit} (he : e = .normal ∨ e = .ret) {t u : Nat} {v x : Value} (hds : R.ds = [{ target := .collected D, args := #[] }]) (hp : R.post = bodyPostM Fence.wide m P fn (fun e w' => ∃ v, e = .returned v ∧ Q v w')) (hK : w.heap[D]? = some (.deferred (some []))) (hs : fn.results = #[.tmp t, .tmp u]) (hv : lk σ t = some v) (hx : lk σ u = some x) (hq : Q (.tuple #[v, x]) (w.putObj D (.deferred none))) :
    ∀ a, FrD R n σ a → R.post e a w :=
  retM_of he hds hp hK (fun a w ha => by rw [results_tmp2 hs]; have h1 := ha.fr.val t v hv; have h2 := ha.fr.val u x hx; simp only at h1 h2; simp [h1, h2]) hq
end
theorem Ext.putObj {w W : World} (h : Ext w W) {D : Nat} (hD : w.heap.size ≤ D) (o : Obj) : Ext w (W.putObj D o) :=
  ⟨h.os, h.tape, h.output, by simpa using h.size, fun k hk => (World.putObj_heap_other (by omega)).trans (h.block k hk)⟩
theorem Bk.putObj {w : World} {b D : Nat} {T : TypeId} {l : List Value} (h : Bk w b T l) (hD : b ≠ D) (o : Obj) : Bk (w.putObj D o) b T l := h.of_block (World.putObj_heap_other hD)
end Go.Proofs.YthgfdpcpbghkpaaGreatDoor
namespace Go.Proofs.YthgfdpcpbghkpaaGreatDoor
open Go.RowKit
section
variable {P : Program} {n : Nat} {σ : Sig} {w : World} {x y : Operand} {t e ty T T' : TypeId} {b o : Nat} {z v : Value} {s bs : Nat} {l : List Value}
def places (P : Program) (fs : List Field) : Option (List (Nat × Nat)) :=
  match fs with
  | [] => some []
  | f :: r => match P.info? f.type, places P r with
    | some i, some l => some ((f.offset, i.size) :: l)
    | _, _ => none
theorem run_places : ∀ (fs : List Field) (l : List (Nat × Nat)), places P fs = some l → (fs.mapM fun f => (do pure (f.offset, ← sizeOf f.type) : Sem (Nat × Nat))).run P w = .ok l w
  | [], l, h => by
    simp only [places, Option.some.injEq] at h
    subst h
    simp
  | f :: r, l, h => by
    simp only [places] at h
    split at h
    · rename_i i l' hi hl
      injection h with h
      subst h
      have ih := run_places r l' hl
      have hs : (sizeOf f.type).run P w = .ok i.size w := by simp [sizeOf, typeInfo, hi, Sem.run_bind]
      simp only [List.mapM_cons, Sem.run_bind, hs, Result.andThen_ok, Sem.run_pure, ih]
    · cases h
def setAll : List Value → List Nat → List Value → List Value
  | cs, i :: is, v :: vs => setAll (cs.set i v) is vs
  | cs, _, _ => cs
theorem fill_setAll (pl : List (Nat × Nat)) : ∀ (pv : List (Nat × Value)) (is : List Nat) (cs : List Value), pv.length = is.length → (∀ (j : Nat) (p : Nat × Value) (i : Nat), pv[j]? = some p → is[j]? = some i → pl[p.1]? = some (i, 1) ∧ i < cs.length ∧ p.2.oneCell' = true) →
    Instr.fill (pl.toArray[·]?) cs.toArray pv = some (setAll cs is (pv.map (·.2))).toArray
  | [], is, cs, hl, _ => by
    cases is with
    | nil => simp [Instr.fill, setAll]
    | cons _ _ => simp at hl
  | (k, v) :: pv, is, cs, hl, h => by
    cases is with
    | nil => simp at hl
    | cons i is =>
      obtain ⟨h1, h2, h3⟩ := h 0 (k, v) i rfl rfl
      have hc := oneCell_cells h3
      have ih := fill_setAll pl pv is (cs.set i v) (by simpa using hl) (fun j p i' hp hi' => by
        have := h (j + 1) p i' (by simpa using hp) (by simpa using hi')
        simpa using this)
      simp only [List.map_cons, setAll]
      simp only [Instr.fill]
      have e1 : pl.toArray[k]? = some (i, 1) := by simpa using h1
      rw [e1]
      simp only [hc]
      have hn : ¬ ((#[v] : Array Value).size ≠ 1 ∨ i + (#[v] : Array Value).size > cs.toArray.size) := by simp; omega
      have hz : (#[v] : Array Value).zipIdx.foldl (fun cs (x : Value × Nat) => cs.setIfInBounds (i + x.2) x.1) cs.toArray = (cs.set i v).toArray := by
        have : (#[v] : Array Value).zipIdx.foldl (fun cs (x : Value × Nat) => cs.setIfInBounds (i + x.2) x.1) cs.toArray = cs.toArray.setIfInBounds (i + 0) v := rfl
        rw [this]
        simp
      simp only [ne_eq, Bool.or_eq_true, decide_eq_true_eq]
      rw [if_neg (by simpa using hn), hz]
      exact ih
def placed (pl : List (Nat × Nat)) (m : Nat) : List Nat → List Nat → Bool
  | k :: ks, i :: is => (match pl[k]? with | some (i', 1) => Nat.beq i' i | _ => false) && Nat.blt i m && placed pl m ks is
  | [], [] => true
  | _, _ => false
theorem placed_at {pl : List (Nat × Nat)} {m : Nat} : ∀ {ks is : List Nat}, placed pl m ks is = true → ks.length = is.length ∧ ∀ (j k i : Nat), ks[j]? = some k → is[j]? = some i → pl[k]? = some (i, 1) ∧ i < m
  | [], [], _ => ⟨rfl, fun j k i hk _ => by simp at hk⟩
  | [], i :: is, h => by simp [placed] at h
  | k :: ks, [], h => by simp [placed] at h
  | k :: ks, i :: is, h => by
    simp only [placed, Bool.and_eq_true] at h
    obtain ⟨⟨h1, h2⟩, h3⟩ := h
    obtain ⟨e, f⟩ := placed_at h3
    refine ⟨by simp [e], fun j k' i' hk hi => ?_⟩
    cases j with
    | zero =>
      simp at hk hi
      subst hk; subst hi
      split at h1
      · rename_i i' hp
        rw [hp, Nat.eq_of_beq_eq_true h1]
        refine ⟨rfl, ?_⟩
        have h2' : Nat.ble (i + 1) m = true := h2
        exact Nat.le_of_ble_eq_true h2'
      · cases h1
    | succ j => exact f j k' i' (by simpa using hk) (by simpa using hi)
theorem EX.buildS {fs : Array Field} {parts : Array (Nat × Operand)} {pl : List (Nat × Nat)} {ks is : List Nat} {vs zs : List Value} (hu : P.underlying t = some (.struct fs)) (hi : TI P t (.agg zs.toArray) s bs) (hp : places P fs.toList = some pl)
    (hk : parts.toList.map (·.1) = ks) (hv : evs σ (parts.toList.map (·.2)) = some vs) (hc : placed pl zs.length ks is = true) (h1 : vs.all (·.oneCell') = true) (hl : setAll zs is vs = l) :
    EX P n σ (.build t parts) ty w (.agg l.toArray) w := fun A ha dst pos after g => by
  subst hl
  obtain ⟨i, hq, hz, _, _⟩ := hi.at
  have hev := ha.evs hv
  have hpv : (parts.map fun (p : Nat × Operand) => (p.1, A.eval p.2)).toList = ks.zip vs := by
    rw [← hk, ← hev]
    simp only [Array.toList_map, List.map_map, List.zip_map']
    rfl
  obtain ⟨e1, e2⟩ := placed_at hc
  have hlen : ks.length = vs.length := by rw [← hk, ← hev]; simp
  have hf := fill_setAll pl (ks.zip vs) is zs (by simp [hlen]; omega) (fun j p i' hp' hi' => by
    rw [List.getElem?_zip_eq_some] at hp'
    obtain ⟨h2, h3⟩ := hp'
    obtain ⟨h4, h5⟩ := e2 j p.1 i' h2 hi'
    exact ⟨h4, h5, List.all_eq_true.1 h1 _ (List.mem_of_getElem? h3)⟩)
  have hsnd : (ks.zip vs).map (·.2) = vs := by
    rw [← List.unzip_snd, List.unzip_zip_right]
    omega
  rw [hsnd] at hf
  have hm : (fs.mapM fun f => (do pure (f.offset, ← sizeOf f.type) : Sem (Nat × Nat))).run P w = .ok pl.toArray w := by
    have := run_places (P := P) (w := w) fs.toList pl hp
    obtain ⟨fl⟩ := fs
    rw [List.mapM_toArray, map_eq_pure_bind, Sem.run_bind, this]
    rfl
  simp only [execOp, Instr.build, Sem.run_bind, run_zeroValue hi, Result.andThen_ok, run_underlying hu, hm]
  rw [show (parts.map fun (x : Nat × Operand) => match x with | (i, x) => (i, A.eval x)).toList = ks.zip vs from hpv]
  rw [show ((Value.agg zs.toArray).cells) = zs.toArray from rfl, hf]
  rfl
theorem EX.fieldAddr {fs : Array Field} {fd : Field} {f off : Nat} (hu : P.underlying t = some (.struct fs)) (hf : fs[f]? = some fd) (ho : fd.offset = off) (hi : TI P fd.type z s bs) (hs : Nat.blt 0 s = true) (hx : ev σ x = some (.pointer (some ⟨b, o, none⟩))) :
    EX P n σ (.fieldAddr t x f) ty w (.pointer (some ⟨b, o + off, none⟩)) w := fun A ha dst pos after g => by
  subst ho
  have hs' : s ≠ 0 := by have : 1 ≤ s := Nat.le_of_ble_eq_true hs; omega
  have hadd : (⟨b, o, none⟩ : Addr).add fd.offset = ⟨b, o + fd.offset, none⟩ := by unfold Addr.add; split <;> simp_all
  simp only [execOp, ha.ev hx]
  simp [Instr.fieldAt, run_underlying hu, Sem.run_bind, hf, Instr.sureAddr, fieldPlace, run_sizeOf hi, hs', hadd]
theorem run_eq {u v : Value} {q : Bool} (e : binOp .eql t u v = (do pure (.bool (← Op.equal t u v)))) (h : ∀ d, (Op.equalIn (d + 1) t u v).run P w = .ok q w) : (binOp .eql t u v).run P w = .ok (.bool q) w := by
  have h1 : (Op.equal t u v).run P w = .ok q w := h 9999
  rw [e, Sem.run_bind, h1]
  rfl
theorem run_ne {u v : Value} {q : Bool} (e : binOp .neq t u v = (do pure (.bool !(← Op.equal t u v)))) (h : ∀ d, (Op.equalIn (d + 1) t u v).run P w = .ok (!q) w) : (binOp .neq t u v).run P w = .ok (.bool q) w := by
  have h1 : (Op.equal t u v).run P w = .ok (!q) w := h 9999
  rw [e, Sem.run_bind, h1]
  simp
theorem guard_ptr (op : BinOp) (i j : Option Addr) : (eqGuard op t x y (.pointer i) (.pointer j)).run P w = .ok () w := by
  unfold eqGuard; cases op <;> rfl
theorem EX.eqlP0 (hu : P.underlying t = some (.pointer e)) (hx : ev σ x = some (.pointer none)) (hy : ev σ y = some (.pointer none)) : EX P n σ (.binOp .eql t x y T) ty w (.bool true) w :=
  EX.bin hx hy (guard_ptr _ _ _) (run_eq rfl (fun d => by simp [Op.equalIn, run_underlying hu, Sem.run_bind]))
theorem EX.eqlP1 {a : Addr} (hu : P.underlying t = some (.pointer e)) (hx : ev σ x = some (.pointer (some a))) (hy : ev σ y = some (.pointer none)) : EX P n σ (.binOp .eql t x y T) ty w (.bool false) w :=
  EX.bin hx hy (guard_ptr _ _ _) (run_eq rfl (fun d => by simp [Op.equalIn, run_underlying hu, Sem.run_bind]))
theorem EX.neqF0 {p q : Array TypeId} {vd : Bool} (hu : P.underlying t = some (.func p q vd)) (hx : ev σ x = some .nilFunc) (hy : ev σ y = some .nilFunc) : EX P n σ (.binOp .neq t x y T) ty w (.bool false) w :=
  EX.bin hx hy (by unfold eqGuard; rfl) (run_ne rfl (fun d => by simp [Op.equalIn, run_underlying hu, Sem.run_bind]))
theorem EX.neqF1 {p q : Array TypeId} {vd : Bool} {f : Fn} {fi ca : Array Value} (hu : P.underlying t = some (.func p q vd)) (hx : ev σ x = some (.func f fi ca)) (hy : ev σ y = some .nilFunc) : EX P n σ (.binOp .neq t x y T) ty w (.bool true) w :=
  EX.bin hx hy (by unfold eqGuard; rfl) (run_ne rfl (fun d => by simp [Op.equalIn, run_underlying hu, Sem.run_bind]))
theorem EX.neqFb {p q : Array TypeId} {vd r : Bool} (hu : P.underlying t = some (.func p q vd)) (hx : ev σ x = some v) (hy : ev σ y = some .nilFunc) (hq : v = .nilFunc ∧ r = false ∨ ∃ f fi ca, v = .func f fi ca ∧ r = true) : EX P n σ (.binOp .neq t x y T) ty w (.bool r) w := by
  rcases hq with ⟨rfl, rfl⟩ | ⟨f, fi, ca, rfl, rfl⟩
  · exact EX.neqF0 hu hx hy
  · exact EX.neqF1 hu hx hy
end
section
variable {P : Program} {R : Act → World → Prop} {ops : Array Oper} {rest : List Oper} {k : List KI} {n : Nat} {σ : Sig} {w : World} {x y : Operand} {T T' e ty : TypeId} {pos : String} {after : Array Edge} {gd : Option (Nat × Bool)} {d : Nat} {v z : Value} {s bs : Nat} {l : List Value}
theorem OW.boxS (hg : wantS ops σ gd = some true) (hd : Nat.blt d n = true) (hx : ev σ x = some (.agg l.toArray))
    (h : ∀ b w', w.heap.size ≤ b → Bk w' b T l → Ext w w' → OW P R ops rest k n ((d, .pointer (some ⟨b, 0, none⟩)) :: σ) w') :
    OW P R ops (⟨some d, .box T x, ty, pos, after, gd⟩ :: rest) k n σ w :=
  OW.val hg hd (EX.box (l := l) hx (by simp [Value.cells])) (h _ _ (Nat.le_refl _) (Bk.new w T l) (Ext.alloc w _))
theorem OW.storeS {b o : Nat} {vs : List Value} (hg : wantS ops σ gd = some true) (hi : TI P T z s bs) (hx : ev σ x = some (.pointer (some ⟨b, o, none⟩))) (hy : ev σ y = some (.agg vs.toArray)) (hs : vs.length = s) (h1 : vs.all (·.oneCell') = true) (hb : Bk w b T' l) (hlt : o + vs.length ≤ l.length)
    (h : ∀ w', Bk w' b T' (l.take o ++ vs ++ l.drop (o + vs.length)) → Mo w w' [b] → OW P R ops rest k n σ w') :
    OW P R ops (⟨none, .store T x y, ty, pos, after, gd⟩ :: rest) k n σ w := by
  obtain ⟨w', he, hb', hg'⟩ := EU.storeA (P := P) (n := n) (ty := ty) hi hx hy hs h1 hb hlt
  exact OW.eff hg he (h w' hb' (Mo.grown hg' (fun k e => by simp at e; simp [e])))
end
end Go.Proofs.YthgfdpcpbghkpaaGreatDoor
namespace Go.Proofs.YthgfdpcpbghkpaaGreatDoor
open Go.Shelf
def Tryz.lays156_ren : Go.Shelf.Ren := ⟨fun | 156 => 109 | 165 => 85 | 166 => 32 | 169 => 33 | 240 => 63 | 241 => 106 | 276 => 82 | 277 => 114 | n => n, fun | 31 => 24 | 9 => 9 | 3 => 3 | 4 => 4 | 0 => 0 | 20 => 20 | 72 => 73 | 76 => 78 | 70 => 71 | 37 => 54 | 75 => 77 | 127 => 123 | 164 => 142 | 5 => 5 | 80 => 63 | n => n, fun | n => n⟩
theorem Tryz.lays156 : Go.Proofs.Lays.n156 Tryz.prog Tryz.lays156_ren := {
  mixed := by kernel_rfl
  f156 := Tryz.func109.trans (congrArg some (by kernel_rfl))
  f165 := Tryz.func85.trans (congrArg some (by kernel_rfl))
  f166 := Tryz.func32.trans (congrArg some (by kernel_rfl))
  f169 := Tryz.func33.trans (congrArg some (by kernel_rfl))
  f240 := Tryz.func63.trans (congrArg some (by kernel_rfl))
  f241 := Tryz.func106.trans (congrArg some (by kernel_rfl))
  f276 := Tryz.func82.trans (congrArg some (by kernel_rfl))
  f277 := Tryz.func114.trans (congrArg some (by kernel_rfl))
  t0 := Tryz.underlying0
  a0 := Tryz.isAgg0
  z0 := Tryz.sizeOf0
  v0 := Tryz.zeroValue0
  t3 := Tryz.underlying3
  a3 := Tryz.isAgg3
  z3 := Tryz.sizeOf3
  v3 := Tryz.zeroValue3
  t4 := Tryz.underlying4
  a4 := Tryz.isAgg4
  z4 := Tryz.sizeOf4
  v4 := Tryz.zeroValue4
  t9 := Tryz.underlying9
  a9 := Tryz.isAgg9
  z9 := Tryz.sizeOf9
  v9 := Tryz.zeroValue9
  t20 := Tryz.underlying20
  a20 := Tryz.isAgg20
  z20 := Tryz.sizeOf20
  v20 := Tryz.zeroValue20
  t31 := Tryz.underlying24
  a31 := Tryz.isAgg24
  z31 := Tryz.sizeOf24
  v31 := Tryz.zeroValue24
  t37 := Tryz.underlying54
  a37 := Tryz.isAgg54
  z37 := Tryz.sizeOf54
  v37 := Tryz.zeroValue54
  t70 := Tryz.underlying71
  a70 := Tryz.isAgg71
  z70 := Tryz.sizeOf71
  v70 := Tryz.zeroValue71
  t72 := Tryz.underlying73
  a72 := Tryz.isAgg73
  z72 := Tryz.sizeOf73
  v72 := Tryz.zeroValue73
  t75 := Tryz.underlying77
  a75 := Tryz.isAgg77
  z75 := Tryz.sizeOf77
  v75 := Tryz.zeroValue77
  t76 := Tryz.underlying78
  a76 := Tryz.isAgg78
  z76 := Tryz.sizeOf78
  v76 := Tryz.zeroValue78
  t127 := Tryz.underlying123
  a127 := Tryz.isAgg123
  z127 := Tryz.sizeOf123
  v127 := Tryz.zeroValue123
  t164 := Tryz.underlying142
  a164 := Tryz.isAgg142
  z164 := Tryz.sizeOf142
  v164 := Tryz.zeroValue142 }
theorem Tryz.Builder_Extra_156 : Builder.Extra Tryz.prog Tryz.lays156_ren := {
  sizeBuilder := by kernel_rfl
  liesBuilder := by kernel_rfl
  t5 := Tryz.underlying5
  a5 := Tryz.isAgg5
  z5 := Tryz.sizeOf5
  v5 := Tryz.zeroValue5
  infoByte := by kernel_rfl
  cellsByte := by kernel_rfl
  sizeByte := by kernel_rfl
  neB5 := by decide }
open Go.RowKit in
theorem Tryz.strings_Join_none (a : Option Addr) (c : Nat) (sep : ByteArray) (w : World) :
    Calls Tryz.prog 109 #[.slice a 0 c, .string sep] w fun e w' => e = .returned (.string ⟨#[]⟩) ∧ w' = w := Any.strings_Join_none Tryz.lays156 Tryz.Builder_Extra_156 a c sep w
open Go.RowKit in
theorem Tryz.strings_Join (bk o c : Nat) (xs : List ByteArray) (sep : ByteArray) (w : World) (hcells : ∀ (j : Nat) x, xs[j]? = some x → w.cell? ⟨bk, o + j, none⟩ = some (.string x)) (hbk : bk < w.heap.size) (hN : xs.length ≤ 140737488355328) (hcap : xs.length ≤ c) (hlen : (Lib.join (xs.map (·.data.toList)) sep.data.toList).length ≤ 140737488355328) :
    Calls Tryz.prog 109 #[.slice (some ⟨bk, o, none⟩) xs.length c, .string sep] w fun e w' => e = .returned (.string ⟨(Lib.join (xs.map (·.data.toList)) sep.data.toList).toArray⟩) ∧ Below w.heap.size w w' := Any.strings_Join Tryz.lays156 Tryz.Builder_Extra_156 bk o c xs sep w hcells hbk hN hcap hlen
def Tryz.lays106_ren : Go.Shelf.Ren := ⟨fun | 106 => 70 | 213 => 97 | 265 => 111 | n => n, fun | 9 => 9 | 3 => 3 | n => n, fun | n => n⟩
theorem Tryz.lays106 : Go.Proofs.Lays.n106 Tryz.prog Tryz.lays106_ren := {
  mixed := by kernel_rfl
  f106 := Tryz.func70.trans (congrArg some (by kernel_rfl))
  f213 := Tryz.func97.trans (congrArg some (by kernel_rfl))
  f265 := Tryz.func111.trans (congrArg some (by kernel_rfl))
  t3 := Tryz.underlying3
  a3 := Tryz.isAgg3
  z3 := Tryz.sizeOf3
  v3 := Tryz.zeroValue3
  t9 := Tryz.underlying9
  a9 := Tryz.isAgg9
  z9 := Tryz.sizeOf9
  v9 := Tryz.zeroValue9 }
open Go.RowKit in
theorem Tryz.strings_Compare (a b : ByteArray) (w : World) :
    Calls Tryz.prog 70 #[.string a, .string b] w fun e w' => e = .returned (.int .i64 (Lib.compareBytes a.data.toList b.data.toList)) ∧ w' = w := Any.strings_Compare Tryz.lays106 a b w
def Tryz.laysM219_ren : Go.Shelf.Ren := ⟨fun | 219 => 133 | 217 => 140 | 225 => 141 | 224 => 142 | 267 => 143 | 266 => 145 | 314 => 146 | n => n, fun | 9 => 9 | 3 => 3 | 4 => 4 | 5 => 5 | 46 => 141 | 146 => 164 | 51 => 68 | n => n, fun | 1 => 0 | n => n⟩
theorem Tryz.laysM219 : Go.Proofs.LaysM.n219 Tryz.prog Tryz.laysM219_ren := {
  mixed := by kernel_rfl
  f217 := Tryz.func140.trans (congrArg some (by kernel_rfl))
  f219 := Tryz.func133.trans (congrArg some (by kernel_rfl))
  f224 := Tryz.func142.trans (congrArg some (by kernel_rfl))
  f225 := Tryz.func141.trans (congrArg some (by kernel_rfl))
  f266 := Tryz.func145.trans (congrArg some (by kernel_rfl))
  f267 := Tryz.func143.trans (congrArg some (by kernel_rfl))
  f314 := Tryz.func146.trans (congrArg some (by kernel_rfl))
  t3 := Tryz.underlying3
  a3 := Tryz.isAgg3
  z3 := Tryz.sizeOf3
  v3 := Tryz.zeroValue3
  t4 := Tryz.underlying4
  a4 := Tryz.isAgg4
  z4 := Tryz.sizeOf4
  v4 := Tryz.zeroValue4
  t5 := Tryz.underlying5
  a5 := Tryz.isAgg5
  z5 := Tryz.sizeOf5
  v5 := Tryz.zeroValue5
  t9 := Tryz.underlying9
  a9 := Tryz.isAgg9
  z9 := Tryz.sizeOf9
  v9 := Tryz.zeroValue9
  t46 := Tryz.underlying141
  a46 := Tryz.isAgg141
  z46 := Tryz.sizeOf141
  v46 := Tryz.zeroValue141
  t51 := Tryz.underlying68
  a51 := Tryz.isAgg68
  z51 := Tryz.sizeOf68
  v51 := Tryz.zeroValue68
  t146 := Tryz.underlying164
  a146 := Tryz.isAgg164
  z146 := Tryz.sizeOf164
  v146 := Tryz.zeroValue164
  g1 := by kernel_rfl
  i3 := by kernel_rfl
  i4 := by kernel_rfl
  i5 := by kernel_rfl
  i9 := by kernel_rfl
  i46 := by kernel_rfl
  i51 := by kernel_rfl
  i146 := by kernel_rfl
  m1 := by kernel_rfl
  s1_3 := fun w h => Go.Proofs.cell_of_shapedOpen_int (zero := #[.int .i64 0]) (t := 3) h (of_decide_eq_true (by kernel_rfl)) (by kernel_rfl) rfl (by kernel_rfl) (by kernel_rfl) Tryz.underlying3 }
def Tryz.lays146_ren : Go.Shelf.Ren := ⟨fun | 146 => 96 | 221 => 110 | 268 => 116 | 138 => 117 | 143 => 118 | 195 => 130 | 197 => 131 | 218 => 132 | 219 => 133 | 260 => 139 | 217 => 140 | 225 => 141 | 224 => 142 | 267 => 143 | 266 => 145 | 314 => 146 | n => n, fun | 9 => 9 | 31 => 24 | 3 => 3 | 4 => 4 | 0 => 0 | 105 => 188 | 21 => 21 | 5 => 5 | 46 => 141 | 119 => 200 | 139 => 203 | 138 => 202 | 146 => 164 | 51 => 68 | n => n, fun | 1 => 0 | 3 => 1 | 4 => 2 | n => n⟩
theorem Tryz.lays146 : Go.Proofs.Lays.n146 Tryz.prog Tryz.lays146_ren := {
  mixed := by kernel_rfl
  f138 := Tryz.func117.trans (congrArg some (by kernel_rfl))
  f143 := Tryz.func118.trans (congrArg some (by kernel_rfl))
  f146 := Tryz.func96.trans (congrArg some (by kernel_rfl))
  f195 := Tryz.func130.trans (congrArg some (by kernel_rfl))
  f197 := Tryz.func131.trans (congrArg some (by kernel_rfl))
  f217 := Tryz.func140.trans (congrArg some (by kernel_rfl))
  f218 := Tryz.func132.trans (congrArg some (by kernel_rfl))
  f219 := Tryz.func133.trans (congrArg some (by kernel_rfl))
  f221 := Tryz.func110.trans (congrArg some (by kernel_rfl))
  f224 := Tryz.func142.trans (congrArg some (by kernel_rfl))
  f225 := Tryz.func141.trans (congrArg some (by kernel_rfl))
  f260 := Tryz.func139.trans (congrArg some (by kernel_rfl))
  f266 := Tryz.func145.trans (congrArg some (by kernel_rfl))
  f267 := Tryz.func143.trans (congrArg some (by kernel_rfl))
  f268 := Tryz.func116.trans (congrArg some (by kernel_rfl))
  f314 := Tryz.func146.trans (congrArg some (by kernel_rfl))
  t0 := Tryz.underlying0
  a0 := Tryz.isAgg0
  z0 := Tryz.sizeOf0
  v0 := Tryz.zeroValue0
  t3 := Tryz.underlying3
  a3 := Tryz.isAgg3
  z3 := Tryz.sizeOf3
  v3 := Tryz.zeroValue3
  t4 := Tryz.underlying4
  a4 := Tryz.isAgg4
  z4 := Tryz.sizeOf4
  v4 := Tryz.zeroValue4
  t5 := Tryz.underlying5
  a5 := Tryz.isAgg5
  z5 := Tryz.sizeOf5
  v5 := Tryz.zeroValue5
  t9 := Tryz.underlying9
  a9 := Tryz.isAgg9
  z9 := Tryz.sizeOf9
  v9 := Tryz.zeroValue9
  t21 := Tryz.underlying21
  a21 := Tryz.isAgg21
  z21 := Tryz.sizeOf21
  v21 := Tryz.zeroValue21
  t31 := Tryz.underlying24
  a31 := Tryz.isAgg24
  z31 := Tryz.sizeOf24
  v31 := Tryz.zeroValue24
  t46 := Tryz.underlying141
  a46 := Tryz.isAgg141
  z46 := Tryz.sizeOf141
  v46 := Tryz.zeroValue141
  t51 := Tryz.underlying68
  a51 := Tryz.isAgg68
  z51 := Tryz.sizeOf68
  v51 := Tryz.zeroValue68
  t105 := Tryz.underlying188
  a105 := Tryz.isAgg188
  z105 := Tryz.sizeOf188
  v105 := Tryz.zeroValue188
  t119 := Tryz.underlying200
  a119 := Tryz.isAgg200
  z119 := Tryz.sizeOf200
  t138 := Tryz.underlying202
  a138 := Tryz.isAgg202
  z138 := Tryz.sizeOf202
  v138 := Tryz.zeroValue202
  t139 := Tryz.underlying203
  a139 := Tryz.isAgg203
  z139 := Tryz.sizeOf203
  v139 := Tryz.zeroValue203
  t146 := Tryz.underlying164
  a146 := Tryz.isAgg164
  z146 := Tryz.sizeOf164
  v146 := Tryz.zeroValue164
  g1 := by kernel_rfl
  g3 := by kernel_rfl
  g4 := by kernel_rfl }
open Go.RowKit Go.Lib in
theorem Tryz.strings_Split (s sep : ByteArray) (m : Int) (w : World) (hs : s.size < 4294967281) (hm : w.cell? ⟨0, 0, none⟩ = some (.int .i64 m)) (h1 : 1 ≤ sep.size) :
    Calls Tryz.prog 96 #[.string s, .string sep] w fun e w' =>
      e = .returned (.slice (some ⟨w.heap.size, 0, none⟩) (Lib.countB s sep + 1) (Lib.countB s sep + 1)) ∧ w' = w.alloc (.cells ((Lib.splitB sep 0 (Lib.countB s sep) s).map Value.string).toArray 9) := Any.strings_Split Tryz.lays146 (by kernel_rfl) s sep m w hs hm h1
def Tryz.lays105_ren : Go.Shelf.Ren := ⟨fun | 105 => 64 | 212 => 83 | 99 => 84 | 165 => 85 | 166 => 32 | 170 => 86 | 169 => 33 | 263 => 103 | 264 => 104 | 206 => 105 | 240 => 63 | 241 => 106 | 276 => 82 | 277 => 114 | n => n, fun | 9 => 9 | 3 => 3 | 4 => 4 | 20 => 20 | 0 => 0 | 46 => 141 | 109 => 144 | 5 => 5 | 72 => 73 | 76 => 78 | 51 => 68 | 146 => 164 | 53 => 122 | 148 => 166 | 70 => 71 | 37 => 54 | 75 => 77 | 127 => 123 | 164 => 142 | 80 => 63 | n => n, fun | n => n⟩
theorem Tryz.lays105 : Go.Proofs.Lays.n105 Tryz.prog Tryz.lays105_ren := {
  mixed := by kernel_rfl
  f99 := Tryz.func84.trans (congrArg some (by kernel_rfl))
  f105 := Tryz.func64.trans (congrArg some (by kernel_rfl))
  f165 := Tryz.func85.trans (congrArg some (by kernel_rfl))
  f166 := Tryz.func32.trans (congrArg some (by kernel_rfl))
  f169 := Tryz.func33.trans (congrArg some (by kernel_rfl))
  f170 := Tryz.func86.trans (congrArg some (by kernel_rfl))
  f206 := Tryz.func105.trans (congrArg some (by kernel_rfl))
  f212 := Tryz.func83.trans (congrArg some (by kernel_rfl))
  f240 := Tryz.func63.trans (congrArg some (by kernel_rfl))
  f241 := Tryz.func106.trans (congrArg some (by kernel_rfl))
  f263 := Tryz.func103.trans (congrArg some (by kernel_rfl))
  f264 := Tryz.func104.trans (congrArg some (by kernel_rfl))
  f276 := Tryz.func82.trans (congrArg some (by kernel_rfl))
  f277 := Tryz.func114.trans (congrArg some (by kernel_rfl))
  t0 := Tryz.underlying0
  a0 := Tryz.isAgg0
  z0 := Tryz.sizeOf0
  v0 := Tryz.zeroValue0
  t3 := Tryz.underlying3
  a3 := Tryz.isAgg3
  z3 := Tryz.sizeOf3
  v3 := Tryz.zeroValue3
  t4 := Tryz.underlying4
  a4 := Tryz.isAgg4
  z4 := Tryz.sizeOf4
  v4 := Tryz.zeroValue4
  t5 := Tryz.underlying5
  a5 := Tryz.isAgg5
  z5 := Tryz.sizeOf5
  v5 := Tryz.zeroValue5
  t9 := Tryz.underlying9
  a9 := Tryz.isAgg9
  z9 := Tryz.sizeOf9
  v9 := Tryz.zeroValue9
  t20 := Tryz.underlying20
  a20 := Tryz.isAgg20
  z20 := Tryz.sizeOf20
  v20 := Tryz.zeroValue20
  t37 := Tryz.underlying54
  a37 := Tryz.isAgg54
  z37 := Tryz.sizeOf54
  v37 := Tryz.zeroValue54
  t46 := Tryz.underlying141
  a46 := Tryz.isAgg141
  z46 := Tryz.sizeOf141
  v46 := Tryz.zeroValue141
  t51 := Tryz.underlying68
  a51 := Tryz.isAgg68
  z51 := Tryz.sizeOf68
  v51 := Tryz.zeroValue68
  t53 := Tryz.underlying122
  a53 := Tryz.isAgg122
  z53 := Tryz.sizeOf122
  v53 := Tryz.zeroValue122
  t70 := Tryz.underlying71
  a70 := Tryz.isAgg71
  z70 := Tryz.sizeOf71
  v70 := Tryz.zeroValue71
  t72 := Tryz.underlying73
  a72 := Tryz.isAgg73
  z72 := Tryz.sizeOf73
  v72 := Tryz.zeroValue73
  t75 := Tryz.underlying77
  a75 := Tryz.isAgg77
  z75 := Tryz.sizeOf77
  v75 := Tryz.zeroValue77
  t76 := Tryz.underlying78
  a76 := Tryz.isAgg78
  z76 := Tryz.sizeOf78
  v76 := Tryz.zeroValue78
  t109 := Tryz.underlying144
  a109 := Tryz.isAgg144
  z109 := Tryz.sizeOf144
  v109 := Tryz.zeroValue144
  t127 := Tryz.underlying123
  a127 := Tryz.isAgg123
  z127 := Tryz.sizeOf123
  v127 := Tryz.zeroValue123
  t146 := Tryz.underlying164
  a146 := Tryz.isAgg164
  z146 := Tryz.sizeOf164
  v146 := Tryz.zeroValue164
  t148 := Tryz.underlying166
  a148 := Tryz.isAgg166
  z148 := Tryz.sizeOf166
  v148 := Tryz.zeroValue166
  t164 := Tryz.underlying142
  a164 := Tryz.isAgg142
  z164 := Tryz.sizeOf142
  v164 := Tryz.zeroValue142 }
theorem Tryz.Builder_Extra_105 : Builder.Extra Tryz.prog Tryz.lays105_ren := {
  sizeBuilder := by kernel_rfl
  liesBuilder := by kernel_rfl
  t5 := Tryz.underlying5
  a5 := Tryz.isAgg5
  z5 := Tryz.sizeOf5
  v5 := Tryz.zeroValue5
  infoByte := by kernel_rfl
  cellsByte := by kernel_rfl
  sizeByte := by kernel_rfl
  neB5 := by decide }
open Go.RowKit Go.Lib in
theorem Tryz.strings_Repeat (s : ByteArray) (c : Nat) (w : World) (hc : c ≤ 9223372036854775807) (hlen : s.size * c ≤ 140737488355328) :
    Calls Tryz.prog 64 #[.string s, .int .i64 c] w fun e w' => e = .returned (.string ⟨(Lib.repeatL s.data.toList c).toArray⟩) ∧ Below w.heap.size w w' := Any.strings_Repeat Tryz.lays105 Tryz.Builder_Extra_105 s c w hc hlen
end Go.Proofs.YthgfdpcpbghkpaaGreatDoor
namespace Go.Proofs.YthgfdpcpbghkpaaGreatDoor
open Go.RowKit Pth
def txtsV (l : Txts) : List Value := l.map fun s => str s
theorem txtsV_length (l : Txts) : (txtsV l).length = l.length := by simp [txtsV]
theorem txtsV_snoc (l : Txts) (x : List UInt8) : txtsV (l ++ [x]) = txtsV l ++ [str x] := by simp [txtsV]
theorem join_c (A : Option Addr) (c : Nat) (l : Txts) (B : Nat) (w : World) (hs : Sl w B A (txtsV l)) (hB : B ≤ w.heap.size) (hc : l.length ≤ c) (hl : wt l ≤ 140737488355328) :
    Ret Tryz.prog 109 [.slice A l.length c, str [47]] w fun v w' => v = str (joinS l) ∧ Ext w w' := by
  have hn : (!(Tryz.f109.name == "runtime.NumGoroutine") && Tryz.f109.body.isSome) = true := by kernel_rfl
  by_cases h0 : l = []
  · subst h0
    refine (Ret.of_calls Tryz.func109 hn ((Tryz.strings_Join_none A c ⟨#[47]⟩ w).mono (fun e w' h => ⟨h.1, (show Ext w w' by rw [h.2]; exact Ext.refl _)⟩))).mono ?_
    rintro v w' ⟨rfl, hx⟩
    exact ⟨rfl, hx⟩
  · rcases hs with hs | ⟨bk, o, rfl, hbk, hcell⟩
    · exact absurd (by simpa [txtsV] using hs) h0
    · have hml : (l.map fun s => (⟨s.toArray⟩ : ByteArray)).map (·.data.toList) = l := by
        rw [List.map_map]
        exact List.map_id l
      have hln : (l.map fun s => (⟨s.toArray⟩ : ByteArray)).length = l.length := by simp
      have h := Tryz.strings_Join bk o c (l.map fun s => (⟨s.toArray⟩ : ByteArray)) ⟨#[47]⟩ w (fun j x hj => by
        have : (txtsV l)[j]? = some (.string x) := by
          simp only [txtsV, List.getElem?_map] at hj ⊢
          obtain ⟨s, h1, rfl⟩ := Option.map_eq_some_iff.1 hj
          rw [h1]; rfl
        exact hcell j _ this) (by omega) (by rw [hln]; have := wt_len l; omega) (by rw [hln]; exact hc) (by rw [hml]; show (Go.Lib.join l [47]).length ≤ _; rw [joinS_eq]; have := joinS_wt l; omega)
      rw [hml, hln] at h
      have e : Go.Lib.join l (⟨#[47]⟩ : ByteArray).data.toList = joinS l := joinS_eq l
      rw [e] at h
      refine (Ret.of_calls Tryz.func109 hn (h.mono (fun e w' q => q))).mono ?_
      rintro v w' ⟨rfl, hx⟩
      exact ⟨rfl, hx⟩
def KpS (sb : Nat) (W W' : World) : Prop := W'.heap[sb]? = W.heap[sb]?
theorem piece_step {s : List UInt8} {i fr : Nat} (h : i ≤ s.length) (hf : fr ≤ i) : s.drop fr = (s.drop fr).take (i - fr) ++ s.drop i := by
  have := List.take_append_drop (i - fr) (s.drop fr)
  rw [List.drop_drop, show fr + (i - fr) = i by omega] at this
  exact this.symm
theorem iter_s (sb : Nat) (s : List UInt8) (hs : s.length ≤ 1000000000000) (w : World) (hsb : Bk w sb 9 [str s]) :
    SeqStopsK Fence.wide 2 Tryz.prog 108 [Value.pointer (some ⟨sb, 0, none⟩)].toArray (fun x => #[str x]) (KpS sb) (fun xs => xs = parts s) (fun pre => pre <+: parts s) (s.length + 1) w := fun l J Jx W hW hJ hJx hY h0 => by
  have hb0 : Bk W sb 9 [str s] := hsb.ext hW
  have hret : Ret Tryz.prog 108 [.func (.yield l) #[] #[], .pointer (some ⟨sb, 0, none⟩)] W fun v W' => (∃ xs, xs = parts s ∧ J xs W') ∨ (∃ pre, pre <+: parts s ∧ Jx pre W') := by
    have hpl : (parts s).length ≤ s.length + 1 := by have := wt_len (parts s); rw [wt_parts] at this; exact this
    refine Ret.enterR 2 Tryz.func108 rfl Tryz.ntmps108 (by kernel_rfl) rfl ?_
    refine KR.seq (KR.region ?_)
    refine OR.val rfl rfl (EX.assign rfl) ?_
    refine OR.nil ?_
    refine KR.seq (KR.region ?_)
    refine OR.val rfl rfl (EX.assign rfl) ?_
    refine OR.nil ?_
    refine KR.block ?_
    refine KR.loop4 (fun (i : Nat) (fr : Nat) (pre : Txts) (wr : World) => i ≤ s.length + 1 ∧ fr ≤ i ∧ (i ≤ s.length → parts s = pre ++ parts (s.drop fr) ∧ ∀ c ∈ (s.drop fr).take (i - fr), c ≠ 47) ∧ (i = s.length + 1 → pre = parts s) ∧ J pre wr ∧ Bk wr sb 9 [str s]) (fun (i : Nat) (fr : Nat) (pre : Txts) (wr : World) => [(0, .func (.yield l) #[] #[]), (1, .pointer (some ⟨sb, 0, none⟩)), (3, .int .i64 ((fr : Nat) : Int)), (4, .int .i64 ((i : Nat) : Int))]) (fun (i : Nat) (fr : Nat) (pre : Txts) (wr : World) => wr) (fun (i : Nat) (fr : Nat) (pre : Txts) (wr : World) => s.length + 1 - i) (0) (0) ([]) (W) ⟨rfl, rfl, rfl, rfl, trivial⟩ rfl ?_ ?_
    · exact ⟨by omega, by omega, fun _ => ⟨rfl, by simp⟩, fun h => by omega, h0, hb0⟩
    · rintro i fr pre wr ⟨hi, hf, hp, hend, hj, hb⟩
      refine KR.seq (KR.seq (KR.region ?_))
      refine OR.val rfl rfl (EX.move rfl) ?_
      refine OR.val rfl rfl (EX.load Tryz.underlying9 rfl rfl (hb.cell_of rfl)) ?_
      refine OR.val rfl rfl (EX.lenS Tryz.underlying9 rfl) ?_
      refine OR.val rfl rfl (by first | exact EX.leqN rfl rfl | exact EX.leqZ rfl rfl) ?_
      refine OR.nil ?_
      refine KR.condD rfl (fun hle => ?_) (fun hle => ?_)
      · obtain ⟨hp1, hp2⟩ := hp hle
        have hpre : pre.length < s.length + 1 := by
          have h1 := List.length_pos_iff.2 (parts_ne (s.drop fr))
          have h2 := congrArg List.length hp1
          rw [List.length_append] at h2
          omega
        have hyl : ∀ x : List UInt8, YieldR Tryz.prog 1 l [str x] wr fun v W' => ∃ b, v = .bool b ∧ ((b = true ∧ J (pre ++ [x]) W' ∧ KpS sb wr W') ∨ (b = false ∧ Jx (pre ++ [x]) W')) := fun x =>
          YieldAt.mono (hY pre x wr hj hpre) (by
            rintro e W' (⟨rfl, h1, h2⟩ | ⟨rfl, h1⟩)
            · exact ⟨_, rfl, true, rfl, .inl ⟨rfl, h1, h2⟩⟩
            · exact ⟨_, rfl, false, rfl, .inr ⟨rfl, h1⟩⟩)
        refine KR.skip (KR.seq (KR.block (KR.seq (KR.region ?_))))
        refine OR.val rfl rfl (EX.move rfl) ?_
        refine OR.val rfl rfl (EX.load Tryz.underlying9 rfl rfl (hb.cell_of rfl)) ?_
        refine OR.val rfl rfl (EX.lenS Tryz.underlying9 rfl) ?_
        refine OR.val rfl rfl (by first | exact EX.eqlN rfl rfl | exact EX.eqlZ rfl rfl) ?_
        refine OR.val rfl rfl (EX.move rfl) ?_
        refine OR.splitD 15 rfl (fun he => ?_) (fun he => ?_)
        · have hpe : parts s = pre ++ [(s.drop fr).take (i - fr)] := by
            have e : (s.drop fr).take (i - fr) = s.drop fr := List.take_of_length_le (by simp; omega)
            rw [e] at hp2 ⊢
            rw [hp1, parts_whole _ hp2]
          refine OR.pass rfl rfl ?_
          refine OR.pass rfl rfl ?_
          refine OR.pass rfl rfl ?_
          refine OR.pass rfl rfl ?_
          refine OR.val rfl rfl (EX.pickT rfl rfl) ?_
          refine OR.nil ?_
          refine KR.condT rfl (KR.seq (KR.seq (KR.region ?_)))
          refine OR.val rfl rfl (EX.move rfl) ?_
          refine OR.val rfl rfl (EX.load Tryz.underlying9 rfl rfl (hb.cell_of rfl)) ?_
          refine OR.val rfl rfl (EX.move rfl) ?_
          refine OR.val rfl rfl (EX.move rfl) ?_
          refine OR.val rfl rfl (EX.sliceLH Tryz.underlying9 rfl rfl rfl (by omega)) ?_
          refine OR.yield rfl rfl rfl rfl rfl (hyl _) ?_
          rintro _ w1 ⟨y, rfl, hv⟩
          refine OR.val rfl rfl (by first | exact EX.notD rfl | exact EX.notB rfl) ?_
          refine OR.nil ?_
          refine KR.cond rfl (fun hy => ?_) (fun hy => ?_)
          · obtain ⟨rfl, hj1⟩ : y = false ∧ Jx (pre ++ [(s.drop fr).take (i - fr)]) w1 := by
              rcases hv with ⟨rfl, _⟩ | h
              · cases hy
              · exact h
            refine KR.ret (retR0 (.inr rfl) rfl rfl rfl ?_)
            exact .inr ⟨_, ⟨[], by rw [List.append_nil, hpe]⟩, hj1⟩
          · obtain ⟨rfl, hj1, hk⟩ : y = true ∧ J (pre ++ [(s.drop fr).take (i - fr)]) w1 ∧ KpS sb wr w1 := by
              rcases hv with h | ⟨rfl, _⟩
              · exact h
              · cases hy
            refine KR.skip (KR.region ?_)
            refine OR.val rfl rfl (EX.move rfl) ?_
            refine OR.val rfl rfl (by first | exact EX.addN (b := 1) (m := 9223372036854775807) rfl rfl rfl (by omega) | exact EX.addZ (m := 9223372036854775807) rfl rfl rfl rfl (by omega)) ?_
            refine OR.val rfl rfl (EX.assign rfl) ?_
            refine OR.nil ?_
            refine KR.leave (KR.region ?_)
            refine OR.val rfl rfl (EX.move rfl) ?_
            refine OR.val rfl rfl (by first | exact EX.addN (b := 1) (m := 9223372036854775807) rfl rfl rfl (by omega) | exact EX.addZ (m := 9223372036854775807) rfl rfl rfl rfl (by omega)) ?_
            refine OR.val rfl rfl (EX.assign rfl) ?_
            refine OR.nil ?_
            have hb1 : Bk w1 sb 9 [str s] := hb.of_block hk
            refine KR.back4 (i + 1) (i + 1) (pre ++ [(s.drop fr).take (i - fr)]) (w1) ⟨rfl, rfl, rfl, rfl, trivial⟩ rfl ?_ (by omega)
            exact ⟨by omega, by omega, fun h => by omega, fun _ => hpe.symm, hj1, hb1⟩
        · skip
          refine OR.val rfl rfl (EX.load Tryz.underlying9 rfl rfl (hb.cell_of rfl)) ?_
          refine OR.val rfl rfl (EX.move rfl) ?_
          refine OR.val rfl rfl (EX.indexS Tryz.underlying9 rfl rfl (List.getElem?_eq_getElem (by omega))) ?_
          refine OR.val rfl rfl (by first | exact EX.eqlN (b := 47) rfl rfl | exact EX.eqlZ rfl rfl) ?_
          refine OR.val rfl rfl (EX.pickF rfl rfl) ?_
          refine OR.nil ?_
          refine KR.condD rfl (fun hc => ?_) (fun hc => ?_)
          · refine KR.seq (KR.seq (KR.region ?_))
            refine OR.val rfl rfl (EX.move rfl) ?_
            refine OR.val rfl rfl (EX.load Tryz.underlying9 rfl rfl (hb.cell_of rfl)) ?_
            refine OR.val rfl rfl (EX.move rfl) ?_
            refine OR.val rfl rfl (EX.move rfl) ?_
            refine OR.val rfl rfl (EX.sliceLH Tryz.underlying9 rfl rfl rfl (by omega)) ?_
            have hlt : i < s.length := by omega
            have hd : s.drop i = 47 :: s.drop (i + 1) := by
              rw [List.drop_eq_getElem_cons hlt]
              congr 1
              exact UInt8.toNat_inj.1 hc
            have hpe : parts s = (pre ++ [(s.drop fr).take (i - fr)]) ++ parts (s.drop (i + 1)) := by
              rw [hp1, piece_step hle hf, hd, parts_slash _ _ hp2, ← hd, ← piece_step hle hf]
              simp
            refine OR.yield rfl rfl rfl rfl rfl (hyl _) ?_
            rintro _ w1 ⟨y, rfl, hv⟩
            refine OR.val rfl rfl (by first | exact EX.notD rfl | exact EX.notB rfl) ?_
            refine OR.nil ?_
            refine KR.cond rfl (fun hy => ?_) (fun hy => ?_)
            · obtain ⟨rfl, hj1⟩ : y = false ∧ Jx (pre ++ [(s.drop fr).take (i - fr)]) w1 := by
                rcases hv with ⟨rfl, _⟩ | h
                · cases hy
                · exact h
              refine KR.ret (retR0 (.inr rfl) rfl rfl rfl ?_)
              exact .inr ⟨_, ⟨parts (s.drop (i + 1)), hpe.symm⟩, hj1⟩
            · obtain ⟨rfl, hj1, hk⟩ : y = true ∧ J (pre ++ [(s.drop fr).take (i - fr)]) w1 ∧ KpS sb wr w1 := by
                rcases hv with h | ⟨rfl, _⟩
                · exact h
                · cases hy
              refine KR.skip (KR.region ?_)
              refine OR.val rfl rfl (EX.move rfl) ?_
              refine OR.val rfl rfl (by first | exact EX.addN (b := 1) (m := 9223372036854775807) rfl rfl rfl (by omega) | exact EX.addZ (m := 9223372036854775807) rfl rfl rfl rfl (by omega)) ?_
              refine OR.val rfl rfl (EX.assign rfl) ?_
              refine OR.nil ?_
              refine KR.leave (KR.region ?_)
              refine OR.val rfl rfl (EX.move rfl) ?_
              refine OR.val rfl rfl (by first | exact EX.addN (b := 1) (m := 9223372036854775807) rfl rfl rfl (by omega) | exact EX.addZ (m := 9223372036854775807) rfl rfl rfl rfl (by omega)) ?_
              refine OR.val rfl rfl (EX.assign rfl) ?_
              refine OR.nil ?_
              have hb1 : Bk w1 sb 9 [str s] := hb.of_block hk
              refine KR.back4 (i + 1) (i + 1) (pre ++ [(s.drop fr).take (i - fr)]) (w1) ⟨rfl, rfl, rfl, rfl, trivial⟩ rfl ?_ (by omega)
              exact ⟨by omega, by omega, fun _ => ⟨hpe, by simp⟩, fun h => by omega, hj1, hb1⟩
          · have hlt : i < s.length := by omega
            refine KR.skip (KR.leave (KR.region ?_))
            refine OR.val rfl rfl (EX.move rfl) ?_
            refine OR.val rfl rfl (by first | exact EX.addN (b := 1) (m := 9223372036854775807) rfl rfl rfl (by omega) | exact EX.addZ (m := 9223372036854775807) rfl rfl rfl rfl (by omega)) ?_
            refine OR.val rfl rfl (EX.assign rfl) ?_
            refine OR.nil ?_
            refine KR.back4 (i + 1) (fr) (pre) (wr) ⟨rfl, rfl, rfl, rfl, trivial⟩ rfl ?_ (by omega)
            refine ⟨by omega, by omega, fun _ => ⟨hp1, ?_⟩, fun h => by omega, hj, hb⟩
            have e : (s.drop fr).take (i + 1 - fr) = (s.drop fr).take (i - fr) ++ [s[i]] := by
              rw [show i + 1 - fr = i - fr + 1 by omega, List.take_add_one, List.getElem?_drop, show fr + (i - fr) = i by omega, List.getElem?_eq_getElem hlt]
              rfl
            rw [e]
            intro c hcm
            rcases List.mem_append.1 hcm with hcm | hcm
            · exact hp2 c hcm
            · simp only [List.mem_singleton] at hcm
              subst hcm
              exact fun q => hc (by rw [q]; rfl)
      · obtain rfl : i = s.length + 1 := by omega
        refine KR.exit rfl ?_
        refine KR.done (retR0 (.inl rfl) rfl rfl rfl ?_)
        exact .inl ⟨_, hend rfl, hj⟩
  exact callsIn_wide.2 (hret.2.mono fun e W' ⟨v, he, hq⟩ => ⟨⟨v, he⟩, hq⟩)
end Go.Proofs.YthgfdpcpbghkpaaGreatDoor
namespace Go.Proofs.YthgfdpcpbghkpaaGreatDoor
open Go.RowKit
section
variable {P : Program} {n : Nat} {σ : Sig} {w : World} {x y lo hi' : Operand} {t t' e ty T : TypeId} {B len cap i j g : Nat} {kk : IntKind} {z v : Value} {bs : Nat} {xs : List Value}
theorem EX.ownLE (ht : P.underlying t = some (.slice e)) (hi : TI P e z 1 bs) (hx : ev σ x = some (.slice (some ⟨g, 0, none⟩) len cap)) (hl : ev σ lo = some (.int kk (i : Int))) (h : i ≤ len ∧ len ≤ cap ∧ i < cap) :
    EX P n σ (.slice t x (some lo) none none) ty w (.slice (some ⟨g, i, none⟩) (len - i) (cap - i)) w := fun Ac ha dst pos after gd => by
  simp only [execOp, ha.ev hx, ha.ev hl, Option.map_some, Option.map_none]
  have hadd : (⟨g, 0, none⟩ : Addr).add i = ⟨g, i, none⟩ := by unfold Addr.add; split <;> simp_all
  have hne : ¬ cap = i := by omega
  simp [Instr.sliceAt, run_underlying ht, Instr.slice, Instr.sliceBounds, Sem.run_bind, run_sliceBoundI _ _ h.1, run_sizeOf hi, hne, hadd]
theorem EX.sliceALH {A : Option Addr} {k2 : IntKind} (ht : P.underlying t = some (.slice e)) (hi : TI P e z 1 bs) (hx : ev σ x = some (.slice A len cap)) (hl : ev σ lo = some (.int kk (i : Int))) (hh : ev σ hi' = some (.int k2 (j : Int))) (h : i ≤ j ∧ j ≤ len ∧ len ≤ cap) (hs : Sl w B A xs) (hln : xs.length = len) :
    ∃ A', EX P n σ (.slice t x (some lo) (some hi') none) ty w (.slice A' (j - i) (cap - i)) w ∧ Sl w B A' ((xs.drop i).take (j - i)) :=
  ⟨if cap = i then A else A.map (·.add (i * 1)), fun Ac ha dst pos after gd => by
    simp only [execOp, ha.ev hx, ha.ev hl, ha.ev hh, Option.map_some, Option.map_none]
    simp [Instr.sliceAt, run_underlying ht, Instr.slice, Instr.sliceBounds, Sem.run_bind, run_sliceBoundI j _ h.1, run_sliceBoundI cap _ (Nat.le_trans h.2.1 h.2.2), run_sizeOf hi], (hs.cut (by omega)).pre _⟩
theorem EX.eqlA0 {l c : Nat} (hu : P.underlying t = some (.slice e)) (hx : ev σ x = some (.slice none l c)) (hy : ev σ y = some (.slice none 0 0)) : EX P n σ (.binOp .eql t x y T) ty w (.bool true) w :=
  EX.bin hx hy (by unfold eqGuard; rfl) (run_eq rfl (fun d => by simp [Op.equalIn, run_underlying hu, Sem.run_bind]))
theorem EX.eqlA1 {a : Addr} {l c : Nat} (hu : P.underlying t = some (.slice e)) (hx : ev σ x = some (.slice (some a) l c)) (hy : ev σ y = some (.slice none 0 0)) : EX P n σ (.binOp .eql t x y T) ty w (.bool false) w :=
  EX.bin hx hy (by unfold eqGuard; rfl) (run_eq rfl (fun d => by simp [Op.equalIn, run_underlying hu, Sem.run_bind]))
end
theorem Own.ne {w : World} {B T T' s n b : Nat} {v : Value} {xs l : List Value} (h : Own w B T s v n xs) (hb : Bk w b T' l) (hne : T ≠ T') : ∀ k, v.ownBlock = some k → b ≠ k := by
  intro k hk
  rcases h.2 with ⟨rfl, _⟩ | ⟨g, cap, rest, rfl, _, hg, _⟩
  · simp [Value.ownBlock] at hk
  · simp [Value.ownBlock] at hk
    subst hk
    exact hb.ne hg (Ne.symm hne)
theorem Own.one {w : World} {B T s n : Nat} {v : Value} {xs : List Value} (h : Own w B T s v n xs) : v.oneCell' = true := by
  rcases h.2 with ⟨rfl, _⟩ | ⟨g, cap, rest, rfl, _⟩ <;> rfl
theorem Own.blkT {w : World} {B T s n : Nat} {v : Value} {xs : List Value} (h : Own w B T s v n xs) : ∀ k, v.ownBlock = some k → B ≤ k ∧ ∃ l, Bk w k T l := by
  intro k hk
  rcases h.2 with ⟨rfl, _⟩ | ⟨g, cap, rest, rfl, hB, hg, _⟩
  · simp [Value.ownBlock] at hk
  · simp [Value.ownBlock] at hk
    subst hk
    exact ⟨hB, _, hg⟩
section
variable {P : Program} {R : Act → World → Prop} {ops : Array Oper} {rest : List Oper} {k : List KI} {n : Nat} {σ : Sig} {w : World} {x y lo hi' : Operand} {t t' e ty T : TypeId} {pos : String} {after : Array Edge} {gd : Option (Nat × Bool)} {d : Nat} {v z : Value} {bs B len cap i j g : Nat} {l xs : List Value} {kk k2 : IntKind} {s : List UInt8}
theorem OW.sliceALH {A : Option Addr} (hg : wantS ops σ gd = some true) (hd : Nat.blt d n = true) (ht : P.underlying t = some (.slice e)) (hi : TI P e z 1 bs) (hx : ev σ x = some (.slice A len cap)) (hl : ev σ lo = some (.int kk (i : Int))) (hh : ev σ hi' = some (.int k2 (j : Int))) (h : i ≤ j ∧ j ≤ len ∧ len ≤ cap) (hs : Sl w B A xs) (hln : xs.length = len)
    (hn : ∀ A', Sl w B A' ((xs.drop i).take (j - i)) → OW P R ops rest k n ((d, .slice A' (j - i) (cap - i)) :: σ) w) : OW P R ops (⟨some d, .slice t x (some lo) (some hi') none, ty, pos, after, gd⟩ :: rest) k n σ w := by
  obtain ⟨A', h1, h2⟩ := EX.sliceALH (P := P) (n := n) (ty := ty) ht hi hx hl hh h hs hln
  exact OW.val hg hd h1 (hn A' h2)
theorem OW.appendZB {kx ki : IntKind} {m l' : Nat} (hg : wantS ops σ gd = some true) (hd : Nat.blt d n = true) (ht : P.underlying t = some (.slice e)) (hk : P.underlying t' = some (.int kx)) (hi : TI P e z 1 bs) (hz1 : z.oneCell' = true)
    (hx : ev σ x = some v) (hy : ev σ y = some (.int ki (m : Int))) (hown : Own w 0 e 1 v l' xs) (hm : 0 < m)
    (h63 : l' + m ≤ maxLen) (hbytes : (l' + m) * bs ≤ 140737488355328)
    (h : ∀ v' w', Own w' 0 e 1 v' (l' + m) (xs ++ List.replicate m z) → w.grownBy w' v.ownBlock → (v'.ownBlock = v.ownBlock ∨ v'.ownBlock = some w.heap.size) → OW P R ops rest k n ((d, v') :: σ) w') :
    OW P R ops (⟨some d, .call { callee := .builtin .append, args := #[x, y], argTypes := #[t, t'] }, ty, pos, after, gd⟩ :: rest) k n σ w := by
  obtain ⟨v', w', hr, h2, h3, h4⟩ := run_append_zeros (P := P) (w := w) (ty := ty) (ki := ki) 0 t' hk ht hi hz1 hown h63 hbytes (Nat.zero_le _) hm
  refine OW.val hg hd (v := v') (w' := w') ?_ (h v' w' h2 h3 h4)
  intro A ha dst pos after gd
  simp only [execOp, resolve, invoke, builtin, Sem.run_bind, Sem.run_pure, Result.andThen_ok, List.map_toArray, List.map_cons, List.map_nil, ha.ev hx, ha.ev hy, hr]
theorem OW.copyS (hg : wantS ops σ gd = some true) (hd : Nat.blt d n = true) (ht : P.underlying t = some (.slice e)) (ht' : P.underlying t' = some .string) (hi : TI P e z 1 bs) (hx : ev σ x = some (.slice (some ⟨g, i, none⟩) len cap)) (hy : ev σ y = some (str s)) (hs : s.length ≤ len) (hb : Bk w g T l) (hl : i + s.length ≤ l.length)
    (hn : ∀ w', Bk w' g T (l.take i ++ bytesV s ++ l.drop (i + s.length)) → Mo w w' [g] → OW P R ops rest k n ((d, .int .i64 (s.length : Int)) :: σ) w') :
    OW P R ops (⟨some d, .call { callee := .builtin .copy, args := #[x, y], argTypes := #[t, t'] }, ty, pos, after, gd⟩ :: rest) k n σ w := by
  obtain ⟨w', hr, hb', hg'⟩ := run_storeCells_bk P w g i T (bytesV s) 0 l w hb (by simpa [bytesV] using hl) bytesV_one
  have hsrc := (Src.of_str (w := w) ht' s).cells
  have hlen := (Src.of_str (w := w) ht' s).len
  refine OW.val hg hd (v := .int .i64 (s.length : Int)) (w' := w') ?_ (hn w' (by simpa [bytesV] using hb') (Mo.grown hg' (fun k e => by simp at e; simp [e])))
  intro A ha dst pos after gd
  have hmin : Nat.min s.length len = s.length := Nat.min_eq_left hs
  have hsz := run_sizeOf (w := w) hi
  simp only [execOp, resolve, invoke, builtin, Sem.run_bind, Sem.run_pure, Result.andThen_ok, List.map_toArray, List.map_cons, List.map_nil, ha.ev hx, ha.ev hy]
  simp [Builtin.copy_, run_underlying ht, Sem.run_bind, hlen, hsz, hmin, hsrc, hr, goInt]
end
def Tm (w w' : World) (B : Nat) (p : TypeId → Bool) : Prop := ∃ S, Mo w w' S ∧ ∀ k ∈ S, B ≤ k ∧ ∃ T l, Bk w k T l ∧ p T = true
section
variable {w w' w'' : World} {B C : Nat} {p q : TypeId → Bool} {b : Nat} {T : TypeId} {l : List Value}
theorem Tm.refl (w : World) (B : Nat) (p : TypeId → Bool) : Tm w w B p := ⟨[], Mo.refl _ _, by simp⟩
theorem Tm.of_ext (h : Ext w w') (B : Nat) (p : TypeId → Bool) : Tm w w' B p := ⟨[], Mo.of_ext h _, by simp⟩
theorem Tm.mono (h : Tm w w' B p) (hp : ∀ T, p T = true → q T = true) : Tm w w' B q := by
  obtain ⟨S, hm, hS⟩ := h
  exact ⟨S, hm, fun k hk => let ⟨h1, T, l, h2, h3⟩ := hS k hk; ⟨h1, T, l, h2, hp T h3⟩⟩
theorem Tm.any (h : Tm w w' B p) : Tm w w' B (fun _ => true) := h.mono fun _ _ => rfl
theorem Tm.size (h : Tm w w' B p) : w.heap.size ≤ w'.heap.size := by obtain ⟨_, hm, _⟩ := h; exact hm.size
theorem Tm.trans (h : Tm w w' B p) (k : Tm w' w'' B p) : Tm w w'' B p := by
  obtain ⟨S, hm, hS⟩ := h
  obtain ⟨S', hm', hS'⟩ := k
  refine ⟨S ++ S'.filter (fun k => decide (k < w.heap.size)), ?_, fun k hk => ?_⟩
  · refine ((hm.mono (S' := S ++ S') (fun k hk => List.mem_append_left _ hk)).trans (hm'.mono (fun k hk => List.mem_append_right _ hk))).fresh fun k hk hlt => ?_
    rcases List.mem_append.1 hk with hk | hk
    · exact List.mem_append_left _ hk
    · exact List.mem_append_right _ (List.mem_filter.2 ⟨hk, by simpa using hlt⟩)
  · by_cases h1 : k ∈ S
    · exact hS k h1
    · rcases List.mem_append.1 hk with hk | hk
      · exact hS k hk
      · obtain ⟨hk, hlt⟩ := List.mem_filter.1 hk
        obtain ⟨h2, T, l, h3, h4⟩ := hS' k hk
        exact ⟨h2, T, l, h3.of_block (hm.block k (by simpa using hlt) h1).symm, h4⟩
theorem Tm.bk (h : Tm w w' B p) (hb : Bk w b T l) (hp : p T = false) : Bk w' b T l := by
  obtain ⟨S, hm, hS⟩ := h
  refine hb.mo hm fun hk => ?_
  obtain ⟨_, T', l', h2, h3⟩ := hS b hk
  obtain ⟨rfl, _⟩ := hb.det h2
  rw [hp] at h3
  cases h3
theorem Tm.own {s n : Nat} {v : Value} {xs : List Value} (h : Tm w w' B p) (ho : Own w C T s v n xs) (hp : p T = false) : Own w' C T s v n xs := by
  obtain ⟨S, hm, hS⟩ := h
  refine ho.mo hm fun k hk hkS => ?_
  obtain ⟨_, T', l', h2, h3⟩ := hS k hkS
  obtain ⟨_, l2, h4⟩ := ho.blkT k hk
  obtain ⟨rfl, _⟩ := h4.det h2
  rw [hp] at h3
  cases h3
theorem Tm.below {a : World} (hb : Below C a w) (h : Tm w w' B p) (hC : C ≤ w.heap.size) (hB : C ≤ B) : Below C a w' := by
  obtain ⟨S, hm, hS⟩ := h
  exact below_mo hb hm hC fun k hk => Nat.le_trans hB (hS k hk).1
theorem Tm.set (hb : Bk w b T l) (hm : Mo w w' [b]) (hB : B ≤ b) : Tm w w' B (fun U => U == T) := ⟨[b], hm, fun k hk => by
  simp only [List.mem_singleton] at hk
  subst hk
  exact ⟨hB, T, l, hb, by simp⟩⟩
theorem Tm.grown {s n : Nat} {v : Value} {xs : List Value} (ho : Own w B T s v n xs) (hg : w.grownBy w' v.ownBlock) : Tm w w' B (fun U => U == T) := ⟨v.ownBlock.toList, Mo.grown hg (fun k e => by rw [e]; simp), fun k hk => by
  obtain ⟨h1, l, h2⟩ := ho.blkT k (Option.mem_toList.1 hk)
  exact ⟨h1, T, l, h2, by simp⟩⟩
theorem Tm.ownMo {s n : Nat} {v : Value} {xs : List Value} (ho : Own w B T s v n xs) (hm : Mo w w' v.ownBlock.toList) : Tm w w' B (fun U => U == T) := ⟨v.ownBlock.toList, hm, fun k hk => by
  obtain ⟨h1, l, h2⟩ := ho.blkT k (Option.mem_toList.1 hk)
  exact ⟨h1, T, l, h2, by simp⟩⟩
theorem Own.base {s n : Nat} {v : Value} {xs : List Value} (h : Own w C T s v n xs) (hB : ∀ k, v.ownBlock = some k → B ≤ k) : Own w B T s v n xs := by
  refine ⟨h.1, ?_⟩
  rcases h.2 with hn | ⟨g, cap, rest, rfl, _, r⟩
  · exact .inl hn
  · exact .inr ⟨g, cap, rest, rfl, hB g rfl, r⟩
end
end Go.Proofs.YthgfdpcpbghkpaaGreatDoor
namespace Go.Proofs.YthgfdpcpbghkpaaGreatDoor
open Go.RowKit Pth
theorem Bk.isCells {w : World} {b : Nat} {T : TypeId} {l : List Value} (h : Bk w b T l) : ∃ o : Obj, w.heap[b]? = some o ∧ o.isCells = true := by
  obtain ⟨fr, h, _⟩ := h
  exact ⟨_, h, rfl⟩
theorem Bk.turned {A B : World} {row : Option Nat} {C b : Nat} {T : TypeId} {l : List Value} (h : Bk A b T l) (hg : A.grownBy B row) (hr : ∀ r, row = some r → C ≤ r ∧ ∃ o : Obj, A.heap[r]? = some o ∧ o.isCells = false) : Bk B b T l :=
  h.of_block (hg.block b h.lt fun e => by
    obtain ⟨_, o, ho, hn⟩ := hr b e.symm
    obtain ⟨o', ho', hc⟩ := h.isCells
    rw [ho] at ho'
    cases ho'
    rw [hc] at hn
    cases hn)
theorem Own.turned {A B : World} {row : Option Nat} {C B0 s n : Nat} {T : TypeId} {v : Value} {xs : List Value} (h : Own A B0 T s v n xs) (hg : A.grownBy B row) (hr : ∀ r, row = some r → C ≤ r ∧ ∃ o : Obj, A.heap[r]? = some o ∧ o.isCells = false) : Own B B0 T s v n xs :=
  h.of_blocks fun k hk => by
    obtain ⟨_, l, hb⟩ := h.blkT k hk
    refine hg.block k hb.lt fun e => ?_
    obtain ⟨_, o, ho, hn⟩ := hr k e.symm
    obtain ⟨o', ho', hc⟩ := hb.isCells
    rw [ho] at ho'
    cases ho'
    rw [hc] at hn
    cases hn
theorem Ext.turned {w A B : World} {row : Option Nat} {C : Nat} (h : Ext w A) (hC : w.heap.size ≤ C) (hg : A.grownBy B row) (hr : ∀ r, row = some r → C ≤ r ∧ ∃ o : Obj, A.heap[r]? = some o ∧ o.isCells = false) : Ext w B :=
  h.grown hg fun k e => Nat.le_trans hC (hr k e).1
theorem Mo.keeps {w w' : World} {S : List Nat} (h : Mo w w' S) (hS : ∀ k ∈ S, ∃ T l, Bk w k T l) : KeepsOthers w w' :=
  ⟨h.size, fun k o hk ho => by
    refine (h.block k (Array.getElem?_eq_some_iff.1 hk).1 fun hm => ?_).trans hk
    obtain ⟨T, l, hb⟩ := hS k hm
    obtain ⟨o', ho', hc⟩ := hb.isCells
    rw [hk] at ho'
    cases ho'
    rw [hc] at ho
    cases ho⟩
theorem clean_s (s : List UInt8) (hs : s.length ≤ 1000000000000) (w : World) : Ret Tryz.prog 95 [str s] w fun v w' => v = .tuple #[str (cleanP s).1, .int .i64 (((cleanP s).2 : Nat) : Int)] ∧ Ext w w' := by
  refine Ret.enterR 3 Tryz.func95 rfl Tryz.ntmps95 (by kernel_rfl) rfl ?_
  refine KR.seq (KR.region ?_)
  refine OR.boxB rfl rfl rfl rfl ?_
  rintro sb w1 hge1 hs1 hx1
  refine OR.val rfl rfl (EX.assign rfl) ?_
  refine OR.val rfl rfl (EX.assign rfl) ?_
  refine OR.nil ?_
  refine KR.scope (fun _ _ _ h => h) (KR.seq (KR.region ?_))
  refine OR.buildB 0 rfl rfl Tryz.underlying24 ti9 rfl rfl rfl rfl (by first | rfl | (simp only [List.all_cons, List.all_nil, Bool.and_true, Bool.and_eq_true]; assumption)) (by decide) ?_
  rintro gb w2 hge2 hg2 hx2
  refine OR.allocB (l := [.slice none 0 0]) rfl rfl ti24 rfl ?_
  rintro ob w3 hge3 ho3 hx3
  have hob : w1.heap.size ≤ ob := by have := hx2.size; omega
  refine OR.storeB rfl ti24 rfl rfl (by first | rfl | assumption | exact Own.one (by assumption)) (ho3) (by simp) ?_
  rintro w4 ho4 hm4
  refine OR.nil ?_
  refine KR.seq (KR.region ?_)
  refine OR.val rfl rfl (EX.makeFunc rfl rfl) ?_
  refine OR.val rfl rfl (EX.assign rfl) ?_
  refine OR.nil ?_
  refine KR.seq (KR.seq (KR.region ?_))
  simp only [List.set_cons_zero] at ho4
  have hown4 : Own w4 w1.heap.size 9 1 (.slice (some ⟨gb, 0, none⟩) 0 0) 0 (txtsV []) := ((Own.of_bk (l := []) hg2 hge2 rfl (by decide)).ext hx3).mo hm4 (fun k hk => by
    have := (hg2.ext hx3).ne ho3 (by decide)
    simp [Value.ownBlock] at hk
    subst hk
    simpa using this)
  have hx4 : Ext w1 w4 := below_mo (hx2.trans hx3) hm4 (hx2.trans hx3).size (fun k hk => by simp at hk; subst hk; have := hx2.size; omega)
  have hs4 : Bk w4 sb 9 [str s] := hs1.ext hx4
  refine OR.val rfl rfl (EX.load Tryz.underlying9 rfl rfl (hs4.cell_of rfl)) ?_
  refine OR.val rfl rfl (EX.lenS Tryz.underlying9 rfl) ?_
  refine OR.val rfl rfl (EX.move rfl) ?_
  refine OR.nil ?_
  refine KR.block ?_
  refine KR.loop1 (fun (i : Nat) => i ≤ s.length ∧ ∀ c ∈ s.take i, 32 ≤ c.toNat ∧ c.toNat ≤ 126) (fun (i : Nat) => [(1, .pointer (some ⟨sb, 0, none⟩)), (4, .pointer (some ⟨ob, 0, none⟩)), (5, .func (.func 108) #[] #[.pointer (some ⟨sb, 0, none⟩)]), (13, .int .i64 ((s.length : Nat) : Int)), (14, .int .i64 ((i : Nat) : Int))]) (fun (i : Nat) => w4) (fun (i : Nat) => s.length - i) (0) ⟨rfl, rfl, rfl, rfl, rfl, trivial⟩ rfl ?_ ?_
  · exact ⟨by omega, by simp⟩
  · rintro i ⟨hi, hok⟩
    refine KR.seq (KR.region ?_)
    refine OR.val rfl rfl (by first | exact EX.lssN rfl rfl | exact EX.lssZ rfl rfl) ?_
    refine OR.nil ?_
    refine KR.seq ?_
    refine KR.condD rfl (fun hlt => ?_) (fun hlt => ?_)
    · have hbad : ¬ (32 ≤ s[i].toNat ∧ s[i].toNat ≤ 126) → cleanP s = ([], 140) := fun h => by
        unfold cleanP
        rw [if_neg]
        rintro ⟨h1, _⟩
        exact h (h1 _ (List.getElem_mem hlt))
      refine KR.skip (KR.seq (KR.block (KR.seq (KR.region ?_))))
      refine OR.val rfl rfl (EX.move rfl) ?_
      refine OR.val rfl rfl (EX.assign rfl) ?_
      refine OR.nil ?_
      refine KR.seq ?_
      refine KR.region ?_
      refine OR.val rfl rfl (EX.load Tryz.underlying9 rfl rfl (hs4.cell_of rfl)) ?_
      refine OR.val rfl rfl (EX.move rfl) ?_
      refine OR.val rfl rfl (EX.indexS Tryz.underlying9 rfl rfl (List.getElem?_eq_getElem (by omega))) ?_
      refine OR.val rfl rfl (by first | exact EX.lssN (b := 32) rfl rfl | exact EX.lssZ rfl rfl) ?_
      refine OR.val rfl rfl (EX.move rfl) ?_
      refine OR.splitD 21 rfl (fun h1 => ?_) (fun h1 => ?_)
      · refine OR.pass rfl rfl ?_
        refine OR.pass rfl rfl ?_
        refine OR.pass rfl rfl ?_
        refine OR.pass rfl rfl ?_
        refine OR.val rfl rfl (EX.pickT rfl rfl) ?_
        refine OR.nil ?_
        refine KR.condT rfl (KR.seq (KR.region ?_))
        refine OR.val rfl rfl (EX.assign rfl) ?_
        refine OR.val rfl rfl (EX.assign rfl) ?_
        refine OR.nil ?_
        refine KR.ret (retR2 (.inr rfl) rfl rfl rfl rfl rfl ?_)
        rw [hbad (by omega)]
        exact ⟨rfl, hx1.trans hx4⟩
      · skip
        refine OR.val rfl rfl (EX.load Tryz.underlying9 rfl rfl (hs4.cell_of rfl)) ?_
        refine OR.val rfl rfl (EX.move rfl) ?_
        refine OR.val rfl rfl (EX.indexS Tryz.underlying9 rfl rfl (List.getElem?_eq_getElem (by omega))) ?_
        refine OR.val rfl rfl (by first | exact EX.gtrN (b := 126) rfl rfl | exact EX.gtrZ rfl rfl) ?_
        refine OR.val rfl rfl (EX.pickF rfl rfl) ?_
        refine OR.nil ?_
        refine KR.condD rfl (fun h2 => ?_) (fun h2 => ?_)
        · refine KR.seq (KR.region ?_)
          refine OR.val rfl rfl (EX.assign rfl) ?_
          refine OR.val rfl rfl (EX.assign rfl) ?_
          refine OR.nil ?_
          refine KR.ret (retR2 (.inr rfl) rfl rfl rfl rfl rfl ?_)
          rw [hbad (by omega)]
          exact ⟨rfl, hx1.trans hx4⟩
        · refine KR.skip (KR.leave (KR.region ?_))
          refine OR.val rfl rfl (by first | exact EX.addN (b := 1) (m := 9223372036854775807) rfl rfl rfl (by omega) | exact EX.addZ (m := 9223372036854775807) rfl rfl rfl rfl (by omega)) ?_
          refine OR.val rfl rfl (EX.move rfl) ?_
          refine OR.nil ?_
          refine KR.back1 (i + 1) ⟨rfl, rfl, rfl, rfl, rfl, trivial⟩ rfl ?_ (by omega)
          refine ⟨by omega, fun c hc => ?_⟩
          rw [List.take_add_one, List.getElem?_eq_getElem hlt] at hc
          rcases List.mem_append.1 hc with hc | hc
          · exact hok c hc
          · simp only [Option.toList_some, List.mem_singleton] at hc
            subst hc
            omega
    · have hfit : fits s := by
        rw [List.take_of_length_le (by omega)] at hok
        exact hok
      refine KR.exit rfl (KR.seq (KR.region ?_))
      refine OR.allocB (l := [.bool false]) rfl rfl ti4 rfl ?_
      rintro bb w5 hge5 hb5 hx5
      have hbb : w1.heap.size ≤ bb := by have := hx4.size; omega
      refine OR.storeB rfl ti4 rfl rfl (by first | rfl | assumption | exact Own.one (by assumption)) (hb5) (by simp) ?_
      rintro w6 hb6 hm6
      refine OR.nil ?_
      refine KR.seq (KR.label (KR.seq (KR.seq (KR.region ?_))))
      refine OR.val rfl rfl (EX.move rfl) ?_
      refine OR.nil ?_
      refine KR.block ?_
      simp only [List.set_cons_zero] at hb6
      have hx6 : Ext w1 w6 := below_mo (hx4.trans hx5) hm6 (hx4.trans hx5).size (fun k hk => by simp at hk; subst hk; have := hx4.size; omega)
      have ho6 : Bk w6 ob 24 [.slice (some ⟨gb, 0, none⟩) 0 0] := (ho4.ext hx5).mo hm6 (by simp; exact (ho4.ext hx5).ne hb5 (by decide))
      have hown6 : Own w6 w1.heap.size 9 1 (.slice (some ⟨gb, 0, none⟩) 0 0) 0 (txtsV []) := (hown4.ext hx5).mo hm6 (fun k hk => by
        have := ((hg2.ext hx3).mo hm4 (by simp; exact (hg2.ext hx3).ne ho3 (by decide))).ext hx5 |>.ne hb5 (by decide)
        simp [Value.ownBlock] at hk
        subst hk
        simpa using this)
      have hsb1 : sb < w6.heap.size := by have := hs1.lt; have := hx6.size; omega
      refine KR.rangeF rfl (Nat.le_add_left _ _) Tryz.func108 (by kernel_rfl) rfl rfl rfl (fun _ _ => rfl) (by simp) (iter_s sb s hs w6 (hs1.ext hx6)) (fun h k => k.trans h) (fun W l o o' hl h _ _ => World.putObj_heap_other (by omega)) (fun pre W => ∃ v, Bk W ob 24 [v] ∧ Own W w1.heap.size 9 1 v (kept pre).length (txtsV (kept pre)) ∧ Bk W bb 4 [.bool false] ∧ Ext w1 W ∧ dd ∉ pre) (fun c pre W => ∃ p0, c = .exit 2 ∧ pre = p0 ++ [dd] ∧ ∃ v, Bk W ob 24 [v] ∧ Own W w1.heap.size 9 1 v (kept p0).length (txtsV (kept p0)) ∧ Bk W bb 4 [.bool true] ∧ Ext w1 W) (fun pre A B row h hg hr => let ⟨v, h1, h2, h3, h4, h5⟩ := h; ⟨v, h1.turned hg hr, h2.turned hg hr, h3.turned hg hr, h4.turned hx6.size hg hr, h5⟩) (fun c pre A B row h hg hr => let ⟨p0, e1, e2, v, h1, h2, h3, h4⟩ := h; ⟨p0, e1, e2, v, h1.turned hg hr, h2.turned hg hr, h3.turned hg hr, h4.turned hx6.size hg hr⟩) (⟨_, ho6, hown6, hb6, hx6, by simp⟩) ?_ ?_ ?_
      · rintro l pre x W ⟨v, h1, h2, h3, h4, h5⟩ hlen
        have hsW : Bk W sb 9 [str s] := hs1.ext h4
        have hkl : (kept pre).length ≤ pre.length := List.length_filter_le _ _
        have stay : keepB x = false → x ≠ dd → (KeepsOthers W W ∧ KpS sb W W ∧ ∃ v, Bk W ob 24 [v] ∧ Own W w1.heap.size 9 1 v (kept (pre ++ [x])).length (txtsV (kept (pre ++ [x]))) ∧ Bk W bb 4 [.bool false] ∧ Ext w1 W ∧ dd ∉ pre ++ [x]) := fun hk hd => by
          rw [kept_snoc, hk, if_neg (by simp)]
          exact ⟨KeepsOthers.refl W, rfl, v, h1, h2, h3, h4, by simp [h5, Ne.symm hd]⟩
        refine KR.block (KR.seq (KR.seq (KR.region ?_)))
        refine OR.val rfl rfl (EX.move rfl) ?_
        refine OR.nil ?_
        refine KR.block (KR.seq (KR.seq (KR.region ?_)))
        refine OR.val rfl rfl (EX.eqlS (r := []) rfl rfl) ?_
        refine OR.val rfl rfl (EX.assign rfl) ?_
        refine OR.nil ?_
        refine KR.condD rfl (fun hx0 => ?_) (fun hx0 => ?_)
        · refine KR.as 31 (.bool true) rfl (congrArg Value.bool (decide_eq_true (hx0))) ?_
          refine KR.skip (KR.condT rfl (KR.exit rfl ?_))
          refine KR.done ?_
          exact fun _ _ => stay (by rw [hx0]; rfl) (by rw [hx0]; decide)
        · refine KR.region ?_
          refine OR.val rfl rfl (EX.eqlS (r := [46]) rfl rfl) ?_
          refine OR.val rfl rfl (EX.assign rfl) ?_
          refine OR.nil ?_
          refine KR.condD rfl (fun hx1 => ?_) (fun hx1 => ?_)
          · refine KR.exit rfl ?_
            refine KR.done ?_
            exact fun _ _ => stay (by rw [hx1]; rfl) (by rw [hx1]; decide)
          · refine KR.seq (KR.region ?_)
            refine OR.val rfl rfl (EX.eqlS (r := [46, 46]) rfl rfl) ?_
            refine OR.val rfl rfl (EX.assign rfl) ?_
            refine OR.nil ?_
            refine KR.condD rfl (fun hx2 => ?_) (fun hx2 => ?_)
            · refine KR.seq (KR.region ?_)
              refine OR.storeB rfl ti4 rfl rfl (by first | rfl | assumption | exact Own.one (by assumption)) (h3) (by simp) ?_
              rintro W2 hb2 hm2
              refine OR.nil ?_
              refine KR.exitOut rfl ?_
              simp only [List.set_cons_zero] at hb2
              exact fun _ _ => ⟨hm2.keeps (fun k hk => by simp at hk; subst hk; exact ⟨_, _, h3⟩), pre, rfl, by rw [hx2]; rfl, v, h1.mo hm2 (by simp; exact h1.ne h3 (by decide)), h2.mo hm2 (fun k hk => by simp; exact fun q => h2.ne h3 (by decide) k hk q.symm), hb2, below_mo h4 hm2 h4.size (fun k hk => by simp at hk; subst hk; have := hx4.size; have := hx5.size; omega)⟩
            · have hkx : keepB x = true := by simp [keepB, hx0, hx1]
              refine KR.skip (KR.leave (KR.region ?_))
              refine OR.val rfl rfl (EX.load Tryz.underlying24 rfl rfl (h1.cell_of rfl)) ?_
              refine OR.val rfl rfl (EX.move rfl) ?_
              refine OR.push rfl rfl (fun _ => rfl) rfl Tryz.underlying24 ti9 rfl rfl (fun _ => rfl) rfl (h4) (h2) (by simp only [maxLen]; omega) (by omega) ?_
              rintro _ v2 W2 hown2 hx2' hg2' ho2
              have hm2 : Mo W W2 v.ownBlock.toList := Mo.grown hg2' (fun k e => by rw [e]; simp)
              have nb : ob ∉ v.ownBlock.toList := fun q => h2.ne h1 (by decide) ob (by simpa using q) rfl
              have nbb : bb ∉ v.ownBlock.toList := fun q => h2.ne h3 (by decide) bb (by simpa using q) rfl
              have ho2b := h1.mo hm2 nb
              have hb2b := h3.mo hm2 nbb
              refine OR.storeB rfl ti24 rfl rfl (by first | rfl | assumption | exact Own.one (by assumption)) (ho2b) (by simp) ?_
              rintro W3 ho3' hm3
              refine OR.nil ?_
              refine KR.leave ?_
              simp only [List.set_cons_zero] at ho3'
              refine KR.done ?_
              have hown3 : Own W3 w1.heap.size 9 1 v2 (kept (pre ++ [x])).length (txtsV (kept (pre ++ [x]))) := by
                rw [kept_snoc, if_pos hkx, List.length_append, txtsV_snoc]
                exact hown2.mo hm3 (fun k hk => by simp; exact fun q => hown2.ne ho2b (by decide) k hk q.symm)
              have hx3' : Ext w1 W3 := below_mo hx2' hm3 hx2'.size (fun k hk => by simp at hk; omega)
              have hsW3 : Bk W3 sb 9 [str s] := hs1.ext hx3'
              refine fun _ _ => ⟨(hm2.keeps fun k hk => ?_).trans (hm3.keeps fun k hk => ?_), ?_, v2, ho3', hown3, hb2b.mo hm3 (by simp; exact hb2b.ne ho2b (by decide)), hx3', by simp only [List.mem_append, List.mem_singleton, not_or]; exact ⟨h5, fun q => hx2 q.symm⟩⟩
              · obtain ⟨_, l, hb⟩ := h2.blkT k (by simpa using hk)
                exact ⟨_, _, hb⟩
              · simp at hk
                subst hk
                exact ⟨_, _, ho2b⟩
              · show W3.heap[sb]? = W.heap[sb]?
                exact (hx3'.block sb hs1.lt).trans (h4.block sb hs1.lt).symm
      · rintro D xs W hD rfl ⟨v, h1, h2, h3, h4, h5⟩ hK
        obtain ⟨A, c, rfl, hc, hsl⟩ := h2.slice
        have hwt : wt (kept (parts s)) ≤ 140737488355328 := by have q1 := wt_filter keepB (parts s); have q2 := wt_parts s; unfold kept; omega
        have hDl : D < W.heap.size := (Array.getElem?_eq_some_iff.1 hK).1
        refine KR.leave (KR.seq (KR.region ?_))
        refine OR.val rfl rfl (EX.load Tryz.underlying24 rfl rfl (h1.cell_of rfl)) ?_
        refine OR.call rfl rfl rfl (join_c A c (kept (parts s)) _ W hsl (Nat.le_refl _) hc hwt) ?_
        rintro _ W2 ⟨rfl, hxW⟩
        refine OR.val rfl rfl (EX.assign rfl) ?_
        refine OR.nil ?_
        refine KR.seq (KR.seq ?_)
        have hK2 : W2.heap[D]? = some (.deferred (some [])) := (hxW.block D hDl).trans hK
        have hxe : Ext w (W2.putObj D (.deferred none)) := Ext.putObj ((hx1.trans h4).trans hxW) (by have := hx1.size; have := hx6.size; omega) _
        have h3' := h3.ext hxW
        refine KR.region ?_
        refine OR.val rfl rfl (EX.load Tryz.underlying4 rfl rfl (h3'.cell_of rfl)) ?_
        refine OR.val rfl rfl (EX.move rfl) ?_
        refine OR.val rfl rfl (EX.move rfl) ?_
        refine OR.val rfl rfl (EX.eqlS (r := []) rfl rfl) ?_
        refine OR.val rfl rfl (EX.pickF rfl rfl) ?_
        refine OR.val rfl rfl (EX.move rfl) ?_
        refine OR.splitD 47 rfl (fun j1 => ?_) (fun j1 => ?_)
        · refine OR.pass rfl rfl ?_
          refine OR.pass rfl rfl ?_
          refine OR.pass rfl rfl ?_
          refine OR.val rfl rfl (EX.pickT rfl rfl) ?_
          refine OR.nil ?_
          refine KR.condT rfl (KR.seq (KR.region ?_))
          refine OR.val rfl rfl (EX.assign rfl) ?_
          refine OR.val rfl rfl (EX.assign rfl) ?_
          refine OR.nil ?_
          refine KR.ret (retM2 (.inr rfl) rfl rfl (hK2) rfl rfl rfl ?_)
          have e : cleanP s = ([], 140) := by unfold cleanP; rw [if_neg (fun q => q.2.2.1 j1)]
          rw [e]
          exact ⟨rfl, hxe⟩
        · refine OR.val rfl rfl (EX.move rfl) ?_
          refine OR.val rfl rfl (EX.lenS Tryz.underlying9 rfl) ?_
          refine OR.val rfl rfl (by first | exact EX.gtrN (b := 120) rfl rfl | exact EX.gtrZ rfl rfl) ?_
          refine OR.val rfl rfl (EX.pickF rfl rfl) ?_
          refine OR.nil ?_
          refine KR.condD rfl (fun j2 => ?_) (fun j2 => ?_)
          · refine KR.seq (KR.region ?_)
            refine OR.val rfl rfl (EX.assign rfl) ?_
            refine OR.val rfl rfl (EX.assign rfl) ?_
            refine OR.nil ?_
            refine KR.ret (retM2 (.inr rfl) rfl rfl (hK2) rfl rfl rfl ?_)
            have e : cleanP s = ([], 140) := by unfold cleanP; rw [if_neg (fun q => by have := q.2.2.2; omega)]
            rw [e]
            exact ⟨rfl, hxe⟩
          · refine KR.skip (KR.seq (KR.region ?_))
            refine OR.val rfl rfl (EX.move rfl) ?_
            refine OR.val rfl rfl (EX.assign rfl) ?_
            refine OR.val rfl rfl (EX.assign rfl) ?_
            refine OR.nil ?_
            refine KR.ret (retM2 (.inr rfl) rfl rfl (hK2) rfl rfl rfl ?_)
            have e : cleanP s = (joinS (kept (parts s)), 0) := by unfold cleanP; rw [if_pos ⟨hfit, h5, j1, by omega⟩]
            rw [e]
            exact ⟨rfl, hxe⟩
      · rintro D c pre W hD hpre ⟨p0, rfl, rfl, v, h1, h2, h3, h4⟩ hK
        obtain ⟨A, c, rfl, hc, hsl⟩ := h2.slice
        have hwt : wt (kept p0) ≤ 140737488355328 := by
          have q1 := wt_filter keepB p0
          have q2 := wt_parts s
          obtain ⟨r, hr⟩ := hpre
          rw [← hr, wt_append, wt_append] at q2
          unfold kept
          omega
        have e : cleanP s = ([], 140) := by
          unfold cleanP
          rw [if_neg]
          rintro ⟨_, h, _⟩
          exact h (hpre.subset (by simp))
        have hDl : D < W.heap.size := (Array.getElem?_eq_some_iff.1 hK).1
        refine KR.exit rfl (KR.seq (KR.region ?_))
        refine OR.val rfl rfl (EX.load Tryz.underlying24 rfl rfl (h1.cell_of rfl)) ?_
        refine OR.call rfl rfl rfl (join_c A c (kept p0) _ W hsl (Nat.le_refl _) hc hwt) ?_
        rintro _ W2 ⟨rfl, hxW⟩
        refine OR.val rfl rfl (EX.assign rfl) ?_
        refine OR.nil ?_
        refine KR.seq (KR.seq ?_)
        have hK2 : W2.heap[D]? = some (.deferred (some [])) := (hxW.block D hDl).trans hK
        have hxe : Ext w (W2.putObj D (.deferred none)) := Ext.putObj ((hx1.trans h4).trans hxW) (by have := hx1.size; have := hx6.size; omega) _
        have h3' := h3.ext hxW
        refine KR.region ?_
        refine OR.val rfl rfl (EX.load Tryz.underlying4 rfl rfl (h3'.cell_of rfl)) ?_
        refine OR.val rfl rfl (EX.move rfl) ?_
        refine OR.pass rfl rfl ?_
        refine OR.pass rfl rfl ?_
        refine OR.val rfl rfl (EX.pickT rfl rfl) ?_
        refine OR.val rfl rfl (EX.move rfl) ?_
        refine OR.pass rfl rfl ?_
        refine OR.pass rfl rfl ?_
        refine OR.pass rfl rfl ?_
        refine OR.val rfl rfl (EX.pickT rfl rfl) ?_
        refine OR.nil ?_
        refine KR.condT rfl (KR.seq (KR.region ?_))
        refine OR.val rfl rfl (EX.assign rfl) ?_
        refine OR.val rfl rfl (EX.assign rfl) ?_
        refine OR.nil ?_
        refine KR.ret (retM2 (.inr rfl) rfl rfl (hK2) rfl rfl rfl ?_)
        rw [e]
        exact ⟨rfl, hxe⟩
end Go.Proofs.YthgfdpcpbghkpaaGreatDoor
namespace Go.Proofs.YthgfdpcpbghkpaaGreatDoor
open Go.RowKit
def GW (P : Program) (R : Act → World → Prop) (ops : Array Oper) (S : World → Prop) (fuel : Nat) (listed : Array Bool) (k : List KI) (n : Nat) (σ : Sig) (w : World) : Prop :=
  ∀ a, Fr n σ a → wpAnyH P .any ops (pst P R k) S fuel listed a w
section
variable {P : Program} {R : Act → World → Prop} {ops : Array Oper} {S : World → Prop} {fuel : Nat} {listed : Array Bool} {k : List KI} {n : Nat} {σ : Sig} {w w' : World}
theorem pst_panic {c : List PanicEntry} : ∀ (k : List KI) (a : Act) (w : World), pst P R k (.panic c) a w → False
  | [], _, _, h => h
  | .code _ :: k, a, w, h => pst_panic k a w h
  | .blk _ :: k, a, w, h => pst_panic k a w h
  | .asr _ :: k, a, w, h => pst_panic k a w h
theorem KW.regionG {id N : Nat} {l : List Oper} (S : World → Prop) (hm : P.follows .mixedOrders = true) (hN : l.toArray.size = N) (h : GW P R l.toArray S N (Array.replicate N false) k n σ w.drew) : KW P R (.code (.region id l.toArray true) :: k) n σ w := fun a ha => by
  subst hN
  exact wp_region_held hm (h a ha)
theorem GW.val (i : Nat) {d : Nat} {op : Op} {ty : TypeId} {pos : String} {after : Array Edge} {g : Option (Nat × Bool)} {v : Value} (hi : ops[i]? = some ⟨some d, op, ty, pos, after, g⟩) (hs : Region.noSelect ops = true) (hf : Region.free .any ops listed i = true) (hr : (Region.ready .any ops listed).contains i = true)
    (hg : wantS ops σ g = some true) (hd : Nat.blt d n = true) (hS : S w) (he : ∀ w', S w' → EX P n σ op ty w' v w')
    (h : GW P R ops S fuel (listed.setIfInBounds i true) k n ((d, v) :: σ) w) : GW P R ops S (fuel + 1) listed k n σ w := fun a ha =>
  wpAnyH_take hi hs hf hr (fun c a w q => (pst_panic k _ _ q).elim) (.inl ⟨wantS_spec ha (o := ⟨some d, op, ty, pos, after, g⟩) hg, fun w' hw' => he w' hw' a ha _ _ _ _⟩) hS (h _ (ha.put hd v))
theorem GW.pass (i : Nat) {d : Nat} {op : Op} {ty : TypeId} {pos : String} {after : Array Edge} {g : Option (Nat × Bool)} (hi : ops[i]? = some ⟨some d, op, ty, pos, after, g⟩) (hs : Region.noSelect ops = true) (hf : Region.free .any ops listed i = true) (hr : (Region.ready .any ops listed).contains i = true)
    (hg : wantS ops σ g = some false) (hd : Nat.blt d n = true) (hS : S w)
    (h : GW P R ops S fuel (listed.setIfInBounds i true) k n ((d, undef) :: σ) w) : GW P R ops S (fuel + 1) listed k n σ w := fun a ha =>
  wpAnyH_take hi hs hf hr (fun c a w q => (pst_panic k _ _ q).elim) (.inr ⟨wantS_spec ha (o := ⟨some d, op, ty, pos, after, g⟩) hg, rfl⟩) hS (h _ (ha.put hd undef))
theorem GW.sole (i : Nat) {o : Oper} (hi : ops[i]? = some o) (hr : Region.ready .any ops listed = [i]) (hg : wantS ops σ o.guard = some true)
    (h : ∀ a, Fr n σ a → o.wp P a w (fun a' w' => S w' ∧ wpAnyH P .any ops (pst P R k) S fuel (listed.setIfInBounds i true) a' w') (pst P R k)) : GW P R ops S (fuel + 1) listed k n σ w := fun a ha =>
  wpAnyH_all hr (by simp) fun j hj => by
    simp only [List.mem_singleton] at hj
    subst hj
    unfold wpOp
    simp only [hi, wantS_spec ha hg, if_true]
    exact .inl (h a ha)
theorem GW.callE (i : Nat) {d : Nat} {op : Op} {ty : TypeId} {pos : String} {after : Array Edge} {g : Option (Nat × Bool)} {f : FuncId} {args : List Value} {Q : Value → World → Prop} (hi : ops[i]? = some ⟨some d, op, ty, pos, after, g⟩) (hr : Region.ready .any ops listed = [i])
    (hg : wantS ops σ g = some true) (hd : Nat.blt d n = true) (he : EC P n σ op ty w f args.toArray) (hc : Ret P f args w Q)
    (h : ∀ v w', Q v w' → S w' ∧ (S w' → GW P R ops S fuel (listed.setIfInBounds i true) k n ((d, v) :: σ) w')) : GW P R ops S (fuel + 1) listed k n σ w :=
  GW.sole i hi hr hg fun a ha => by
    have h1 := he a ha (some d) pos after g
    unfold Oper.wp
    rw [h1]
    refine hc.2.mono fun e w'' ⟨v, he, q⟩ => ?_
    subst he
    obtain ⟨h2, h3⟩ := h v w'' q
    exact ⟨h2, h3 h2 _ (ha.put hd v)⟩
theorem GW.call (i : Nat) {d : Nat} {f : FuncId} {xs : List Operand} {ats : Array TypeId} {ty : TypeId} {pos : String} {after : Array Edge} {g : Option (Nat × Bool)} {vs : List Value} {Q : Value → World → Prop}
    (hi : ops[i]? = some ⟨some d, .call { callee := .value (.func f), args := xs.toArray, argTypes := ats }, ty, pos, after, g⟩) (hr : Region.ready .any ops listed = [i])
    (hg : wantS ops σ g = some true) (hd : Nat.blt d n = true) (hx : evs σ xs = some vs) (hc : Ret P f vs w Q)
    (h : ∀ v w', Q v w' → S w' ∧ (S w' → GW P R ops S fuel (listed.setIfInBounds i true) k n ((d, v) :: σ) w')) : GW P R ops S (fuel + 1) listed k n σ w := by
  obtain ⟨⟨fn, h1, h2⟩, _⟩ := id hc
  exact GW.callE i hi hr hg hd (EC.go h1 h2 hx) hc h
theorem GW.new (i : Nat) {d : Nat} {op : Op} {ty : TypeId} {pos : String} {after : Array Edge} {g : Option (Nat × Bool)} {v : Value} (hi : ops[i]? = some ⟨some d, op, ty, pos, after, g⟩) (hr : Region.ready .any ops listed = [i])
    (hg : wantS ops σ g = some true) (hd : Nat.blt d n = true) (he : EX P n σ op ty w v w') (h : S w' ∧ (S w' → GW P R ops S fuel (listed.setIfInBounds i true) k n ((d, v) :: σ) w')) : GW P R ops S (fuel + 1) listed k n σ w :=
  GW.sole i hi hr hg fun a ha => by
    have h1 := he a ha (some d) pos after g
    unfold Oper.wp
    rw [h1]
    exact ⟨h.1, h.2 h.1 _ (ha.put hd v)⟩
theorem GW.eff (i : Nat) {op : Op} {ty : TypeId} {pos : String} {after : Array Edge} {g : Option (Nat × Bool)} (hi : ops[i]? = some ⟨none, op, ty, pos, after, g⟩) (hr : Region.ready .any ops listed = [i])
    (hg : wantS ops σ g = some true) (he : EU P n σ op ty w w') (h : S w' ∧ (S w' → GW P R ops S fuel (listed.setIfInBounds i true) k n σ w')) : GW P R ops S (fuel + 1) listed k n σ w :=
  GW.sole i hi hr hg fun a ha => by
    have h1 := he a ha none pos after g
    unfold Oper.wp
    rw [h1]
    exact ⟨h.1, h.2 h.1 _ ha⟩
theorem GW.storeB (i : Nat) {x y : Operand} {T T' ty : TypeId} {pos : String} {after : Array Edge} {g : Option (Nat × Bool)} {b o bs : Nat} {v z : Value} {l : List Value} (hi : ops[i]? = some ⟨none, .store T x y, ty, pos, after, g⟩) (hr : Region.ready .any ops listed = [i])
    (hg : wantS ops σ g = some true) (ht : TI P T z 1 bs) (hx : ev σ x = some (.pointer (some ⟨b, o, none⟩))) (hy : ev σ y = some v) (h1 : v.oneCell' = true) (hb : Bk w b T' l) (hlt : o < l.length)
    (h : ∀ w', Bk w' b T' (l.set o v) → Mo w w' [b] → S w' ∧ (S w' → GW P R ops S fuel (listed.setIfInBounds i true) k n σ w')) : GW P R ops S (fuel + 1) listed k n σ w :=
  GW.eff i hi hr hg (EU.storeBk ht hx hy h1 hb hlt) (h _ (hb.set o v) (Mo.set w b o v))
theorem GW.storeS (i : Nat) {x y : Operand} {T T' ty : TypeId} {pos : String} {after : Array Edge} {g : Option (Nat × Bool)} {b o s bs : Nat} {z : Value} {l vs : List Value} (hi : ops[i]? = some ⟨none, .store T x y, ty, pos, after, g⟩) (hr : Region.ready .any ops listed = [i])
    (hg : wantS ops σ g = some true) (ht : TI P T z s bs) (hx : ev σ x = some (.pointer (some ⟨b, o, none⟩))) (hy : ev σ y = some (.agg vs.toArray)) (hs : vs.length = s) (h1 : vs.all (·.oneCell') = true) (hb : Bk w b T' l) (hlt : o + vs.length ≤ l.length)
    (h : ∀ w', Bk w' b T' (l.take o ++ vs ++ l.drop (o + vs.length)) → Mo w w' [b] → S w' ∧ (S w' → GW P R ops S fuel (listed.setIfInBounds i true) k n σ w')) : GW P R ops S (fuel + 1) listed k n σ w := by
  obtain ⟨w', he, hb', hg'⟩ := EU.storeA (P := P) (n := n) (ty := ty) ht hx hy hs h1 hb hlt
  exact GW.eff i hi hr hg he (h w' hb' (Mo.grown hg' (fun k e => by simp at e; simp [e])))
def GO (P : Program) (R : Act → World → Prop) (ops : Array Oper) (S : World → Prop) (fuel : Nat) (listed : Array Bool) (k : List KI) (n : Nat) (σ : Sig) (w : World) (i : Nat) : Prop :=
  ∀ a, Fr n σ a → wpOp P ops (pst P R k) i (fun a' w' => S w' ∧ wpAnyH P .any ops (pst P R k) S fuel (listed.setIfInBounds i true) a' w') a w
theorem GW.two (i j : Nat) (hr : Region.ready .any ops listed = [i, j]) (h1 : GO P R ops S fuel listed k n σ w i) (h2 : GO P R ops S fuel listed k n σ w j) : GW P R ops S (fuel + 1) listed k n σ w := fun a ha =>
  wpAnyH_all hr (by simp) fun q hq => by
    simp only [List.mem_cons, List.not_mem_nil, or_false] at hq
    rcases hq with rfl | rfl
    · exact h1 a ha
    · exact h2 a ha
theorem wpAnyH_strong {S' : World → Prop} {Q : Exit → Act → World → Prop} (hS : ∀ w, S' w → S w) : ∀ (fuel : Nat) (listed : Array Bool) (a : Act) (w : World), wpAnyH P .any ops Q S' fuel listed a w → wpAnyH P .any ops Q S fuel listed a w
  | 0, _, _, _, h => h
  | fuel + 1, _, _, _, h => ⟨h.1, fun i hi => wpOp_mono (fun a' w' h' => ⟨hS _ h'.1, wpAnyH_strong hS fuel _ a' w' h'.2⟩) (h.2 i hi)⟩
theorem GW.strong (S' : World → Prop) (hS : ∀ w, S' w → S w) (h : GW P R ops S' fuel listed k n σ w) : GW P R ops S fuel listed k n σ w := fun a ha => wpAnyH_strong hS fuel listed a w (h a ha)
theorem GW.as (t : Nat) (v' : Value) {v : Value} (ht : lk σ t = some v) (e : v = v') (h : GW P R ops S fuel listed k n ((t, v') :: σ) w) : GW P R ops S fuel listed k n σ w := fun a ha =>
  OW.as (P := P) (R := R) (ops := #[]) (l := []) (k := [.asr fun a w => wpAnyH P .any ops (pst P R k) S fuel listed a w]) t v' ht e (fun a ha => h a ha) a ha
theorem GO.sole (i : Nat) {o : Oper} (hi : ops[i]? = some o) (hg : wantS ops σ o.guard = some true)
    (h : ∀ a, Fr n σ a → o.wp P a w (fun a' w' => S w' ∧ wpAnyH P .any ops (pst P R k) S fuel (listed.setIfInBounds i true) a' w') (pst P R k)) : GO P R ops S fuel listed k n σ w i := fun a ha => by
  unfold wpOp
  simp only [hi, wantS_spec ha hg, if_true]
  exact .inl (h a ha)
theorem GO.callE (i : Nat) {d : Nat} {op : Op} {ty : TypeId} {pos : String} {after : Array Edge} {g : Option (Nat × Bool)} {f : FuncId} {args : List Value} {Q : Value → World → Prop} (hi : ops[i]? = some ⟨some d, op, ty, pos, after, g⟩)
    (hg : wantS ops σ g = some true) (hd : Nat.blt d n = true) (he : EC P n σ op ty w f args.toArray) (hc : Ret P f args w Q)
    (h : ∀ v w', Q v w' → S w' ∧ (S w' → GW P R ops S fuel (listed.setIfInBounds i true) k n ((d, v) :: σ) w')) : GO P R ops S fuel listed k n σ w i :=
  GO.sole i hi hg fun a ha => by
    have h1 := he a ha (some d) pos after g
    unfold Oper.wp
    rw [h1]
    refine hc.2.mono fun e w'' ⟨v, he, q⟩ => ?_
    subst he
    obtain ⟨h2, h3⟩ := h v w'' q
    exact ⟨h2, h3 h2 _ (ha.put hd v)⟩
theorem GO.call (i : Nat) {d : Nat} {f : FuncId} {xs : List Operand} {ats : Array TypeId} {ty : TypeId} {pos : String} {after : Array Edge} {g : Option (Nat × Bool)} {vs : List Value} {Q : Value → World → Prop}
    (hi : ops[i]? = some ⟨some d, .call { callee := .value (.func f), args := xs.toArray, argTypes := ats }, ty, pos, after, g⟩)
    (hg : wantS ops σ g = some true) (hd : Nat.blt d n = true) (hx : evs σ xs = some vs) (hc : Ret P f vs w Q)
    (h : ∀ v w', Q v w' → S w' ∧ (S w' → GW P R ops S fuel (listed.setIfInBounds i true) k n ((d, v) :: σ) w')) : GO P R ops S fuel listed k n σ w i := by
  obtain ⟨⟨fn, h1, h2⟩, _⟩ := id hc
  exact GO.callE i hi hg hd (EC.go h1 h2 hx) hc h
theorem GO.new (i : Nat) {d : Nat} {op : Op} {ty : TypeId} {pos : String} {after : Array Edge} {g : Option (Nat × Bool)} {v : Value} (hi : ops[i]? = some ⟨some d, op, ty, pos, after, g⟩)
    (hg : wantS ops σ g = some true) (hd : Nat.blt d n = true) (he : EX P n σ op ty w v w') (h : S w' ∧ (S w' → GW P R ops S fuel (listed.setIfInBounds i true) k n ((d, v) :: σ) w')) : GO P R ops S fuel listed k n σ w i :=
  GO.sole i hi hg fun a ha => by
    have h1 := he a ha (some d) pos after g
    unfold Oper.wp
    rw [h1]
    exact ⟨h.1, h.2 h.1 _ (ha.put hd v)⟩
theorem GO.eff (i : Nat) {op : Op} {ty : TypeId} {pos : String} {after : Array Edge} {g : Option (Nat × Bool)} (hi : ops[i]? = some ⟨none, op, ty, pos, after, g⟩)
    (hg : wantS ops σ g = some true) (he : EU P n σ op ty w w') (h : S w' ∧ (S w' → GW P R ops S fuel (listed.setIfInBounds i true) k n σ w')) : GO P R ops S fuel listed k n σ w i :=
  GO.sole i hi hg fun a ha => by
    have h1 := he a ha none pos after g
    unfold Oper.wp
    rw [h1]
    exact ⟨h.1, h.2 h.1 _ ha⟩
theorem GO.storeB (i : Nat) {x y : Operand} {T T' ty : TypeId} {pos : String} {after : Array Edge} {g : Option (Nat × Bool)} {b o bs : Nat} {v z : Value} {l : List Value} (hi : ops[i]? = some ⟨none, .store T x y, ty, pos, after, g⟩)
    (hg : wantS ops σ g = some true) (ht : TI P T z 1 bs) (hx : ev σ x = some (.pointer (some ⟨b, o, none⟩))) (hy : ev σ y = some v) (h1 : v.oneCell' = true) (hb : Bk w b T' l) (hlt : o < l.length)
    (h : ∀ w', Bk w' b T' (l.set o v) → Mo w w' [b] → S w' ∧ (S w' → GW P R ops S fuel (listed.setIfInBounds i true) k n σ w')) : GO P R ops S fuel listed k n σ w i :=
  GO.eff i hi hg (EU.storeBk ht hx hy h1 hb hlt) (h _ (hb.set o v) (Mo.set w b o v))
theorem GO.storeS (i : Nat) {x y : Operand} {T T' ty : TypeId} {pos : String} {after : Array Edge} {g : Option (Nat × Bool)} {b o s bs : Nat} {z : Value} {l vs : List Value} (hi : ops[i]? = some ⟨none, .store T x y, ty, pos, after, g⟩)
    (hg : wantS ops σ g = some true) (ht : TI P T z s bs) (hx : ev σ x = some (.pointer (some ⟨b, o, none⟩))) (hy : ev σ y = some (.agg vs.toArray)) (hs : vs.length = s) (h1 : vs.all (·.oneCell') = true) (hb : Bk w b T' l) (hlt : o + vs.length ≤ l.length)
    (h : ∀ w', Bk w' b T' (l.take o ++ vs ++ l.drop (o + vs.length)) → Mo w w' [b] → S w' ∧ (S w' → GW P R ops S fuel (listed.setIfInBounds i true) k n σ w')) : GO P R ops S fuel listed k n σ w i := by
  obtain ⟨w', he, hb', hg'⟩ := EU.storeA (P := P) (n := n) (ty := ty) ht hx hy hs h1 hb hlt
  exact GO.eff i hi hg he (h w' hb' (Mo.grown hg' (fun k e => by simp at e; simp [e])))
theorem GW.allocB (i : Nat) {d : Nat} {T ty : TypeId} {pos : String} {after : Array Edge} {g : Option (Nat × Bool)} {z : Value} {s bs : Nat} {l : List Value} (hi : ops[i]? = some ⟨some d, .alloc T, ty, pos, after, g⟩) (hr : Region.ready .any ops listed = [i]) (hg : wantS ops σ g = some true) (hd : Nat.blt d n = true) (ht : TI P T z s bs) (hl : z.cells.toList = l)
    (h : ∀ b w', w.heap.size ≤ b → Bk w' b T l → Ext w w' → S w' ∧ (S w' → GW P R ops S fuel (listed.setIfInBounds i true) k n ((d, .pointer (some ⟨b, 0, none⟩)) :: σ) w')) : GW P R ops S (fuel + 1) listed k n σ w :=
  GW.new i hi hr hg hd (EX.alloc ht hl) (h _ _ (Nat.le_refl _) (Bk.new w T l) (Ext.alloc w _))
theorem GW.buildB (i : Nat) (len : Nat) {d : Nat} {T e ty : TypeId} {pos : String} {after : Array Edge} {g : Option (Nat × Bool)} {z : Value} {bs : Nat} {parts : Array (Nat × Operand)} {vs : List Value} (hi : ops[i]? = some ⟨some d, .buildSlice T len parts, ty, pos, after, g⟩) (hr : Region.ready .any ops listed = [i]) (hg : wantS ops σ g = some true) (hd : Nat.blt d n = true) (ht : P.underlying T = some (.slice e)) (hti : TI P e z 1 bs) (hz1 : z.oneCell' = true)
    (hv : evs σ (parts.toList.map (·.2)) = some vs) (hp : parts.toList.map (·.1) = List.range' 0 parts.toList.length) (hl : vs.length = len) (h1 : vs.all (·.oneCell') = true) (hlen : len ≤ 16777216)
    (h : ∀ b w', w.heap.size ≤ b → Bk w' b e vs → Ext w w' → S w' ∧ (S w' → GW P R ops S fuel (listed.setIfInBounds i true) k n ((d, .slice (some ⟨b, 0, none⟩) len len) :: σ) w')) : GW P R ops S (fuel + 1) listed k n σ w :=
  GW.new i hi hr hg hd (EX.buildSlice len ht hti hz1 hv hp hl h1 hlen) (h _ _ (Nat.le_refl _) (Bk.new w e vs) (Ext.alloc w _))
theorem GO.allocB (i : Nat) {d : Nat} {T ty : TypeId} {pos : String} {after : Array Edge} {g : Option (Nat × Bool)} {z : Value} {s bs : Nat} {l : List Value} (hi : ops[i]? = some ⟨some d, .alloc T, ty, pos, after, g⟩) (hg : wantS ops σ g = some true) (hd : Nat.blt d n = true) (ht : TI P T z s bs) (hl : z.cells.toList = l)
    (h : ∀ b w', w.heap.size ≤ b → Bk w' b T l → Ext w w' → S w' ∧ (S w' → GW P R ops S fuel (listed.setIfInBounds i true) k n ((d, .pointer (some ⟨b, 0, none⟩)) :: σ) w')) : GO P R ops S fuel listed k n σ w i :=
  GO.new i hi hg hd (EX.alloc ht hl) (h _ _ (Nat.le_refl _) (Bk.new w T l) (Ext.alloc w _))
theorem GO.buildB (i : Nat) (len : Nat) {d : Nat} {T e ty : TypeId} {pos : String} {after : Array Edge} {g : Option (Nat × Bool)} {z : Value} {bs : Nat} {parts : Array (Nat × Operand)} {vs : List Value} (hi : ops[i]? = some ⟨some d, .buildSlice T len parts, ty, pos, after, g⟩) (hg : wantS ops σ g = some true) (hd : Nat.blt d n = true) (ht : P.underlying T = some (.slice e)) (hti : TI P e z 1 bs) (hz1 : z.oneCell' = true)
    (hv : evs σ (parts.toList.map (·.2)) = some vs) (hp : parts.toList.map (·.1) = List.range' 0 parts.toList.length) (hl : vs.length = len) (h1 : vs.all (·.oneCell') = true) (hlen : len ≤ 16777216)
    (h : ∀ b w', w.heap.size ≤ b → Bk w' b e vs → Ext w w' → S w' ∧ (S w' → GW P R ops S fuel (listed.setIfInBounds i true) k n ((d, .slice (some ⟨b, 0, none⟩) len len) :: σ) w')) : GO P R ops S fuel listed k n σ w i :=
  GO.new i hi hg hd (EX.buildSlice len ht hti hz1 hv hp hl h1 hlen) (h _ _ (Nat.le_refl _) (Bk.new w e vs) (Ext.alloc w _))
theorem GW.done (hr : Region.ready .any ops listed = []) (h : KW P R k n σ w) : GW P R ops S fuel listed k n σ w := fun a ha => wpAnyH_done hr (h a ha) fuel
end
end Go.Proofs.YthgfdpcpbghkpaaGreatDoor
namespace Go.Proofs.YthgfdpcpbghkpaaGreatDoor
open Go.RowKit Pth
theorem check_s (s : List UInt8) (hs : s.length ≤ 1000000000000) (w : World) : Ret Tryz.prog 68 [str s] w fun v w' => v = .int .i64 ((checkP s : Nat) : Int) ∧ Ext w w' := by
  refine Ret.enter Tryz.func68 rfl Tryz.ntmps68 (by kernel_rfl) rfl ?_
  refine KW.seq (KW.region ?_)
  refine OW.val rfl rfl (EX.assign rfl) ?_
  refine OW.nil ?_
  refine KW.seq (KW.seq (KW.region ?_))
  refine OW.val rfl rfl (EX.move rfl) ?_
  refine OW.call rfl rfl rfl (clean_s s hs w) ?_
  rintro _ w1 ⟨rfl, hx⟩
  refine OW.val rfl rfl (EX.move rfl) ?_
  refine OW.val rfl rfl (EX.extract rfl rfl) ?_
  refine OW.val rfl rfl (EX.extract rfl rfl) ?_
  refine OW.val rfl rfl (EX.assign rfl) ?_
  refine OW.val rfl rfl (EX.assign rfl) ?_
  refine OW.nil ?_
  refine KW.seq ?_
  rcases hc : cleanP s with ⟨q, e⟩
  refine KW.region ?_
  refine OW.val rfl rfl (EX.move rfl) ?_
  refine OW.val rfl rfl (by first | exact EX.neqN (b := 0) rfl rfl | exact EX.neqZ rfl rfl) ?_
  refine OW.val rfl rfl (EX.move rfl) ?_
  refine OW.splitD 12 rfl (fun h1 => ?_) (fun h1 => ?_)
  · have h : checkP s = 140 := by unfold checkP; rw [hc, if_neg (by simp only [Prod.mk.injEq]; omega)]
    refine OW.pass rfl rfl ?_
    refine OW.pass rfl rfl ?_
    refine OW.pass rfl rfl ?_
    refine OW.val rfl rfl (EX.pickT rfl rfl) ?_
    refine OW.nil ?_
    refine KW.condT rfl (KW.seq (KW.region ?_))
    refine OW.val rfl rfl (EX.assign rfl) ?_
    refine OW.nil ?_
    refine KW.ret (ret1 rfl rfl ?_)
    rw [h]
    exact ⟨rfl, hx⟩
  · refine OW.val rfl rfl (EX.move rfl) ?_
    refine OW.val rfl rfl (EX.move rfl) ?_
    refine OW.val rfl rfl (EX.neqS rfl rfl) ?_
    refine OW.val rfl rfl (EX.pickF rfl rfl) ?_
    refine OW.nil ?_
    refine KW.condD rfl (fun h2 => ?_) (fun h2 => ?_)
    · have h : checkP s = 140 := by unfold checkP; rw [hc, if_neg (by simp only [Prod.mk.injEq]; exact fun q => h2 q.1)]
      refine KW.seq (KW.region ?_)
      refine OW.val rfl rfl (EX.assign rfl) ?_
      refine OW.nil ?_
      refine KW.ret (ret1 rfl rfl ?_)
      rw [h]
      exact ⟨rfl, hx⟩
    · have h : checkP s = 0 := by unfold checkP; rw [hc, if_pos (by simp only [Prod.mk.injEq]; exact ⟨by simpa using h2, by omega⟩)]
      refine KW.skip (KW.seq (KW.region ?_))
      refine OW.val rfl rfl (EX.assign rfl) ?_
      refine OW.nil ?_
      refine KW.ret (ret1 rfl rfl ?_)
      rw [h]
      exact ⟨rfl, hx⟩
theorem parts_snoc47 : ∀ a : List UInt8, parts (a ++ [47]) = parts a ++ [[]]
  | [] => rfl
  | c :: a => by
    have ih := parts_snoc47 a
    rw [List.cons_append, parts_cons, parts_cons, ih]
    split
    · rfl
    · rcases hp : parts a with _ | ⟨p, r⟩
      · exact absurd hp (parts_ne a)
      · rfl
theorem parts_snoc {c : UInt8} (hc : c ≠ 47) : ∀ a : List UInt8, ∃ l x, parts a = l ++ [x] ∧ parts (a ++ [c]) = l ++ [x ++ [c]]
  | [] => ⟨[], [], rfl, by simp [parts, hc]⟩
  | b :: a => by
    obtain ⟨l, x, h1, h2⟩ := parts_snoc hc a
    rw [List.cons_append, parts_cons, parts_cons, h1, h2]
    split
    · exact ⟨[] :: l, x, rfl, rfl⟩
    · rcases l with _ | ⟨p, l⟩
      · exact ⟨[], b :: x, rfl, rfl⟩
      · exact ⟨(b :: p) :: l, x, rfl, rfl⟩
theorem txtsV_get {l : Txts} {i : Nat} (h : i < l.length) : (txtsV l)[i]? = some (str l[i]) := by simp [txtsV, h]
set_option maxRecDepth 20000 in
theorem rparts_s (s : List UInt8) (hs : s.length ≤ 1000000000000) (w : World) : Ret Tryz.prog 73 [str s] w fun v w' => Own w' w.heap.size 9 1 v (parts s).length (txtsV (parts s)) ∧ Ext w w' := by
  refine Ret.enter Tryz.func73 rfl Tryz.ntmps73 (by kernel_rfl) rfl ?_
  refine KW.seq (KW.region ?_)
  refine OW.val rfl rfl (EX.assign rfl) ?_
  refine OW.nil ?_
  refine KW.seq (KW.region ?_)
  refine OW.buildB 1 rfl rfl Tryz.underlying24 ti9 rfl rfl rfl rfl (by first | rfl | (simp only [List.all_cons, List.all_nil, Bool.and_true, Bool.and_eq_true]; assumption)) (by decide) ?_
  rintro gb w1 hge1 hg1 hx1
  refine OW.val rfl rfl (EX.assign rfl) ?_
  refine OW.nil ?_
  refine KW.seq (KW.seq (KW.region ?_))
  refine OW.val rfl rfl (EX.assign rfl) ?_
  refine OW.nil ?_
  refine KW.block ?_
  have hown1 : Own w1 w.heap.size 9 1 (.slice (some ⟨gb, 0, none⟩) 1 1) 1 (txtsV (parts (s.take 0))) := Own.of_bk (l := [str []]) hg1 hge1 rfl (by decide)
  refine KW.loop3 (fun (i : Nat) (v : Value) (wr : World) => i ≤ s.length ∧ Own wr w.heap.size 9 1 v (parts (s.take i)).length (txtsV (parts (s.take i))) ∧ Ext w wr) (fun (i : Nat) (v : Value) (wr : World) => [(0, str (s)), (3, v), (4, .int .i64 ((i : Nat) : Int))]) (fun (i : Nat) (v : Value) (wr : World) => wr) (fun (i : Nat) (v : Value) (wr : World) => s.length - i) (0) (.slice (some ⟨gb, 0, none⟩) 1 1) (w1) ⟨rfl, rfl, rfl, trivial⟩ rfl ?_ ?_
  · exact ⟨by omega, hown1, hx1⟩
  · rintro i v wr ⟨hi, hown, hx⟩
    refine KW.seq (KW.seq (KW.region ?_))
    refine OW.val rfl rfl (EX.move rfl) ?_
    refine OW.val rfl rfl (EX.move rfl) ?_
    refine OW.val rfl rfl (EX.lenS Tryz.underlying9 rfl) ?_
    refine OW.val rfl rfl (by first | exact EX.lssN rfl rfl | exact EX.lssZ rfl rfl) ?_
    refine OW.nil ?_
    refine KW.condD rfl (fun hlt => ?_) (fun hlt => ?_)
    · have hpl : (parts (s.take i)).length ≤ i + 1 := by have h1 := wt_len (parts (s.take i)); rw [wt_parts, List.length_take] at h1; omega
      have htk : s.take (i + 1) = s.take i ++ [s[i]] := by rw [List.take_add_one, List.getElem?_eq_getElem hlt]; rfl
      refine KW.skip (KW.seq (KW.block (KW.seq (KW.region ?_))))
      refine OW.val rfl rfl (EX.move rfl) ?_
      refine OW.val rfl rfl (EX.move rfl) ?_
      refine OW.val rfl rfl (EX.indexS Tryz.underlying9 rfl rfl (List.getElem?_eq_getElem (by omega))) ?_
      refine OW.val rfl rfl (by first | exact EX.eqlN (b := 47) rfl rfl | exact EX.eqlZ rfl rfl) ?_
      refine OW.nil ?_
      refine KW.condD rfl (fun h47 => ?_) (fun h47 => ?_)
      · have e47 : s[i] = 47 := UInt8.toNat_inj.1 h47
        refine KW.region ?_
        refine OW.val rfl rfl (EX.move rfl) ?_
        refine OW.push rfl rfl (fun _ => rfl) rfl Tryz.underlying24 ti9 rfl rfl (fun _ => rfl) rfl (hx) (hown) (by simp only [maxLen]; omega) (by omega) ?_
        rintro _ v2 w2 hown2 hx2 hg2 ho2
        refine OW.val rfl rfl (EX.assign rfl) ?_
        refine OW.nil ?_
        refine KW.leave (KW.region ?_)
        refine OW.val rfl rfl (EX.move rfl) ?_
        refine OW.val rfl rfl (by first | exact EX.addN (b := 1) (m := 9223372036854775807) rfl rfl rfl (by omega) | exact EX.addZ (m := 9223372036854775807) rfl rfl rfl rfl (by omega)) ?_
        refine OW.val rfl rfl (EX.assign rfl) ?_
        refine OW.nil ?_
        refine KW.back3 (i + 1) (v2) (w2) ⟨rfl, rfl, rfl, trivial⟩ rfl ?_ (by omega)
        refine ⟨by omega, ?_, hx2⟩
        rw [htk, e47, parts_snoc47, List.length_append, txtsV_snoc]
        exact hown2
      · obtain ⟨l, x, e1, e2⟩ := parts_snoc (c := s[i]) (fun q => h47 (by rw [q]; rfl)) (s.take i)
        rw [e1] at hown hpl
        rw [List.length_append, List.length_singleton] at hpl
        obtain ⟨g, cap, rest, rfl, hgB, hg, hgl, hgc, hgm⟩ := hown.blk (by rw [txtsV_length, List.length_append]; simp)
        have hlast : (txtsV (l ++ [x]) ++ rest)[l.length]? = some (str x) := by
          rw [List.getElem?_append_left (by simp [txtsV])]
          simp [txtsV]
        have hxl : x.length ≤ i := by
          have h1 := wt_parts (s.take i)
          rw [e1, wt_append, List.length_take] at h1
          simp only [wt] at h1
          omega
        rw [List.length_append, List.length_singleton] at hown ⊢
        refine KW.regionH 17 (by kernel_rfl) (by kernel_rfl) ?_
        refine HW.val rfl rfl (EX.move rfl) ?_
        refine HW.val rfl rfl (EX.move rfl) ?_
        refine HW.val rfl rfl (EX.lenA Tryz.underlying24 rfl) ?_
        refine HW.val rfl rfl (by first | exact EX.subN (b := 1) (m := 9223372036854775807) rfl rfl rfl (by omega) | exact EX.subZ (m := 9223372036854775807) rfl rfl rfl rfl (by omega)) ?_
        refine HW.val rfl rfl (EX.move rfl) ?_
        refine HW.val rfl rfl (EX.move rfl) ?_
        refine HW.val rfl rfl (EX.lenA Tryz.underlying24 rfl) ?_
        refine HW.val rfl rfl (by first | exact EX.subN (b := 1) (m := 9223372036854775807) rfl rfl rfl (by omega) | exact EX.subZ (m := 9223372036854775807) rfl rfl rfl rfl (by omega)) ?_
        refine HW.val rfl rfl (by first | exact EX.indexAddrS0 Tryz.underlying24 ti9 rfl rfl (by omega) | exact EX.indexAddrS1 Tryz.underlying24 ti9 rfl rfl (by omega)) ?_
        refine HW.val rfl rfl (EX.load Tryz.underlying9 rfl rfl (hg.drew.cell_of (by rw [Nat.add_sub_cancel]; exact hlast))) ?_
        refine HW.val rfl rfl (EX.move rfl) ?_
        refine HW.val rfl rfl (EX.move rfl) ?_
        refine HW.val rfl rfl (EX.move rfl) ?_
        refine HW.val rfl rfl (by first | exact EX.addN (b := 1) (m := 9223372036854775807) rfl rfl rfl (by omega) | exact EX.addZ (m := 9223372036854775807) rfl rfl rfl rfl (by omega)) ?_
        refine HW.val rfl rfl (EX.sliceLH Tryz.underlying9 rfl rfl rfl (by omega)) ?_
        refine HW.val rfl rfl (EX.addS rfl rfl (by first | omega | (simp only [List.length_append, List.length_cons, List.length_nil, List.length_take, List.length_drop, List.length_replicate]; omega))) ?_
        refine HW.val rfl rfl (by first | exact EX.indexAddrS0 Tryz.underlying24 ti9 rfl rfl (by omega) | exact EX.indexAddrS1 Tryz.underlying24 ti9 rfl rfl (by omega)) ?_
        refine HW.tail ?_
        have hgd := hg.drew
        refine OW.storeB rfl ti9 rfl rfl (by first | rfl | assumption | exact Own.one (by assumption)) (hgd) (by rw [List.length_append, txtsV_length, List.length_append, List.length_singleton]; omega) ?_
        rintro w2 hb2 hm2
        refine OW.nil ?_
        refine KW.leave (KW.region ?_)
        refine OW.val rfl rfl (EX.move rfl) ?_
        refine OW.val rfl rfl (by first | exact EX.addN (b := 1) (m := 9223372036854775807) rfl rfl rfl (by omega) | exact EX.addZ (m := 9223372036854775807) rfl rfl rfl rfl (by omega)) ?_
        refine OW.val rfl rfl (EX.assign rfl) ?_
        refine OW.nil ?_
        have e1c : (s.drop i).take (i + 1 - i) = [s[i]] := by
          rw [show i + 1 - i = 1 by omega, List.drop_eq_getElem_cons hlt]
          rfl
        rw [Nat.add_sub_cancel, e1c] at hb2
        refine KW.back3 (i + 1) (.slice (some ⟨g, 0, none⟩) (l.length + 1) cap) (w2) ⟨rfl, rfl, rfl, trivial⟩ rfl ?_ (by omega)
        refine ⟨by omega, ?_, below_mo (hx.trans (Ext.drew wr)) hm2 (hx.trans (Ext.drew wr)).size (fun k hk => by simp at hk; omega)⟩
        rw [htk, e2]
        have hset : (txtsV (l ++ [x]) ++ rest).set l.length (str (x ++ [s[i]])) = txtsV (l ++ [x ++ [s[i]]]) ++ rest := by
          rw [txtsV_snoc, txtsV_snoc, List.append_assoc, List.append_assoc, List.set_append_right _ _ (by simp [txtsV])]
          simp [txtsV]
        rw [hset] at hb2
        rw [List.length_append, List.length_singleton]
        exact ⟨by simp [txtsV], .inr ⟨g, cap, rest, rfl, hgB, hb2, by simp only [txtsV_length, List.length_append, List.length_singleton] at hgl ⊢; exact hgl, by simpa using hgc, hgm⟩⟩
    · obtain rfl : i = s.length := by omega
      rw [List.take_length] at hown
      refine KW.exit rfl (KW.seq (KW.region ?_))
      refine OW.val rfl rfl (EX.move rfl) ?_
      refine OW.val rfl rfl (EX.assign rfl) ?_
      refine OW.nil ?_
      refine KW.ret (ret1 rfl rfl ?_)
      exact ⟨hown, hx⟩
theorem kept_take {l : Txts} {i : Nat} (h : i < l.length) : kept (l.take (i + 1)) = if keepB l[i] = true then kept (l.take i) ++ [l[i]] else kept (l.take i) := by
  rw [List.take_add_one, List.getElem?_eq_getElem h]
  exact kept_snoc _ _
theorem joinS_wtk (s : List UInt8) (i : Nat) : (joinS (kept ((parts s).take i))).length ≤ s.length + 1 := by
  have h1 := joinS_wt (kept ((parts s).take i))
  have h2 := wt_filter keepB ((parts s).take i)
  have h3 := wt_append ((parts s).take i) ((parts s).drop i)
  rw [List.take_append_drop, wt_parts] at h3
  unfold kept at h1 ⊢
  omega
theorem rclean_s (s : List UInt8) (hs : s.length ≤ 1000000000000) (w : World) : Ret Tryz.prog 101 [str s] w fun v w' => v = .tuple #[str (cleanP s).1, .int .i64 (((cleanP s).2 : Nat) : Int)] ∧ Ext w w' := by
  refine Ret.enter Tryz.func101 rfl Tryz.ntmps101 (by kernel_rfl) rfl ?_
  refine KW.seq (KW.region ?_)
  refine OW.val rfl rfl (EX.assign rfl) ?_
  refine OW.val rfl rfl (EX.assign rfl) ?_
  refine OW.nil ?_
  refine KW.seq (KW.region ?_)
  refine OW.val rfl rfl (EX.assign rfl) ?_
  refine OW.nil ?_
  refine KW.seq (KW.region ?_)
  refine OW.val rfl rfl (EX.move rfl) ?_
  refine OW.call rfl rfl rfl (rparts_s s hs w) ?_
  rintro v w1 ⟨hown, hx⟩
  refine OW.val rfl rfl (EX.assign rfl) ?_
  refine OW.nil ?_
  refine KW.seq (KW.seq (KW.region ?_))
  refine OW.val rfl rfl (EX.assign rfl) ?_
  refine OW.nil ?_
  refine KW.block ?_
  obtain ⟨A, c, rfl, hc, hsl⟩ := hown.slice
  have hpos : 0 < (parts s).length := List.length_pos_iff.2 (parts_ne s)
  have hpl : (parts s).length ≤ s.length + 1 := by have h1 := wt_len (parts s); rw [wt_parts] at h1; exact h1
  obtain ⟨b, o, rfl, _, hcell⟩ := hsl.at_ (by rw [txtsV_length]; exact hpos)
  refine KW.loop2 (fun (i : Nat) (q : (List UInt8)) => i ≤ (parts s).length ∧ dd ∉ (parts s).take i ∧ q = joinS (kept ((parts s).take i))) (fun (i : Nat) (q : (List UInt8)) => [(0, str (s)), (4, str (q)), (5, .slice (some ⟨b, o, none⟩) (parts s).length c), (6, .int .i64 ((i : Nat) : Int))]) (fun (i : Nat) (q : (List UInt8)) => w1) (fun (i : Nat) (q : (List UInt8)) => (parts s).length - i) (0) ([]) ⟨rfl, rfl, rfl, rfl, trivial⟩ rfl ?_ ?_
  · exact ⟨by omega, by simp, rfl⟩
  · rintro i q ⟨hi, hdd, hq⟩
    refine KW.seq (KW.seq (KW.region ?_))
    refine OW.val rfl rfl (EX.move rfl) ?_
    refine OW.val rfl rfl (EX.move rfl) ?_
    refine OW.val rfl rfl (EX.lenA Tryz.underlying24 rfl) ?_
    refine OW.val rfl rfl (by first | exact EX.lssN rfl rfl | exact EX.lssZ rfl rfl) ?_
    refine OW.nil ?_
    refine KW.condD rfl (fun hlt => ?_) (fun hlt => ?_)
    · have hci := hcell i _ (txtsV_get hlt)
      have hjl := joinS_wtk s i
      have hjl2 := joinS_wtk s (i + 1)
      have hxl : (parts s)[i].length ≤ s.length := by have h1 := wt_mem (List.getElem_mem hlt); rw [wt_parts] at h1; omega
      refine KW.skip (KW.seq (KW.block (KW.seq (KW.seq (KW.region ?_)))))
      refine OW.val rfl rfl (EX.move rfl) ?_
      refine OW.val rfl rfl (EX.move rfl) ?_
      refine OW.val rfl rfl (by first | exact EX.indexAddrS0 Tryz.underlying24 ti9 rfl rfl (by omega) | exact EX.indexAddrS1 Tryz.underlying24 ti9 rfl rfl (by omega)) ?_
      refine OW.val rfl rfl (EX.load Tryz.underlying9 rfl rfl (hci)) ?_
      refine OW.val rfl rfl (EX.eqlS (r := [46, 46]) rfl rfl) ?_
      refine OW.nil ?_
      refine KW.condD rfl (fun h0 => ?_) (fun h0 => ?_)
      · have e : cleanP s = ([], 140) := by
          unfold cleanP
          rw [if_neg]
          rintro ⟨_, h, _⟩
          exact h (by rw [show dd = (parts s)[i] from h0.symm]; exact List.getElem_mem hlt)
        refine KW.seq (KW.region ?_)
        refine OW.val rfl rfl (EX.assign rfl) ?_
        refine OW.val rfl rfl (EX.assign rfl) ?_
        refine OW.nil ?_
        refine KW.ret (ret2 rfl rfl rfl ?_)
        rw [e]
        exact ⟨rfl, hx⟩
      · have hdd' : dd ∉ (parts s).take (i + 1) := by
          rw [List.take_add_one, List.getElem?_eq_getElem hlt]
          simp only [Option.toList_some, List.mem_append, List.mem_singleton, not_or]
          exact ⟨hdd, fun q => h0 q.symm⟩
        refine KW.skip (KW.seq (KW.seq ?_))
        refine KW.region ?_
        refine OW.val rfl rfl (EX.move rfl) ?_
        refine OW.val rfl rfl (EX.move rfl) ?_
        refine OW.val rfl rfl (by first | exact EX.indexAddrS0 Tryz.underlying24 ti9 rfl rfl (by omega) | exact EX.indexAddrS1 Tryz.underlying24 ti9 rfl rfl (by omega)) ?_
        refine OW.val rfl rfl (EX.load Tryz.underlying9 rfl rfl (hci)) ?_
        refine OW.val rfl rfl (EX.eqlS (r := []) rfl rfl) ?_
        refine OW.val rfl rfl (EX.move rfl) ?_
        refine OW.splitD 26 rfl (fun h1 => ?_) (fun h1 => ?_)
        · have hk : kept ((parts s).take (i + 1)) = kept ((parts s).take i) := by rw [kept_take hlt, if_neg (by simp [keepB, h1])]
          refine OW.pass rfl rfl ?_
          refine OW.pass rfl rfl ?_
          refine OW.pass rfl rfl ?_
          refine OW.pass rfl rfl ?_
          refine OW.pass rfl rfl ?_
          refine OW.val rfl rfl (EX.pickT rfl rfl) ?_
          refine OW.nil ?_
          refine KW.condT rfl (KW.exit rfl (KW.region ?_))
          refine OW.val rfl rfl (EX.move rfl) ?_
          refine OW.val rfl rfl (by first | exact EX.addN (b := 1) (m := 9223372036854775807) rfl rfl rfl (by omega) | exact EX.addZ (m := 9223372036854775807) rfl rfl rfl rfl (by omega)) ?_
          refine OW.val rfl rfl (EX.assign rfl) ?_
          refine OW.nil ?_
          refine KW.back2 (i + 1) (q) ⟨rfl, rfl, rfl, rfl, trivial⟩ rfl ?_ (by omega)
          exact ⟨by omega, hdd', by rw [hk]; exact hq⟩
        · refine OW.val rfl rfl (EX.move rfl) ?_
          refine OW.val rfl rfl (EX.move rfl) ?_
          refine OW.val rfl rfl (by first | exact EX.indexAddrS0 Tryz.underlying24 ti9 rfl rfl (by omega) | exact EX.indexAddrS1 Tryz.underlying24 ti9 rfl rfl (by omega)) ?_
          refine OW.val rfl rfl (EX.load Tryz.underlying9 rfl rfl (hci)) ?_
          refine OW.val rfl rfl (EX.eqlS (r := [46]) rfl rfl) ?_
          refine OW.val rfl rfl (EX.pickF rfl rfl) ?_
          refine OW.nil ?_
          refine KW.condD rfl (fun h2 => ?_) (fun h2 => ?_)
          · have hk : kept ((parts s).take (i + 1)) = kept ((parts s).take i) := by rw [kept_take hlt, if_neg (by simp [keepB, h2])]
            refine KW.as 32 (.bool true) rfl (congrArg Value.bool (decide_eq_true (h2))) ?_
            refine KW.exit rfl (KW.region ?_)
            refine OW.val rfl rfl (EX.move rfl) ?_
            refine OW.val rfl rfl (by first | exact EX.addN (b := 1) (m := 9223372036854775807) rfl rfl rfl (by omega) | exact EX.addZ (m := 9223372036854775807) rfl rfl rfl rfl (by omega)) ?_
            refine OW.val rfl rfl (EX.assign rfl) ?_
            refine OW.nil ?_
            refine KW.back2 (i + 1) (q) ⟨rfl, rfl, rfl, rfl, trivial⟩ rfl ?_ (by omega)
            exact ⟨by omega, hdd', by rw [hk]; exact hq⟩
          · have hk : kept ((parts s).take (i + 1)) = kept ((parts s).take i) ++ [(parts s)[i]] := by rw [kept_take hlt, if_pos (by simp [keepB, h1, h2])]
            have hql : q.length ≤ s.length + 1 := by rw [hq]; exact hjl
            refine KW.as 32 (.bool false) rfl (congrArg Value.bool (decide_eq_false (h2))) ?_
            refine KW.skip (KW.seq (KW.seq (KW.region ?_)))
            refine OW.val rfl rfl (EX.move rfl) ?_
            refine OW.val rfl rfl (EX.neqS (r := []) rfl rfl) ?_
            refine OW.nil ?_
            refine KW.condD rfl (fun h3 => ?_) (fun h3 => ?_)
            · have hne : kept ((parts s).take i) ≠ [] := fun e => h3 (by rw [hq, e]; rfl)
              refine KW.region ?_
              refine OW.val rfl rfl (EX.move rfl) ?_
              refine OW.val rfl rfl (EX.addS (r := [47]) rfl rfl (by first | omega | (simp only [List.length_append, List.length_cons, List.length_nil, List.length_take, List.length_drop, List.length_replicate]; omega))) ?_
              refine OW.val rfl rfl (EX.assign rfl) ?_
              refine OW.nil ?_
              refine KW.region ?_
              refine OW.val rfl rfl (EX.move rfl) ?_
              refine OW.val rfl rfl (EX.move rfl) ?_
              refine OW.val rfl rfl (EX.move rfl) ?_
              refine OW.val rfl rfl (by first | exact EX.indexAddrS0 Tryz.underlying24 ti9 rfl rfl (by omega) | exact EX.indexAddrS1 Tryz.underlying24 ti9 rfl rfl (by omega)) ?_
              refine OW.val rfl rfl (EX.load Tryz.underlying9 rfl rfl (hci)) ?_
              refine OW.val rfl rfl (EX.addS rfl rfl (by first | omega | (simp only [List.length_append, List.length_cons, List.length_nil, List.length_take, List.length_drop, List.length_replicate]; omega))) ?_
              refine OW.val rfl rfl (EX.assign rfl) ?_
              refine OW.nil ?_
              refine KW.leave (KW.region ?_)
              refine OW.val rfl rfl (EX.move rfl) ?_
              refine OW.val rfl rfl (by first | exact EX.addN (b := 1) (m := 9223372036854775807) rfl rfl rfl (by omega) | exact EX.addZ (m := 9223372036854775807) rfl rfl rfl rfl (by omega)) ?_
              refine OW.val rfl rfl (EX.assign rfl) ?_
              refine OW.nil ?_
              refine KW.back2 (i + 1) (q ++ [47] ++ (parts s)[i]) ⟨rfl, rfl, rfl, rfl, trivial⟩ rfl ?_ (by omega)
              exact ⟨by omega, hdd', by rw [hk, joinS_snoc _ _ hne, hq, List.append_assoc]; rfl⟩
            · have hke : kept ((parts s).take i) = [] := by
                refine (joinS_nil (kept_ne _)).1 ?_
                rw [← hq]
                simpa using h3
              refine KW.skip (KW.region ?_)
              refine OW.val rfl rfl (EX.move rfl) ?_
              refine OW.val rfl rfl (EX.move rfl) ?_
              refine OW.val rfl rfl (EX.move rfl) ?_
              refine OW.val rfl rfl (by first | exact EX.indexAddrS0 Tryz.underlying24 ti9 rfl rfl (by omega) | exact EX.indexAddrS1 Tryz.underlying24 ti9 rfl rfl (by omega)) ?_
              refine OW.val rfl rfl (EX.load Tryz.underlying9 rfl rfl (hci)) ?_
              refine OW.val rfl rfl (EX.addS rfl rfl (by first | omega | (simp only [List.length_append, List.length_cons, List.length_nil, List.length_take, List.length_drop, List.length_replicate]; omega))) ?_
              refine OW.val rfl rfl (EX.assign rfl) ?_
              refine OW.nil ?_
              refine KW.leave (KW.region ?_)
              refine OW.val rfl rfl (EX.move rfl) ?_
              refine OW.val rfl rfl (by first | exact EX.addN (b := 1) (m := 9223372036854775807) rfl rfl rfl (by omega) | exact EX.addZ (m := 9223372036854775807) rfl rfl rfl rfl (by omega)) ?_
              refine OW.val rfl rfl (EX.assign rfl) ?_
              refine OW.nil ?_
              refine KW.back2 (i + 1) (q ++ (parts s)[i]) ⟨rfl, rfl, rfl, rfl, trivial⟩ rfl ?_ (by omega)
              exact ⟨by omega, hdd', by rw [hk, hq, hke]; rfl⟩
    · obtain rfl : i = (parts s).length := by omega
      rw [List.take_length] at hdd hq
      have hjl := joinS_wtk s (parts s).length
      rw [List.take_length] at hjl
      refine KW.exit rfl (KW.seq (KW.seq (KW.region ?_)))
      refine OW.val rfl rfl (EX.assign rfl) ?_
      refine OW.nil ?_
      refine KW.block ?_
      refine KW.loop1 (fun (i : Nat) => i ≤ s.length ∧ ∀ c ∈ s.take i, 32 ≤ c.toNat ∧ c.toNat ≤ 126) (fun (i : Nat) => [(0, str (s)), (4, str (q)), (7, .int .i64 ((i : Nat) : Int))]) (fun (i : Nat) => w1) (fun (i : Nat) => s.length - i) (0) ⟨rfl, rfl, rfl, trivial⟩ rfl ?_ ?_
      · exact ⟨by omega, by simp⟩
      · rintro i ⟨hi, hok⟩
        refine KW.seq (KW.seq (KW.region ?_))
        refine OW.val rfl rfl (EX.move rfl) ?_
        refine OW.val rfl rfl (EX.move rfl) ?_
        refine OW.val rfl rfl (EX.lenS Tryz.underlying9 rfl) ?_
        refine OW.val rfl rfl (by first | exact EX.lssN rfl rfl | exact EX.lssZ rfl rfl) ?_
        refine OW.nil ?_
        refine KW.condD rfl (fun hlt => ?_) (fun hlt => ?_)
        · have hbad : ¬ (32 ≤ s[i].toNat ∧ s[i].toNat ≤ 126) → cleanP s = ([], 140) := fun h => by
            unfold cleanP
            rw [if_neg]
            rintro ⟨h1, _⟩
            exact h (h1 _ (List.getElem_mem hlt))
          refine KW.skip (KW.seq (KW.block (KW.seq ?_)))
          refine KW.region ?_
          refine OW.val rfl rfl (EX.move rfl) ?_
          refine OW.val rfl rfl (EX.move rfl) ?_
          refine OW.val rfl rfl (EX.indexS Tryz.underlying9 rfl rfl (List.getElem?_eq_getElem (by omega))) ?_
          refine OW.val rfl rfl (by first | exact EX.lssN (b := 32) rfl rfl | exact EX.lssZ rfl rfl) ?_
          refine OW.val rfl rfl (EX.move rfl) ?_
          refine OW.splitD 53 rfl (fun h1 => ?_) (fun h1 => ?_)
          · refine OW.pass rfl rfl ?_
            refine OW.pass rfl rfl ?_
            refine OW.pass rfl rfl ?_
            refine OW.pass rfl rfl ?_
            refine OW.val rfl rfl (EX.pickT rfl rfl) ?_
            refine OW.nil ?_
            refine KW.condT rfl (KW.seq (KW.region ?_))
            refine OW.val rfl rfl (EX.assign rfl) ?_
            refine OW.val rfl rfl (EX.assign rfl) ?_
            refine OW.nil ?_
            refine KW.ret (ret2 rfl rfl rfl ?_)
            rw [hbad (by omega)]
            exact ⟨rfl, hx⟩
          · refine OW.val rfl rfl (EX.move rfl) ?_
            refine OW.val rfl rfl (EX.move rfl) ?_
            refine OW.val rfl rfl (EX.indexS Tryz.underlying9 rfl rfl (List.getElem?_eq_getElem (by omega))) ?_
            refine OW.val rfl rfl (by first | exact EX.gtrN (b := 126) rfl rfl | exact EX.gtrZ rfl rfl) ?_
            refine OW.val rfl rfl (EX.pickF rfl rfl) ?_
            refine OW.nil ?_
            refine KW.condD rfl (fun h2 => ?_) (fun h2 => ?_)
            · refine KW.seq (KW.region ?_)
              refine OW.val rfl rfl (EX.assign rfl) ?_
              refine OW.val rfl rfl (EX.assign rfl) ?_
              refine OW.nil ?_
              refine KW.ret (ret2 rfl rfl rfl ?_)
              rw [hbad (by omega)]
              exact ⟨rfl, hx⟩
            · refine KW.skip (KW.leave (KW.region ?_))
              refine OW.val rfl rfl (EX.move rfl) ?_
              refine OW.val rfl rfl (by first | exact EX.addN (b := 1) (m := 9223372036854775807) rfl rfl rfl (by omega) | exact EX.addZ (m := 9223372036854775807) rfl rfl rfl rfl (by omega)) ?_
              refine OW.val rfl rfl (EX.assign rfl) ?_
              refine OW.nil ?_
              refine KW.back1 (i + 1) ⟨rfl, rfl, rfl, trivial⟩ rfl ?_ (by omega)
              refine ⟨by omega, fun c hc => ?_⟩
              rw [List.take_add_one, List.getElem?_eq_getElem hlt] at hc
              rcases List.mem_append.1 hc with hc | hc
              · exact hok c hc
              · simp only [Option.toList_some, List.mem_singleton] at hc
                subst hc
                omega
        · have hfit : fits s := by
            rw [List.take_of_length_le (by omega)] at hok
            exact hok
          refine KW.exit rfl (KW.seq (KW.seq ?_))
          refine KW.region ?_
          refine OW.val rfl rfl (EX.move rfl) ?_
          refine OW.val rfl rfl (EX.eqlS (r := []) rfl rfl) ?_
          refine OW.val rfl rfl (EX.move rfl) ?_
          refine OW.splitD 61 rfl (fun j1 => ?_) (fun j1 => ?_)
          · have e : cleanP s = ([], 140) := by unfold cleanP; rw [if_neg (fun r => r.2.2.1 (by rw [← hq]; exact j1))]
            refine OW.pass rfl rfl ?_
            refine OW.pass rfl rfl ?_
            refine OW.pass rfl rfl ?_
            refine OW.val rfl rfl (EX.pickT rfl rfl) ?_
            refine OW.nil ?_
            refine KW.condT rfl (KW.seq (KW.region ?_))
            refine OW.val rfl rfl (EX.assign rfl) ?_
            refine OW.val rfl rfl (EX.assign rfl) ?_
            refine OW.nil ?_
            refine KW.ret (ret2 rfl rfl rfl ?_)
            rw [e]
            exact ⟨rfl, hx⟩
          · have hql : q.length ≤ s.length + 1 := by rw [hq]; exact hjl
            refine OW.val rfl rfl (EX.move rfl) ?_
            refine OW.val rfl rfl (EX.lenS Tryz.underlying9 rfl) ?_
            refine OW.val rfl rfl (by first | exact EX.gtrN (b := 120) rfl rfl | exact EX.gtrZ rfl rfl) ?_
            refine OW.val rfl rfl (EX.pickF rfl rfl) ?_
            refine OW.nil ?_
            refine KW.condD rfl (fun j2 => ?_) (fun j2 => ?_)
            · have e : cleanP s = ([], 140) := by unfold cleanP; rw [if_neg (fun r => by have := r.2.2.2; rw [← hq] at this; omega)]
              refine KW.seq (KW.region ?_)
              refine OW.val rfl rfl (EX.assign rfl) ?_
              refine OW.val rfl rfl (EX.assign rfl) ?_
              refine OW.nil ?_
              refine KW.ret (ret2 rfl rfl rfl ?_)
              rw [e]
              exact ⟨rfl, hx⟩
            · have e : cleanP s = (q, 0) := by unfold cleanP; rw [← hq, if_pos ⟨hfit, hdd, j1, by omega⟩]
              refine KW.skip (KW.seq (KW.region ?_))
              refine OW.val rfl rfl (EX.move rfl) ?_
              refine OW.val rfl rfl (EX.assign rfl) ?_
              refine OW.val rfl rfl (EX.assign rfl) ?_
              refine OW.nil ?_
              refine KW.ret (ret2 rfl rfl rfl ?_)
              rw [e]
              exact ⟨rfl, hx⟩
theorem rcheck_s (s : List UInt8) (hs : s.length ≤ 1000000000000) (w : World) : Ret Tryz.prog 72 [str s] w fun v w' => v = .int .i64 ((checkP s : Nat) : Int) ∧ Ext w w' := by
  refine Ret.enter Tryz.func72 rfl Tryz.ntmps72 (by kernel_rfl) rfl ?_
  refine KW.seq (KW.region ?_)
  refine OW.val rfl rfl (EX.assign rfl) ?_
  refine OW.nil ?_
  refine KW.seq (KW.region ?_)
  refine OW.val rfl rfl (EX.move rfl) ?_
  refine OW.call rfl rfl rfl (rclean_s s hs w) ?_
  rintro _ w1 ⟨rfl, hx⟩
  refine OW.val rfl rfl (EX.move rfl) ?_
  refine OW.val rfl rfl (EX.extract rfl rfl) ?_
  refine OW.val rfl rfl (EX.extract rfl rfl) ?_
  refine OW.val rfl rfl (EX.assign rfl) ?_
  refine OW.val rfl rfl (EX.assign rfl) ?_
  refine OW.nil ?_
  refine KW.seq (KW.seq ?_)
  rcases hc : cleanP s with ⟨q, e⟩
  refine KW.region ?_
  refine OW.val rfl rfl (EX.move rfl) ?_
  refine OW.val rfl rfl (by first | exact EX.neqN (b := 0) rfl rfl | exact EX.neqZ rfl rfl) ?_
  refine OW.val rfl rfl (EX.move rfl) ?_
  refine OW.splitD 12 rfl (fun h1 => ?_) (fun h1 => ?_)
  · have h : checkP s = 140 := by unfold checkP; rw [hc, if_neg (by simp only [Prod.mk.injEq]; omega)]
    refine OW.pass rfl rfl ?_
    refine OW.pass rfl rfl ?_
    refine OW.pass rfl rfl ?_
    refine OW.val rfl rfl (EX.pickT rfl rfl) ?_
    refine OW.nil ?_
    refine KW.condT rfl (KW.seq (KW.region ?_))
    refine OW.val rfl rfl (EX.assign rfl) ?_
    refine OW.nil ?_
    refine KW.ret (ret1 rfl rfl ?_)
    rw [h]
    exact ⟨rfl, hx⟩
  · refine OW.val rfl rfl (EX.move rfl) ?_
    refine OW.val rfl rfl (EX.move rfl) ?_
    refine OW.val rfl rfl (EX.neqS rfl rfl) ?_
    refine OW.val rfl rfl (EX.pickF rfl rfl) ?_
    refine OW.nil ?_
    refine KW.condD rfl (fun h2 => ?_) (fun h2 => ?_)
    · have h : checkP s = 140 := by unfold checkP; rw [hc, if_neg (by simp only [Prod.mk.injEq]; exact fun q => h2 q.1)]
      refine KW.seq (KW.region ?_)
      refine OW.val rfl rfl (EX.assign rfl) ?_
      refine OW.nil ?_
      refine KW.ret (ret1 rfl rfl ?_)
      rw [h]
      exact ⟨rfl, hx⟩
    · have h : checkP s = 0 := by unfold checkP; rw [hc, if_pos (by simp only [Prod.mk.injEq]; exact ⟨by simpa using h2, by omega⟩)]
      refine KW.skip (KW.seq (KW.region ?_))
      refine OW.val rfl rfl (EX.assign rfl) ?_
      refine OW.nil ?_
      refine KW.ret (ret1 rfl rfl ?_)
      rw [h]
      exact ⟨rfl, hx⟩
end Go.Proofs.YthgfdpcpbghkpaaGreatDoor
namespace Go.Proofs.YthgfdpcpbghkpaaGreatDoor
open Go.RowKit Rec
theorem pow256 (k : Nat) : 2 ^ (8 * k) = 256 ^ k := by rw [Nat.pow_mul]
theorem number_r (n width : Nat) (hn : n < 18446744073709551616) (hw : 1 ≤ width ∧ width ≤ 8) (w : World) :
    Ret Tryz.prog 62 [.int .u64 (n : Int), .int .i64 (width : Int)] w fun v w' => v = str (be width n) ∧ Ext w w' := by
  refine Ret.enter Tryz.func62 rfl Tryz.ntmps62 (by kernel_rfl) rfl ?_
  refine KW.seq (KW.region ?_)
  refine OW.val rfl rfl (EX.assign rfl) ?_
  refine OW.nil ?_
  refine KW.seq (KW.region ?_)
  refine OW.val rfl rfl (EX.move rfl) ?_
  refine OW.makeB rfl rfl Tryz.underlying54 ti5 rfl rfl rfl (by omega) (by omega) ?_
  rintro gb w1 hge hg hx
  refine OW.val rfl rfl (EX.assign rfl) ?_
  refine OW.nil ?_
  refine KW.seq (KW.seq (KW.region ?_))
  refine OW.val rfl rfl (EX.move rfl) ?_
  refine OW.val rfl rfl (EX.lenA Tryz.underlying54 rfl) ?_
  refine OW.val rfl rfl (EX.move rfl) ?_
  refine OW.nil ?_
  refine KW.block ?_
  refine KW.loop2 (fun (i : Nat) (wr : World) => i ≤ width ∧ Bk wr gb 5 (bytesV (be i (n / 256 ^ (width - i))) ++ List.replicate (width - i) (.int .u8 0)) ∧ Ext w wr) (fun (i : Nat) (wr : World) => [(0, .int .u64 ((n : Nat) : Int)), (1, .int .i64 ((width : Nat) : Int)), (5, .slice (some ⟨gb, 0, none⟩) width width), (10, .int .i64 ((width : Nat) : Int)), (11, .int .i64 ((i : Nat) : Int))]) (fun (i : Nat) (wr : World) => wr) (fun (i : Nat) (wr : World) => width - i) (0) (w1) ⟨rfl, rfl, rfl, rfl, rfl, trivial⟩ rfl ?_ ?_
  · exact ⟨by omega, by simpa [be, bytesV] using hg, hx⟩
  · rintro i wr ⟨hi, hb, hxr⟩
    refine KW.seq (KW.region ?_)
    refine OW.val rfl rfl (by first | exact EX.lssN rfl rfl | exact EX.lssZ rfl rfl) ?_
    refine OW.nil ?_
    refine KW.seq ?_
    refine KW.condD rfl (fun hlt => ?_) (fun hlt => ?_)
    · have hs : n / 256 ^ (width - 1 - i) / 256 = n / 256 ^ (width - i) := by
        rw [show width - i = (width - 1 - i) + 1 by omega, Nat.pow_succ, Nat.div_div_eq_div_mul]
      have hq : n / 256 ^ (width - 1 - i) ≤ n := Nat.div_le_self _ _
      refine KW.skip (KW.seq (KW.block (KW.seq (KW.region ?_))))
      refine OW.val rfl rfl (EX.move rfl) ?_
      refine OW.val rfl rfl (EX.assign rfl) ?_
      refine OW.nil ?_
      refine KW.region ?_
      refine OW.val rfl rfl (EX.move rfl) ?_
      refine OW.val rfl rfl (EX.move rfl) ?_
      refine OW.val rfl rfl (EX.move rfl) ?_
      refine OW.val rfl rfl (EX.move rfl) ?_
      refine OW.val rfl rfl (by first | exact EX.subN (b := 1) (m := 9223372036854775807) rfl rfl rfl (by omega) | exact EX.subZ (m := 9223372036854775807) rfl rfl rfl rfl (by omega)) ?_
      refine OW.val rfl rfl (EX.move rfl) ?_
      refine OW.val rfl rfl (by first | exact EX.subN (m := 9223372036854775807) rfl rfl rfl (by omega) | exact EX.subZ (m := 9223372036854775807) rfl rfl rfl rfl (by omega)) ?_
      refine OW.val rfl rfl (by first | exact EX.mulN (a := 8) (m := 9223372036854775807) rfl rfl rfl (by omega) | exact EX.mulZ (m := 9223372036854775807) rfl rfl rfl rfl (by omega)) ?_
      refine OW.val rfl rfl (by first | exact EX.convN (m := 18446744073709551615) Tryz.underlying3 Tryz.underlying141 rfl rfl (by omega) | exact EX.convW (m := 18446744073709551616) Tryz.underlying3 Tryz.underlying141 rfl rfl (by decide) | exact EX.convZ Tryz.underlying3 Tryz.underlying141 rfl) ?_
      refine OW.val rfl rfl (EX.shrN (s := 8 * (width - 1 - i)) (p := 256 ^ (width - 1 - i)) rfl rfl (pow256 _) (by show _ ≤ 64; omega)) ?_
      refine OW.val rfl rfl (by first | exact EX.convN (m := 255) Tryz.underlying122 Tryz.underlying5 rfl rfl (by omega) | exact EX.convW (m := 256) Tryz.underlying122 Tryz.underlying5 rfl rfl (by decide) | exact EX.convZ Tryz.underlying122 Tryz.underlying5 rfl) ?_
      refine OW.val rfl rfl (by first | exact EX.indexAddrS0 Tryz.underlying54 ti5 rfl rfl (by omega) | exact EX.indexAddrS1 Tryz.underlying54 ti5 rfl rfl (by omega)) ?_
      refine OW.storeB rfl ti5 rfl rfl (by first | rfl | assumption | exact Own.one (by assumption)) (hb) (by simp [bytesV, be_length]; omega) ?_
      rintro w2 hb2 hm2
      refine OW.nil ?_
      refine KW.leave (KW.region ?_)
      refine OW.val rfl rfl (by first | exact EX.addN (b := 1) (m := 9223372036854775807) rfl rfl rfl (by omega) | exact EX.addZ (m := 9223372036854775807) rfl rfl rfl rfl (by omega)) ?_
      refine OW.val rfl rfl (EX.move rfl) ?_
      refine OW.nil ?_
      refine KW.back2 (i + 1) (w2) ⟨rfl, rfl, rfl, rfl, rfl, trivial⟩ rfl ?_ (by omega)
      refine ⟨by omega, ?_, below_mo hxr hm2 hxr.size (fun k hk => by simp at hk; omega)⟩
      have e : be (i + 1) (n / 256 ^ (width - (i + 1))) = be i (n / 256 ^ (width - i)) ++ [UInt8.ofNat (n / 256 ^ (width - 1 - i) % 256)] := by
        rw [show width - (i + 1) = width - 1 - i by omega]
        simp only [be]
        rw [hs]
      have e2 : (bytesV (be i (n / 256 ^ (width - i))) ++ List.replicate (width - i) (Value.int .u8 0)).set i (.int .u8 ((n / 256 ^ (width - 1 - i) % 256 : Nat) : Int)) = bytesV (be (i + 1) (n / 256 ^ (width - (i + 1)))) ++ List.replicate (width - (i + 1)) (.int .u8 0) := by
        rw [e, List.set_append_right _ _ (by simp [bytesV, be_length])]
        have hl : (bytesV (be i (n / 256 ^ (width - i)))).length = i := by simp [bytesV, be_length]
        rw [hl, Nat.sub_self, show width - i = (width - (i + 1)) + 1 by omega, List.replicate_succ, List.set_cons_zero]
        simp [bytesV]
      rw [← e2]
      exact hb2
    · obtain rfl : i = width := by omega
      rw [Nat.sub_self, List.replicate_zero, List.append_nil, Nat.pow_zero, Nat.div_one] at hb
      refine KW.exit rfl (KW.seq (KW.region ?_))
      refine OW.val rfl rfl (EX.move rfl) ?_
      refine OW.val rfl rfl (EX.strOf Tryz.underlying54 Tryz.underlying5 Tryz.underlying9 rfl (hb.sl) (be_length _ _)) ?_
      refine OW.val rfl rfl (EX.assign rfl) ?_
      refine OW.nil ?_
      refine KW.ret (ret1 rfl rfl ?_)
      exact ⟨rfl, hxr⟩
theorem rNumber_r (n width : Nat) (hn : n < 18446744073709551616) (hw : width ≤ 8) (w : World) :
    Ret Tryz.prog 66 [.int .u64 (n : Int), .int .i64 (width : Int)] w fun v w' => v = str (be width n) ∧ Ext w w' := by
  refine Ret.enter Tryz.func66 rfl Tryz.ntmps66 (by kernel_rfl) rfl ?_
  refine KW.seq (KW.region ?_)
  refine OW.val rfl rfl (EX.assign rfl) ?_
  refine OW.nil ?_
  refine KW.seq (KW.region ?_)
  refine OW.val rfl rfl (EX.assign rfl) ?_
  refine OW.nil ?_
  refine KW.seq (KW.seq (KW.region ?_))
  refine OW.val rfl rfl (EX.assign rfl) ?_
  refine OW.nil ?_
  refine KW.block ?_
  refine KW.loop4 (fun (i : Nat) (m : Nat) (q : (List UInt8)) (wr : World) => i ≤ width ∧ m = n / 256 ^ i ∧ q = be i n ∧ Ext w wr) (fun (i : Nat) (m : Nat) (q : (List UInt8)) (wr : World) => [(0, .int .u64 ((m : Nat) : Int)), (1, .int .i64 ((width : Nat) : Int)), (5, str (q)), (6, .int .i64 ((i : Nat) : Int))]) (fun (i : Nat) (m : Nat) (q : (List UInt8)) (wr : World) => wr) (fun (i : Nat) (m : Nat) (q : (List UInt8)) (wr : World) => width - i) (0) (n) ([]) (w) ⟨rfl, rfl, rfl, rfl, trivial⟩ rfl ?_ ?_
  · exact ⟨by omega, by simp, rfl, Ext.refl _⟩
  · rintro i m q wr ⟨hi, hm, hq, hxr⟩
    refine KW.seq (KW.seq (KW.region ?_))
    refine OW.val rfl rfl (EX.move rfl) ?_
    refine OW.val rfl rfl (EX.move rfl) ?_
    refine OW.val rfl rfl (by first | exact EX.lssN rfl rfl | exact EX.lssZ rfl rfl) ?_
    refine OW.nil ?_
    refine KW.condD rfl (fun hlt => ?_) (fun hlt => ?_)
    · have hmn : m ≤ n := by rw [hm]; exact Nat.div_le_self _ _
      have hl : q.length = i := by rw [hq, be_length]
      refine KW.skip (KW.seq (KW.block (KW.seq (KW.region ?_))))
      refine OW.val rfl rfl (EX.move rfl) ?_
      refine OW.val rfl rfl (by first | exact EX.convN (m := 255) Tryz.underlying122 Tryz.underlying5 rfl rfl (by omega) | exact EX.convW (m := 256) Tryz.underlying122 Tryz.underlying5 rfl rfl (by decide) | exact EX.convZ Tryz.underlying122 Tryz.underlying5 rfl) ?_
      refine OW.buildB 1 rfl rfl Tryz.underlying54 ti5 rfl rfl rfl rfl (by first | rfl | (simp only [List.all_cons, List.all_nil, Bool.and_true, Bool.and_eq_true]; assumption)) (by decide) ?_
      rintro gb w2 hge2 hg2 hx2
      have hg3 : Bk w2 gb 5 (bytesV [UInt8.ofNat (m % 256)]) := by simpa [bytesV] using hg2
      refine OW.val rfl rfl (EX.strOf Tryz.underlying54 Tryz.underlying5 Tryz.underlying9 rfl (hg3.sl) (rfl)) ?_
      refine OW.val rfl rfl (EX.move rfl) ?_
      refine OW.val rfl rfl (EX.addS rfl rfl (by first | omega | (simp only [List.length_append, List.length_cons, List.length_nil, List.length_take, List.length_drop, List.length_replicate]; omega))) ?_
      refine OW.val rfl rfl (EX.assign rfl) ?_
      refine OW.nil ?_
      refine KW.region ?_
      refine OW.val rfl rfl (EX.move rfl) ?_
      refine OW.val rfl rfl (EX.shrN (s := 8) (p := 256) rfl rfl (by decide) (by decide)) ?_
      refine OW.val rfl rfl (EX.assign rfl) ?_
      refine OW.nil ?_
      refine KW.leave (KW.region ?_)
      refine OW.val rfl rfl (EX.move rfl) ?_
      refine OW.val rfl rfl (by first | exact EX.addN (b := 1) (m := 9223372036854775807) rfl rfl rfl (by omega) | exact EX.addZ (m := 9223372036854775807) rfl rfl rfl rfl (by omega)) ?_
      refine OW.val rfl rfl (EX.assign rfl) ?_
      refine OW.nil ?_
      refine KW.back4 (i + 1) (m / 256) ([UInt8.ofNat (m % 256)] ++ q) (w2) ⟨rfl, rfl, rfl, rfl, trivial⟩ rfl ?_ (by omega)
      exact ⟨by omega, by rw [hm, Nat.div_div_eq_div_mul, Nat.pow_succ], by rw [be_cons, hm, hq]; rfl, hxr.trans hx2⟩
    · obtain rfl : i = width := by omega
      subst hq
      refine KW.exit rfl (KW.seq (KW.region ?_))
      refine OW.val rfl rfl (EX.move rfl) ?_
      refine OW.val rfl rfl (EX.assign rfl) ?_
      refine OW.nil ?_
      refine KW.ret (ret1 rfl rfl ?_)
      exact ⟨rfl, hxr⟩
theorem nb_take_succ (s : List UInt8) {i : Nat} (h : i < s.length) : nb (s.take (i + 1)) = nb (s.take i) * 256 + s[i].toNat := by
  rw [List.take_add_one, List.getElem?_eq_getElem h]
  exact nb_snoc _ _
theorem take_s (rb n : Nat) (s : List UInt8) (T : TypeId) (w : World) (hb : Bk w rb T [str s]) (hn : n ≤ 1000000000000) (hs : s.length ≤ 1000000000000) :
    Ret Tryz.prog 75 [.pointer (some ⟨rb, 0, none⟩), .int .i64 (n : Int)] w fun v w' => v = str (s.take n) ∧ Bk w' rb T [str (s.drop n)] ∧ Mo w w' [rb] := by
  refine Ret.enter Tryz.func75 rfl Tryz.ntmps75 (by kernel_rfl) rfl ?_
  refine KW.seq (KW.region ?_)
  refine OW.val rfl rfl (EX.assign rfl) ?_
  refine OW.nil ?_
  refine KW.seq (KW.seq (KW.region ?_))
  refine OW.val rfl rfl (EX.move rfl) ?_
  refine OW.val rfl rfl (EX.move rfl) ?_
  refine OW.val rfl rfl (EX.nilCheck rfl) ?_
  refine OW.val rfl rfl (EX.fieldAddr (off := 0) Tryz.underlying134 rfl rfl ti9 rfl rfl) ?_
  refine OW.val rfl rfl (EX.load Tryz.underlying9 rfl rfl (hb.cell_of rfl)) ?_
  refine OW.val rfl rfl (EX.lenS Tryz.underlying9 rfl) ?_
  refine OW.val rfl rfl (by first | exact EX.gtrN rfl rfl | exact EX.gtrZ rfl rfl) ?_
  refine OW.nil ?_
  refine KW.condD rfl (fun h => ?_) (fun h => ?_)
  · have e1 : s.take n = s := List.take_of_length_le (by omega)
    have e2 : s.drop n = [] := List.drop_of_length_le (by omega)
    refine KW.region ?_
    refine OW.val rfl rfl (EX.move rfl) ?_
    refine OW.val rfl rfl (EX.nilCheck rfl) ?_
    refine OW.val rfl rfl (EX.fieldAddr (off := 0) Tryz.underlying134 rfl rfl ti9 rfl rfl) ?_
    refine OW.val rfl rfl (EX.load Tryz.underlying9 rfl rfl (hb.cell_of rfl)) ?_
    refine OW.val rfl rfl (EX.lenS Tryz.underlying9 rfl) ?_
    refine OW.val rfl rfl (EX.assign rfl) ?_
    refine OW.nil ?_
    refine KW.seq (KW.region ?_)
    refine OW.val rfl rfl (EX.move rfl) ?_
    refine OW.val rfl rfl (EX.nilCheck rfl) ?_
    refine OW.val rfl rfl (EX.fieldAddr (off := 0) Tryz.underlying134 rfl rfl ti9 rfl rfl) ?_
    refine OW.val rfl rfl (EX.load Tryz.underlying9 rfl rfl (hb.cell_of rfl)) ?_
    refine OW.val rfl rfl (EX.move rfl) ?_
    refine OW.val rfl rfl (EX.sliceFH Tryz.underlying9 rfl rfl (by omega)) ?_
    refine OW.val rfl rfl (EX.assign rfl) ?_
    refine OW.nil ?_
    refine KW.seq (KW.region ?_)
    refine OW.val rfl rfl (EX.move rfl) ?_
    refine OW.val rfl rfl (EX.move rfl) ?_
    refine OW.val rfl rfl (EX.nilCheck rfl) ?_
    refine OW.val rfl rfl (EX.fieldAddr (off := 0) Tryz.underlying134 rfl rfl ti9 rfl rfl) ?_
    refine OW.val rfl rfl (EX.load Tryz.underlying9 rfl rfl (hb.cell_of rfl)) ?_
    refine OW.val rfl rfl (EX.move rfl) ?_
    refine OW.val rfl rfl (EX.sliceLE Tryz.underlying9 rfl rfl (by omega)) ?_
    refine OW.val rfl rfl (EX.nilCheck rfl) ?_
    refine OW.val rfl rfl (EX.fieldAddr (off := 0) Tryz.underlying134 rfl rfl ti9 rfl rfl) ?_
    refine OW.storeB rfl ti9 rfl rfl (by first | rfl | assumption | exact Own.one (by assumption)) (hb) (by simp) ?_
    rintro w2 hb2 hm2
    refine OW.nil ?_
    refine KW.seq (KW.region ?_)
    refine OW.val rfl rfl (EX.move rfl) ?_
    refine OW.val rfl rfl (EX.assign rfl) ?_
    refine OW.nil ?_
    refine KW.ret (ret1 rfl rfl ?_)
    rw [e1, e2]
    refine ⟨?_, ?_, hm2⟩
    · simp
    · simpa using hb2
  · refine KW.skip (KW.seq (KW.region ?_))
    refine OW.val rfl rfl (EX.move rfl) ?_
    refine OW.val rfl rfl (EX.nilCheck rfl) ?_
    refine OW.val rfl rfl (EX.fieldAddr (off := 0) Tryz.underlying134 rfl rfl ti9 rfl rfl) ?_
    refine OW.val rfl rfl (EX.load Tryz.underlying9 rfl rfl (hb.cell_of rfl)) ?_
    refine OW.val rfl rfl (EX.move rfl) ?_
    refine OW.val rfl rfl (EX.sliceFH Tryz.underlying9 rfl rfl (by omega)) ?_
    refine OW.val rfl rfl (EX.assign rfl) ?_
    refine OW.nil ?_
    refine KW.seq (KW.region ?_)
    refine OW.val rfl rfl (EX.move rfl) ?_
    refine OW.val rfl rfl (EX.move rfl) ?_
    refine OW.val rfl rfl (EX.nilCheck rfl) ?_
    refine OW.val rfl rfl (EX.fieldAddr (off := 0) Tryz.underlying134 rfl rfl ti9 rfl rfl) ?_
    refine OW.val rfl rfl (EX.load Tryz.underlying9 rfl rfl (hb.cell_of rfl)) ?_
    refine OW.val rfl rfl (EX.move rfl) ?_
    refine OW.val rfl rfl (EX.sliceLE Tryz.underlying9 rfl rfl (by omega)) ?_
    refine OW.val rfl rfl (EX.nilCheck rfl) ?_
    refine OW.val rfl rfl (EX.fieldAddr (off := 0) Tryz.underlying134 rfl rfl ti9 rfl rfl) ?_
    refine OW.storeB rfl ti9 rfl rfl (by first | rfl | assumption | exact Own.one (by assumption)) (hb) (by simp) ?_
    rintro w2 hb2 hm2
    refine OW.nil ?_
    refine KW.seq (KW.region ?_)
    refine OW.val rfl rfl (EX.move rfl) ?_
    refine OW.val rfl rfl (EX.assign rfl) ?_
    refine OW.nil ?_
    refine KW.ret (ret1 rfl rfl ?_)
    exact ⟨rfl, by simpa using hb2, hm2⟩
theorem wrap64 (n : Nat) (h : n < 18446744073709551616) : IntKind.i64.wrap (n : Int) = if n < 9223372036854775808 then (n : Int) else (n : Int) - 18446744073709551616 := by
  have e : IntKind.i64.wrap (n : Int) = if (n : Int) % 18446744073709551616 ≥ 9223372036854775808 then (n : Int) % 18446744073709551616 - 18446744073709551616 else (n : Int) % 18446744073709551616 := by
    unfold IntKind.wrap
    simp [IntKind.bits, IntKind.signed]
  rw [e, Int.emod_eq_of_lt (by omega) (by omega)]
  split <;> split <;> omega
theorem wrap_numI (s : List UInt8) (h : nb s < 18446744073709551616) : IntKind.i64.wrap (nb s : Int) = numI s := by rw [wrap64 _ h]; rfl
theorem ofInt_wrap (n : Nat) (h : n < 18446744073709551616) : (BitVec.ofInt 64 (IntKind.i64.wrap (n : Int))).toNat = n := by
  rw [wrap64 n h, BitVec.toNat_ofInt]
  split <;> omega
section
variable {P : Program} {n : Nat} {σ : Sig} {w : World} {x y : Operand} {t t' ty : TypeId}
theorem EX.shlZ {s p : Nat} {c : Int} {k k' : IntKind} (hx : ev σ x = some (.int k c)) (hy : ev σ y = some (.int k' (s : Int))) (hp : 2 ^ s = p) (hs : s ≤ k.bits) :
    EX P n σ (.binOp .shl t x y t') ty w (.int k (k.wrap (c * (p : Int)))) w :=
  EX.bin hx hy (by unfold eqGuard; rfl) (by
    subst hp
    have hn : ¬ (s : Int) < 0 := by omega
    simp [binOp, Op.shift, hn, Nat.min_eq_left hs])
theorem EX.orLow {a b : Nat} {c : Int} (hx : ev σ x = some (.int .i64 c)) (hc : c = IntKind.i64.wrap ((a * 256 : Nat) : Int)) (hy : ev σ y = some (.int .i64 (b : Int))) (hb : b < 256) (ha : a < 72057594037927936) (hor : a * 256 ||| b = a * 256 + b) :
    EX P n σ (.binOp .or t x y t') ty w (.int .i64 (IntKind.i64.wrap ((a * 256 + b : Nat) : Int))) w :=
  EX.binI hx hy (by
    have e3 : (binOp .or t (.int .i64 c) (.int .i64 (b : Int))).run P w = .ok (.int .i64 (IntKind.i64.wrap ((BitVec.ofInt 64 c ||| BitVec.ofInt 64 (b : Int)).toNat : Int))) w := rfl
    have hf : (BitVec.ofInt 64 (b : Int)).toNat = b := ofInt_fit (k := .i64) (by simp only [maxN]; omega)
    rw [e3, BitVec.toNat_or, hc, ofInt_wrap _ (by omega), hf, hor])
end
theorem or_low (m b : Nat) (h : b < 256) : m * 256 ||| b = m * 256 + b := by
  have := Nat.two_pow_add_eq_or_of_lt (i := 8) h m
  rw [Nat.mul_comm m 256]
  exact this.symm
theorem rnumber_s (s : List UInt8) (hs : s.length ≤ 8) (w : World) :
    Ret Tryz.prog 77 [str s] w fun v w' => v = .int .i64 (numI s) ∧ w = w' := by
  have hlt8 : nb s < 18446744073709551616 := Nat.lt_of_lt_of_le (nb_lt s.length s rfl) (Nat.pow_le_pow_right (by decide) hs)
  refine Ret.enter Tryz.func77 rfl Tryz.ntmps77 (by kernel_rfl) rfl ?_
  refine KW.seq (KW.region ?_)
  refine OW.val rfl rfl (EX.assign rfl) ?_
  refine OW.nil ?_
  refine KW.seq (KW.region ?_)
  refine OW.val rfl rfl (EX.assign rfl) ?_
  refine OW.nil ?_
  refine KW.seq (KW.seq (KW.region ?_))
  refine OW.val rfl rfl (EX.assign rfl) ?_
  refine OW.nil ?_
  refine KW.block ?_
  refine KW.loop2 (fun (i : Nat) (m : Nat) => i ≤ s.length ∧ m = nb (s.take i)) (fun (i : Nat) (m : Nat) => [(0, str (s)), (3, .int .u64 ((m : Nat) : Int)), (4, .int .i64 ((i : Nat) : Int))]) (fun (i : Nat) (m : Nat) => w) (fun (i : Nat) (m : Nat) => s.length - i) (0) (0) ⟨rfl, rfl, rfl, trivial⟩ rfl ?_ ?_
  · exact ⟨by omega, rfl⟩
  · rintro i m ⟨hi, hm⟩
    refine KW.seq (KW.seq (KW.region ?_))
    refine OW.val rfl rfl (EX.move rfl) ?_
    refine OW.val rfl rfl (EX.move rfl) ?_
    refine OW.val rfl rfl (EX.lenS Tryz.underlying9 rfl) ?_
    refine OW.val rfl rfl (by first | exact EX.lssN rfl rfl | exact EX.lssZ rfl rfl) ?_
    refine OW.nil ?_
    refine KW.condD rfl (fun hlt => ?_) (fun hlt => ?_)
    · have hm8 : m < 72057594037927936 := by
        rw [hm]
        exact Nat.lt_of_lt_of_le (nb_lt i _ (by simp; omega)) (Nat.pow_le_pow_right (by decide) (show i ≤ 7 by omega))
      have hc := (s[i]).toNat_lt
      refine KW.skip (KW.seq (KW.block (KW.region ?_)))
      refine OW.val rfl rfl (EX.move rfl) ?_
      refine OW.val rfl rfl (by first | exact EX.shlN (s := 8) (p := 256) (m := 18446744073709551615) rfl rfl (by decide) (by decide) rfl (by omega) | exact EX.shlW (s := 8) (p := 256) (m := 18446744073709551616) rfl rfl (by decide) (by decide) rfl (by decide)) ?_
      refine OW.val rfl rfl (EX.move rfl) ?_
      refine OW.val rfl rfl (EX.move rfl) ?_
      refine OW.val rfl rfl (EX.indexS Tryz.underlying9 rfl rfl (List.getElem?_eq_getElem (by omega))) ?_
      refine OW.val rfl rfl (by first | exact EX.convN (m := 18446744073709551615) Tryz.underlying5 Tryz.underlying122 rfl rfl (by omega) | exact EX.convW (m := 18446744073709551616) Tryz.underlying5 Tryz.underlying122 rfl rfl (by decide) | exact EX.convZ Tryz.underlying5 Tryz.underlying122 rfl) ?_
      refine OW.val rfl rfl (EX.orN (m := 18446744073709551615) rfl rfl rfl (by omega)) ?_
      refine OW.val rfl rfl (EX.assign rfl) ?_
      refine OW.nil ?_
      refine KW.leave (KW.region ?_)
      refine OW.val rfl rfl (EX.move rfl) ?_
      refine OW.val rfl rfl (by first | exact EX.addN (b := 1) (m := 9223372036854775807) rfl rfl rfl (by omega) | exact EX.addZ (m := 9223372036854775807) rfl rfl rfl rfl (by omega)) ?_
      refine OW.val rfl rfl (EX.assign rfl) ?_
      refine OW.nil ?_
      refine KW.back2 (i + 1) (m * 256 ||| s[i].toNat) ⟨rfl, rfl, rfl, trivial⟩ rfl ?_ (by omega)
      exact ⟨by omega, by rw [or_low _ _ (by omega), nb_take_succ s hlt, hm]⟩
    · obtain rfl : i = s.length := by omega
      rw [List.take_length] at hm
      refine KW.exit rfl (KW.seq (KW.region ?_))
      refine OW.val rfl rfl (EX.move rfl) ?_
      refine OW.val rfl rfl (by first | exact EX.convN (m := 9223372036854775807) Tryz.underlying122 Tryz.underlying3 rfl rfl (by omega) | exact EX.convZ Tryz.underlying122 Tryz.underlying3 rfl) ?_
      refine OW.val rfl rfl (EX.assign rfl) ?_
      refine OW.nil ?_
      refine KW.ret (ret1 rfl rfl ?_)
      refine ⟨?_, rfl⟩
      rw [hm, wrap_numI s hlt8]
set_option maxRecDepth 20000 in
theorem num_s (rb n : Nat) (s : List UInt8) (T : TypeId) (w : World) (hb : Bk w rb T [str s]) (hn : n ≤ 8) (hs : s.length ≤ 1000000000000) :
    Ret Tryz.prog 76 [.pointer (some ⟨rb, 0, none⟩), .int .i64 (n : Int)] w fun v w' => v = .int .i64 (numI (s.take n)) ∧ Bk w' rb T [str (s.drop n)] ∧ Mo w w' [rb] := by
  have htl : (s.take n).length ≤ 8 := by rw [List.length_take]; omega
  have hlt8 : nb (s.take n) < 18446744073709551616 := Nat.lt_of_lt_of_le (nb_lt _ _ rfl) (Nat.pow_le_pow_right (by decide) htl)
  refine Ret.enter Tryz.func76 rfl Tryz.ntmps76 (by kernel_rfl) rfl ?_
  refine KW.seq (KW.region ?_)
  refine OW.val rfl rfl (EX.assign rfl) ?_
  refine OW.nil ?_
  refine KW.seq (KW.region ?_)
  refine OW.val rfl rfl (EX.assign rfl) ?_
  refine OW.nil ?_
  refine KW.seq (KW.seq (KW.region ?_))
  refine OW.val rfl rfl (EX.move rfl) ?_
  refine OW.val rfl rfl (EX.nilCheck rfl) ?_
  refine OW.val rfl rfl (EX.fieldAddr (off := 0) Tryz.underlying136 rfl rfl ti134 rfl rfl) ?_
  refine OW.val rfl rfl (EX.move rfl) ?_
  refine OW.call rfl rfl rfl (take_s rb n s T w hb (by omega) hs) ?_
  rintro _ w1 ⟨rfl, hb1, hm1⟩
  generalize hq : s.take n = q at htl hlt8
  refine OW.bytesOf rfl rfl Tryz.underlying9 Tryz.underlying54 Tryz.underlying5 rfl (by omega) ?_
  rintro cap rs w2 hgb hc hmx hl hx2
  refine OW.val rfl rfl (EX.lenA Tryz.underlying54 rfl) ?_
  refine OW.val rfl rfl (EX.move rfl) ?_
  refine OW.nil ?_
  refine KW.block ?_
  refine KW.loop2 (fun (i : Nat) (z : Int) => i ≤ q.length ∧ z = IntKind.i64.wrap ((nb (q.take i) : Nat) : Int)) (fun (i : Nat) (z : Int) => [(5, .int .i64 (z : Int)), (13, .slice (some ⟨w1.heap.size, 0, none⟩) q.length cap), (14, .int .i64 ((q.length : Nat) : Int)), (15, .int .i64 ((i : Nat) : Int))]) (fun (i : Nat) (z : Int) => w2) (fun (i : Nat) (z : Int) => q.length - i) (0) (0) ⟨rfl, rfl, rfl, rfl, trivial⟩ rfl ?_ ?_
  · exact ⟨by omega, by simp [nb]; rfl⟩
  · rintro i z ⟨hi, hz⟩
    refine KW.seq (KW.region ?_)
    refine OW.val rfl rfl (by first | exact EX.lssN rfl rfl | exact EX.lssZ rfl rfl) ?_
    refine OW.nil ?_
    refine KW.seq ?_
    refine KW.condD rfl (fun hlt => ?_) (fun hlt => ?_)
    · have hm8 : nb (q.take i) < 72057594037927936 := Nat.lt_of_lt_of_le (nb_lt i _ (by simp; omega)) (Nat.pow_le_pow_right (by decide) (show i ≤ 7 by omega))
      have hcc := (q[i]).toNat_lt
      obtain rfl : z = ((nb (q.take i) : Nat) : Int) := by rw [hz, wrap64 _ (by omega), if_pos (by omega)]
      have hel : (bytesV q ++ rs)[i]? = some (.int .u8 ((q[i].toNat : Nat) : Int)) := by
        rw [List.getElem?_append_left (by simpa [bytesV] using hlt)]
        simp [bytesV, hlt]
      refine KW.skip (KW.seq (KW.block (KW.seq (KW.region ?_))))
      refine OW.val rfl rfl (by first | exact EX.indexAddrS0 Tryz.underlying54 ti5 rfl rfl (by omega) | exact EX.indexAddrS1 Tryz.underlying54 ti5 rfl rfl (by omega)) ?_
      refine OW.val rfl rfl (EX.load Tryz.underlying5 rfl rfl (hgb.cell_of hel)) ?_
      refine OW.val rfl rfl (EX.assign rfl) ?_
      refine OW.nil ?_
      refine KW.region ?_
      refine OW.val rfl rfl (EX.move rfl) ?_
      refine OW.val rfl rfl (EX.shlZ (s := 8) (p := 256) rfl rfl rfl (by decide)) ?_
      refine OW.val rfl rfl (EX.move rfl) ?_
      refine OW.val rfl rfl (by first | exact EX.convN (m := 9223372036854775807) Tryz.underlying5 Tryz.underlying3 rfl rfl (by omega) | exact EX.convZ Tryz.underlying5 Tryz.underlying3 rfl) ?_
      refine OW.val rfl rfl (EX.orLow (a := nb (q.take i)) rfl (by simp) rfl (by omega) hm8 (or_low _ _ (by omega))) ?_
      refine OW.val rfl rfl (EX.assign rfl) ?_
      refine OW.nil ?_
      refine KW.leave (KW.region ?_)
      refine OW.val rfl rfl (by first | exact EX.addN (b := 1) (m := 9223372036854775807) rfl rfl rfl (by omega) | exact EX.addZ (m := 9223372036854775807) rfl rfl rfl rfl (by omega)) ?_
      refine OW.val rfl rfl (EX.move rfl) ?_
      refine OW.nil ?_
      refine KW.back2 (i + 1) (IntKind.i64.wrap ((nb (q.take i) * 256 + q[i].toNat : Nat) : Int)) ⟨rfl, rfl, rfl, rfl, trivial⟩ rfl ?_ (by omega)
      exact ⟨by omega, by rw [nb_take_succ q hlt]⟩
    · obtain rfl : i = q.length := by omega
      rw [List.take_length] at hz
      refine KW.exit rfl (KW.seq (KW.region ?_))
      refine OW.val rfl rfl (EX.move rfl) ?_
      refine OW.val rfl rfl (EX.assign rfl) ?_
      refine OW.nil ?_
      refine KW.ret (ret1 rfl rfl ?_)
      refine ⟨by rw [hz, wrap_numI _ hlt8], hb1.ext hx2, hm1.trans (Mo.of_ext hx2 _)⟩
end Go.Proofs.YthgfdpcpbghkpaaGreatDoor
