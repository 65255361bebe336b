/-
  What the statements rest on, part 2 of 6: many small texts, one behind the other.
-/
import Derived.Test.YthgfdpcpbghkpaaGreatDoorMrgA
import Derived.RangeFuncFrom
import Derived.RangeFuncLeaves
import Derived.RangeFuncCalls
import Derived.RangeFuncBound
import Derived.Shelf.Strings.Builder1
import Derived.Shelf.Strings.Builder2
import Derived.Shelf.Strings.OnBuilder
import Derived.Shelf.Small.Bits
import Derived.Shelf.Small.Strs
import Derived.Shelf.Strings.BuilderF
import Derived.Shelf.Utf8.RuneCount
import Derived.Shelf.Strings.Builder2Cap
import Derived.Shelf.Strconv.Itoa0
import Derived.Shelf.Strings.Search1
import Derived.Shelf.Strings.Search2
import Derived.Shelf.Strings.Search3
import Derived.Shelf.Strings.Count
import Derived.Shelf.LaysM
import Derived.Shelf.Strings.Shaped
import Derived.Shelf.Strings.Prefix
import Derived.Shelf.Strings.Split
import Derived.Shelf.Strings.SplitShaped
import Derived.Shelf.Unicode.Decode
import Derived.Shelf.Strings.RuneCount
import Derived.Shelf.Strings.Explode
import Derived.Shelf.Bits.Mul64
import Derived.Shelf.Strings.Repeat
import Derived.Shelf.Unicode.DecodeSlow
import Derived.Shelf.Unicode.DecodeAny
import Derived.Ground.SlgnProg
import Derived.Shelf.SlicesE.Clone
import Derived.Test.YthgfdpcpbghkpaaGreatDoorProg
/- crc: what the program's functions compute. -/
namespace Go.Proofs.YthgfdpcpbghkpaaGreatDoor
set_option linter.unnecessarySimpa false
set_option linter.unusedSimpArgs false
open Go.RowKit
set_option linter.unusedVariables false

theorem turned_s (v n : Nat) (hv : v < 4294967296) (hn : n ≤ 64) (w : World) :
    Ret Tryz.prog 88 [.int .u32 v, .int .i64 n] w fun r w' => r = .int .u32 (trn n v 0 : Nat) ∧ w = w' := by
  refine Ret.enter Tryz.func88 rfl Tryz.ntmps88 (by kernel_rfl) rfl ?_
  refine KW.seq (KW.region ?_)
  refine OW.val rfl rfl (EX.assign rfl) ?_
  refine OW.nil ?_
  refine KW.seq (KW.region ?_)
  refine OW.val rfl rfl (EX.assign rfl) ?_
  refine OW.nil ?_
  refine KW.seq (KW.seq (KW.region ?_))
  refine OW.val rfl rfl (EX.move rfl) ?_
  refine OW.val rfl rfl (EX.move rfl) ?_
  refine OW.nil ?_
  refine KW.block ?_
  refine KW.loop3 (fun (k : Nat) (x : Nat) (o : Nat) => k ≤ n ∧ x < 4294967296 ∧ o < 4294967296 ∧ trn (n - k) x o = trn n v 0) (fun (k : Nat) (x : Nat) (o : Nat) => [(0, .int .u32 ((x : Nat) : Int)), (5, .int .u32 ((o : Nat) : Int)), (6, .int .i64 ((n : Nat) : Int)), (7, .int .i64 ((k : Nat) : Int))]) (fun (k : Nat) (x : Nat) (o : Nat) => w) (fun (k : Nat) (x : Nat) (o : Nat) => n - k) (0) (v) (0) ⟨rfl, rfl, rfl, rfl, trivial⟩ rfl ?_ ?_
  · exact ⟨by omega, hv, by omega, rfl⟩
  · rintro k x o ⟨hk, hx, ho, hr⟩
    refine KW.seq (KW.region ?_)
    refine OW.val rfl rfl (by first | exact EX.lssN rfl rfl | exact EX.lssZ rfl rfl) ?_
    refine OW.nil ?_
    refine KW.seq ?_
    refine KW.condD rfl (fun h => ?_) (fun h => ?_)
    · refine KW.skip (KW.seq (KW.block (KW.seq (KW.region ?_))))
      refine OW.val rfl rfl (EX.move rfl) ?_
      refine OW.val rfl rfl (by first | exact EX.shlN (s := 1) (p := 2) (m := 4294967295) rfl rfl (by decide) (by decide) rfl (by omega) | exact EX.shlW (s := 1) (p := 2) (m := 4294967296) rfl rfl (by decide) (by decide) rfl (by decide)) ?_
      refine OW.val rfl rfl (EX.move rfl) ?_
      refine OW.val rfl rfl (EX.maskN (b := 1) (j := 1) (p := 2) (m := 4294967295) rfl rfl (by decide) (by decide) rfl (by omega)) ?_
      refine OW.val rfl rfl (EX.orN (m := 4294967295) rfl rfl rfl (by omega)) ?_
      refine OW.val rfl rfl (EX.assign rfl) ?_
      refine OW.nil ?_
      refine KW.region ?_
      refine OW.val rfl rfl (EX.move rfl) ?_
      refine OW.val rfl rfl (EX.shrN (s := 1) (p := 2) rfl rfl (by decide) (by decide)) ?_
      refine OW.val rfl rfl (EX.assign rfl) ?_
      refine OW.nil ?_
      refine KW.leave (KW.region ?_)
      refine OW.val rfl rfl (by first | exact EX.addN (b := 1) (m := 9223372036854775807) rfl rfl rfl (by omega) | exact EX.addZ (m := 9223372036854775807) rfl rfl rfl rfl (by omega)) ?_
      refine OW.val rfl rfl (EX.move rfl) ?_
      refine OW.nil ?_
      refine KW.back3 (k + 1) (x / 2) (o * 2 % 4294967296 ||| x % 2) ⟨rfl, rfl, rfl, rfl, trivial⟩ rfl ?_ (by omega)
      exact ⟨by omega, by omega, Nat.or_lt_two_pow (n := 32) (by omega) (by omega), by
        rw [show n - k = (n - (k + 1)) + 1 by omega] at hr
        exact hr⟩
    · refine KW.exit rfl (KW.seq (KW.region ?_))
      refine OW.val rfl rfl (EX.move rfl) ?_
      refine OW.val rfl rfl (EX.assign rfl) ?_
      refine OW.nil ?_
      refine KW.ret (ret1 rfl rfl ?_)
      obtain rfl : k = n := by omega
      rw [Nat.sub_self] at hr
      exact ⟨by rw [← hr]; rfl, rfl⟩

def zt256 : List Value := List.replicate 256 (.int .u32 0)
theorem ti_tab : TI Tryz.prog 148 (.agg zt256.toArray) 256 1024 := by unfold TI zt256; kernel_rfl
def tabV : List Value := (List.range 256).map fun i => Value.int .u32 (ctab i : Nat)
theorem tabV_get (i : Nat) (h : i < 256) : tabV[i]? = some (.int .u32 (ctab i : Nat)) := by simp [tabV, h]
theorem tabV_length : tabV.length = 256 := by simp [tabV]

theorem table_s (w : World) : Ret Tryz.prog 87 [] w fun r w' => r = .agg tabV.toArray ∧ Ext w w' := by
  refine Ret.enter Tryz.func87 rfl Tryz.ntmps87 (by kernel_rfl) rfl ?_
  refine KW.seq (KW.region ?_)
  refine OW.val rfl rfl (EX.alloc (l := zt256) ti_tab rfl) ?_
  refine OW.nil ?_
  refine KW.seq (KW.region ?_)
  refine OW.val rfl rfl (EX.alloc (l := zt256) ti_tab rfl) ?_
  refine OW.nil ?_
  refine KW.seq (KW.seq (KW.region ?_))
  refine OW.val rfl rfl (EX.move rfl) ?_
  refine OW.nil ?_
  refine KW.block ?_
  refine KW.as 1 (.pointer (some ⟨w.heap.size + 1, 0, none⟩)) rfl (by simp) ?_
  refine KW.loop3 (fun (k : Nat) (l : List Value) (wr : World) => k ≤ 256 ∧ l.length = 256 ∧ (∀ j, j < k → l[j]? = some (.int .u32 (ctab j : Nat))) ∧ Bk wr (w.heap.size + 1) 148 l ∧ Bk wr w.heap.size 148 zt256 ∧ Ext w wr) (fun (k : Nat) (l : List Value) (wr : World) => [(0, .pointer (some ⟨w.heap.size, 0, none⟩)), (1, .pointer (some ⟨w.heap.size + 1, 0, none⟩)), (4, .int .i64 ((k : Nat) : Int))]) (fun (k : Nat) (l : List Value) (wr : World) => wr) (fun (k : Nat) (l : List Value) (wr : World) => 256 - k) (0) (zt256) (_) ⟨rfl, rfl, rfl, trivial⟩ rfl ?_ ?_
  · refine ⟨by omega, List.length_replicate, fun j h => absurd h (by omega), ?_, (Bk.new w _ _).alloc _, (Ext.alloc _ _).trans (Ext.alloc _ _)⟩
    have := Bk.new (w.alloc (.cells zt256.toArray 148)) 148 zt256
    simpa using this
  · rintro k l wr ⟨hk, hl, hj, hb1, hb0, hx⟩
    refine KW.seq (KW.region ?_)
    refine OW.val rfl rfl (by first | exact EX.lssN (b := 256) rfl rfl | exact EX.lssZ rfl rfl) ?_
    refine OW.nil ?_
    refine KW.seq ?_
    refine KW.condD rfl (fun h => ?_) (fun h => ?_)
    · refine KW.skip (KW.seq (KW.block (KW.seq (KW.region ?_))))
      refine OW.val rfl rfl (EX.move rfl) ?_
      refine OW.val rfl rfl (EX.assign rfl) ?_
      refine OW.nil ?_
      refine KW.seq (KW.region ?_)
      refine OW.val rfl rfl (EX.move rfl) ?_
      refine OW.val rfl rfl (by first | exact EX.convN (m := 4294967295) Tryz.underlying3 Tryz.underlying68 rfl rfl (by omega) | exact EX.convW (m := 4294967296) Tryz.underlying3 Tryz.underlying68 rfl rfl (by decide) | exact EX.convZ Tryz.underlying3 Tryz.underlying68 rfl) ?_
      refine OW.val rfl rfl (by first | exact EX.shlN (s := 24) (p := 16777216) (m := 4294967295) rfl rfl (by decide) (by decide) rfl (by omega) | exact EX.shlW (s := 24) (p := 16777216) (m := 4294967296) rfl rfl (by decide) (by decide) rfl (by decide)) ?_
      refine OW.val rfl rfl (EX.assign rfl) ?_
      refine OW.nil ?_
      refine KW.seq (KW.seq (KW.region ?_))
      refine OW.val rfl rfl (EX.move rfl) ?_
      refine OW.nil ?_
      refine KW.block ?_
      refine KW.loop2 (fun (m : Nat) (r : Nat) => m ≤ 8 ∧ r < 4294967296 ∧ r = citer m (k * 16777216)) (fun (m : Nat) (r : Nat) => [(0, .pointer (some ⟨w.heap.size, 0, none⟩)), (1, .pointer (some ⟨w.heap.size + 1, 0, none⟩)), (2, .int .i64 ((k : Nat) : Int)), (3, .int .u32 ((r : Nat) : Int)), (4, .int .i64 ((k : Nat) : Int)), (10, .int .i64 ((m : Nat) : Int))]) (fun (m : Nat) (r : Nat) => wr) (fun (m : Nat) (r : Nat) => 8 - m) (0) (k * 16777216) ⟨rfl, rfl, rfl, rfl, rfl, rfl, trivial⟩ rfl ?_ ?_
      · exact ⟨by omega, by omega, rfl⟩
      · rintro m r ⟨hm, hr, hrc⟩
        refine KW.seq (KW.region ?_)
        refine OW.val rfl rfl (by first | exact EX.lssN (b := 8) rfl rfl | exact EX.lssZ rfl rfl) ?_
        refine OW.nil ?_
        refine KW.seq ?_
        refine KW.condD rfl (fun h8 => ?_) (fun h8 => ?_)
        · refine KW.skip (KW.seq (KW.block (KW.seq (KW.region ?_))))
          refine OW.val rfl rfl (EX.move rfl) ?_
          refine OW.val rfl rfl (EX.andN (b := 2147483648) (m := 4294967295) rfl rfl rfl (by omega)) ?_
          refine OW.val rfl rfl (by first | exact EX.neqN (b := 0) rfl rfl | exact EX.neqZ rfl rfl) ?_
          refine OW.nil ?_
          refine KW.condD rfl (fun hb => ?_) (fun hb => ?_)
          · refine KW.region ?_
            refine OW.val rfl rfl (EX.move rfl) ?_
            refine OW.val rfl rfl (by first | exact EX.shlN (s := 1) (p := 2) (m := 4294967295) rfl rfl (by decide) (by decide) rfl (by omega) | exact EX.shlW (s := 1) (p := 2) (m := 4294967296) rfl rfl (by decide) (by decide) rfl (by decide)) ?_
            refine OW.val rfl rfl (EX.xorN (b := 79764919) (m := 4294967295) rfl rfl rfl (by omega)) ?_
            refine OW.val rfl rfl (EX.assign rfl) ?_
            refine OW.nil ?_
            refine KW.leave (KW.region ?_)
            refine OW.val rfl rfl (by first | exact EX.addN (b := 1) (m := 9223372036854775807) rfl rfl rfl (by omega) | exact EX.addZ (m := 9223372036854775807) rfl rfl rfl rfl (by omega)) ?_
            refine OW.val rfl rfl (EX.move rfl) ?_
            refine OW.nil ?_
            refine KW.back2 (m + 1) ((r * 2 % 4294967296) ^^^ 79764919) ⟨rfl, rfl, rfl, rfl, rfl, rfl, trivial⟩ rfl ?_ (by omega)
            refine ⟨by omega, Nat.xor_lt_two_pow (n := 32) (by omega) (by omega), ?_⟩
            rw [citer_succ, ← hrc, cstep, if_pos hb]
          · refine KW.region ?_
            refine OW.val rfl rfl (EX.move rfl) ?_
            refine OW.val rfl rfl (by first | exact EX.shlN (s := 1) (p := 2) (m := 4294967295) rfl rfl (by decide) (by decide) rfl (by omega) | exact EX.shlW (s := 1) (p := 2) (m := 4294967296) rfl rfl (by decide) (by decide) rfl (by decide)) ?_
            refine OW.val rfl rfl (EX.assign rfl) ?_
            refine OW.nil ?_
            refine KW.leave (KW.region ?_)
            refine OW.val rfl rfl (by first | exact EX.addN (b := 1) (m := 9223372036854775807) rfl rfl rfl (by omega) | exact EX.addZ (m := 9223372036854775807) rfl rfl rfl rfl (by omega)) ?_
            refine OW.val rfl rfl (EX.move rfl) ?_
            refine OW.nil ?_
            refine KW.back2 (m + 1) (r * 2 % 4294967296) ⟨rfl, rfl, rfl, rfl, rfl, rfl, trivial⟩ rfl ?_ (by omega)
            refine ⟨by omega, by omega, ?_⟩
            rw [citer_succ, ← hrc, cstep, if_neg hb]
        · refine KW.exit rfl (KW.region ?_)
          refine OW.val rfl rfl (EX.move rfl) ?_
          refine OW.val rfl rfl (EX.move rfl) ?_
          refine OW.val rfl rfl (by first | exact EX.indexAddrA0 Tryz.underlying148 ti68 rfl rfl (by omega) | exact EX.indexAddrA1 Tryz.underlying148 ti68 rfl rfl (by omega)) ?_
          refine OW.eff rfl (EU.storeBk ti68 rfl rfl rfl (hb1) (by omega)) ?_
          refine OW.nil ?_
          refine KW.leave (KW.region ?_)
          refine OW.val rfl rfl (by first | exact EX.addN (b := 1) (m := 9223372036854775807) rfl rfl rfl (by omega) | exact EX.addZ (m := 9223372036854775807) rfl rfl rfl rfl (by omega)) ?_
          refine OW.val rfl rfl (EX.move rfl) ?_
          refine OW.nil ?_
          obtain rfl : m = 8 := by omega
          refine KW.back3 (k + 1) (l.set k (.int .u32 r)) (_) ⟨rfl, rfl, rfl, trivial⟩ rfl ?_ (by omega)
          refine ⟨by omega, by simpa using hl, fun j hjk => ?_, hb1.set k _, hb0.far (by simp) _, Below.setCell hx (by simp) _⟩
          rcases Nat.lt_or_ge j k with h1 | h1
          · rw [List.getElem?_set_ne (by omega)]; exact hj j h1
          · obtain rfl : j = k := by omega
            rw [List.getElem?_set_self (by omega), hrc]; rfl
    · refine KW.exit rfl (KW.seq (KW.region ?_))
      obtain rfl : k = 256 := by omega
      have hlt : l = tabV := by
        apply List.ext_getElem?
        intro j
        rcases Nat.lt_or_ge j 256 with h1 | h1
        · rw [hj j h1, tabV_get j h1]
        · rw [List.getElem?_eq_none (by omega), List.getElem?_eq_none (by rw [tabV_length]; exact h1)]
      subst hlt
      refine OW.val rfl rfl (EX.loadBk Tryz.underlying148 rfl ti_tab rfl hb1 tabV_length) ?_
      refine OW.storeW rfl ti_tab rfl rfl tabV_length (List.all_eq_true.2 fun v hv => by obtain ⟨_, _, rfl⟩ := List.mem_map.1 hv; rfl) hb0 List.length_replicate ?_
      intro w' hb' hg
      refine OW.nil ?_
      refine KW.ret (retA rfl rfl Tryz.underlying148 rfl ti_tab hb' tabV_length ?_)
      exact ⟨rfl, hx.grown hg (fun g hg => by cases hg; omega)⟩

end Go.Proofs.YthgfdpcpbghkpaaGreatDoor
/- crc: what the reference's functions compute. -/
namespace Go.Proofs.YthgfdpcpbghkpaaGreatDoor
set_option linter.unnecessarySimpa false
set_option linter.unusedSimpArgs false
open Go.RowKit
set_option linter.unusedVariables false

theorem of_s (s : List UInt8) (hs : s.length ≤ 1000000) (w : World) :
    Ret Tryz.prog 90 [str s] w fun v w' => Own w' w.heap.size 3 1 v (8 * s.length) (ints .i64 (bitsOf s)) ∧ Ext w w' := by
  refine Ret.enter Tryz.func90 rfl Tryz.ntmps90 (by kernel_rfl) rfl ?_
  refine KW.seq (KW.region ?_)
  refine OW.val rfl rfl (EX.assign rfl) ?_
  refine OW.nil ?_
  refine KW.seq (KW.region ?_)
  refine OW.val rfl rfl (EX.assign rfl) ?_
  refine OW.nil ?_
  refine KW.seq (KW.seq (KW.region ?_))
  refine OW.val rfl rfl (EX.assign rfl) ?_
  refine OW.nil ?_
  refine KW.block ?_
  refine KW.loop3 (fun (k : Nat) (v : Value) (wr : World) => k ≤ s.length ∧ Own wr w.heap.size 3 1 v (8 * k) (ints .i64 (bitsOf (s.take k))) ∧ Ext w wr) (fun (k : Nat) (v : Value) (wr : World) => [(0, str (s)), (3, v), (4, .int .i64 ((k : Nat) : Int))]) (fun (k : Nat) (v : Value) (wr : World) => wr) (fun (k : Nat) (v : Value) (wr : World) => s.length - k) (0) (.slice none 0 0) (w) ⟨rfl, rfl, rfl, trivial⟩ rfl ?_ ?_
  · exact ⟨by omega, Own.nil _ _ _ _, Ext.refl w⟩
  · rintro k v wr ⟨hk, hown, hx⟩
    refine KW.seq (KW.seq (KW.region ?_))
    refine OW.val rfl rfl (EX.move rfl) ?_
    refine OW.val rfl rfl (EX.move rfl) ?_
    refine OW.val rfl rfl (EX.lenS Tryz.underlying9 rfl) ?_
    refine OW.val rfl rfl (by first | exact EX.lssN rfl rfl | exact EX.lssZ rfl rfl) ?_
    refine OW.nil ?_
    refine KW.condD rfl (fun h => ?_) (fun h => ?_)
    · refine KW.skip (KW.seq (KW.block (KW.seq (KW.region ?_))))
      refine OW.val rfl rfl (EX.assign rfl) ?_
      refine OW.nil ?_
      refine KW.block ?_
      have hc : s[k].toNat < 256 := s[k].toNat_lt
      refine KW.loop3 (fun (j : Nat) (v2 : Value) (w2 : World) => j ≤ 8 ∧ Own w2 w.heap.size 3 1 v2 (8 * k + j) (ints .i64 (bitsOf (s.take k) ++ (bits8 s[k].toNat).take j)) ∧ Ext w w2) (fun (j : Nat) (v2 : Value) (w2 : World) => [(0, str (s)), (3, v2), (4, .int .i64 ((k : Nat) : Int)), (5, .int .i64 ((7 - (j : Int)) : Int))]) (fun (j : Nat) (v2 : Value) (w2 : World) => w2) (fun (j : Nat) (v2 : Value) (w2 : World) => 8 - j) (0) (v) (wr) ⟨rfl, rfl, rfl, rfl, trivial⟩ rfl ?_ ?_
      · exact ⟨by omega, by simpa using hown, hx⟩
      · rintro j v2 w2 ⟨hj, hown2, hx2⟩
        refine KW.seq (KW.seq (KW.region ?_))
        refine OW.val rfl rfl (EX.move rfl) ?_
        refine OW.val rfl rfl (by first | exact EX.geqN (b := 0) rfl rfl | exact EX.geqZ rfl rfl) ?_
        refine OW.nil ?_
        refine KW.condD rfl (fun h2 => ?_) (fun h2 => ?_)
        · refine KW.as 5 (.int .i64 (((7 - j) : Nat) : Int)) rfl (by congr 1; omega) ?_
          refine KW.skip (KW.seq (KW.block (KW.region ?_)))
          refine OW.val rfl rfl (EX.move rfl) ?_
          refine OW.val rfl rfl (EX.move rfl) ?_
          refine OW.val rfl rfl (EX.move rfl) ?_
          refine OW.val rfl rfl (EX.indexS Tryz.underlying9 rfl rfl (List.getElem?_eq_getElem (by omega))) ?_
          refine OW.val rfl rfl (by first | exact EX.convN (m := 9223372036854775807) Tryz.underlying5 Tryz.underlying3 rfl rfl (by omega) | exact EX.convZ Tryz.underlying5 Tryz.underlying3 rfl) ?_
          refine OW.val rfl rfl (EX.move rfl) ?_
          refine OW.val rfl rfl (by first | exact EX.convN (m := 18446744073709551615) Tryz.underlying3 Tryz.underlying141 rfl rfl (by omega) | exact EX.convW (m := 18446744073709551616) Tryz.underlying3 Tryz.underlying141 rfl rfl (by decide) | exact EX.convZ Tryz.underlying3 Tryz.underlying141 rfl) ?_
          have hb : s[k].toNat / 2 ^ (7 - j) ≤ s[k].toNat := Nat.div_le_self _ _
          refine OW.val rfl rfl (EX.shrN rfl rfl rfl (by show 7 - j ≤ 64; omega)) ?_
          refine OW.val rfl rfl (EX.maskN (b := 1) (j := 1) (p := 2) (m := 9223372036854775807) rfl rfl (by decide) (by decide) rfl (by omega)) ?_
          refine OW.push rfl rfl (fun _ => rfl) rfl Tryz.underlying151 ti3 rfl rfl (fun _ => rfl) rfl (hx2) (hown2) (by simp only [maxLen]; omega) (by omega) ?_
          rintro _ v' w' hown' hx' _ _
          refine OW.val rfl rfl (EX.assign rfl) ?_
          refine OW.nil ?_
          refine KW.leave (KW.region ?_)
          refine OW.val rfl rfl (EX.move rfl) ?_
          refine OW.val rfl rfl (by first | exact EX.subN (b := 1) (m := 9223372036854775807) rfl rfl rfl (by omega) | exact EX.subZ (m := 9223372036854775807) rfl rfl rfl rfl (by omega)) ?_
          refine OW.val rfl rfl (EX.assign rfl) ?_
          refine OW.nil ?_
          refine KW.as 5 (.int .i64 ((7 - ((j + 1 : Nat) : Int)) : Int)) rfl (by congr 1; omega) ?_
          refine KW.back3 (j + 1) (v') (w') ⟨rfl, rfl, rfl, rfl, trivial⟩ rfl ?_ (by omega)
          refine ⟨by omega, ?_, hx'⟩
          rw [bits8_snoc _ _ (by omega), ← List.append_assoc, ints_append _ (bitsOf (s.take k) ++ _)]
          exact hown'
        · refine KW.exit rfl (KW.leave (KW.region ?_))
          refine OW.val rfl rfl (EX.move rfl) ?_
          refine OW.val rfl rfl (by first | exact EX.addN (b := 1) (m := 9223372036854775807) rfl rfl rfl (by omega) | exact EX.addZ (m := 9223372036854775807) rfl rfl rfl rfl (by omega)) ?_
          refine OW.val rfl rfl (EX.assign rfl) ?_
          refine OW.nil ?_
          obtain rfl : j = 8 := by omega
          refine KW.back3 (k + 1) (v2) (w2) ⟨rfl, rfl, rfl, trivial⟩ rfl ?_ (by omega)
          refine ⟨by omega, ?_, hx2⟩
          rw [take_snoc s k h, bitsOf_snoc]
          rw [List.take_of_length_le (l := bits8 s[k].toNat) (by rw [bits8_length]; exact Nat.le_refl _)] at hown2
          exact hown2
    · refine KW.exit rfl (KW.seq (KW.region ?_))
      refine OW.val rfl rfl (EX.move rfl) ?_
      refine OW.val rfl rfl (EX.assign rfl) ?_
      refine OW.nil ?_
      refine KW.ret (ret1 rfl rfl ?_)
      obtain rfl : k = s.length := by omega
      rw [List.take_length] at hown
      exact ⟨hown, hx⟩

theorem bits_s (v n : Nat) (hv : v < 18446744073709551616) (hn : n ≤ 64) (w : World) :
    Ret Tryz.prog 91 [.int .u64 v, .int .i64 n] w fun r w' => ∃ u, r = .tuple #[u, .bool (decide (v / 2 ^ n = 0))] ∧ Own w' w.heap.size 3 1 u n (ints .i64 (bitsN n v)) ∧ Ext w w' := by
  refine Ret.enter Tryz.func91 rfl Tryz.ntmps91 (by kernel_rfl) rfl ?_
  refine KW.seq (KW.region ?_)
  refine OW.val rfl rfl (EX.assign rfl) ?_
  refine OW.val rfl rfl (EX.assign rfl) ?_
  refine OW.nil ?_
  refine KW.seq (KW.seq ?_)
  refine KW.region ?_
  refine OW.val rfl rfl (EX.move rfl) ?_
  refine OW.val rfl rfl (by first | exact EX.lssN (b := 0) rfl rfl | exact EX.lssZ rfl rfl) ?_
  refine OW.val rfl rfl (EX.move rfl) ?_
  refine OW.as 10 (.bool false) rfl (congrArg Value.bool (decide_eq_false (by omega))) ?_
  refine OW.val rfl rfl (EX.move rfl) ?_
  refine OW.val rfl rfl (by first | exact EX.gtrN (b := 64) rfl rfl | exact EX.gtrZ rfl rfl) ?_
  refine OW.val rfl rfl (EX.pickF rfl rfl) ?_
  refine OW.nil ?_
  refine KW.as 13 (.bool false) rfl (congrArg Value.bool (decide_eq_false (by omega))) ?_
  refine KW.condF rfl (KW.skip (KW.seq (KW.region ?_)))
  refine OW.val rfl rfl (EX.move rfl) ?_
  refine OW.val rfl rfl (EX.makeSlice Tryz.underlying151 ti3 rfl rfl rfl (by omega) (by omega)) ?_
  refine OW.val rfl rfl (EX.assign rfl) ?_
  refine OW.nil ?_
  refine KW.seq (KW.seq (KW.region ?_))
  refine OW.val rfl rfl (EX.move rfl) ?_
  refine OW.val rfl rfl (by first | exact EX.subN (b := 1) (m := 9223372036854775807) rfl rfl rfl (by omega) | exact EX.subZ (m := 9223372036854775807) rfl rfl rfl rfl (by omega)) ?_
  refine OW.val rfl rfl (EX.assign rfl) ?_
  refine OW.nil ?_
  refine KW.block ?_
  have hmk := Own.of_bk (B := w.heap.size) (s := 1) (Bk.new w 3 (List.replicate n (.int .i64 0))) (Nat.le_refl _) (by simp) (cap := n) (by simp only [maxLen]; omega)
  refine KW.as 7 (.int .i64 (((n : Int) - 1 - ((0 : Nat) : Int)) : Int)) rfl (by simp) ?_
  refine KW.loop4 (fun (j : Nat) (x : Nat) (l : List Value) (wr : World) => j ≤ n ∧ x = v / 2 ^ j ∧ Own wr w.heap.size 3 1 (.slice (some ⟨w.heap.size, 0, none⟩) n n) n l ∧ (∀ i, n - j ≤ i → i < n → l[i]? = some (.int .i64 (v / 2 ^ (n - 1 - i) % 2 : Nat))) ∧ Ext w wr) (fun (j : Nat) (x : Nat) (l : List Value) (wr : World) => [(0, .int .u64 ((x : Nat) : Int)), (6, .slice (some ⟨w.heap.size, 0, none⟩) n n), (7, .int .i64 (((n : Int) - 1 - (j : Int)) : Int))]) (fun (j : Nat) (x : Nat) (l : List Value) (wr : World) => wr) (fun (j : Nat) (x : Nat) (l : List Value) (wr : World) => n - j) (0) (v) (List.replicate n (.int .i64 0)) (_) ⟨rfl, rfl, rfl, trivial⟩ rfl ?_ ?_
  · exact ⟨by omega, by simp, hmk, fun i h1 h2 => absurd h1 (by omega), Ext.alloc w _⟩
  · rintro j x l wr ⟨hj, hx, hown, hl, hext⟩
    have hxl : x ≤ v := by rw [hx]; exact Nat.div_le_self _ _
    refine KW.seq (KW.seq (KW.region ?_))
    refine OW.val rfl rfl (EX.move rfl) ?_
    refine OW.val rfl rfl (by first | exact EX.geqN (b := 0) rfl rfl | exact EX.geqZ rfl rfl) ?_
    refine OW.nil ?_
    refine KW.condD rfl (fun h => ?_) (fun h => ?_)
    · obtain ⟨i, hi⟩ : ∃ i, i = n - 1 - j := ⟨_, rfl⟩
      refine KW.as 7 (.int .i64 ((i : Nat) : Int)) rfl (by congr 1; omega) ?_
      refine KW.skip (KW.seq (KW.block (KW.seq (KW.region ?_))))
      refine OW.val rfl rfl (EX.move rfl) ?_
      refine OW.val rfl rfl (EX.move rfl) ?_
      refine OW.val rfl rfl (EX.move rfl) ?_
      refine OW.val rfl rfl (EX.remN (b := 2) rfl rfl (by omega)) ?_
      refine OW.val rfl rfl (by first | exact EX.convN (m := 9223372036854775807) Tryz.underlying122 Tryz.underlying3 rfl rfl (by omega) | exact EX.convZ Tryz.underlying122 Tryz.underlying3 rfl) ?_
      refine OW.val rfl rfl (by first | exact EX.indexAddrS0 Tryz.underlying151 ti3 rfl rfl (by omega) | exact EX.indexAddrS1 Tryz.underlying151 ti3 rfl rfl (by omega)) ?_
      obtain ⟨g', cap', rest, hve, _, hbk, _⟩ := hown.blk (by have := hown.1; omega)
      simp only [Value.slice.injEq, Option.some.injEq, Addr.mk.injEq, and_true, true_and] at hve
      obtain ⟨rfl, rfl⟩ := hve
      have hln : l.length = n := by have := hown.1; omega
      refine OW.eff rfl (EU.storeBk ti3 rfl rfl rfl (hbk) (by simp; omega)) ?_
      refine OW.nil ?_
      refine KW.region ?_
      refine OW.val rfl rfl (EX.move rfl) ?_
      refine OW.val rfl rfl (EX.quoN (b := 2) (m := 18446744073709551615) rfl rfl rfl (by omega)) ?_
      refine OW.val rfl rfl (EX.assign rfl) ?_
      refine OW.nil ?_
      refine KW.leave (KW.region ?_)
      refine OW.val rfl rfl (EX.move rfl) ?_
      refine OW.val rfl rfl (by first | exact EX.subN (b := 1) (m := 9223372036854775807) rfl rfl rfl (by omega) | exact EX.subZ (m := 9223372036854775807) rfl rfl rfl rfl (by omega)) ?_
      refine OW.val rfl rfl (EX.assign rfl) ?_
      refine OW.nil ?_
      have hset := hown.set i (by omega) (.int .i64 (x % 2 : Nat))
      refine KW.as 7 (.int .i64 (((n : Int) - 1 - ((j + 1 : Nat) : Int)) : Int)) rfl (by congr 1; omega) ?_
      refine KW.back4 (j + 1) (x / 2) (l.set i (.int .i64 (x % 2 : Nat))) (_) ⟨rfl, rfl, rfl, trivial⟩ rfl ?_ (by omega)
      refine ⟨by omega, by rw [hx, Nat.div_div_eq_div_mul, Nat.pow_succ], hset.1, fun i' h1 h2 => ?_, hext.grown hset.2 (fun g hg => by cases hg; exact Nat.le_refl _)⟩
      rcases Nat.lt_or_ge i i' with h3 | h3
      · rw [List.getElem?_set_ne (by omega)]; exact hl i' (by omega) h2
      · obtain rfl : i' = i := by omega
        rw [List.getElem?_set_self (by omega), hx, show n - 1 - i' = j by omega]
    · refine KW.exit rfl (KW.seq (KW.region ?_))
      refine OW.val rfl rfl (EX.move rfl) ?_
      refine OW.val rfl rfl (EX.move rfl) ?_
      refine OW.val rfl rfl (by first | exact EX.eqlN (b := 0) rfl rfl | exact EX.eqlZ rfl rfl) ?_
      refine OW.val rfl rfl (EX.assign rfl) ?_
      refine OW.val rfl rfl (EX.assign rfl) ?_
      refine OW.nil ?_
      refine KW.ret (ret2 rfl rfl rfl ?_)
      obtain rfl : j = n := by omega
      refine ⟨_, by rw [hx], ?_, hext⟩
      have : l = ints .i64 (bitsN j v) := by
        apply List.ext_getElem?
        intro i
        have hln : l.length = j := by have := hown.1; omega
        rcases Nat.lt_or_ge i j with h1 | h1
        · rw [hl i (by omega) h1]; simp [ints, bitsN_get _ _ _ h1]
        · rw [List.getElem?_eq_none (by omega), List.getElem?_eq_none (by simp [ints, bitsN_length]; omega)]
      rw [← this]
      exact hown

theorem ints_get {k : IntKind} {l : List Nat} {i : Nat} (h : i < l.length) : (ints k l)[i]? = some (.int k (l[i] : Nat)) := by simp [ints, h]

theorem number_s (l : List Nat) (A : Option Addr) (c : Nat) (hl : ∀ x ∈ l, x ≤ 1) (hn : l.length ≤ 60) (w : World) (B : Nat) (hs : Sl w B A (ints .i64 l)) :
    Ret Tryz.prog 94 [.slice A l.length c] w fun r w' => r = .int .u64 (numN l : Nat) ∧ w = w' := by
  refine Ret.enter Tryz.func94 rfl Tryz.ntmps94 (by kernel_rfl) rfl ?_
  refine KW.seq (KW.region ?_)
  refine OW.val rfl rfl (EX.assign rfl) ?_
  refine OW.nil ?_
  refine KW.seq (KW.region ?_)
  refine OW.val rfl rfl (EX.assign rfl) ?_
  refine OW.nil ?_
  refine KW.seq (KW.seq (KW.region ?_))
  refine OW.val rfl rfl (EX.assign rfl) ?_
  refine OW.nil ?_
  refine KW.block ?_
  refine KW.loop2 (fun (i : Nat) (v : Nat) => i ≤ l.length ∧ v = numN (l.take i) ∧ v < 1152921504606846976) (fun (i : Nat) (v : Nat) => [(0, .slice A l.length c), (3, .int .u64 ((v : Nat) : Int)), (4, .int .i64 ((i : Nat) : Int))]) (fun (i : Nat) (v : Nat) => w) (fun (i : Nat) (v : Nat) => l.length - i) (0) (0) ⟨rfl, rfl, rfl, trivial⟩ rfl ?_ ?_
  · exact ⟨by omega, by simp [numN], by omega⟩
  · rintro i v ⟨hi, hv, hvb⟩
    refine KW.seq (KW.seq (KW.region ?_))
    refine OW.val rfl rfl (EX.move rfl) ?_
    refine OW.val rfl rfl (EX.move rfl) ?_
    refine OW.val rfl rfl (EX.lenA Tryz.underlying151 rfl) ?_
    refine OW.val rfl rfl (by first | exact EX.lssN rfl rfl | exact EX.lssZ rfl rfl) ?_
    refine OW.nil ?_
    refine KW.condD rfl (fun h => ?_) (fun h => ?_)
    · obtain ⟨b, o, rfl, _, hc⟩ := hs.at_ (by rw [ints_length]; omega)
      have hx1 := hl l[i] (by simp)
      refine KW.skip (KW.seq (KW.block (KW.region ?_)))
      refine OW.val rfl rfl (EX.move rfl) ?_
      refine OW.val rfl rfl (by first | exact EX.mulN (b := 2) (m := 18446744073709551615) rfl rfl rfl (by omega) | exact EX.mulW (b := 2) (m := 18446744073709551616) rfl rfl rfl (by decide)) ?_
      refine OW.val rfl rfl (EX.move rfl) ?_
      refine OW.val rfl rfl (EX.move rfl) ?_
      refine OW.val rfl rfl (by first | exact EX.indexAddrS0 Tryz.underlying151 ti3 rfl rfl (by omega) | exact EX.indexAddrS1 Tryz.underlying151 ti3 rfl rfl (by omega)) ?_
      refine OW.val rfl rfl (EX.load Tryz.underlying3 rfl rfl (hc i _ (ints_get h))) ?_
      refine OW.val rfl rfl (by first | exact EX.convN (m := 18446744073709551615) Tryz.underlying3 Tryz.underlying122 rfl rfl (by omega) | exact EX.convW (m := 18446744073709551616) Tryz.underlying3 Tryz.underlying122 rfl rfl (by decide) | exact EX.convZ Tryz.underlying3 Tryz.underlying122 rfl) ?_
      refine OW.val rfl rfl (by first | exact EX.addN (m := 18446744073709551615) rfl rfl rfl (by omega) | exact EX.addW (m := 18446744073709551616) rfl rfl rfl (by decide)) ?_
      refine OW.val rfl rfl (EX.assign rfl) ?_
      refine OW.nil ?_
      refine KW.leave (KW.region ?_)
      refine OW.val rfl rfl (EX.move rfl) ?_
      refine OW.val rfl rfl (by first | exact EX.addN (b := 1) (m := 9223372036854775807) rfl rfl rfl (by omega) | exact EX.addZ (m := 9223372036854775807) rfl rfl rfl rfl (by omega)) ?_
      refine OW.val rfl rfl (EX.assign rfl) ?_
      refine OW.nil ?_
      have hnew : v * 2 + l[i] = numN (l.take (i + 1)) := by rw [take_snoc l i h, numN_snoc, hv]
      have hlt : v * 2 + l[i] < 1152921504606846976 := by
        rw [hnew]
        refine Nat.lt_of_lt_of_le (numN_lt _ fun x hx => hl x (List.mem_of_mem_take hx)) ?_
        exact Nat.le_trans (Nat.pow_le_pow_right (by decide) (by rw [List.length_take]; omega)) (show 2 ^ 60 ≤ 1152921504606846976 by decide)
      refine KW.back2 (i + 1) (v * 2 + l[i]) ⟨rfl, rfl, rfl, trivial⟩ rfl ?_ (by omega)
      exact ⟨by omega, hnew, hlt⟩
    · refine KW.exit rfl (KW.seq (KW.region ?_))
      refine OW.val rfl rfl (EX.move rfl) ?_
      refine OW.val rfl rfl (EX.assign rfl) ?_
      refine OW.nil ?_
      refine KW.ret (ret1 rfl rfl ?_)
      rw [List.take_of_length_le (by omega)] at hv
      exact ⟨by rw [hv], rfl⟩

end Go.Proofs.YthgfdpcpbghkpaaGreatDoor
/- crc: the reference's division. -/
namespace Go.Proofs.YthgfdpcpbghkpaaGreatDoor
set_option linter.unnecessarySimpa false
set_option linter.unusedSimpArgs false
open Go.RowKit
set_option linter.unusedVariables false

theorem poly_s (w : World) : Ret Tryz.prog 129 [] w fun v w' => Own w' w.heap.size 3 1 v 33 (ints .i64 polyP) ∧ Ext w w' := by
  refine Ret.enter Tryz.func129 rfl Tryz.ntmps129 (by kernel_rfl) rfl ?_
  refine KW.seq (KW.region ?_)
  refine OW.val rfl rfl (EX.assign rfl) ?_
  refine OW.nil ?_
  refine KW.seq (KW.region ?_)
  refine OW.call rfl rfl rfl (bits_s 4374732215 33 (by omega) (by omega) _) ?_
  rintro _ w1 ⟨u, rfl, hown, hx⟩
  refine OW.val rfl rfl (EX.move rfl) ?_
  refine OW.val rfl rfl (EX.extract rfl rfl) ?_
  refine OW.val rfl rfl (EX.extract rfl rfl) ?_
  refine OW.val rfl rfl (EX.assign rfl) ?_
  refine OW.val rfl rfl (EX.assign rfl) ?_
  refine OW.nil ?_
  refine KW.seq (KW.region ?_)
  refine OW.val rfl rfl (EX.move rfl) ?_
  refine OW.val rfl rfl (EX.assign rfl) ?_
  refine OW.nil ?_
  refine KW.ret (ret1 rfl rfl ?_)
  exact ⟨hown, hx⟩

/-- a cell of a block whose head reads as numbers -/
theorem bk_int {w : World} {b : Nat} {T : TypeId} {l : List Nat} {rest : List Value} {kd : IntKind} (h : Bk w b T (ints kd l ++ rest)) {i : Nat} (hi : i < l.length) : w.cell? ⟨b, i, none⟩ = some (.int kd (l[i] : Nat)) :=
  h.cell_of (by rw [List.getElem?_append_left (by rw [ints_length]; exact hi)]; exact ints_get hi)
theorem ints_set (k : IntKind) (l : List Nat) (i x : Nat) : (ints k l).set i (.int k (x : Nat)) = ints k (l.set i x) := by
  simp [ints, List.map_set]
theorem bk_set {w : World} {b : Nat} {T : TypeId} {l : List Nat} {rest : List Value} {kd : IntKind} (h : Bk w b T (ints kd l ++ rest)) {i : Nat} (hi : i < l.length) (x : Nat) : Bk (w.setCell ⟨b, i, none⟩ (.int kd (x : Nat))) b T (ints kd (l.set i x) ++ rest) := by
  have := h.set i (.int kd (x : Nat))
  rw [List.set_append_left _ _ (by rw [ints_length]; exact hi), ints_set] at this
  exact this

theorem rest_s (l : List Nat) (A : Option Addr) (c : Nat) (hl : ∀ x ∈ l, x ≤ 1) (h32 : 32 ≤ l.length) (hn : l.length ≤ 10000000) (w : World) (B : Nat) (hs : Sl w B A (ints .i64 l)) :
    Ret Tryz.prog 115 [.slice A l.length c] w fun r w' => ∃ A' c', r = .slice A' 32 c' ∧ Sl w' w'.heap.size A' (ints .i64 (restN l)) ∧ Ext w w' := by
  refine Ret.enter Tryz.func115 rfl Tryz.ntmps115 (by kernel_rfl) rfl ?_
  refine KW.seq (KW.region ?_)
  refine OW.val rfl rfl (EX.assign rfl) ?_
  refine OW.nil ?_
  refine KW.seq (KW.region ?_)
  refine OW.call rfl rfl rfl (poly_s w) ?_
  rintro u w1 ⟨hpo, hx1⟩
  refine OW.val rfl rfl (EX.assign rfl) ?_
  refine OW.nil ?_
  refine KW.seq (KW.region ?_)
  refine OW.val rfl rfl (EX.buildSlice 0 Tryz.underlying151 ti3 rfl rfl rfl rfl rfl (by decide)) ?_
  refine OW.val rfl rfl (EX.move rfl) ?_
  have hemp := Own.of_bk (B := w.heap.size) (s := 1) (cap := 0) (Bk.new w1 3 []) hx1.size (by simp) (by simp only [maxLen]; omega)
  have hx2 : Ext w (w1.alloc (.cells [].toArray 3)) := hx1.trans (Ext.alloc _ _)
  refine OW.appendX rfl rfl Tryz.underlying151 ti3 rfl (by decide) rfl rfl (hx2) (hemp) (Src.of_sl Tryz.underlying151 ((hs.ext hx2)) (by rw [ints_length]; omega) ints_one (by decide)) (by simp only [maxLen]; omega) (by omega) ?_
  rintro v w2 hown hext hgr hob
  refine OW.val rfl rfl (EX.assign rfl) ?_
  refine OW.nil ?_
  refine KW.seq (KW.seq (KW.region ?_))
  refine OW.val rfl rfl (EX.assign rfl) ?_
  refine OW.nil ?_
  refine KW.block ?_
  obtain ⟨gv, capv, rv, rfl, hgB, hbv, hlv, hcv, hmv⟩ := hown.blk (by rw [List.length_append, ints_length]; omega)
  obtain ⟨gp, capp, rp, rfl, _, hbp, _⟩ := hpo.blk (by rw [ints_length, polyP_length]; omega)
  have hne : gp ≠ gv := by
    have h1 := hbp.lt
    rcases hob with h | h
    · simp [Value.ownBlock] at h; omega
    · simp [Value.ownBlock] at h; omega
  have hbp2 := (hbp.alloc (.cells [].toArray 3)).grown hgr (by simp [Value.ownBlock]; have := hbp.lt; omega)
  rw [List.nil_append] at hbv
  simp only [Nat.zero_add]
  refine KW.loop3 (fun (i : Nat) (d : List Nat) (wr : World) => i ≤ l.length - 32 ∧ d.length = l.length ∧ (∀ x ∈ d, x ≤ 1) ∧ divB (l.length - 32 - i) (d.drop i) = restN l ∧ Bk wr gv 3 (ints .i64 d ++ rv) ∧ Bk wr gp 3 (ints .i64 polyP ++ rp) ∧ Ext w wr) (fun (i : Nat) (d : List Nat) (wr : World) => [(3, .slice (some ⟨gp, 0, none⟩) 33 capp), (4, .slice (some ⟨gv, 0, none⟩) l.length capv), (5, .int .i64 ((i : Nat) : Int))]) (fun (i : Nat) (d : List Nat) (wr : World) => wr) (fun (i : Nat) (d : List Nat) (wr : World) => l.length - i) (0) (l) (w2) ⟨rfl, rfl, rfl, trivial⟩ rfl ?_ ?_
  · exact ⟨by omega, rfl, hl, rfl, hbv, hbp2, hext⟩
  · rintro i d wr ⟨hi, hdl, hd1, hdiv, hbv, hbp, hx⟩
    refine KW.seq (KW.seq (KW.region ?_))
    refine OW.val rfl rfl (EX.move rfl) ?_
    refine OW.val rfl rfl (by first | exact EX.addN (b := 32) (m := 9223372036854775807) rfl rfl rfl (by omega) | exact EX.addZ (m := 9223372036854775807) rfl rfl rfl rfl (by omega)) ?_
    refine OW.val rfl rfl (EX.move rfl) ?_
    refine OW.val rfl rfl (EX.lenA Tryz.underlying151 rfl) ?_
    refine OW.val rfl rfl (by first | exact EX.lssN rfl rfl | exact EX.lssZ rfl rfl) ?_
    refine OW.nil ?_
    refine KW.condD rfl (fun h => ?_) (fun h => ?_)
    · refine KW.skip (KW.seq (KW.block (KW.seq (KW.region ?_))))
      refine OW.val rfl rfl (EX.move rfl) ?_
      refine OW.val rfl rfl (EX.move rfl) ?_
      refine OW.val rfl rfl (by first | exact EX.indexAddrS0 Tryz.underlying151 ti3 rfl rfl (by omega) | exact EX.indexAddrS1 Tryz.underlying151 ti3 rfl rfl (by omega)) ?_
      have hid : i < d.length := by omega
      refine OW.val rfl rfl (EX.load Tryz.underlying3 rfl rfl (bk_int hbv hid)) ?_
      refine OW.val rfl rfl (by first | exact EX.eqlN (b := 1) rfl rfl | exact EX.eqlZ rfl rfl) ?_
      refine OW.nil ?_
      have hdrop : d.drop i = d[i] :: d.drop (i + 1) := List.drop_eq_getElem_cons hid
      have hdiv2 : divB (l.length - 32 - (i + 1)) (divStep (d.drop i)) = restN l := by
        rw [show l.length - 32 - i = (l.length - 32 - (i + 1)) + 1 by omega, divB] at hdiv
        exact hdiv
      refine KW.condD rfl (fun h1 => ?_) (fun h1 => ?_)
      · refine KW.seq (KW.region ?_)
        refine OW.val rfl rfl (EX.assign rfl) ?_
        refine OW.nil ?_
        refine KW.block ?_
        refine KW.loop3 (fun (k : Nat) (e : List Nat) (w3 : World) => k ≤ 33 ∧ e.length = l.length ∧ (∀ j, e[j]? = (d[j]?).map fun x => if i ≤ j ∧ j < i + k then (x + polyP.getD (j - i) 0) % 2 else x) ∧ Bk w3 gv 3 (ints .i64 e ++ rv) ∧ Bk w3 gp 3 (ints .i64 polyP ++ rp) ∧ Ext w w3) (fun (k : Nat) (e : List Nat) (w3 : World) => [(3, .slice (some ⟨gp, 0, none⟩) 33 capp), (4, .slice (some ⟨gv, 0, none⟩) l.length capv), (5, .int .i64 ((i : Nat) : Int)), (6, .int .i64 ((k : Nat) : Int))]) (fun (k : Nat) (e : List Nat) (w3 : World) => w3) (fun (k : Nat) (e : List Nat) (w3 : World) => 33 - k) (0) (d) (wr) ⟨rfl, rfl, rfl, rfl, trivial⟩ rfl ?_ ?_
        · refine ⟨by omega, hdl, fun j => ?_, hbv, hbp, hx⟩
          have : ∀ x, (if i ≤ j ∧ j < i + 0 then (x + polyP.getD (j - i) 0) % 2 else x) = x := fun x => if_neg (by omega)
          simp only [this]
          simp
        · rintro k e w3 ⟨hk, hel, he, hbv3, hbp3, hx3⟩
          refine KW.seq (KW.seq (KW.region ?_))
          refine OW.val rfl rfl (EX.move rfl) ?_
          refine OW.val rfl rfl (by first | exact EX.lssN (b := 33) rfl rfl | exact EX.lssZ rfl rfl) ?_
          refine OW.nil ?_
          refine KW.condD rfl (fun h33 => ?_) (fun h33 => ?_)
          · refine KW.skip (KW.seq (KW.block ?_))
            refine KW.regionH 17 (by kernel_rfl) (by kernel_rfl) ?_
            refine HW.val rfl rfl (EX.move rfl) ?_
            refine HW.val rfl rfl (EX.move rfl) ?_
            refine HW.val rfl rfl (EX.move rfl) ?_
            refine HW.val rfl rfl (by first | exact EX.addN (m := 9223372036854775807) rfl rfl rfl (by omega) | exact EX.addZ (m := 9223372036854775807) rfl rfl rfl rfl (by omega)) ?_
            refine HW.val rfl rfl (EX.move rfl) ?_
            refine HW.val rfl rfl (EX.move rfl) ?_
            refine HW.val rfl rfl (EX.move rfl) ?_
            refine HW.val rfl rfl (by first | exact EX.addN (m := 9223372036854775807) rfl rfl rfl (by omega) | exact EX.addZ (m := 9223372036854775807) rfl rfl rfl rfl (by omega)) ?_
            refine HW.val rfl rfl (by first | exact EX.indexAddrS0 Tryz.underlying151 ti3 rfl rfl (by omega) | exact EX.indexAddrS1 Tryz.underlying151 ti3 rfl rfl (by omega)) ?_
            have hik : i + k < e.length := by omega
            have hkp : k < polyP.length := by rw [polyP_length]; exact h33
            have hek : e[i + k] = d[i + k] := by
              have := he (i + k)
              rw [List.getElem?_eq_getElem hik, List.getElem?_eq_getElem (by omega)] at this
              simpa using this
            have hd2 : d[i + k] ≤ 1 := hd1 _ (by simp)
            have hp2 : polyP[k] ≤ 1 := polyP_le _ (by simp)
            refine HW.val rfl rfl (EX.load Tryz.underlying3 rfl rfl (bk_int (hbv3.drew) hik)) ?_
            refine HW.val rfl rfl (EX.move rfl) ?_
            refine HW.val rfl rfl (EX.move rfl) ?_
            refine HW.val rfl rfl (by first | exact EX.indexAddrS0 Tryz.underlying151 ti3 rfl rfl (by omega) | exact EX.indexAddrS1 Tryz.underlying151 ti3 rfl rfl (by omega)) ?_
            refine HW.val rfl rfl (EX.load Tryz.underlying3 rfl rfl (bk_int (hbp3.drew) hkp)) ?_
            refine HW.val rfl rfl (by first | exact EX.addN (m := 9223372036854775807) rfl rfl rfl (by omega) | exact EX.addZ (m := 9223372036854775807) rfl rfl rfl rfl (by omega)) ?_
            refine HW.val rfl rfl (by first | exact EX.remN (b := 2) rfl rfl (by omega) | exact EX.remZ rfl rfl (by decide)) ?_
            refine HW.val rfl rfl (by first | exact EX.indexAddrS0 Tryz.underlying151 ti3 rfl rfl (by omega) | exact EX.indexAddrS1 Tryz.underlying151 ti3 rfl rfl (by omega)) ?_
            refine HW.tail ?_
            refine OW.eff rfl (EU.storeBk ti3 rfl rfl rfl (hbv3.drew) (by simp [ints_length]; omega)) ?_
            refine OW.nil ?_
            refine KW.leave (KW.region ?_)
            refine OW.val rfl rfl (EX.move rfl) ?_
            refine OW.val rfl rfl (by first | exact EX.addN (b := 1) (m := 9223372036854775807) rfl rfl rfl (by omega) | exact EX.addZ (m := 9223372036854775807) rfl rfl rfl rfl (by omega)) ?_
            refine OW.val rfl rfl (EX.assign rfl) ?_
            refine OW.nil ?_
            refine KW.back3 (k + 1) (e.set (i + k) ((e[i + k] + polyP[k]) % 2)) (_) ⟨rfl, rfl, rfl, rfl, trivial⟩ rfl ?_ (by omega)
            refine ⟨by omega, by simpa using hel, fun j => ?_, bk_set hbv3.drew hik _, hbp3.drew.far (p := ⟨gv, i + k, none⟩) hne _, (Below.drew hx3).setCell (p := ⟨gv, i + k, none⟩) hgB _⟩
            rcases Nat.decEq j (i + k) with hj | hj
            · rw [List.getElem?_set_ne (by omega), he j]
              congr 1
              funext x
              by_cases hc : i ≤ j ∧ j < i + k
              · rw [if_pos hc, if_pos (by omega)]
              · rw [if_neg hc, if_neg (by omega)]
            · subst hj
              rw [List.getElem?_set_self (by omega), List.getElem?_eq_getElem (by omega)]
              simp only [Option.map_some]
              rw [if_pos (by omega), hek, show i + k - i = k by omega]
              simp [List.getD, hkp]
          · refine KW.exit rfl (KW.leave (KW.region ?_))
            refine OW.val rfl rfl (EX.move rfl) ?_
            refine OW.val rfl rfl (by first | exact EX.addN (b := 1) (m := 9223372036854775807) rfl rfl rfl (by omega) | exact EX.addZ (m := 9223372036854775807) rfl rfl rfl rfl (by omega)) ?_
            refine OW.val rfl rfl (EX.assign rfl) ?_
            refine OW.nil ?_
            obtain rfl : k = 33 := by omega
            refine KW.back3 (i + 1) (e) (w3) ⟨rfl, rfl, rfl, trivial⟩ rfl ?_ (by omega)
            have hadd : e.drop i = addP (d.drop i) polyP := addP_part (by rw [polyP_length]; exact he)
            refine ⟨by omega, hel, fun x hxm => ?_, ?_, hbv3, hbp3, hx3⟩
            · obtain ⟨j, hj, rfl⟩ := List.mem_iff_getElem.1 hxm
              have hjj := he j
              rw [List.getElem?_eq_getElem hj, List.getElem?_eq_getElem (by omega)] at hjj
              simp only [Option.map_some, Option.some.injEq] at hjj
              have := hd1 d[j] (by simp)
              rw [hjj]
              split <;> omega
            · have : e.drop (i + 1) = divStep (d.drop i) := by
                rw [← List.tail_drop, hadd, hdrop]
                simp only [divStep, if_pos h1]
              rw [this]
              exact hdiv2
      · refine KW.skip (KW.leave (KW.region ?_))
        refine OW.val rfl rfl (EX.move rfl) ?_
        refine OW.val rfl rfl (by first | exact EX.addN (b := 1) (m := 9223372036854775807) rfl rfl rfl (by omega) | exact EX.addZ (m := 9223372036854775807) rfl rfl rfl rfl (by omega)) ?_
        refine OW.val rfl rfl (EX.assign rfl) ?_
        refine OW.nil ?_
        refine KW.back3 (i + 1) (d) (wr) ⟨rfl, rfl, rfl, trivial⟩ rfl ?_ (by omega)
        refine ⟨by omega, hdl, hd1, ?_, hbv, hbp, hx⟩
        rw [hdrop] at hdiv2
        simp only [divStep, if_neg h1] at hdiv2
        exact hdiv2
    · refine KW.exit rfl (KW.seq (KW.region ?_))
      refine OW.val rfl rfl (EX.move rfl) ?_
      refine OW.val rfl rfl (EX.move rfl) ?_
      refine OW.val rfl rfl (EX.lenA Tryz.underlying151 rfl) ?_
      refine OW.val rfl rfl (by first | exact EX.subN (b := 32) (m := 9223372036854775807) rfl rfl rfl (by omega) | exact EX.subZ (m := 9223372036854775807) rfl rfl rfl rfl (by omega)) ?_
      have hsl : Sl wr wr.heap.size (some ⟨gv, 0, none⟩) (ints .i64 d) := by
        have := (Sl.of_bk (B := wr.heap.size) hbv hbv.lt).pre (ints .i64 d).length
        rwa [List.take_left] at this
      refine OW.sliceALE rfl rfl Tryz.underlying151 ti3 rfl rfl (by omega) (by omega) hsl (by rw [ints_length]; exact hdl) ?_
      intro A' hs'
      refine OW.val rfl rfl (EX.assign rfl) ?_
      refine OW.nil ?_
      refine KW.ret (ret1 rfl rfl ?_)
      obtain rfl : i = l.length - 32 := by omega
      refine ⟨A', _, by rw [show l.length - (l.length - 32) = 32 by omega], ?_, hx⟩
      rw [Nat.sub_self, divB] at hdiv
      rw [← hdiv]
      have : (ints .i64 d).drop (l.length - 32) = ints .i64 (d.drop (l.length - 32)) := by simp [ints, List.map_drop]
      rw [← this]
      exact hs'

theorem rmore_s (r : Nat) (hr : r < 4294967296) (s : List UInt8) (hs : s.length ≤ 100000) (w : World) :
    Ret Tryz.prog 107 [.int .u32 r, str s] w fun v w' => v = .int .u32 (rmore r s : Nat) ∧ Ext w w' := by
  refine Ret.enter Tryz.func107 rfl Tryz.ntmps107 (by kernel_rfl) rfl ?_
  refine KW.seq (KW.region ?_)
  refine OW.val rfl rfl (EX.assign rfl) ?_
  refine OW.nil ?_
  refine KW.seq (KW.region ?_)
  refine OW.val rfl rfl (EX.move rfl) ?_
  refine OW.call rfl rfl rfl (of_s s (by omega) w) ?_
  rintro v w1 ⟨hown, hx1⟩
  refine OW.appendZ (m := 32) rfl rfl Tryz.underlying151 Tryz.underlying3 ti3 rfl rfl rfl (hx1) (hown) (by omega) (by simp only [maxLen]; omega) (by omega) ?_
  rintro v2 w2 hown2 hx2 _ _
  refine OW.val rfl rfl (EX.assign rfl) ?_
  refine OW.nil ?_
  refine KW.seq (KW.region ?_)
  refine OW.val rfl rfl (EX.move rfl) ?_
  refine OW.val rfl rfl (by first | exact EX.convN (m := 18446744073709551615) Tryz.underlying68 Tryz.underlying122 rfl rfl (by omega) | exact EX.convW (m := 18446744073709551616) Tryz.underlying68 Tryz.underlying122 rfl rfl (by decide) | exact EX.convZ Tryz.underlying68 Tryz.underlying122 rfl) ?_
  have hz : ints .i64 (bitsOf s) ++ List.replicate 32 (Value.int .i64 0) = ints .i64 (bitsOf s ++ List.replicate 32 0) := by simp [ints]
  rw [hz] at hown2
  generalize hq : bitsOf s ++ List.replicate 32 0 = q at hown2
  have hql : q.length = 8 * s.length + 32 := by rw [← hq, List.length_append, bitsOf_length]; simp
  have hq1 : ∀ x ∈ q, x ≤ 1 := by
    intro x hx
    rw [← hq] at hx
    rcases List.mem_append.1 hx with h | h
    · exact bitsOf_le _ x h
    · rw [(List.mem_replicate.1 h).2]; omega
  obtain ⟨gv, capv, rv, rfl, hgB, hbv, hlv, hcv, hmv⟩ := hown2.blk (by rw [ints_length]; omega)
  refine OW.call rfl rfl rfl (bits_s r 32 (by omega) (by omega) _) ?_
  rintro _ w3 ⟨u, rfl, hob, hx3⟩
  refine OW.val rfl rfl (EX.move rfl) ?_
  refine OW.val rfl rfl (EX.extract rfl rfl) ?_
  refine OW.val rfl rfl (EX.extract rfl rfl) ?_
  refine OW.val rfl rfl (EX.assign rfl) ?_
  refine OW.val rfl rfl (EX.assign rfl) ?_
  refine OW.nil ?_
  refine KW.seq (KW.seq (KW.region ?_))
  refine OW.val rfl rfl (EX.assign rfl) ?_
  refine OW.nil ?_
  refine KW.block ?_
  obtain ⟨gr, capr, rr, rfl, hgrB, hbr, _⟩ := hob.blk (by rw [ints_length, bitsN_length]; omega)
  have hne : gr ≠ gv := by have := hbv.lt; omega
  have hbv3 := hbv.ext hx3
  have hx03 : Ext w w3 := hx2.trans hx3
  refine KW.loop3 (fun (i : Nat) (d : List Nat) (wr : World) => i ≤ 32 ∧ d.length = q.length ∧ (∀ j, d[j]? = (q[j]?).map fun x => if 0 ≤ j ∧ j < 0 + i then (x + (bitsN 32 r).getD (j - 0) 0) % 2 else x) ∧ Bk wr gv 3 (ints .i64 d ++ rv) ∧ Bk wr gr 3 (ints .i64 (bitsN 32 r) ++ rr) ∧ Ext w wr) (fun (i : Nat) (d : List Nat) (wr : World) => [(5, .slice (some ⟨gv, 0, none⟩) (8 * s.length + 32) capv), (6, .slice (some ⟨gr, 0, none⟩) 32 capr), (8, .int .i64 ((i : Nat) : Int))]) (fun (i : Nat) (d : List Nat) (wr : World) => wr) (fun (i : Nat) (d : List Nat) (wr : World) => 32 - i) (0) (q) (w3) ⟨rfl, rfl, rfl, trivial⟩ rfl ?_ ?_
  · refine ⟨by omega, rfl, fun j => ?_, hbv3, hbr, hx03⟩
    have : ∀ x, (if 0 ≤ j ∧ j < 0 + 0 then (x + (bitsN 32 r).getD (j - 0) 0) % 2 else x) = x := fun x => if_neg (by omega)
    simp only [this]
    simp
  · rintro i d wr ⟨hi, hdl, hd, hbv, hbr, hx⟩
    refine KW.seq (KW.seq (KW.region ?_))
    refine OW.val rfl rfl (EX.move rfl) ?_
    refine OW.val rfl rfl (by first | exact EX.lssN (b := 32) rfl rfl | exact EX.lssZ rfl rfl) ?_
    refine OW.nil ?_
    refine KW.condD rfl (fun h => ?_) (fun h => ?_)
    · refine KW.skip (KW.seq (KW.block ?_))
      refine KW.regionH 13 (by kernel_rfl) (by kernel_rfl) ?_
      refine HW.val rfl rfl (EX.move rfl) ?_
      refine HW.val rfl rfl (EX.move rfl) ?_
      refine HW.val rfl rfl (EX.move rfl) ?_
      refine HW.val rfl rfl (EX.move rfl) ?_
      refine HW.val rfl rfl (by first | exact EX.indexAddrS0 Tryz.underlying151 ti3 rfl rfl (by omega) | exact EX.indexAddrS1 Tryz.underlying151 ti3 rfl rfl (by omega)) ?_
      have hid : i < d.length := by omega
      have hir : i < (bitsN 32 r).length := by rw [bitsN_length]; omega
      have hdi : d[i] = q[i] := by
        have := hd i
        rw [List.getElem?_eq_getElem hid, List.getElem?_eq_getElem (by omega)] at this
        simpa using this
      have h1 : q[i] ≤ 1 := hq1 _ (by simp)
      have h2 : (bitsN 32 r)[i] ≤ 1 := bitsN_le _ _ _ (List.getElem_mem _)
      refine HW.val rfl rfl (EX.load Tryz.underlying3 rfl rfl (bk_int (hbv.drew) hid)) ?_
      refine HW.val rfl rfl (EX.move rfl) ?_
      refine HW.val rfl rfl (EX.move rfl) ?_
      refine HW.val rfl rfl (by first | exact EX.indexAddrS0 Tryz.underlying151 ti3 rfl rfl (by omega) | exact EX.indexAddrS1 Tryz.underlying151 ti3 rfl rfl (by omega)) ?_
      refine HW.val rfl rfl (EX.load Tryz.underlying3 rfl rfl (bk_int (hbr.drew) hir)) ?_
      refine HW.val rfl rfl (by first | exact EX.addN (m := 9223372036854775807) rfl rfl rfl (by omega) | exact EX.addZ (m := 9223372036854775807) rfl rfl rfl rfl (by omega)) ?_
      refine HW.val rfl rfl (by first | exact EX.remN (b := 2) rfl rfl (by omega) | exact EX.remZ rfl rfl (by decide)) ?_
      refine HW.val rfl rfl (by first | exact EX.indexAddrS0 Tryz.underlying151 ti3 rfl rfl (by omega) | exact EX.indexAddrS1 Tryz.underlying151 ti3 rfl rfl (by omega)) ?_
      refine HW.tail ?_
      refine OW.eff rfl (EU.storeBk ti3 rfl rfl rfl (hbv.drew) (by simp [ints_length]; omega)) ?_
      refine OW.nil ?_
      refine KW.leave (KW.region ?_)
      refine OW.val rfl rfl (EX.move rfl) ?_
      refine OW.val rfl rfl (by first | exact EX.addN (b := 1) (m := 9223372036854775807) rfl rfl rfl (by omega) | exact EX.addZ (m := 9223372036854775807) rfl rfl rfl rfl (by omega)) ?_
      refine OW.val rfl rfl (EX.assign rfl) ?_
      refine OW.nil ?_
      refine KW.back3 (i + 1) (d.set i ((d[i] + (bitsN 32 r)[i]) % 2)) (_) ⟨rfl, rfl, rfl, trivial⟩ rfl ?_ (by omega)
      refine ⟨by omega, by simpa using hdl, fun j => ?_, bk_set hbv.drew hid _, hbr.drew.far (p := ⟨gv, i, none⟩) hne _, (Below.drew hx).setCell (p := ⟨gv, i, none⟩) hgB _⟩
      rcases Nat.decEq j i with hj | hj
      · rw [List.getElem?_set_ne (by omega), hd j]
        congr 1
        funext x
        by_cases hc : j < i
        · rw [if_pos (by omega), if_pos (by omega)]
        · rw [if_neg (by omega), if_neg (by omega)]
      · subst hj
        rw [List.getElem?_set_self (by omega), List.getElem?_eq_getElem (by omega)]
        simp only [Option.map_some]
        rw [if_pos (by omega), hdi]
        simp [List.getD, List.getElem?_eq_getElem hir]
    · refine KW.exit rfl (KW.seq (KW.region ?_))
      refine OW.val rfl rfl (EX.move rfl) ?_
      obtain rfl : i = 32 := by omega
      have hadd : d = addP q (bitsN 32 r) := by
        have := addP_part (d := q) (e := d) (p := bitsN 32 r) (i := 0) (by rw [bitsN_length]; exact hd)
        simpa using this
      have hd1 : ∀ x ∈ d, x ≤ 1 := by rw [hadd]; exact addP_le _ _ hq1
      have hsl : Sl wr wr.heap.size (some ⟨gv, 0, none⟩) (ints .i64 d) := by
        have := (Sl.of_bk (B := wr.heap.size) hbv hbv.lt).pre (ints .i64 d).length
        rwa [List.take_left] at this
      have hrc := rest_s d (some ⟨gv, 0, none⟩) capv hd1 (by omega) (by omega) wr _ hsl
      rw [show d.length = 8 * s.length + 32 by omega] at hrc
      refine OW.call rfl rfl rfl (hrc) ?_
      rintro _ w4 ⟨A', c', rfl, hs4, hx4⟩
      have hl4 := restN_length d (by omega)
      have hnc := number_s (restN d) A' c' (restN_le d hd1) (by omega) w4 _ hs4
      rw [hl4] at hnc
      have hlt := numN_lt (restN d) (restN_le d hd1)
      rw [hl4, show 2 ^ 32 = 4294967296 by decide] at hlt
      refine OW.call rfl rfl rfl (hnc) ?_
      rintro _ _ ⟨rfl, rfl⟩
      refine OW.val rfl rfl (by first | exact EX.convN (m := 4294967295) Tryz.underlying122 Tryz.underlying68 rfl rfl (by omega) | exact EX.convW (m := 4294967296) Tryz.underlying122 Tryz.underlying68 rfl rfl (by decide) | exact EX.convZ Tryz.underlying122 Tryz.underlying68 rfl) ?_
      refine OW.val rfl rfl (EX.assign rfl) ?_
      refine OW.nil ?_
      refine KW.ret (ret1 rfl rfl ?_)
      refine ⟨?_, hx.trans hx4⟩
      rw [rmore, hq, ← hadd]

end Go.Proofs.YthgfdpcpbghkpaaGreatDoor
/- crc: the program's sum of IEEE 802.3 and the reference's, where the statements' own functions are others' (out of XCrcE and XCrcF). -/
namespace Go.Proofs.YthgfdpcpbghkpaaGreatDoor
set_option linter.unnecessarySimpa false
set_option linter.unusedSimpArgs false
open Go.RowKit
set_option linter.unusedVariables false
theorem u8_lt (c : UInt8) : c.toNat < 256 := c.toNat_lt

theorem ieee_s (s : List UInt8) (hs : s.length ≤ 9223372036854775807) (w : World) :
    Ret Tryz.prog 65 [str s] w fun v w' => v = .int .u32 (cieee s : Nat) ∧ Ext w w' := by
  refine Ret.enter Tryz.func65 rfl Tryz.ntmps65 (by kernel_rfl) rfl ?_
  refine KW.seq (KW.region ?_)
  refine OW.val rfl rfl (EX.assign rfl) ?_
  refine OW.nil ?_
  refine KW.seq (KW.region ?_)
  refine OW.call rfl rfl rfl (table_s w) ?_
  rintro _ w1 ⟨rfl, hx1⟩
  refine OW.val rfl rfl (EX.alloc (l := zt256) ti_tab rfl) ?_
  have hb0 := Bk.new w1 148 zt256
  have hx2 := hx1.trans (Ext.alloc w1 (.cells zt256.toArray 148))
  refine OW.storeW rfl ti_tab rfl rfl tabV_length (List.all_eq_true.2 fun v hv => by obtain ⟨_, _, rfl⟩ := List.mem_map.1 hv; rfl) hb0 List.length_replicate ?_
  intro w2 hb hg
  refine OW.nil ?_
  refine KW.seq (KW.region ?_)
  refine OW.val rfl rfl (EX.assign rfl) ?_
  refine OW.nil ?_
  refine KW.seq (KW.seq (KW.region ?_))
  refine OW.val rfl rfl (EX.move rfl) ?_
  refine OW.val rfl rfl (EX.lenS Tryz.underlying9 rfl) ?_
  refine OW.val rfl rfl (EX.move rfl) ?_
  refine OW.nil ?_
  refine KW.block ?_
  have hx := hx2.grown hg (fun g hg => by cases hg; exact hx1.size)
  refine KW.loop2 (fun (k : Nat) (x : Nat) => k ≤ s.length ∧ x < 4294967296 ∧ x = cieeeR (s.take k)) (fun (k : Nat) (x : Nat) => [(0, str (s)), (3, .pointer (some ⟨w1.heap.size, 0, none⟩)), (4, .int .u32 ((x : Nat) : Int)), (8, .int .i64 ((s.length : Nat) : Int)), (9, .int .i64 ((k : Nat) : Int))]) (fun (k : Nat) (x : Nat) => w2) (fun (k : Nat) (x : Nat) => s.length - k) (0) (4294967295) ⟨rfl, rfl, rfl, rfl, rfl, trivial⟩ rfl ?_ ?_
  · exact ⟨by omega, by omega, rfl⟩
  · rintro k x ⟨hk, hx1, hxe⟩
    refine KW.seq (KW.region ?_)
    refine OW.val rfl rfl (by first | exact EX.lssN rfl rfl | exact EX.lssZ rfl rfl) ?_
    refine OW.nil ?_
    refine KW.seq ?_
    refine KW.condD rfl (fun h => ?_) (fun h => ?_)
    · have hc := u8_lt s[k]
      have ht8 := trn8_lt s[k].toNat
      have hxor : x / 16777216 ^^^ trn 8 s[k].toNat 0 < 256 := Nat.xor_lt_two_pow (n := 8) (by omega) ht8
      have hct := ctab_lt (x / 16777216 ^^^ trn 8 s[k].toNat 0)
      refine KW.skip (KW.seq (KW.block (KW.seq (KW.region ?_))))
      refine OW.val rfl rfl (EX.move rfl) ?_
      refine OW.val rfl rfl (EX.assign rfl) ?_
      refine OW.nil ?_
      refine KW.region ?_
      refine OW.val rfl rfl (EX.move rfl) ?_
      refine OW.val rfl rfl (by first | exact EX.shlN (s := 8) (p := 256) (m := 4294967295) rfl rfl (by decide) (by decide) rfl (by omega) | exact EX.shlW (s := 8) (p := 256) (m := 4294967296) rfl rfl (by decide) (by decide) rfl (by decide)) ?_
      refine OW.val rfl rfl (EX.move rfl) ?_
      refine OW.val rfl rfl (EX.shrN (s := 24) (p := 16777216) rfl rfl (by decide) (by decide)) ?_
      refine OW.val rfl rfl (by first | exact EX.convN (m := 255) Tryz.underlying68 Tryz.underlying5 rfl rfl (by omega) | exact EX.convW (m := 256) Tryz.underlying68 Tryz.underlying5 rfl rfl (by decide) | exact EX.convZ Tryz.underlying68 Tryz.underlying5 rfl) ?_
      refine OW.val rfl rfl (EX.move rfl) ?_
      refine OW.val rfl rfl (EX.move rfl) ?_
      refine OW.val rfl rfl (EX.indexS Tryz.underlying9 rfl rfl (List.getElem?_eq_getElem (by omega))) ?_
      refine OW.val rfl rfl (by first | exact EX.convN (m := 4294967295) Tryz.underlying5 Tryz.underlying68 rfl rfl (by omega) | exact EX.convW (m := 4294967296) Tryz.underlying5 Tryz.underlying68 rfl rfl (by decide) | exact EX.convZ Tryz.underlying5 Tryz.underlying68 rfl) ?_
      refine OW.call rfl rfl rfl (turned_s s[k].toNat 8 (by omega) (by omega) w2) ?_
      rintro _ _ ⟨rfl, rfl⟩
      refine OW.val rfl rfl (by first | exact EX.convN (m := 255) Tryz.underlying68 Tryz.underlying5 rfl rfl (by omega) | exact EX.convW (m := 256) Tryz.underlying68 Tryz.underlying5 rfl rfl (by decide) | exact EX.convZ Tryz.underlying68 Tryz.underlying5 rfl) ?_
      refine OW.val rfl rfl (EX.xorN (m := 255) rfl rfl rfl (by omega)) ?_
      refine OW.val rfl rfl (by first | exact EX.indexAddrA0 Tryz.underlying148 ti68 rfl rfl (by omega) | exact EX.indexAddrA1 Tryz.underlying148 ti68 rfl rfl (by omega)) ?_
      refine OW.val rfl rfl (EX.load Tryz.underlying68 rfl rfl (hb.cell_of (tabV_get _ hxor))) ?_
      refine OW.val rfl rfl (EX.xorN (m := 4294967295) rfl rfl rfl (by omega)) ?_
      refine OW.val rfl rfl (EX.assign rfl) ?_
      refine OW.nil ?_
      refine KW.leave (KW.region ?_)
      refine OW.val rfl rfl (by first | exact EX.addN (b := 1) (m := 9223372036854775807) rfl rfl rfl (by omega) | exact EX.addZ (m := 9223372036854775807) rfl rfl rfl rfl (by omega)) ?_
      refine OW.val rfl rfl (EX.move rfl) ?_
      refine OW.nil ?_
      refine KW.back2 (k + 1) (cnext x (trn 8 s[k].toNat 0)) ⟨rfl, rfl, rfl, rfl, rfl, trivial⟩ rfl ?_ (by omega)
      exact ⟨by omega, cnext_lt _ _, by rw [take_snoc s k h, cieeeR_snoc, ← hxe]⟩
    · refine KW.exit rfl (KW.seq (KW.region ?_))
      refine OW.val rfl rfl (EX.move rfl) ?_
      refine OW.val rfl rfl (EX.notN (m := 4294967295) rfl rfl rfl (by omega)) ?_
      refine OW.call rfl rfl rfl (turned_s (4294967295 - x) 32 (by omega) (by omega) w2) ?_
      rintro _ _ ⟨rfl, rfl⟩
      refine OW.val rfl rfl (EX.assign rfl) ?_
      refine OW.nil ?_
      refine KW.ret (ret1 rfl rfl ?_)
      rw [List.take_of_length_le (by omega)] at hxe
      exact ⟨by rw [hxe]; rfl, hx⟩

theorem rmore_lt (r : Nat) (s : List UInt8) : rmore r s < 4294967296 := by
  have h1 : ∀ x ∈ addP (bitsOf s ++ List.replicate 32 0) (bitsN 32 r), x ≤ 1 := addP_le _ _ fun x hx => by
    rcases List.mem_append.1 hx with h | h
    · exact bitsOf_le _ x h
    · rw [(List.mem_replicate.1 h).2]; omega
  have := numN_lt _ (restN_le _ h1)
  rw [restN_length _ (by rw [addP_length]; simp)] at this
  exact this

theorem rbzip_s (s : List UInt8) (hs : s.length ≤ 100000) (w : World) :
    Ret Tryz.prog 92 [str s] w fun v w' => v = .int .u32 (4294967295 - rmore 4294967295 s : Nat) ∧ Ext w w' := by
  have hlt := rmore_lt 4294967295 s
  refine Ret.enter Tryz.func92 rfl Tryz.ntmps92 (by kernel_rfl) rfl ?_
  refine KW.seq (KW.region ?_)
  refine OW.val rfl rfl (EX.assign rfl) ?_
  refine OW.nil ?_
  refine KW.seq (KW.region ?_)
  refine OW.val rfl rfl (EX.move rfl) ?_
  refine OW.call rfl rfl rfl (rmore_s 4294967295 (by omega) s hs w) ?_
  rintro _ w1 ⟨rfl, hx1⟩
  refine OW.val rfl rfl (EX.subN (a := 4294967295) (m := 4294967295) rfl rfl rfl (by omega)) ?_
  refine OW.val rfl rfl (EX.assign rfl) ?_
  refine OW.nil ?_
  refine KW.ret (ret1 rfl rfl ?_)
  exact ⟨rfl, hx1⟩

theorem rturned_s (l : List Nat) (A : Option Addr) (c : Nat) (hn : l.length ≤ 1000000) (w : World) (B : Nat) (hs : Sl w B A (ints .i64 l)) :
    Ret Tryz.prog 89 [.slice A l.length c] w fun v w' => Own w' w.heap.size 3 1 v l.length (ints .i64 l.reverse) ∧ Ext w w' := by
  refine Ret.enter Tryz.func89 rfl Tryz.ntmps89 (by kernel_rfl) rfl ?_
  refine KW.seq (KW.region ?_)
  refine OW.val rfl rfl (EX.assign rfl) ?_
  refine OW.nil ?_
  refine KW.seq (KW.region ?_)
  refine OW.val rfl rfl (EX.assign rfl) ?_
  refine OW.nil ?_
  refine KW.seq (KW.seq (KW.region ?_))
  refine OW.val rfl rfl (EX.move rfl) ?_
  refine OW.val rfl rfl (EX.lenA Tryz.underlying151 rfl) ?_
  refine OW.val rfl rfl (by first | exact EX.subN (b := 1) (m := 9223372036854775807) rfl rfl rfl (by omega) | exact EX.subZ (m := 9223372036854775807) rfl rfl rfl rfl (by omega)) ?_
  refine OW.val rfl rfl (EX.assign rfl) ?_
  refine OW.nil ?_
  refine KW.block ?_
  refine KW.as 4 (.int .i64 (((l.length : Int) - 1 - ((0 : Nat) : Int)) : Int)) rfl (by simp) ?_
  refine KW.loop3 (fun (j : Nat) (v : Value) (wr : World) => j ≤ l.length ∧ Own wr w.heap.size 3 1 v j (ints .i64 (l.reverse.take j)) ∧ Ext w wr) (fun (j : Nat) (v : Value) (wr : World) => [(0, .slice A l.length c), (3, v), (4, .int .i64 (((l.length : Int) - 1 - (j : Int)) : Int))]) (fun (j : Nat) (v : Value) (wr : World) => wr) (fun (j : Nat) (v : Value) (wr : World) => l.length - j) (0) (.slice none 0 0) (w) ⟨rfl, rfl, rfl, trivial⟩ rfl ?_ ?_
  · exact ⟨by omega, Own.nil _ _ _ _, Ext.refl _⟩
  · rintro j v wr ⟨hj, hown, hx⟩
    refine KW.seq (KW.seq (KW.region ?_))
    refine OW.val rfl rfl (EX.move rfl) ?_
    refine OW.val rfl rfl (by first | exact EX.geqN (b := 0) rfl rfl | exact EX.geqZ rfl rfl) ?_
    refine OW.nil ?_
    refine KW.condD rfl (fun h => ?_) (fun h => ?_)
    · obtain ⟨i, hi⟩ : ∃ i, i = l.length - 1 - j := ⟨_, rfl⟩
      refine KW.as 4 (.int .i64 ((i : Nat) : Int)) rfl (by congr 1; omega) ?_
      obtain ⟨b, o, rfl, _, hc⟩ := (hs.ext hx).at_ (by rw [ints_length]; omega)
      have hil : i < l.length := by omega
      refine KW.skip (KW.seq (KW.block (KW.region ?_)))
      refine OW.val rfl rfl (EX.move rfl) ?_
      refine OW.val rfl rfl (EX.move rfl) ?_
      refine OW.val rfl rfl (EX.move rfl) ?_
      refine OW.val rfl rfl (by first | exact EX.indexAddrS0 Tryz.underlying151 ti3 rfl rfl (by omega) | exact EX.indexAddrS1 Tryz.underlying151 ti3 rfl rfl (by omega)) ?_
      refine OW.val rfl rfl (EX.load Tryz.underlying3 rfl rfl (hc i _ (ints_get hil))) ?_
      refine OW.push rfl rfl (fun _ => rfl) rfl Tryz.underlying151 ti3 rfl rfl (fun _ => rfl) rfl (hx) (hown) (by simp only [maxLen]; omega) (by omega) ?_
      rintro _ v' w' hown' hx' _ _
      refine OW.val rfl rfl (EX.assign rfl) ?_
      refine OW.nil ?_
      refine KW.leave (KW.region ?_)
      refine OW.val rfl rfl (EX.move rfl) ?_
      refine OW.val rfl rfl (by first | exact EX.subN (b := 1) (m := 9223372036854775807) rfl rfl rfl (by omega) | exact EX.subZ (m := 9223372036854775807) rfl rfl rfl rfl (by omega)) ?_
      refine OW.val rfl rfl (EX.assign rfl) ?_
      refine OW.nil ?_
      refine KW.as 4 (.int .i64 (((l.length : Int) - 1 - ((j + 1 : Nat) : Int)) : Int)) rfl (by congr 1; omega) ?_
      refine KW.back3 (j + 1) (v') (w') ⟨rfl, rfl, rfl, trivial⟩ rfl ?_ (by omega)
      refine ⟨by omega, ?_, hx'⟩
      have hrev : l.reverse.take (j + 1) = l.reverse.take j ++ [l[i]] := by
        rw [take_snoc _ _ (by simp; omega)]
        congr 2
        rw [List.getElem_reverse]
        congr 1
        omega
      rw [hrev, ints_append]
      exact hown'
    · refine KW.exit rfl (KW.seq (KW.region ?_))
      refine OW.val rfl rfl (EX.move rfl) ?_
      refine OW.val rfl rfl (EX.assign rfl) ?_
      refine OW.nil ?_
      refine KW.ret (ret1 rfl rfl ?_)
      obtain rfl : j = l.length := by omega
      rw [List.take_of_length_le (by simp)] at hown
      exact ⟨hown, hx⟩

theorem text_s (l : List Nat) (A : Option Addr) (c : Nat) (h1 : ∀ x ∈ l, x ≤ 1) (hn : l.length ≤ 1000000) (w : World) (B : Nat) (hs : Sl w B A (ints .i64 l)) :
    Ret Tryz.prog 93 [.slice A l.length c] w fun v w' => v = str (textOf l) ∧ Ext w w' := by
  refine Ret.enter Tryz.func93 rfl Tryz.ntmps93 (by kernel_rfl) rfl ?_
  refine KW.seq (KW.region ?_)
  refine OW.val rfl rfl (EX.assign rfl) ?_
  refine OW.nil ?_
  refine KW.seq (KW.region ?_)
  refine OW.val rfl rfl (EX.assign rfl) ?_
  refine OW.nil ?_
  refine KW.seq (KW.seq (KW.region ?_))
  refine OW.val rfl rfl (EX.assign rfl) ?_
  refine OW.nil ?_
  refine KW.block ?_
  refine KW.loop3 (fun (i : Nat) (v : Value) (wr : World) => i ≤ (l.length + 7) / 8 ∧ Own wr w.heap.size 5 1 v i (bytesV ((textOf l).take i)) ∧ Ext w wr) (fun (i : Nat) (v : Value) (wr : World) => [(0, .slice A l.length c), (3, v), (4, .int .i64 (((8 * i) : Nat) : Int))]) (fun (i : Nat) (v : Value) (wr : World) => wr) (fun (i : Nat) (v : Value) (wr : World) => (l.length + 7) / 8 - i) (0) (.slice none 0 0) (w) ⟨rfl, rfl, rfl, trivial⟩ rfl ?_ ?_
  · exact ⟨by omega, Own.nil _ _ _ _, Ext.refl _⟩
  · rintro i v wr ⟨hi, hown, hx⟩
    refine KW.seq (KW.seq (KW.region ?_))
    refine OW.val rfl rfl (EX.move rfl) ?_
    refine OW.val rfl rfl (EX.move rfl) ?_
    refine OW.val rfl rfl (EX.lenA Tryz.underlying151 rfl) ?_
    refine OW.val rfl rfl (by first | exact EX.lssN rfl rfl | exact EX.lssZ rfl rfl) ?_
    refine OW.nil ?_
    refine KW.condD rfl (fun h => ?_) (fun h => ?_)
    · refine KW.skip (KW.seq (KW.block (KW.seq (KW.region ?_))))
      refine OW.val rfl rfl (EX.assign rfl) ?_
      refine OW.nil ?_
      refine KW.seq (KW.seq (KW.region ?_))
      refine OW.val rfl rfl (EX.assign rfl) ?_
      refine OW.nil ?_
      refine KW.block ?_
      refine KW.loop2 (fun (k : Nat) (b : Nat) => k ≤ 8 ∧ b = (List.range k).foldl (fun b k => b * 2 + l.getD (8 * i + k) 0) 0 ∧ b < 2 ^ k) (fun (k : Nat) (b : Nat) => [(0, .slice A l.length c), (3, v), (4, .int .i64 (((8 * i) : Nat) : Int)), (5, .int .i64 ((b : Nat) : Int)), (6, .int .i64 ((k : Nat) : Int))]) (fun (k : Nat) (b : Nat) => wr) (fun (k : Nat) (b : Nat) => 8 - k) (0) (0) ⟨rfl, rfl, rfl, rfl, rfl, trivial⟩ rfl ?_ ?_
      · exact ⟨by omega, rfl, by decide⟩
      · rintro k b ⟨hk, hb, hbl⟩
        have hp : 2 ^ k ≤ 2 ^ 8 := Nat.pow_le_pow_right (by decide) hk
        have hp2 : 2 ^ (k + 1) = 2 * 2 ^ k := by rw [Nat.pow_succ, Nat.mul_comm]
        have hsn : ∀ x, x = l.getD (8 * i + k) 0 → b * 2 + x = (List.range (k + 1)).foldl (fun b k => b * 2 + l.getD (8 * i + k) 0) 0 := by
          intro x hx
          rw [List.range_succ, List.foldl_append, ← hb, hx]
          rfl
        refine KW.seq (KW.seq (KW.region ?_))
        refine OW.val rfl rfl (EX.move rfl) ?_
        refine OW.val rfl rfl (by first | exact EX.lssN (b := 8) rfl rfl | exact EX.lssZ rfl rfl) ?_
        refine OW.nil ?_
        refine KW.condD rfl (fun h8 => ?_) (fun h8 => ?_)
        · refine KW.skip (KW.seq (KW.block (KW.seq (KW.region ?_))))
          refine OW.val rfl rfl (EX.move rfl) ?_
          refine OW.val rfl rfl (by first | exact EX.mulN (b := 2) (m := 9223372036854775807) rfl rfl rfl (by omega) | exact EX.mulZ (m := 9223372036854775807) rfl rfl rfl rfl (by omega)) ?_
          refine OW.val rfl rfl (EX.assign rfl) ?_
          refine OW.nil ?_
          refine KW.seq (KW.region ?_)
          refine OW.val rfl rfl (EX.move rfl) ?_
          refine OW.val rfl rfl (EX.move rfl) ?_
          refine OW.val rfl rfl (by first | exact EX.addN (m := 9223372036854775807) rfl rfl rfl (by omega) | exact EX.addZ (m := 9223372036854775807) rfl rfl rfl rfl (by omega)) ?_
          refine OW.val rfl rfl (EX.move rfl) ?_
          refine OW.val rfl rfl (EX.lenA Tryz.underlying151 rfl) ?_
          refine OW.val rfl rfl (by first | exact EX.lssN rfl rfl | exact EX.lssZ rfl rfl) ?_
          refine OW.nil ?_
          refine KW.condD rfl (fun hik => ?_) (fun hik => ?_)
          · obtain ⟨bb, o, rfl, _, hc⟩ := (hs.ext hx).at_ (by rw [ints_length]; omega)
            have hx1 := h1 l[8 * i + k] (by simp)
            refine KW.region ?_
            refine OW.val rfl rfl (EX.move rfl) ?_
            refine OW.val rfl rfl (EX.move rfl) ?_
            refine OW.val rfl rfl (EX.move rfl) ?_
            refine OW.val rfl rfl (EX.move rfl) ?_
            refine OW.val rfl rfl (by first | exact EX.addN (m := 9223372036854775807) rfl rfl rfl (by omega) | exact EX.addZ (m := 9223372036854775807) rfl rfl rfl rfl (by omega)) ?_
            refine OW.val rfl rfl (by first | exact EX.indexAddrS0 Tryz.underlying151 ti3 rfl rfl (by omega) | exact EX.indexAddrS1 Tryz.underlying151 ti3 rfl rfl (by omega)) ?_
            refine OW.val rfl rfl (EX.load Tryz.underlying3 rfl rfl (hc (8 * i + k) _ (ints_get hik))) ?_
            refine OW.val rfl rfl (by first | exact EX.addN (m := 9223372036854775807) rfl rfl rfl (by omega) | exact EX.addZ (m := 9223372036854775807) rfl rfl rfl rfl (by omega)) ?_
            refine OW.val rfl rfl (EX.assign rfl) ?_
            refine OW.nil ?_
            refine KW.leave (KW.region ?_)
            refine OW.val rfl rfl (EX.move rfl) ?_
            refine OW.val rfl rfl (by first | exact EX.addN (b := 1) (m := 9223372036854775807) rfl rfl rfl (by omega) | exact EX.addZ (m := 9223372036854775807) rfl rfl rfl rfl (by omega)) ?_
            refine OW.val rfl rfl (EX.assign rfl) ?_
            refine OW.nil ?_
            refine KW.back2 (k + 1) (b * 2 + l[8 * i + k]) ⟨rfl, rfl, rfl, rfl, rfl, trivial⟩ rfl ?_ (by omega)
            exact ⟨by omega, hsn _ (by simp [List.getD, hik]), by omega⟩
          · refine KW.skip (KW.leave (KW.region ?_))
            refine OW.val rfl rfl (EX.move rfl) ?_
            refine OW.val rfl rfl (by first | exact EX.addN (b := 1) (m := 9223372036854775807) rfl rfl rfl (by omega) | exact EX.addZ (m := 9223372036854775807) rfl rfl rfl rfl (by omega)) ?_
            refine OW.val rfl rfl (EX.assign rfl) ?_
            refine OW.nil ?_
            refine KW.back2 (k + 1) (b * 2) ⟨rfl, rfl, rfl, rfl, rfl, trivial⟩ rfl ?_ (by omega)
            exact ⟨by omega, by rw [← hsn 0 (by simp [List.getD, List.getElem?_eq_none (Nat.le_of_not_lt hik)]), Nat.add_zero], by omega⟩
        · obtain rfl : k = 8 := by omega
          have hb256 : b < 256 := hbl
          refine KW.exit rfl (KW.region ?_)
          refine OW.val rfl rfl (EX.move rfl) ?_
          refine OW.val rfl rfl (EX.move rfl) ?_
          refine OW.val rfl rfl (by first | exact EX.convN (m := 255) Tryz.underlying3 Tryz.underlying5 rfl rfl (by omega) | exact EX.convW (m := 256) Tryz.underlying3 Tryz.underlying5 rfl rfl (by decide) | exact EX.convZ Tryz.underlying3 Tryz.underlying5 rfl) ?_
          refine OW.push rfl rfl (fun _ => rfl) rfl Tryz.underlying54 ti5 rfl rfl (fun _ => rfl) rfl (hx) (hown) (by simp only [maxLen]; omega) (by omega) ?_
          rintro _ v' w' hown' hx' _ _
          refine OW.val rfl rfl (EX.assign rfl) ?_
          refine OW.nil ?_
          refine KW.leave (KW.region ?_)
          refine OW.val rfl rfl (EX.move rfl) ?_
          refine OW.val rfl rfl (by first | exact EX.addN (b := 8) (m := 9223372036854775807) rfl rfl rfl (by omega) | exact EX.addZ (m := 9223372036854775807) rfl rfl rfl rfl (by omega)) ?_
          refine OW.val rfl rfl (EX.assign rfl) ?_
          refine OW.nil ?_
          refine KW.as 4 (.int .i64 (((8 * (i + 1)) : Nat) : Int)) rfl (rfl) ?_
          refine KW.back3 (i + 1) (v') (w') ⟨rfl, rfl, rfl, trivial⟩ rfl ?_ (by omega)
          refine ⟨by omega, ?_, hx'⟩
          have hit : i < (textOf l).length := by simp [textOf]; omega
          have hti : (textOf l)[i] = UInt8.ofNat b := by simp [textOf, byteOf, hb]
          rw [take_snoc _ _ hit, bytesV_append, hti]
          have : bytesV [UInt8.ofNat b] = [.int .u8 (b : Nat)] := by
            simp [bytesV, Nat.mod_eq_of_lt hb256]
          rw [this]
          exact hown'
    · obtain ⟨A', c', rfl, _, hsl⟩ := hown.slice
      have hil : i = (textOf l).length := by simp [textOf]; omega
      refine KW.exit rfl (KW.seq (KW.region ?_))
      refine OW.val rfl rfl (EX.move rfl) ?_
      refine OW.val rfl rfl (EX.strOf Tryz.underlying54 Tryz.underlying5 Tryz.underlying9 rfl hsl (by rw [List.length_take]; omega)) ?_
      refine OW.val rfl rfl (EX.assign rfl) ?_
      refine OW.nil ?_
      refine KW.ret (ret1 rfl rfl ?_)
      rw [List.take_of_length_le (by omega)]
      exact ⟨rfl, hx⟩

theorem revs_length (s : List UInt8) : (s.flatMap fun c => (bits8 c.toNat).reverse).length = 8 * s.length := by
  induction s with
  | nil => rfl
  | cons c s ih => rw [List.flatMap_cons, List.length_append, ih, List.length_reverse, bits8_length, List.length_cons]; omega
theorem revs_le (s : List UInt8) : ∀ x ∈ s.flatMap fun c => (bits8 c.toNat).reverse, x ≤ 1 := by
  intro x hx
  obtain ⟨c, _, h⟩ := List.mem_flatMap.1 hx
  exact bits8_le _ x (List.mem_reverse.1 h)

theorem rieee_s (s : List UInt8) (hs : s.length ≤ 100000) (w : World) :
    Ret Tryz.prog 67 [str s] w fun v w' => v = .int .u32 (rieee s : Nat) ∧ Ext w w' := by
  refine Ret.enter Tryz.func67 rfl Tryz.ntmps67 (by kernel_rfl) rfl ?_
  refine KW.seq (KW.region ?_)
  refine OW.val rfl rfl (EX.assign rfl) ?_
  refine OW.nil ?_
  refine KW.seq (KW.region ?_)
  refine OW.val rfl rfl (EX.assign rfl) ?_
  refine OW.nil ?_
  refine KW.seq (KW.seq (KW.region ?_))
  refine OW.val rfl rfl (EX.assign rfl) ?_
  refine OW.nil ?_
  refine KW.block ?_
  refine KW.loop3 (fun (i : Nat) (v : Value) (wr : World) => i ≤ s.length ∧ Own wr w.heap.size 3 1 v (8 * i) (ints .i64 ((s.take i).flatMap fun c => (bits8 c.toNat).reverse)) ∧ Ext w wr) (fun (i : Nat) (v : Value) (wr : World) => [(0, str (s)), (3, v), (4, .int .i64 ((i : Nat) : Int))]) (fun (i : Nat) (v : Value) (wr : World) => wr) (fun (i : Nat) (v : Value) (wr : World) => s.length - i) (0) (.slice none 0 0) (w) ⟨rfl, rfl, rfl, trivial⟩ rfl ?_ ?_
  · exact ⟨by omega, Own.nil _ _ _ _, Ext.refl _⟩
  · rintro i v wr ⟨hi, hown, hx⟩
    refine KW.seq (KW.seq (KW.region ?_))
    refine OW.val rfl rfl (EX.move rfl) ?_
    refine OW.val rfl rfl (EX.move rfl) ?_
    refine OW.val rfl rfl (EX.lenS Tryz.underlying9 rfl) ?_
    refine OW.val rfl rfl (by first | exact EX.lssN rfl rfl | exact EX.lssZ rfl rfl) ?_
    refine OW.nil ?_
    refine KW.condD rfl (fun h => ?_) (fun h => ?_)
    · refine KW.skip (KW.seq (KW.block (KW.region ?_)))
      refine OW.val rfl rfl (EX.move rfl) ?_
      refine OW.val rfl rfl (EX.move rfl) ?_
      refine OW.val rfl rfl (EX.move rfl) ?_
      refine OW.val rfl rfl (EX.move rfl) ?_
      refine OW.val rfl rfl (by first | exact EX.addN (b := 1) (m := 9223372036854775807) rfl rfl rfl (by omega) | exact EX.addZ (m := 9223372036854775807) rfl rfl rfl rfl (by omega)) ?_
      refine OW.val rfl rfl (EX.sliceLH Tryz.underlying9 rfl rfl rfl (by omega)) ?_
      refine OW.as 18 (str ([s[i]])) rfl (by rw [show i + 1 - i = 1 by omega, List.drop_eq_getElem_cons h]; rfl) ?_
      refine OW.call rfl rfl rfl (of_s [s[i]] (by simp) wr) ?_
      rintro u w2 ⟨hou, hx2⟩
      simp only [List.length_singleton, Nat.mul_one] at hou
      obtain ⟨A, cp, rfl, _, hsl⟩ := hou.slice
      have hrc := rturned_s (bitsOf [s[i]]) A cp (by rw [bitsOf_length]; simp) w2 _ hsl
      rw [bitsOf_length] at hrc
      simp only [List.length_singleton, Nat.mul_one] at hrc
      refine OW.call rfl rfl rfl (hrc) ?_
      rintro u2 w3 ⟨hou2, hx3⟩
      obtain ⟨A2, cp2, rfl, _, hsl2⟩ := hou2.slice
      have hext := (hx.trans hx2).trans hx3
      refine OW.appendX rfl rfl Tryz.underlying151 ti3 rfl (by decide) rfl rfl (hext) ((hown.ext hx2).ext hx3) (Src.of_sl Tryz.underlying151 hsl2 (by rw [ints_length, List.length_reverse, bitsOf_length, List.length_singleton]) ints_one (by decide)) (by simp only [maxLen]; omega) (by omega) ?_
      rintro v' w' hown' hx' _ _
      refine OW.val rfl rfl (EX.assign rfl) ?_
      refine OW.nil ?_
      refine KW.leave (KW.region ?_)
      refine OW.val rfl rfl (EX.move rfl) ?_
      refine OW.val rfl rfl (by first | exact EX.addN (b := 1) (m := 9223372036854775807) rfl rfl rfl (by omega) | exact EX.addZ (m := 9223372036854775807) rfl rfl rfl rfl (by omega)) ?_
      refine OW.val rfl rfl (EX.assign rfl) ?_
      refine OW.nil ?_
      refine KW.back3 (i + 1) (v') (w') ⟨rfl, rfl, rfl, trivial⟩ rfl ?_ (by omega)
      refine ⟨by omega, ?_, hx'⟩
      have e : (s.take (i + 1)).flatMap (fun c => (bits8 c.toNat).reverse) = (s.take i).flatMap (fun c => (bits8 c.toNat).reverse) ++ (bitsOf [s[i]]).reverse := by
        rw [take_snoc s i h, List.flatMap_append]
        simp [bitsOf]
      rw [e, ints_append]
      exact hown'
    · obtain rfl : i = s.length := by omega
      rw [List.take_length] at hown
      obtain ⟨A, cp, rfl, _, hsl⟩ := hown.slice
      have hlen := revs_length s
      have htc := text_s _ A cp (revs_le s) (by omega) wr _ hsl
      rw [hlen] at htc
      generalize hq : (s.flatMap fun c => (bits8 c.toNat).reverse) = q at *
      have htl : (textOf q).length = s.length := by simp [textOf]; omega
      refine KW.exit rfl (KW.seq (KW.region ?_))
      refine OW.val rfl rfl (EX.move rfl) ?_
      refine OW.call rfl rfl rfl (htc) ?_
      rintro _ w2 ⟨rfl, hx2⟩
      have hlt := rmore_lt 4294967295 (textOf q)
      refine OW.call rfl rfl rfl (rbzip_s (textOf q) (by omega) w2) ?_
      rintro _ w3 ⟨rfl, hx3⟩
      refine OW.val rfl rfl (by first | exact EX.convN (m := 18446744073709551615) Tryz.underlying68 Tryz.underlying122 rfl rfl (by omega) | exact EX.convW (m := 18446744073709551616) Tryz.underlying68 Tryz.underlying122 rfl rfl (by decide) | exact EX.convZ Tryz.underlying68 Tryz.underlying122 rfl) ?_
      generalize hz : 4294967295 - rmore 4294967295 (textOf q) = z at *
      refine OW.call rfl rfl rfl (bits_s z 32 (by omega) (by omega) w3) ?_
      rintro _ w4 ⟨u, rfl, hob, hx4⟩
      refine OW.val rfl rfl (EX.move rfl) ?_
      refine OW.val rfl rfl (EX.extract rfl rfl) ?_
      refine OW.val rfl rfl (EX.extract rfl rfl) ?_
      refine OW.val rfl rfl (EX.assign rfl) ?_
      refine OW.val rfl rfl (EX.assign rfl) ?_
      refine OW.nil ?_
      refine KW.seq (KW.region ?_)
      refine OW.val rfl rfl (EX.move rfl) ?_
      obtain ⟨A2, cp2, rfl, _, hsl2⟩ := hob.slice
      have hrc := rturned_s (bitsN 32 z) A2 cp2 (by rw [bitsN_length]; omega) w4 _ hsl2
      rw [bitsN_length] at hrc
      refine OW.call rfl rfl rfl (hrc) ?_
      rintro u2 w5 ⟨hou2, hx5⟩
      obtain ⟨A3, cp3, rfl, _, hsl3⟩ := hou2.slice
      have hle : ∀ x ∈ (bitsN 32 z).reverse, x ≤ 1 := fun x hx => bitsN_le _ _ x (List.mem_reverse.1 hx)
      have hnc := number_s (bitsN 32 z).reverse A3 cp3 hle (by rw [List.length_reverse, bitsN_length]; omega) w5 _ hsl3
      have hl5 : (bitsN 32 z).reverse.length = 32 := by rw [List.length_reverse, bitsN_length]
      rw [hl5] at hnc
      have hnl := numN_lt _ hle
      rw [hl5, show 2 ^ 32 = 4294967296 by decide] at hnl
      refine OW.call rfl rfl rfl (hnc) ?_
      rintro _ _ ⟨rfl, rfl⟩
      refine OW.val rfl rfl (by first | exact EX.convN (m := 4294967295) Tryz.underlying122 Tryz.underlying68 rfl rfl (by omega) | exact EX.convW (m := 4294967296) Tryz.underlying122 Tryz.underlying68 rfl rfl (by decide) | exact EX.convZ Tryz.underlying122 Tryz.underlying68 rfl) ?_
      refine OW.val rfl rfl (EX.assign rfl) ?_
      refine OW.nil ?_
      refine KW.ret (ret1 rfl rfl ?_)
      refine ⟨?_, (((hx.trans hx2).trans hx3).trans hx4).trans hx5⟩
      rw [rieee, hq, hz]

end Go.Proofs.YthgfdpcpbghkpaaGreatDoor
/- The engine's laws once more, for bodies of ranges over functions, for what follows them, and for iterators: in a round's frame, or with marks among the deferred calls. No program is spoken of. (Written by kw/mkr.py.) -/
namespace Go.Proofs.YthgfdpcpbghkpaaGreatDoor
set_option linter.unnecessarySimpa false
open Go.RowKit
set_option linter.unusedSimpArgs false
set_option linter.unusedVariables false
/-- where a walk stands: the round, how deep calls may go, the marks, what is owed at a way out -/
structure RP where
  round : Option Nat
  m : Nat
  ds : List Deferred
  post : Exit → Act → World → Prop
def RP.F (R : RP) : Fence := { Fence.wide with round := R.round }
structure FrD (R : RP) (n : Nat) (σ : Sig) (a : Act) : Prop where
  fr : Fr n σ { a with defers := [] }
  df : a.defers = R.ds
section
variable {R : RP} {n : Nat} {σ σ' : Sig} {a : Act}
theorem FrD.ev (h : FrD R n σ a) {x : Operand} {v : Value} (hx : ev σ x = some v) : a.eval x = v := by
  have := h.fr.ev hx
  cases x <;> exact this
theorem FrD.sub (h : FrD R n σ a) (hs : Subs σ' σ) : FrD R n σ' a := ⟨h.fr.sub hs, h.df⟩
theorem FrD.put (h : FrD R n σ a) {d : Nat} (hd : Nat.blt d n = true) (v : Value) : FrD R n ((d, v) :: σ) (a.put (some d) v) := ⟨h.fr.put hd v, h.df⟩
end
def psr (P : Program) (R : RP) : List KI → Exit → Act → World → Prop
  | [], e => R.post e
  | .code c :: k, e => match e with | .normal => fun a w => c.wpIn R.F R.m P (psr P R k) a w | e => psr P R k e
  | .blk id :: k, e => match e with | .exit i => fun a w => if i = id then psr P R k .normal a w else psr P R k (.exit i) a w | e => psr P R k e
  | .asr I :: k, e => match e with | .normal => I | e => psr P R k e
def KR (P : Program) (R : RP) (k : List KI) (n : Nat) (σ : Sig) (w : World) : Prop := ∀ a, FrD R n σ a → psr P R k .normal a w
section
variable {P : Program} {R : RP} {k : List KI} {n : Nat} {σ : Sig} {w : World}
theorem psr_then (c : Code) (k : List KI) : psr P R (.code c :: k) = Exit.then (fun a w => c.wpIn R.F R.m P (psr P R k) a w) (psr P R k) := by
  funext e a w
  cases e <;> simp [psr, Exit.then]
theorem psr_blk (id : Nat) (k : List KI) : psr P R (.blk id :: k) = Exit.inBlock id (psr P R k) := by
  funext e a w
  cases e <;> simp [psr, Exit.inBlock]
theorem psr_exit {id : Nat} : ∀ {k k' : List KI}, popTo id k = some k' → ∀ a w, psr P R k (.exit id) a w = psr P R k' .normal a w
  | [], _, h, _, _ => by simp [popTo] at h
  | .code c :: k, k', h, a, w => by simp only [popTo] at h; simp only [psr]; exact psr_exit h a w
  | .asr I :: k, k', h, a, w => by simp only [popTo] at h; simp only [psr]; exact psr_exit h a w
  | .blk i :: k, k', h, a, w => by
    simp only [popTo] at h
    simp only [psr]
    by_cases e : id = i
    · subst e
      have : Nat.beq id id = true := by simp
      rw [this] at h
      injection h with h
      subst h
      simp
    · have : Nat.beq id i = false := by
        cases hb : Nat.beq id i with
        | false => rfl
        | true => exact absurd (Nat.eq_of_beq_eq_true hb) e
      rw [this] at h
      rw [if_neg e]
      exact psr_exit h a w
theorem psr_ret : ∀ (k : List KI) (a : Act) (w : World), psr P R k .ret a w = R.post .ret a w
  | [], _, _ => rfl
  | .code _ :: k, a, w => psr_ret k a w
  | .blk _ :: k, a, w => psr_ret k a w
  | .asr _ :: k, a, w => psr_ret k a w

theorem KR.seq {x y : Code} (h : KR P R (.code x :: .code y :: k) n σ w) : KR P R (.code (.seq x y) :: k) n σ w := fun a ha => by
  have := h a ha
  simp only [psr] at this ⊢
  refine wpIn_seq ?_
  rw [← psr_then]
  exact this
theorem KR.block {id : Nat} {c : Code} (h : KR P R (.code c :: .blk id :: k) n σ w) : KR P R (.code (.block id c) :: k) n σ w := fun a ha => by
  have := h a ha
  simp only [psr] at this ⊢
  refine wpIn_block ?_
  rw [← psr_blk]
  exact this
theorem KR.leave {id : Nat} (h : KR P R k n σ w) : KR P R (.blk id :: k) n σ w := fun a ha => h a ha
theorem KR.skip (h : KR P R k n σ w) : KR P R (.code .skip :: k) n σ w := fun a ha => wpIn_skip (h a ha)
theorem KR.label {l : Nat} (h : KR P R k n σ w) : KR P R (.code (.label l) :: k) n σ w := fun a ha => wpIn_label (h a ha)
theorem KR.exit {id : Nat} {k' : List KI} (hk : popTo id k = some k') (h : KR P R k' n σ w) : KR P R (.code (.exit id) :: k) n σ w := fun a ha =>
  wpIn_exit (by rw [psr_exit hk]; exact h a ha)
theorem KR.ret (h : ∀ a, FrD R n σ a → R.post .ret a w) : KR P R (.code .ret :: k) n σ w := fun a ha => wpIn_ret (by rw [psr_ret]; exact h a ha)
theorem KR.done (h : ∀ a, FrD R n σ a → R.post .normal a w) : KR P R [] n σ w := h
theorem KR.sub {σ' : Sig} (hs : Subs σ' σ) (h : KR P R k n σ' w) : KR P R k n σ w := fun a ha => h a (ha.sub hs)
theorem KR.cond {c : Operand} {x y : Code} {b : Bool} (hc : ev σ c = some (.bool b)) (ht : b = true → KR P R (.code x :: k) n σ w) (hf : b = false → KR P R (.code y :: k) n σ w) :
    KR P R (.code (.cond c x y) :: k) n σ w := fun a ha =>
  wpIn_cond_split (ha.ev hc) (fun e => ht e a ha) (fun e => hf e a ha)
theorem KR.condD {c : Operand} {x y : Code} {p : Prop} [Decidable p] (hc : ev σ c = some (.bool (decide p))) (ht : p → KR P R (.code x :: k) n σ w) (hf : ¬ p → KR P R (.code y :: k) n σ w) :
    KR P R (.code (.cond c x y) :: k) n σ w :=
  KR.cond hc (fun e => ht (of_decide_eq_true e)) (fun e => hf (of_decide_eq_false e))
theorem KR.condT {c : Operand} {x y : Code} (hc : ev σ c = some (.bool true)) (h : KR P R (.code x :: k) n σ w) : KR P R (.code (.cond c x y) :: k) n σ w :=
  KR.cond hc (fun _ => h) (fun e => by cases e)
theorem KR.condF {c : Operand} {x y : Code} (hc : ev σ c = some (.bool false)) (h : KR P R (.code y :: k) n σ w) : KR P R (.code (.cond c x y) :: k) n σ w :=
  KR.cond hc (fun e => by cases e) (fun _ => h)

/-- what holds where the ways meet, or at a loop's head -/
def MetR {ι : Type} (R : RP) (n : Nat) (I : ι → Prop) (S : ι → Sig) (W : ι → World) (a : Act) (w : World) : Prop := ∃ i, I i ∧ FrD R n (S i) a ∧ w = W i
theorem KR.cut {ι : Type} (I : ι → Prop) (S : ι → Sig) (W : ι → World) {c : Code} (h : KR P R (.code c :: .asr (MetR R n I S W) :: k) n σ w) (h2 : ∀ i, I i → KR P R k n (S i) (W i)) :
    KR P R (.code c :: k) n σ w := fun a ha => by
  have h1 := h a ha
  simp only [psr] at h1 ⊢
  refine Code.wpIn_mono (fun e a' w' q => ?_) h1
  cases e with
  | normal => obtain ⟨i, hi, hf, rfl⟩ := q; exact h2 i hi a' hf
  | _ => exact q
theorem KR.meet {ι : Type} {I : ι → Prop} {S : ι → Sig} {W : ι → World} (i : ι) (hs : Subs (S i) σ) (hw : w = W i) (hi : I i) : KR P R (.asr (MetR R n I S W) :: k) n σ w :=
  fun _ ha => ⟨i, hi, ha.sub hs, hw⟩
/-- a loop's round ends -/
def BackR {ι : Type} (R : RP) (n : Nat) (I : ι → Prop) (S : ι → Sig) (W : ι → World) (μ : ι → Nat) (i : ι) (a : Act) (w : World) : Prop := ∃ j, I j ∧ μ j < μ i ∧ FrD R n (S j) a ∧ w = W j
theorem KR.back {ι : Type} {I : ι → Prop} {S : ι → Sig} {W : ι → World} {μ : ι → Nat} {i : ι} (j : ι) (hs : Subs (S j) σ) (hw : w = W j) (hi : I j) (hm : μ j < μ i) :
    KR P R (.asr (BackR R n I S W μ i) :: k) n σ w := fun _ ha => ⟨j, hi, hm, ha.sub hs, hw⟩
theorem KR.loop {ι : Type} (I : ι → Prop) (S : ι → Sig) (W : ι → World) (μ : ι → Nat) {c : Code} (i : ι) (hs : Subs (S i) σ) (hw : w = W i) (hi : I i)
    (round : ∀ i, I i → KR P R (.code c :: .asr (BackR R n I S W μ i) :: k) n (S i) (W i)) : KR P R (.code (.loop c) :: k) n σ w := fun a ha => by
  let M (a : Act) (w : World) (m : Nat) : Prop := ∃ i, I i ∧ FrD R n (S i) a ∧ w = W i ∧ μ i = m
  have hex : ∀ a w, (∃ m, M a w m) → ∃ m, M a w m ∧ ∀ m', M a w m' → m ≤ m' := fun a w ⟨m, hm⟩ => least_nat _ m hm
  let ν (a : Act) (w : World) : Nat := Classical.epsilon fun m => M a w m ∧ ∀ m', M a w m' → m ≤ m'
  have hν : ∀ a w, (∃ m, M a w m) → M a w (ν a w) ∧ ∀ m', M a w m' → ν a w ≤ m' := fun a w h => Classical.epsilon_spec (hex a w h)
  simp only [psr]
  refine wpIn_loop (fun a w => ∃ m, M a w m) ν ⟨μ i, i, hi, ha.sub hs, hw, rfl⟩ fun a' w' hm => ?_
  obtain ⟨⟨j, hj, hf, hw', hmu⟩, _⟩ := hν a' w' hm
  have h := round j hj a' hf
  simp only [psr] at h
  subst hw'
  refine Code.wpIn_mono (fun e a'' w'' q => ?_) h
  cases e with
  | normal =>
    obtain ⟨j', h1, h2, h3, h4⟩ := q
    refine ⟨⟨μ j', j', h1, h3, h4, rfl⟩, ?_⟩
    have := (hν a'' w'' ⟨μ j', j', h1, h3, h4, rfl⟩).2 (μ j') ⟨j', h1, h3, h4, rfl⟩
    omega
  | _ => exact q
end

section
variable {P : Program} {R : RP} {k : List KI} {n : Nat} {σ : Sig} {w : World}
def BackR1 {α : Type} (R : RP) (n : Nat) (I : α → Prop) (S : α → Sig) (W : α → World) (μ : α → Nat) (x0 : α) : Act → World → Prop :=
  BackR R n (fun p : α => I p) (fun p => S p) (fun p => W p) (fun p => μ p) x0
def MetR1 {α : Type} (R : RP) (n : Nat) (I : α → Prop) (S : α → Sig) (W : α → World) : Act → World → Prop :=
  MetR R n (fun p : α => I p) (fun p => S p) (fun p => W p)
theorem KR.loop1 {α : Type} (I : α → Prop) (S : α → Sig) (W : α → World) (μ : α → Nat) {c : Code} (x0 : α) (hs : Subs (S x0) σ) (hw : w = W x0) (hi : I x0)
    (round : ∀ x0, I x0 → KR P R (.code c :: .asr (BackR1 R n I S W μ x0) :: k) n (S x0) (W x0)) : KR P R (.code (.loop c) :: k) n σ w :=
  KR.loop (fun p : α => I p) (fun p => S p) (fun p => W p) (fun p => μ p) x0 hs hw hi fun p hp => round p hp
theorem KR.back1 {α : Type} {I : α → Prop} {S : α → Sig} {W : α → World} {μ : α → Nat} {y0 : α} (x0 : α) (hs : Subs (S x0) σ) (hw : w = W x0) (hi : I x0) (hm : μ x0 < μ y0) :
    KR P R (.asr (BackR1 R n I S W μ y0) :: k) n σ w :=
  KR.back (I := fun p : α => I p) (S := fun p => S p) (W := fun p => W p) (μ := fun p => μ p) x0 hs hw hi hm
theorem KR.cut1 {α : Type} (I : α → Prop) (S : α → Sig) (W : α → World) {c : Code} (h : KR P R (.code c :: .asr (MetR1 R n I S W) :: k) n σ w)
    (h2 : ∀ x0, I x0 → KR P R k n (S x0) (W x0)) : KR P R (.code c :: k) n σ w :=
  KR.cut (fun p : α => I p) (fun p => S p) (fun p => W p) h fun p hp => h2 p hp
theorem KR.meet1 {α : Type} {I : α → Prop} {S : α → Sig} {W : α → World} (x0 : α) (hs : Subs (S x0) σ) (hw : w = W x0) (hi : I x0) :
    KR P R (.asr (MetR1 R n I S W) :: k) n σ w :=
  KR.meet (I := fun p : α => I p) (S := fun p => S p) (W := fun p => W p) x0 hs hw hi
def BackR2 {α β : Type} (R : RP) (n : Nat) (I : α → β → Prop) (S : α → β → Sig) (W : α → β → World) (μ : α → β → Nat) (x0 : α) (x1 : β) : Act → World → Prop :=
  BackR R n (fun p : α × β => I p.1 p.2) (fun p => S p.1 p.2) (fun p => W p.1 p.2) (fun p => μ p.1 p.2) (x0, x1)
def MetR2 {α β : Type} (R : RP) (n : Nat) (I : α → β → Prop) (S : α → β → Sig) (W : α → β → World) : Act → World → Prop :=
  MetR R n (fun p : α × β => I p.1 p.2) (fun p => S p.1 p.2) (fun p => W p.1 p.2)
theorem KR.loop2 {α β : Type} (I : α → β → Prop) (S : α → β → Sig) (W : α → β → World) (μ : α → β → Nat) {c : Code} (x0 : α) (x1 : β) (hs : Subs (S x0 x1) σ) (hw : w = W x0 x1) (hi : I x0 x1)
    (round : ∀ x0 x1, I x0 x1 → KR P R (.code c :: .asr (BackR2 R n I S W μ x0 x1) :: k) n (S x0 x1) (W x0 x1)) : KR P R (.code (.loop c) :: k) n σ w :=
  KR.loop (fun p : α × β => I p.1 p.2) (fun p => S p.1 p.2) (fun p => W p.1 p.2) (fun p => μ p.1 p.2) (x0, x1) hs hw hi fun p hp => round p.1 p.2 hp
theorem KR.back2 {α β : Type} {I : α → β → Prop} {S : α → β → Sig} {W : α → β → World} {μ : α → β → Nat} {y0 : α} {y1 : β} (x0 : α) (x1 : β) (hs : Subs (S x0 x1) σ) (hw : w = W x0 x1) (hi : I x0 x1) (hm : μ x0 x1 < μ y0 y1) :
    KR P R (.asr (BackR2 R n I S W μ y0 y1) :: k) n σ w :=
  KR.back (I := fun p : α × β => I p.1 p.2) (S := fun p => S p.1 p.2) (W := fun p => W p.1 p.2) (μ := fun p => μ p.1 p.2) (x0, x1) hs hw hi hm
theorem KR.cut2 {α β : Type} (I : α → β → Prop) (S : α → β → Sig) (W : α → β → World) {c : Code} (h : KR P R (.code c :: .asr (MetR2 R n I S W) :: k) n σ w)
    (h2 : ∀ x0 x1, I x0 x1 → KR P R k n (S x0 x1) (W x0 x1)) : KR P R (.code c :: k) n σ w :=
  KR.cut (fun p : α × β => I p.1 p.2) (fun p => S p.1 p.2) (fun p => W p.1 p.2) h fun p hp => h2 p.1 p.2 hp
theorem KR.meet2 {α β : Type} {I : α → β → Prop} {S : α → β → Sig} {W : α → β → World} (x0 : α) (x1 : β) (hs : Subs (S x0 x1) σ) (hw : w = W x0 x1) (hi : I x0 x1) :
    KR P R (.asr (MetR2 R n I S W) :: k) n σ w :=
  KR.meet (I := fun p : α × β => I p.1 p.2) (S := fun p => S p.1 p.2) (W := fun p => W p.1 p.2) (x0, x1) hs hw hi
def BackR3 {α β γ : Type} (R : RP) (n : Nat) (I : α → β → γ → Prop) (S : α → β → γ → Sig) (W : α → β → γ → World) (μ : α → β → γ → Nat) (x0 : α) (x1 : β) (x2 : γ) : Act → World → Prop :=
  BackR R n (fun p : α × β × γ => I p.1 p.2.1 p.2.2) (fun p => S p.1 p.2.1 p.2.2) (fun p => W p.1 p.2.1 p.2.2) (fun p => μ p.1 p.2.1 p.2.2) (x0, x1, x2)
def MetR3 {α β γ : Type} (R : RP) (n : Nat) (I : α → β → γ → Prop) (S : α → β → γ → Sig) (W : α → β → γ → World) : Act → World → Prop :=
  MetR R n (fun p : α × β × γ => I p.1 p.2.1 p.2.2) (fun p => S p.1 p.2.1 p.2.2) (fun p => W p.1 p.2.1 p.2.2)
theorem KR.loop3 {α β γ : Type} (I : α → β → γ → Prop) (S : α → β → γ → Sig) (W : α → β → γ → World) (μ : α → β → γ → Nat) {c : Code} (x0 : α) (x1 : β) (x2 : γ) (hs : Subs (S x0 x1 x2) σ) (hw : w = W x0 x1 x2) (hi : I x0 x1 x2)
    (round : ∀ x0 x1 x2, I x0 x1 x2 → KR P R (.code c :: .asr (BackR3 R n I S W μ x0 x1 x2) :: k) n (S x0 x1 x2) (W x0 x1 x2)) : KR P R (.code (.loop c) :: k) n σ w :=
  KR.loop (fun p : α × β × γ => I p.1 p.2.1 p.2.2) (fun p => S p.1 p.2.1 p.2.2) (fun p => W p.1 p.2.1 p.2.2) (fun p => μ p.1 p.2.1 p.2.2) (x0, x1, x2) hs hw hi fun p hp => round p.1 p.2.1 p.2.2 hp
theorem KR.back3 {α β γ : Type} {I : α → β → γ → Prop} {S : α → β → γ → Sig} {W : α → β → γ → World} {μ : α → β → γ → Nat} {y0 : α} {y1 : β} {y2 : γ} (x0 : α) (x1 : β) (x2 : γ) (hs : Subs (S x0 x1 x2) σ) (hw : w = W x0 x1 x2) (hi : I x0 x1 x2) (hm : μ x0 x1 x2 < μ y0 y1 y2) :
    KR P R (.asr (BackR3 R n I S W μ y0 y1 y2) :: k) n σ w :=
  KR.back (I := fun p : α × β × γ => I p.1 p.2.1 p.2.2) (S := fun p => S p.1 p.2.1 p.2.2) (W := fun p => W p.1 p.2.1 p.2.2) (μ := fun p => μ p.1 p.2.1 p.2.2) (x0, x1, x2) hs hw hi hm
theorem KR.cut3 {α β γ : Type} (I : α → β → γ → Prop) (S : α → β → γ → Sig) (W : α → β → γ → World) {c : Code} (h : KR P R (.code c :: .asr (MetR3 R n I S W) :: k) n σ w)
    (h2 : ∀ x0 x1 x2, I x0 x1 x2 → KR P R k n (S x0 x1 x2) (W x0 x1 x2)) : KR P R (.code c :: k) n σ w :=
  KR.cut (fun p : α × β × γ => I p.1 p.2.1 p.2.2) (fun p => S p.1 p.2.1 p.2.2) (fun p => W p.1 p.2.1 p.2.2) h fun p hp => h2 p.1 p.2.1 p.2.2 hp
theorem KR.meet3 {α β γ : Type} {I : α → β → γ → Prop} {S : α → β → γ → Sig} {W : α → β → γ → World} (x0 : α) (x1 : β) (x2 : γ) (hs : Subs (S x0 x1 x2) σ) (hw : w = W x0 x1 x2) (hi : I x0 x1 x2) :
    KR P R (.asr (MetR3 R n I S W) :: k) n σ w :=
  KR.meet (I := fun p : α × β × γ => I p.1 p.2.1 p.2.2) (S := fun p => S p.1 p.2.1 p.2.2) (W := fun p => W p.1 p.2.1 p.2.2) (x0, x1, x2) hs hw hi
def BackR4 {α β γ δ : Type} (R : RP) (n : Nat) (I : α → β → γ → δ → Prop) (S : α → β → γ → δ → Sig) (W : α → β → γ → δ → World) (μ : α → β → γ → δ → Nat) (x0 : α) (x1 : β) (x2 : γ) (x3 : δ) : Act → World → Prop :=
  BackR R n (fun p : α × β × γ × δ => I p.1 p.2.1 p.2.2.1 p.2.2.2) (fun p => S p.1 p.2.1 p.2.2.1 p.2.2.2) (fun p => W p.1 p.2.1 p.2.2.1 p.2.2.2) (fun p => μ p.1 p.2.1 p.2.2.1 p.2.2.2) (x0, x1, x2, x3)
def MetR4 {α β γ δ : Type} (R : RP) (n : Nat) (I : α → β → γ → δ → Prop) (S : α → β → γ → δ → Sig) (W : α → β → γ → δ → World) : Act → World → Prop :=
  MetR R n (fun p : α × β × γ × δ => I p.1 p.2.1 p.2.2.1 p.2.2.2) (fun p => S p.1 p.2.1 p.2.2.1 p.2.2.2) (fun p => W p.1 p.2.1 p.2.2.1 p.2.2.2)
theorem KR.loop4 {α β γ δ : Type} (I : α → β → γ → δ → Prop) (S : α → β → γ → δ → Sig) (W : α → β → γ → δ → World) (μ : α → β → γ → δ → Nat) {c : Code} (x0 : α) (x1 : β) (x2 : γ) (x3 : δ) (hs : Subs (S x0 x1 x2 x3) σ) (hw : w = W x0 x1 x2 x3) (hi : I x0 x1 x2 x3)
    (round : ∀ x0 x1 x2 x3, I x0 x1 x2 x3 → KR P R (.code c :: .asr (BackR4 R n I S W μ x0 x1 x2 x3) :: k) n (S x0 x1 x2 x3) (W x0 x1 x2 x3)) : KR P R (.code (.loop c) :: k) n σ w :=
  KR.loop (fun p : α × β × γ × δ => I p.1 p.2.1 p.2.2.1 p.2.2.2) (fun p => S p.1 p.2.1 p.2.2.1 p.2.2.2) (fun p => W p.1 p.2.1 p.2.2.1 p.2.2.2) (fun p => μ p.1 p.2.1 p.2.2.1 p.2.2.2) (x0, x1, x2, x3) hs hw hi fun p hp => round p.1 p.2.1 p.2.2.1 p.2.2.2 hp
theorem KR.back4 {α β γ δ : Type} {I : α → β → γ → δ → Prop} {S : α → β → γ → δ → Sig} {W : α → β → γ → δ → World} {μ : α → β → γ → δ → Nat} {y0 : α} {y1 : β} {y2 : γ} {y3 : δ} (x0 : α) (x1 : β) (x2 : γ) (x3 : δ) (hs : Subs (S x0 x1 x2 x3) σ) (hw : w = W x0 x1 x2 x3) (hi : I x0 x1 x2 x3) (hm : μ x0 x1 x2 x3 < μ y0 y1 y2 y3) :
    KR P R (.asr (BackR4 R n I S W μ y0 y1 y2 y3) :: k) n σ w :=
  KR.back (I := fun p : α × β × γ × δ => I p.1 p.2.1 p.2.2.1 p.2.2.2) (S := fun p => S p.1 p.2.1 p.2.2.1 p.2.2.2) (W := fun p => W p.1 p.2.1 p.2.2.1 p.2.2.2) (μ := fun p => μ p.1 p.2.1 p.2.2.1 p.2.2.2) (x0, x1, x2, x3) hs hw hi hm
theorem KR.cut4 {α β γ δ : Type} (I : α → β → γ → δ → Prop) (S : α → β → γ → δ → Sig) (W : α → β → γ → δ → World) {c : Code} (h : KR P R (.code c :: .asr (MetR4 R n I S W) :: k) n σ w)
    (h2 : ∀ x0 x1 x2 x3, I x0 x1 x2 x3 → KR P R k n (S x0 x1 x2 x3) (W x0 x1 x2 x3)) : KR P R (.code c :: k) n σ w :=
  KR.cut (fun p : α × β × γ × δ => I p.1 p.2.1 p.2.2.1 p.2.2.2) (fun p => S p.1 p.2.1 p.2.2.1 p.2.2.2) (fun p => W p.1 p.2.1 p.2.2.1 p.2.2.2) h fun p hp => h2 p.1 p.2.1 p.2.2.1 p.2.2.2 hp
theorem KR.meet4 {α β γ δ : Type} {I : α → β → γ → δ → Prop} {S : α → β → γ → δ → Sig} {W : α → β → γ → δ → World} (x0 : α) (x1 : β) (x2 : γ) (x3 : δ) (hs : Subs (S x0 x1 x2 x3) σ) (hw : w = W x0 x1 x2 x3) (hi : I x0 x1 x2 x3) :
    KR P R (.asr (MetR4 R n I S W) :: k) n σ w :=
  KR.meet (I := fun p : α × β × γ × δ => I p.1 p.2.1 p.2.2.1 p.2.2.2) (S := fun p => S p.1 p.2.1 p.2.2.1 p.2.2.2) (W := fun p => W p.1 p.2.1 p.2.2.1 p.2.2.2) (x0, x1, x2, x3) hs hw hi
def BackR5 {α β γ δ ε : Type} (R : RP) (n : Nat) (I : α → β → γ → δ → ε → Prop) (S : α → β → γ → δ → ε → Sig) (W : α → β → γ → δ → ε → World) (μ : α → β → γ → δ → ε → Nat) (x0 : α) (x1 : β) (x2 : γ) (x3 : δ) (x4 : ε) : Act → World → Prop :=
  BackR R n (fun p : α × β × γ × δ × ε => I p.1 p.2.1 p.2.2.1 p.2.2.2.1 p.2.2.2.2) (fun p => S p.1 p.2.1 p.2.2.1 p.2.2.2.1 p.2.2.2.2) (fun p => W p.1 p.2.1 p.2.2.1 p.2.2.2.1 p.2.2.2.2) (fun p => μ p.1 p.2.1 p.2.2.1 p.2.2.2.1 p.2.2.2.2) (x0, x1, x2, x3, x4)
def MetR5 {α β γ δ ε : Type} (R : RP) (n : Nat) (I : α → β → γ → δ → ε → Prop) (S : α → β → γ → δ → ε → Sig) (W : α → β → γ → δ → ε → World) : Act → World → Prop :=
  MetR R n (fun p : α × β × γ × δ × ε => I p.1 p.2.1 p.2.2.1 p.2.2.2.1 p.2.2.2.2) (fun p => S p.1 p.2.1 p.2.2.1 p.2.2.2.1 p.2.2.2.2) (fun p => W p.1 p.2.1 p.2.2.1 p.2.2.2.1 p.2.2.2.2)
theorem KR.loop5 {α β γ δ ε : Type} (I : α → β → γ → δ → ε → Prop) (S : α → β → γ → δ → ε → Sig) (W : α → β → γ → δ → ε → World) (μ : α → β → γ → δ → ε → Nat) {c : Code} (x0 : α) (x1 : β) (x2 : γ) (x3 : δ) (x4 : ε) (hs : Subs (S x0 x1 x2 x3 x4) σ) (hw : w = W x0 x1 x2 x3 x4) (hi : I x0 x1 x2 x3 x4)
    (round : ∀ x0 x1 x2 x3 x4, I x0 x1 x2 x3 x4 → KR P R (.code c :: .asr (BackR5 R n I S W μ x0 x1 x2 x3 x4) :: k) n (S x0 x1 x2 x3 x4) (W x0 x1 x2 x3 x4)) : KR P R (.code (.loop c) :: k) n σ w :=
  KR.loop (fun p : α × β × γ × δ × ε => I p.1 p.2.1 p.2.2.1 p.2.2.2.1 p.2.2.2.2) (fun p => S p.1 p.2.1 p.2.2.1 p.2.2.2.1 p.2.2.2.2) (fun p => W p.1 p.2.1 p.2.2.1 p.2.2.2.1 p.2.2.2.2) (fun p => μ p.1 p.2.1 p.2.2.1 p.2.2.2.1 p.2.2.2.2) (x0, x1, x2, x3, x4) hs hw hi fun p hp => round p.1 p.2.1 p.2.2.1 p.2.2.2.1 p.2.2.2.2 hp
theorem KR.back5 {α β γ δ ε : Type} {I : α → β → γ → δ → ε → Prop} {S : α → β → γ → δ → ε → Sig} {W : α → β → γ → δ → ε → World} {μ : α → β → γ → δ → ε → Nat} {y0 : α} {y1 : β} {y2 : γ} {y3 : δ} {y4 : ε} (x0 : α) (x1 : β) (x2 : γ) (x3 : δ) (x4 : ε) (hs : Subs (S x0 x1 x2 x3 x4) σ) (hw : w = W x0 x1 x2 x3 x4) (hi : I x0 x1 x2 x3 x4) (hm : μ x0 x1 x2 x3 x4 < μ y0 y1 y2 y3 y4) :
    KR P R (.asr (BackR5 R n I S W μ y0 y1 y2 y3 y4) :: k) n σ w :=
  KR.back (I := fun p : α × β × γ × δ × ε => I p.1 p.2.1 p.2.2.1 p.2.2.2.1 p.2.2.2.2) (S := fun p => S p.1 p.2.1 p.2.2.1 p.2.2.2.1 p.2.2.2.2) (W := fun p => W p.1 p.2.1 p.2.2.1 p.2.2.2.1 p.2.2.2.2) (μ := fun p => μ p.1 p.2.1 p.2.2.1 p.2.2.2.1 p.2.2.2.2) (x0, x1, x2, x3, x4) hs hw hi hm
theorem KR.cut5 {α β γ δ ε : Type} (I : α → β → γ → δ → ε → Prop) (S : α → β → γ → δ → ε → Sig) (W : α → β → γ → δ → ε → World) {c : Code} (h : KR P R (.code c :: .asr (MetR5 R n I S W) :: k) n σ w)
    (h2 : ∀ x0 x1 x2 x3 x4, I x0 x1 x2 x3 x4 → KR P R k n (S x0 x1 x2 x3 x4) (W x0 x1 x2 x3 x4)) : KR P R (.code c :: k) n σ w :=
  KR.cut (fun p : α × β × γ × δ × ε => I p.1 p.2.1 p.2.2.1 p.2.2.2.1 p.2.2.2.2) (fun p => S p.1 p.2.1 p.2.2.1 p.2.2.2.1 p.2.2.2.2) (fun p => W p.1 p.2.1 p.2.2.1 p.2.2.2.1 p.2.2.2.2) h fun p hp => h2 p.1 p.2.1 p.2.2.1 p.2.2.2.1 p.2.2.2.2 hp
theorem KR.meet5 {α β γ δ ε : Type} {I : α → β → γ → δ → ε → Prop} {S : α → β → γ → δ → ε → Sig} {W : α → β → γ → δ → ε → World} (x0 : α) (x1 : β) (x2 : γ) (x3 : δ) (x4 : ε) (hs : Subs (S x0 x1 x2 x3 x4) σ) (hw : w = W x0 x1 x2 x3 x4) (hi : I x0 x1 x2 x3 x4) :
    KR P R (.asr (MetR5 R n I S W) :: k) n σ w :=
  KR.meet (I := fun p : α × β × γ × δ × ε => I p.1 p.2.1 p.2.2.1 p.2.2.2.1 p.2.2.2.2) (S := fun p => S p.1 p.2.1 p.2.2.1 p.2.2.2.1 p.2.2.2.2) (W := fun p => W p.1 p.2.1 p.2.2.1 p.2.2.2.1 p.2.2.2.2) (x0, x1, x2, x3, x4) hs hw hi
def BackR6 {α β γ δ ε ζ : Type} (R : RP) (n : Nat) (I : α → β → γ → δ → ε → ζ → Prop) (S : α → β → γ → δ → ε → ζ → Sig) (W : α → β → γ → δ → ε → ζ → World) (μ : α → β → γ → δ → ε → ζ → Nat) (x0 : α) (x1 : β) (x2 : γ) (x3 : δ) (x4 : ε) (x5 : ζ) : Act → World → Prop :=
  BackR R n (fun p : α × β × γ × δ × ε × ζ => I p.1 p.2.1 p.2.2.1 p.2.2.2.1 p.2.2.2.2.1 p.2.2.2.2.2) (fun p => S p.1 p.2.1 p.2.2.1 p.2.2.2.1 p.2.2.2.2.1 p.2.2.2.2.2) (fun p => W p.1 p.2.1 p.2.2.1 p.2.2.2.1 p.2.2.2.2.1 p.2.2.2.2.2) (fun p => μ p.1 p.2.1 p.2.2.1 p.2.2.2.1 p.2.2.2.2.1 p.2.2.2.2.2) (x0, x1, x2, x3, x4, x5)
def MetR6 {α β γ δ ε ζ : Type} (R : RP) (n : Nat) (I : α → β → γ → δ → ε → ζ → Prop) (S : α → β → γ → δ → ε → ζ → Sig) (W : α → β → γ → δ → ε → ζ → World) : Act → World → Prop :=
  MetR R n (fun p : α × β × γ × δ × ε × ζ => I p.1 p.2.1 p.2.2.1 p.2.2.2.1 p.2.2.2.2.1 p.2.2.2.2.2) (fun p => S p.1 p.2.1 p.2.2.1 p.2.2.2.1 p.2.2.2.2.1 p.2.2.2.2.2) (fun p => W p.1 p.2.1 p.2.2.1 p.2.2.2.1 p.2.2.2.2.1 p.2.2.2.2.2)
theorem KR.loop6 {α β γ δ ε ζ : Type} (I : α → β → γ → δ → ε → ζ → Prop) (S : α → β → γ → δ → ε → ζ → Sig) (W : α → β → γ → δ → ε → ζ → World) (μ : α → β → γ → δ → ε → ζ → Nat) {c : Code} (x0 : α) (x1 : β) (x2 : γ) (x3 : δ) (x4 : ε) (x5 : ζ) (hs : Subs (S x0 x1 x2 x3 x4 x5) σ) (hw : w = W x0 x1 x2 x3 x4 x5) (hi : I x0 x1 x2 x3 x4 x5)
    (round : ∀ x0 x1 x2 x3 x4 x5, I x0 x1 x2 x3 x4 x5 → KR P R (.code c :: .asr (BackR6 R n I S W μ x0 x1 x2 x3 x4 x5) :: k) n (S x0 x1 x2 x3 x4 x5) (W x0 x1 x2 x3 x4 x5)) : KR P R (.code (.loop c) :: k) n σ w :=
  KR.loop (fun p : α × β × γ × δ × ε × ζ => I p.1 p.2.1 p.2.2.1 p.2.2.2.1 p.2.2.2.2.1 p.2.2.2.2.2) (fun p => S p.1 p.2.1 p.2.2.1 p.2.2.2.1 p.2.2.2.2.1 p.2.2.2.2.2) (fun p => W p.1 p.2.1 p.2.2.1 p.2.2.2.1 p.2.2.2.2.1 p.2.2.2.2.2) (fun p => μ p.1 p.2.1 p.2.2.1 p.2.2.2.1 p.2.2.2.2.1 p.2.2.2.2.2) (x0, x1, x2, x3, x4, x5) hs hw hi fun p hp => round p.1 p.2.1 p.2.2.1 p.2.2.2.1 p.2.2.2.2.1 p.2.2.2.2.2 hp
theorem KR.back6 {α β γ δ ε ζ : Type} {I : α → β → γ → δ → ε → ζ → Prop} {S : α → β → γ → δ → ε → ζ → Sig} {W : α → β → γ → δ → ε → ζ → World} {μ : α → β → γ → δ → ε → ζ → Nat} {y0 : α} {y1 : β} {y2 : γ} {y3 : δ} {y4 : ε} {y5 : ζ} (x0 : α) (x1 : β) (x2 : γ) (x3 : δ) (x4 : ε) (x5 : ζ) (hs : Subs (S x0 x1 x2 x3 x4 x5) σ) (hw : w = W x0 x1 x2 x3 x4 x5) (hi : I x0 x1 x2 x3 x4 x5) (hm : μ x0 x1 x2 x3 x4 x5 < μ y0 y1 y2 y3 y4 y5) :
    KR P R (.asr (BackR6 R n I S W μ y0 y1 y2 y3 y4 y5) :: k) n σ w :=
  KR.back (I := fun p : α × β × γ × δ × ε × ζ => I p.1 p.2.1 p.2.2.1 p.2.2.2.1 p.2.2.2.2.1 p.2.2.2.2.2) (S := fun p => S p.1 p.2.1 p.2.2.1 p.2.2.2.1 p.2.2.2.2.1 p.2.2.2.2.2) (W := fun p => W p.1 p.2.1 p.2.2.1 p.2.2.2.1 p.2.2.2.2.1 p.2.2.2.2.2) (μ := fun p => μ p.1 p.2.1 p.2.2.1 p.2.2.2.1 p.2.2.2.2.1 p.2.2.2.2.2) (x0, x1, x2, x3, x4, x5) hs hw hi hm
theorem KR.cut6 {α β γ δ ε ζ : Type} (I : α → β → γ → δ → ε → ζ → Prop) (S : α → β → γ → δ → ε → ζ → Sig) (W : α → β → γ → δ → ε → ζ → World) {c : Code} (h : KR P R (.code c :: .asr (MetR6 R n I S W) :: k) n σ w)
    (h2 : ∀ x0 x1 x2 x3 x4 x5, I x0 x1 x2 x3 x4 x5 → KR P R k n (S x0 x1 x2 x3 x4 x5) (W x0 x1 x2 x3 x4 x5)) : KR P R (.code c :: k) n σ w :=
  KR.cut (fun p : α × β × γ × δ × ε × ζ => I p.1 p.2.1 p.2.2.1 p.2.2.2.1 p.2.2.2.2.1 p.2.2.2.2.2) (fun p => S p.1 p.2.1 p.2.2.1 p.2.2.2.1 p.2.2.2.2.1 p.2.2.2.2.2) (fun p => W p.1 p.2.1 p.2.2.1 p.2.2.2.1 p.2.2.2.2.1 p.2.2.2.2.2) h fun p hp => h2 p.1 p.2.1 p.2.2.1 p.2.2.2.1 p.2.2.2.2.1 p.2.2.2.2.2 hp
theorem KR.meet6 {α β γ δ ε ζ : Type} {I : α → β → γ → δ → ε → ζ → Prop} {S : α → β → γ → δ → ε → ζ → Sig} {W : α → β → γ → δ → ε → ζ → World} (x0 : α) (x1 : β) (x2 : γ) (x3 : δ) (x4 : ε) (x5 : ζ) (hs : Subs (S x0 x1 x2 x3 x4 x5) σ) (hw : w = W x0 x1 x2 x3 x4 x5) (hi : I x0 x1 x2 x3 x4 x5) :
    KR P R (.asr (MetR6 R n I S W) :: k) n σ w :=
  KR.meet (I := fun p : α × β × γ × δ × ε × ζ => I p.1 p.2.1 p.2.2.1 p.2.2.2.1 p.2.2.2.2.1 p.2.2.2.2.2) (S := fun p => S p.1 p.2.1 p.2.2.1 p.2.2.2.1 p.2.2.2.2.1 p.2.2.2.2.2) (W := fun p => W p.1 p.2.1 p.2.2.1 p.2.2.2.1 p.2.2.2.2.1 p.2.2.2.2.2) (x0, x1, x2, x3, x4, x5) hs hw hi
def BackR7 {α β γ δ ε ζ η : Type} (R : RP) (n : Nat) (I : α → β → γ → δ → ε → ζ → η → Prop) (S : α → β → γ → δ → ε → ζ → η → Sig) (W : α → β → γ → δ → ε → ζ → η → World) (μ : α → β → γ → δ → ε → ζ → η → Nat) (x0 : α) (x1 : β) (x2 : γ) (x3 : δ) (x4 : ε) (x5 : ζ) (x6 : η) : Act → World → Prop :=
  BackR R n (fun p : α × β × γ × δ × ε × ζ × η => I p.1 p.2.1 p.2.2.1 p.2.2.2.1 p.2.2.2.2.1 p.2.2.2.2.2.1 p.2.2.2.2.2.2) (fun p => S p.1 p.2.1 p.2.2.1 p.2.2.2.1 p.2.2.2.2.1 p.2.2.2.2.2.1 p.2.2.2.2.2.2) (fun p => W p.1 p.2.1 p.2.2.1 p.2.2.2.1 p.2.2.2.2.1 p.2.2.2.2.2.1 p.2.2.2.2.2.2) (fun p => μ p.1 p.2.1 p.2.2.1 p.2.2.2.1 p.2.2.2.2.1 p.2.2.2.2.2.1 p.2.2.2.2.2.2) (x0, x1, x2, x3, x4, x5, x6)
def MetR7 {α β γ δ ε ζ η : Type} (R : RP) (n : Nat) (I : α → β → γ → δ → ε → ζ → η → Prop) (S : α → β → γ → δ → ε → ζ → η → Sig) (W : α → β → γ → δ → ε → ζ → η → World) : Act → World → Prop :=
  MetR R n (fun p : α × β × γ × δ × ε × ζ × η => I p.1 p.2.1 p.2.2.1 p.2.2.2.1 p.2.2.2.2.1 p.2.2.2.2.2.1 p.2.2.2.2.2.2) (fun p => S p.1 p.2.1 p.2.2.1 p.2.2.2.1 p.2.2.2.2.1 p.2.2.2.2.2.1 p.2.2.2.2.2.2) (fun p => W p.1 p.2.1 p.2.2.1 p.2.2.2.1 p.2.2.2.2.1 p.2.2.2.2.2.1 p.2.2.2.2.2.2)
theorem KR.loop7 {α β γ δ ε ζ η : Type} (I : α → β → γ → δ → ε → ζ → η → Prop) (S : α → β → γ → δ → ε → ζ → η → Sig) (W : α → β → γ → δ → ε → ζ → η → World) (μ : α → β → γ → δ → ε → ζ → η → Nat) {c : Code} (x0 : α) (x1 : β) (x2 : γ) (x3 : δ) (x4 : ε) (x5 : ζ) (x6 : η) (hs : Subs (S x0 x1 x2 x3 x4 x5 x6) σ) (hw : w = W x0 x1 x2 x3 x4 x5 x6) (hi : I x0 x1 x2 x3 x4 x5 x6)
    (round : ∀ x0 x1 x2 x3 x4 x5 x6, I x0 x1 x2 x3 x4 x5 x6 → KR P R (.code c :: .asr (BackR7 R n I S W μ x0 x1 x2 x3 x4 x5 x6) :: k) n (S x0 x1 x2 x3 x4 x5 x6) (W x0 x1 x2 x3 x4 x5 x6)) : KR P R (.code (.loop c) :: k) n σ w :=
  KR.loop (fun p : α × β × γ × δ × ε × ζ × η => I p.1 p.2.1 p.2.2.1 p.2.2.2.1 p.2.2.2.2.1 p.2.2.2.2.2.1 p.2.2.2.2.2.2) (fun p => S p.1 p.2.1 p.2.2.1 p.2.2.2.1 p.2.2.2.2.1 p.2.2.2.2.2.1 p.2.2.2.2.2.2) (fun p => W p.1 p.2.1 p.2.2.1 p.2.2.2.1 p.2.2.2.2.1 p.2.2.2.2.2.1 p.2.2.2.2.2.2) (fun p => μ p.1 p.2.1 p.2.2.1 p.2.2.2.1 p.2.2.2.2.1 p.2.2.2.2.2.1 p.2.2.2.2.2.2) (x0, x1, x2, x3, x4, x5, x6) hs hw hi fun p hp => round p.1 p.2.1 p.2.2.1 p.2.2.2.1 p.2.2.2.2.1 p.2.2.2.2.2.1 p.2.2.2.2.2.2 hp
theorem KR.back7 {α β γ δ ε ζ η : Type} {I : α → β → γ → δ → ε → ζ → η → Prop} {S : α → β → γ → δ → ε → ζ → η → Sig} {W : α → β → γ → δ → ε → ζ → η → World} {μ : α → β → γ → δ → ε → ζ → η → Nat} {y0 : α} {y1 : β} {y2 : γ} {y3 : δ} {y4 : ε} {y5 : ζ} {y6 : η} (x0 : α) (x1 : β) (x2 : γ) (x3 : δ) (x4 : ε) (x5 : ζ) (x6 : η) (hs : Subs (S x0 x1 x2 x3 x4 x5 x6) σ) (hw : w = W x0 x1 x2 x3 x4 x5 x6) (hi : I x0 x1 x2 x3 x4 x5 x6) (hm : μ x0 x1 x2 x3 x4 x5 x6 < μ y0 y1 y2 y3 y4 y5 y6) :
    KR P R (.asr (BackR7 R n I S W μ y0 y1 y2 y3 y4 y5 y6) :: k) n σ w :=
  KR.back (I := fun p : α × β × γ × δ × ε × ζ × η => I p.1 p.2.1 p.2.2.1 p.2.2.2.1 p.2.2.2.2.1 p.2.2.2.2.2.1 p.2.2.2.2.2.2) (S := fun p => S p.1 p.2.1 p.2.2.1 p.2.2.2.1 p.2.2.2.2.1 p.2.2.2.2.2.1 p.2.2.2.2.2.2) (W := fun p => W p.1 p.2.1 p.2.2.1 p.2.2.2.1 p.2.2.2.2.1 p.2.2.2.2.2.1 p.2.2.2.2.2.2) (μ := fun p => μ p.1 p.2.1 p.2.2.1 p.2.2.2.1 p.2.2.2.2.1 p.2.2.2.2.2.1 p.2.2.2.2.2.2) (x0, x1, x2, x3, x4, x5, x6) hs hw hi hm
theorem KR.cut7 {α β γ δ ε ζ η : Type} (I : α → β → γ → δ → ε → ζ → η → Prop) (S : α → β → γ → δ → ε → ζ → η → Sig) (W : α → β → γ → δ → ε → ζ → η → World) {c : Code} (h : KR P R (.code c :: .asr (MetR7 R n I S W) :: k) n σ w)
    (h2 : ∀ x0 x1 x2 x3 x4 x5 x6, I x0 x1 x2 x3 x4 x5 x6 → KR P R k n (S x0 x1 x2 x3 x4 x5 x6) (W x0 x1 x2 x3 x4 x5 x6)) : KR P R (.code c :: k) n σ w :=
  KR.cut (fun p : α × β × γ × δ × ε × ζ × η => I p.1 p.2.1 p.2.2.1 p.2.2.2.1 p.2.2.2.2.1 p.2.2.2.2.2.1 p.2.2.2.2.2.2) (fun p => S p.1 p.2.1 p.2.2.1 p.2.2.2.1 p.2.2.2.2.1 p.2.2.2.2.2.1 p.2.2.2.2.2.2) (fun p => W p.1 p.2.1 p.2.2.1 p.2.2.2.1 p.2.2.2.2.1 p.2.2.2.2.2.1 p.2.2.2.2.2.2) h fun p hp => h2 p.1 p.2.1 p.2.2.1 p.2.2.2.1 p.2.2.2.2.1 p.2.2.2.2.2.1 p.2.2.2.2.2.2 hp
theorem KR.meet7 {α β γ δ ε ζ η : Type} {I : α → β → γ → δ → ε → ζ → η → Prop} {S : α → β → γ → δ → ε → ζ → η → Sig} {W : α → β → γ → δ → ε → ζ → η → World} (x0 : α) (x1 : β) (x2 : γ) (x3 : δ) (x4 : ε) (x5 : ζ) (x6 : η) (hs : Subs (S x0 x1 x2 x3 x4 x5 x6) σ) (hw : w = W x0 x1 x2 x3 x4 x5 x6) (hi : I x0 x1 x2 x3 x4 x5 x6) :
    KR P R (.asr (MetR7 R n I S W) :: k) n σ w :=
  KR.meet (I := fun p : α × β × γ × δ × ε × ζ × η => I p.1 p.2.1 p.2.2.1 p.2.2.2.1 p.2.2.2.2.1 p.2.2.2.2.2.1 p.2.2.2.2.2.2) (S := fun p => S p.1 p.2.1 p.2.2.1 p.2.2.2.1 p.2.2.2.2.1 p.2.2.2.2.2.1 p.2.2.2.2.2.2) (W := fun p => W p.1 p.2.1 p.2.2.1 p.2.2.2.1 p.2.2.2.2.1 p.2.2.2.2.2.1 p.2.2.2.2.2.2) (x0, x1, x2, x3, x4, x5, x6) hs hw hi
end


/-! ### A region -/
def OR (P : Program) (R : RP) (ops : Array Oper) (l : List Oper) (k : List KI) (n : Nat) (σ : Sig) (w : World) : Prop := ∀ a, FrD R n σ a → wpListIn R.F R.m P ops (psr P R k) l a w
section
variable {P : Program} {R : RP} {ops : Array Oper} {l rest : List Oper} {k : List KI} {n : Nat} {σ : Sig} {w w' : World}
theorem KR.region {id : Nat} (h : OR P R l.toArray l k n σ w) : KR P R (.code (.region id l.toArray false) :: k) n σ w := fun a ha => wpIn_region_lit (h a ha)
theorem OR.nil (h : KR P R k n σ w) : OR P R ops [] k n σ w := h
theorem OR.sub {σ' : Sig} (hs : Subs σ' σ) (h : OR P R ops l k n σ' w) : OR P R ops l k n σ w := fun a ha => h a (ha.sub hs)
theorem FrD.as {a : Act} (t : Nat) (v' : Value) {v : Value} (ht : lk σ t = some v) (e : v = v') (ha : FrD R n σ a) : FrD R n ((t, v') :: σ) a :=
  ⟨⟨ha.fr.size, fun i u hu => by
    rw [lk_cons] at hu
    by_cases e' : t = i
    · subst e'
      simp at hu
      subst hu
      rw [← e]
      exact ha.fr.val t _ ht
    · simp [e'] at hu
      exact ha.fr.val i u hu, ha.fr.df⟩, ha.df⟩
theorem OR.as (t : Nat) (v' : Value) {v : Value} (ht : lk σ t = some v) (e : v = v') (h : OR P R ops l k n ((t, v') :: σ) w) : OR P R ops l k n σ w := fun a ha => h a (ha.as t v' ht e)
theorem KR.as (t : Nat) (v' : Value) {v : Value} (ht : lk σ t = some v) (e : v = v') (h : KR P R k n ((t, v') :: σ) w) : KR P R k n σ w := fun a ha => h a (ha.as t v' ht e)
theorem OR.split (t : Nat) {b : Bool} (ht : lk σ t = some (.bool b)) (h1 : b = true → OR P R ops l k n ((t, .bool true) :: σ) w) (h2 : b = false → OR P R ops l k n ((t, .bool false) :: σ) w) : OR P R ops l k n σ w := by
  cases b with
  | true => exact OR.as t _ ht rfl (h1 rfl)
  | false => exact OR.as t _ ht rfl (h2 rfl)
theorem OR.splitD (t : Nat) {p : Prop} [Decidable p] (ht : lk σ t = some (.bool (decide p))) (h1 : p → OR P R ops l k n ((t, .bool true) :: σ) w) (h2 : ¬ p → OR P R ops l k n ((t, .bool false) :: σ) w) : OR P R ops l k n σ w :=
  OR.split t ht (fun e => h1 (of_decide_eq_true e)) (fun e => h2 (of_decide_eq_false e))
theorem wantD {a : Act} (ha : FrD R n σ a) {o : Oper} {b : Bool} (h : wantS ops σ o.guard = some b) : Region.wanted o (yielded ops a.tmps) = b := wantS_spec ha.fr h
theorem RP.semAt (R : RP) {ρ : Operand → Value} {o : Oper} {r : Result Next} {w : World} (h : (execOp ρ o).run P w = r) (hd : ∀ c, o.op ≠ .defer c) : (o.semAt R.F.round ρ).run P w = r := by rw [Oper.semAt_eq _ _ _ hd]; exact h
theorem EX.noDefer {op : Op} {ty : TypeId} {v : Value} (he : EX P n σ op ty w v w') {a : Act} (ha : Fr n σ a) : ∀ c, op ≠ .defer c := fun c e => by
  subst e
  have h := he a ha none "" #[] none
  unfold execOp at h
  simp only [Sem.run_bind] at h
  unfold Result.andThen at h
  split at h <;> simp at h
theorem EU.noDefer {op : Op} {ty : TypeId} (he : EU P n σ op ty w w') {a : Act} (ha : Fr n σ a) : ∀ c, op ≠ .defer c := fun c e => by
  subst e
  have h := he a ha none "" #[] none
  unfold execOp at h
  simp only [Sem.run_bind] at h
  unfold Result.andThen at h
  split at h <;> simp at h
theorem EC.noDefer {op : Op} {ty : TypeId} {f : FuncId} {args : Array Value} (he : EC P n σ op ty w f args) {a : Act} (ha : Fr n σ a) : ∀ c, op ≠ .defer c := fun c e => by
  subst e
  have h := he a ha none "" #[] none
  unfold execOp at h
  simp only [Sem.run_bind] at h
  unfold Result.andThen at h
  split at h <;> simp at h
theorem evalD (a : Act) : ({ a with defers := [] } : Act).eval = a.eval := by funext x; cases x <;> rfl
theorem OR.val {d : Nat} {op : Op} {ty : TypeId} {pos : String} {after : Array Edge} {g : Option (Nat × Bool)} {v : Value} (hg : wantS ops σ g = some true) (hd : Nat.blt d n = true) (he : EX P n σ op ty w v w')
    (h : OR P R ops rest k n ((d, v) :: σ) w') : OR P R ops (⟨some d, op, ty, pos, after, g⟩ :: rest) k n σ w := fun a ha => by
  have h1 := he _ ha.fr (some d) pos after g
  rw [evalD] at h1
  unfold wpListIn
  rw [if_pos (wantD ha (o := ⟨some d, op, ty, pos, after, g⟩) hg)]
  refine ⟨fun _ _ => trivial, ?_⟩
  rw [R.semAt h1 (he.noDefer ha.fr)]
  exact h _ (ha.put hd v)
theorem OR.eff {op : Op} {ty : TypeId} {pos : String} {after : Array Edge} {g : Option (Nat × Bool)} (hg : wantS ops σ g = some true) (he : EU P n σ op ty w w')
    (h : OR P R ops rest k n σ w') : OR P R ops (⟨none, op, ty, pos, after, g⟩ :: rest) k n σ w := fun a ha => by
  have h1 := he _ ha.fr none pos after g
  rw [evalD] at h1
  unfold wpListIn
  rw [if_pos (wantD ha (o := ⟨none, op, ty, pos, after, g⟩) hg)]
  refine ⟨fun _ _ => trivial, ?_⟩
  rw [R.semAt h1 (he.noDefer ha.fr)]
  exact h _ ha
theorem OR.pass {d : Nat} {op : Op} {ty : TypeId} {pos : String} {after : Array Edge} {g : Option (Nat × Bool)} (hg : wantS ops σ g = some false) (hd : Nat.blt d n = true)
    (h : OR P R ops rest k n ((d, undef) :: σ) w) : OR P R ops (⟨some d, op, ty, pos, after, g⟩ :: rest) k n σ w := fun a ha => by
  unfold wpListIn
  rw [if_neg (by rw [wantD ha (o := ⟨some d, op, ty, pos, after, g⟩) hg]; simp)]
  exact ⟨fun _ _ => trivial, h _ (ha.put hd undef)⟩
theorem OR.passU {op : Op} {ty : TypeId} {pos : String} {after : Array Edge} {g : Option (Nat × Bool)} (hg : wantS ops σ g = some false)
    (h : OR P R ops rest k n σ w) : OR P R ops (⟨none, op, ty, pos, after, g⟩ :: rest) k n σ w := fun a ha => by
  unfold wpListIn
  rw [if_neg (by rw [wantD ha (o := ⟨none, op, ty, pos, after, g⟩) hg]; simp)]
  exact ⟨fun _ _ => trivial, h _ ha⟩
theorem callsIn_round {r : Option Nat} {m : Nat} {f : FuncId} {args : Array Value} {Q : Ending → World → Prop} (h : Calls P f args w Q) : CallsIn { Fence.wide with round := r } m P f args w Q := by
  have h1 : CallsIn Fence.wide m P f args w Q := callsIn_wide.2 h
  exact h1
theorem OR.callE {d : Nat} {op : Op} {ty : TypeId} {pos : String} {after : Array Edge} {g : Option (Nat × Bool)} {f : FuncId} {args : List Value} {Q : Value → World → Prop} (hg : wantS ops σ g = some true) (hd : Nat.blt d n = true)
    (he : EC P n σ op ty w f args.toArray) (hc : Ret P f args w Q) (h : ∀ v w', Q v w' → OR P R ops rest k n ((d, v) :: σ) w') : OR P R ops (⟨some d, op, ty, pos, after, g⟩ :: rest) k n σ w := fun a ha => by
  have h1 := he _ ha.fr (some d) pos after g
  rw [evalD] at h1
  unfold wpListIn
  rw [if_pos (wantD ha (o := ⟨some d, op, ty, pos, after, g⟩) hg)]
  refine ⟨fun _ _ => trivial, ?_⟩
  rw [R.semAt h1 (he.noDefer ha.fr)]
  refine ⟨fun q => (by cases q), ?_⟩
  refine callsIn_round (hc.2.mono fun e w'' ⟨v, he, q⟩ => ?_)
  subst he
  exact h v w'' q _ (ha.put hd v)
theorem OR.call {d : Nat} {f : FuncId} {xs : List Operand} {ats : Array TypeId} {ty : TypeId} {pos : String} {after : Array Edge} {g : Option (Nat × Bool)} {vs : List Value} {Q : Value → World → Prop}
    (hg : wantS ops σ g = some true) (hd : Nat.blt d n = true) (hx : evs σ xs = some vs) (hc : Ret P f vs w Q) (h : ∀ v w', Q v w' → OR P R ops rest k n ((d, v) :: σ) w') :
    OR P R ops (⟨some d, .call { callee := .value (.func f), args := xs.toArray, argTypes := ats }, ty, pos, after, g⟩ :: rest) k n σ w := by
  obtain ⟨⟨fn, h1, h2⟩, _⟩ := id hc
  exact OR.callE hg hd (EC.go h1 h2 hx) hc h
/-- a call of yield: the round's word -/
def YieldR (P : Program) (m l : Nat) (args : List Value) (W : World) (Q : Value → World → Prop) : Prop := YieldAt Fence.wide m P l args.toArray W fun e W' => ∃ v, e = .returned v ∧ Q v W'
theorem OR.yield {d : Nat} {x t : Operand} {ats : Array TypeId} {ty : TypeId} {pos : String} {after : Array Edge} {g : Option (Nat × Bool)} {lr : Nat} {v : Value} {Q : Value → World → Prop} (hr : R.round = none)
    (hg : wantS ops σ g = some true) (hd : Nat.blt d n = true) (ht : ev σ t = some (.func (.yield lr) #[] #[])) (hx : ev σ x = some v) (hc : YieldR P (R.m - 1) lr [v] w Q)
    (h : ∀ u w', Q u w' → OR P R ops rest k n ((d, u) :: σ) w') :
    OR P R ops (⟨some d, .call { callee := .value t, args := #[x], argTypes := ats }, ty, pos, after, g⟩ :: rest) k n σ w := fun a ha => by
  obtain ⟨ro, m, ds, post⟩ := R
  simp only at hr
  subst hr
  obtain ⟨fn, tmps, assign, body, hy, hR⟩ := hc
  have et : a.eval t = .func (.yield lr) #[] #[] := by have := ha.fr.ev ht; rwa [evalD] at this
  have ex : a.eval x = v := by have := ha.fr.ev hx; rwa [evalD] at this
  unfold wpListIn
  rw [if_pos (wantD ha (o := ⟨some d, .call { callee := .value t, args := #[x], argTypes := ats }, ty, pos, after, g⟩) hg)]
  refine ⟨fun _ _ => trivial, ?_⟩
  have h1 : (execOp a.eval ⟨some d, .call { callee := .value t, args := #[x], argTypes := ats }, ty, pos, after, g⟩).run P w = .ok (.round lr fn tmps assign body) w := by
    simp only [execOp, resolve, Deferred.ofValue, et, Sem.run_bind, Sem.run_pure, Result.andThen_ok, invoke]
    simpa [ex] using hy
  rw [RP.semAt _ h1 (by simp)]
  refine ⟨fun q => (by cases q), ?_⟩
  have hR' : RoundIn (RP.F ⟨none, m, ds, post⟩) (m - 1) P lr fn tmps assign body w _ := hR
  refine hR'.mono fun e w'' ⟨u, he, q⟩ => ?_
  subst he
  exact h u w'' q _ (ha.put hd u)
end
section
variable {P : Program} {R : RP} {ops : Array Oper} {rest : List Oper} {k : List KI} {n : Nat} {σ : Sig} {w : World} {x y t : Operand} {T T' e ty : TypeId} {pos : String} {after : Array Edge} {gd : Option (Nat × Bool)} {d : Nat} {v z : Value} {s bs : Nat} {l : List Value}
theorem OR.boxB (hg : wantS ops σ gd = some true) (hd : Nat.blt d n = true) (hx : ev σ x = some v) (h1 : v.oneCell' = true)
    (h : ∀ b w', w.heap.size ≤ b → Bk w' b T [v] → Ext w w' → OR P R ops rest k n ((d, .pointer (some ⟨b, 0, none⟩)) :: σ) w') :
    OR P R ops (⟨some d, .box T x, ty, pos, after, gd⟩ :: rest) k n σ w :=
  OR.val hg hd (EX.box1 hx h1) (h _ _ (Nat.le_refl _) (Bk.new w T [v]) (Ext.alloc w _))
theorem OR.allocB (hg : wantS ops σ gd = some true) (hd : Nat.blt d n = true) (hi : TI P T z s bs) (hl : z.cells.toList = l)
    (h : ∀ b w', w.heap.size ≤ b → Bk w' b T l → Ext w w' → OR P R ops rest k n ((d, .pointer (some ⟨b, 0, none⟩)) :: σ) w') :
    OR P R ops (⟨some d, .alloc T, ty, pos, after, gd⟩ :: rest) k n σ w :=
  OR.val hg hd (EX.alloc hi hl) (h _ _ (Nat.le_refl _) (Bk.new w T l) (Ext.alloc w _))
theorem OR.storeB {b i : Nat} (hg : wantS ops σ gd = some true) (hi : TI P T z 1 bs) (hx : ev σ x = some (.pointer (some ⟨b, i, none⟩))) (hy : ev σ y = some v) (h1 : v.oneCell' = true) (hb : Bk w b T' l) (hlt : i < l.length)
    (h : ∀ w', Bk w' b T' (l.set i v) → Mo w w' [b] → OR P R ops rest k n σ w') :
    OR P R ops (⟨none, .store T x y, ty, pos, after, gd⟩ :: rest) k n σ w :=
  OR.eff hg (EU.storeBk hi hx hy h1 hb hlt) (h _ (hb.set i v) (Mo.set w b i v))
theorem OR.buildB {parts : Array (Nat × Operand)} {vs : List Value} (len : Nat) (hg : wantS ops σ gd = some true) (hd : Nat.blt d n = true) (ht : P.underlying T = some (.slice e)) (hi : TI P e z 1 bs) (hz1 : z.oneCell' = true)
    (hv : evs σ (parts.toList.map (·.2)) = some vs) (hp : parts.toList.map (·.1) = List.range' 0 parts.toList.length) (hl : vs.length = len) (h1 : vs.all (·.oneCell') = true) (hlen : len ≤ 16777216)
    (h : ∀ b w', w.heap.size ≤ b → Bk w' b e vs → Ext w w' → OR P R ops rest k n ((d, .slice (some ⟨b, 0, none⟩) len len) :: σ) w') :
    OR P R ops (⟨some d, .buildSlice T len parts, ty, pos, after, gd⟩ :: rest) k n σ w :=
  OR.val hg hd (EX.buildSlice len ht hi hz1 hv hp hl h1 hlen) (h _ _ (Nat.le_refl _) (Bk.new w e vs) (Ext.alloc w _))
theorem OR.callV {f : FuncId} {xs : List Operand} {ats : Array TypeId} {vs fv cv args : List Value} {Q : Value → World → Prop}
    (hg : wantS ops σ gd = some true) (hd : Nat.blt d n = true) (ht : ev σ t = some (.func (.func f) fv.toArray cv.toArray)) (hx : evs σ xs = some vs) (he : fv ++ vs ++ cv = args) (hc : Ret P f args w Q)
    (h : ∀ v w', Q v w' → OR P R ops rest k n ((d, v) :: σ) w') :
    OR P R ops (⟨some d, .call { callee := .value t, args := xs.toArray, argTypes := ats }, ty, pos, after, gd⟩ :: rest) k n σ w := by
  obtain ⟨⟨fn, h1, h2⟩, _⟩ := id hc
  exact OR.callE hg hd (EC.val h1 h2 ht hx he) hc h
end
section
variable {P : Program} {R : RP} {ops : Array Oper} {rest : List Oper} {k : List KI} {n : Nat} {σ : Sig} {w : World} {x y : Operand} {t t' e ty : TypeId} {pos : String} {after : Array Edge} {gd : Option (Nat × Bool)} {d : Nat}
theorem OR.append (B : Nat) {z : Value} {s bs : Nat} (hg : wantS ops σ gd = some true) (hd : Nat.blt d n = true) (ht : P.underlying t = some (.slice e)) (hi : TI P e z s bs) (hzs : z.cells.size = s) (hs0 : 0 < s)
    {v xv : Value} {m l : Nat} {xs news : List Value} (hx : ev σ x = some v) (hy : ev σ y = some xv) (hown : Own w B e s v l xs) (hsrc : Src P s t' xv m news w)
    (h63 : l + m ≤ maxLen) (hbytes : (l + m) * bs ≤ 140737488355328) (hB : B ≤ w.heap.size)
    (h : ∀ v' w', Own w' B e s v' (l + m) (xs ++ news) → w.grownBy w' v.ownBlock → (v'.ownBlock = v.ownBlock ∨ v'.ownBlock = some w.heap.size) → OR P R ops rest k n ((d, v') :: σ) w') :
    OR P R ops (⟨some d, .call { callee := .builtin .append, args := #[x, y], argTypes := #[t, t'] }, ty, pos, after, gd⟩ :: rest) k n σ w := by
  obtain ⟨v', w', hr, h2, h3, h4⟩ := run_append (P := P) B t t' ty e ht hi hzs hs0 hown hsrc h63 hbytes hB
  refine OR.val hg hd (v := v') (w' := w') ?_ (h v' w' h2 h3 h4)
  intro A ha dst pos after g
  simp only [execOp, resolve, invoke, builtin, Sem.run_bind, Sem.run_pure, Result.andThen_ok, List.map_toArray, List.map_cons, List.map_nil, ha.ev hx, ha.ev hy, hr]
end
section
variable {P : Program} {R : RP} {ops : Array Oper} {rest : List Oper} {k : List KI} {n : Nat} {σ : Sig} {w w0 : World} {x y : Operand} {t t' e ty ty1 : TypeId} {pos pos1 : String} {after after1 : Array Edge} {gd gd1 : Option (Nat × Bool)} {d d1 : Nat}
theorem OR.appendX {z : Value} {s bs : Nat} (hg : wantS ops σ gd = some true) (hd : Nat.blt d n = true) (ht : P.underlying t = some (.slice e)) (hi : TI P e z s bs) (hzs : z.cells.size = s) (hs0 : 0 < s)
    {v xv : Value} {m l : Nat} {xs news : List Value} (hx : ev σ x = some v) (hy : ev σ y = some xv) (hext : Ext w0 w) (hown : Own w w0.heap.size e s v l xs) (hsrc : Src P s t' xv m news w)
    (h63 : l + m ≤ maxLen) (hbytes : (l + m) * bs ≤ 140737488355328)
    (h : ∀ v' w', Own w' w0.heap.size e s v' (l + m) (xs ++ news) → Ext w0 w' → w.grownBy w' v.ownBlock → (v'.ownBlock = v.ownBlock ∨ v'.ownBlock = some w.heap.size) → OR P R ops rest k n ((d, v') :: σ) w') :
    OR P R ops (⟨some d, .call { callee := .builtin .append, args := #[x, y], argTypes := #[t, t'] }, ty, pos, after, gd⟩ :: rest) k n σ w :=
  OR.append w0.heap.size hg hd ht hi hzs hs0 hx hy hown hsrc h63 hbytes hext.size fun v' w' h1 h2 h3 => h v' w' h1 (hext.grown h2 fun g hg => (hown.lt g hg).1) h2 h3
theorem OR.push {z : Value} {bs : Nat} (hg1 : wantS ops σ gd1 = some true) (hd1 : Nat.blt d1 n = true) (hg : ∀ u, wantS ops ((d1, u) :: σ) gd = some true) (hd : Nat.blt d n = true) (ht : P.underlying t = some (.slice e)) (hi : TI P e z 1 bs) (hz1 : z.oneCell' = true)
    {v u : Value} {l : Nat} {xs : List Value} (hy : ev σ y = some u) (hx : ∀ q, ev ((d1, q) :: σ) x = some v) (hu : u.oneCell' = true) (hext : Ext w0 w) (hown : Own w w0.heap.size e 1 v l xs)
    (h63 : l + 1 ≤ maxLen) (hbytes : (l + 1) * bs ≤ 140737488355328)
    (h : ∀ q v' w', Own w' w0.heap.size e 1 v' (l + 1) (xs ++ [u]) → Ext w0 w' → w.grownBy w' v.ownBlock → (v'.ownBlock = v.ownBlock ∨ ∃ g, v'.ownBlock = some g ∧ w.heap.size ≤ g) → OR P R ops rest k n ((d, v') :: (d1, q) :: σ) w') :
    OR P R ops (⟨some d1, .buildSlice t 1 #[(0, y)], ty1, pos1, after1, gd1⟩ :: ⟨some d, .call { callee := .builtin .append, args := #[x, .tmp d1], argTypes := #[t, t] }, ty, pos, after, gd⟩ :: rest) k n σ w := by
  refine OR.val hg1 hd1 (EX.buildSlice (vs := [u]) 1 ht hi hz1 (by simp [evs, hy]) rfl rfl (by simp [hu]) (by decide)) ?_
  have hx1 : Ext w0 (w.alloc (.cells [u].toArray e)) := hext.trans (Ext.alloc w _)
  have hb := Bk.new w e [u]
  refine OR.appendX (hg _) hd ht hi (by rw [oneCell_cells hz1]; rfl) (by decide) (hx _) (lk_cons_same _ _ _) hx1 (hown.alloc _) (Src.of_sl ht (Sl.of_bk hb hb.lt) rfl (by simpa using hu) (by decide)) h63 hbytes ?_
  intro v' w' h1 h2 h3 h4
  refine h _ v' w' h1 h2 ⟨h3.os, h3.tape, h3.output, by have := h3.size; simp at this; omega, fun j hj hne => ?_⟩ ?_
  · rw [h3.block j (by simp; omega) hne]
    exact Below.heap_alloc w _ j hj
  · rcases h4 with h4 | h4
    · exact .inl h4
    · exact .inr ⟨_, h4, by simp⟩
end
/-! ### The statement; a function's beginning and its end -/
def RP.mark (R : RP) (D : Nat) : RP := { R with ds := { target := .collected D, args := #[] } :: R.ds }
theorem psr_mark {P : Program} {R : RP} {D : Nat} : ∀ (k : List KI) (e : Exit), psr P (R.mark D) k e = psr P R k e
  | [], e => rfl
  | .code c :: k, e => by
    have ih : psr P (R.mark D) k = psr P R k := funext (psr_mark k)
    cases e <;> (simp only [psr, ih]; try rfl)
  | .blk id :: k, e => by
    have ih : psr P (R.mark D) k = psr P R k := funext (psr_mark k)
    cases e <;> simp only [psr, ih]
  | .asr I :: k, e => by
    have ih : psr P (R.mark D) k = psr P R k := funext (psr_mark k)
    cases e <;> simp only [psr, ih]
section
variable {P : Program} {R : RP} {k : List KI} {n : Nat} {σ : Sig} {w : World}
theorem stepR_scope {b : Frame} {a : Act} {c : Code} {k : List Item} {cs : List Frame} : step P (lone (b.atR a (.code (.scope c) :: k)) cs w) = .next (lone (b.atR a (.code c :: .inScope c :: k)) cs w) :=
  step_lone_go (by simp [stepG, stepG.exec, Frame.atR])
theorem stepR_inScope {b : Frame} {a : Act} {c : Code} {k : List Item} {cs : List Frame} : step P (lone (b.atR a (.inScope c :: k)) cs w) = .next (lone (b.atR a k) cs w) :=
  step_lone_go (by simp [stepG, stepG.exec, Frame.atR])
theorem wpIn_scope {F : Fence} {n : Nat} {a : Act} {Q : Exit → Act → World → Prop} {c : Code} (h : c.wpIn F n P Q a w) (hg : ∀ l a w, Q (.goto l) a w → False) : (Code.scope c).wpIn F n P Q a w := by
  intro b k cs hro hb hr
  have h0 : (lone (b.atR a (.code (.scope c) :: k)) cs w).fenced P F := fenced_calm hb hr rfl
  obtain ⟨e, a₁, w₁, hq, harr⟩ := h b (.inScope c :: k) cs hro hb hr
  cases e with
  | normal => exact ⟨.normal, a₁, w₁, hq, .head h0 stepR_scope (StepsIn.trans harr (.one (fenced_calm hb hr rfl) stepR_inScope))⟩
  | exit id =>
    have hx : exitTo id (.inScope c :: k) = exitTo id k := by simp [exitTo]
    exact ⟨_, a₁, w₁, hq, fun k' hk => .head h0 stepR_scope (harr.1 k' (by rw [hx]; exact hk)),
      fun hr' hk => let ⟨k₁, h1, h2⟩ := harr.2 hr' (by rw [hx]; exact hk); ⟨k₁, h1, .head h0 stepR_scope h2⟩⟩
  | goto l => exact (hg _ _ _ hq).elim
  | ret => exact ⟨_, a₁, w₁, hq, .of_steps (.one h0 stepR_scope) harr⟩
  | panic ch => exact ⟨_, a₁, w₁, hq, .of_steps (.one h0 stepR_scope) harr⟩
  | outgrown => exact ⟨_, a₁, w₁, hq, .of_steps (.one h0 stepR_scope) harr⟩
theorem psr_goto {l : Nat} : ∀ (k : List KI) (a : Act) (w : World), psr P R k (.goto l) a w = R.post (.goto l) a w
  | [], _, _ => rfl
  | .code _ :: k, a, w => psr_goto k a w
  | .blk _ :: k, a, w => psr_goto k a w
  | .asr _ :: k, a, w => psr_goto k a w
theorem KR.scope {c : Code} (hg : ∀ l a w, R.post (.goto l) a w → False) (h : KR P R (.code c :: k) n σ w) : KR P R (.code (.scope c) :: k) n σ w := fun a ha =>
  wpIn_scope (h a ha) (fun l a w q => hg l a w (by rw [psr_goto] at q; exact q))
/-- out of all that is ahead -/
theorem KR.exitOut {id : Nat} (hk : popTo id k = none) (h : ∀ a, FrD R n σ a → R.post (.exit id) a w) : KR P R (.code (.exit id) :: k) n σ w := fun a ha => by
  refine wpIn_exit ?_
  have key : ∀ k, popTo id k = none → psr P R k (.exit id) a w = R.post (.exit id) a w := by
    intro k
    induction k with
    | nil => intro _; rfl
    | cons x k ih =>
      intro hk
      cases x with
      | code c => exact ih hk
      | asr I => exact ih hk
      | blk i =>
        simp only [popTo] at hk
        by_cases e : id = i
        · subst e
          have : Nat.beq id id = true := by simp
          rw [this] at hk
          cases hk
        · have : Nat.beq id i = false := by
            cases hb : Nat.beq id i with
            | false => rfl
            | true => exact absurd (Nat.eq_of_beq_eq_true hb) e
          rw [this] at hk
          simp only [psr]
          rw [if_neg e]
          exact ih hk
  rw [key k hk]
  exact h a ha
theorem KR.rangeF {α : Type} (hr : R.round = none) (hm : 1 ≤ R.m) {g : Operand} {p d id : Nat} {op : Op} {ty : TypeId} {pos : String} {after : Array Edge} {body : Code} {gf : Nat} {lb : List Value} {fn : Func}
    (hf : P.funcs[gf]? = some fn) (hn : (!(fn.name == "runtime.NumGoroutine") && fn.body.isSome) = true)
    (hg : ev σ g = some (.func (.func gf) #[] lb.toArray)) (hp : Nat.blt p n = true) (hd : Nat.blt d n = true)
    (hop : ∀ (a : Act) (W : World), (execOp a.eval ⟨some d, op, ty, pos, after, none⟩).run P W = .ok (.value (a.eval (.tmp p))) W) (hopd : ∀ c, op ≠ .defer c)
    {enc : α → Value} {Kp : World → World → Prop} {S Sp : List α → Prop} {N : Nat} (hseq : SeqStopsK Fence.wide (R.m - 1) P gf lb.toArray (fun x => #[enc x]) Kp S Sp N w)
    (hKt : ∀ {A B C : World}, Kp A B → Kp B C → Kp A C) (hKb : ∀ (W : World) (l : Nat) (o o' : Obj), w.heap.size ≤ l → W.heap[l]? = some o → o.isCells = false → o.isWalk = false → Kp W (W.putObj l o'))
    (I : List α → World → Prop) (Ix : Code → List α → World → Prop) (hI : OwnFrom w.heap.size I) (hIx : ∀ c, OwnFrom w.heap.size (Ix c)) (h0 : I [] w)
    (hbody : ∀ (l : Nat) (pre : List α) (x : α) (W : World), I pre W → pre.length < N → KR P ⟨some l, R.m - 1 - 1, [], ownPostK Kp I Ix (pre ++ [x]) W⟩ [.code body] n ((d, enc x) :: (p, enc x) :: σ) W)
    (hdone : ∀ (D : Nat) (xs : List α) (W : World), w.heap.size ≤ D → S xs → I xs W → W.heap[D]? = some (.deferred (some [])) → KR P (R.mark D) k n σ W)
    (hstop : ∀ (D : Nat) (c : Code) (pre : List α) (W : World), w.heap.size ≤ D → Sp pre → Ix c pre W → W.heap[D]? = some (.deferred (some [])) → KR P (R.mark D) (.code c :: k) n σ W) :
    KR P R (.code (.rangeFunc g #[p] (.region id #[⟨some d, op, ty, pos, after, none⟩] false) body) :: k) n σ w := fun a ha => by
  obtain ⟨ro, m, ds, post⟩ := R
  simp only at hr
  subst hr
  have hge : a.eval g = .func (.func gf) #[] lb.toArray := ha.ev hg
  have hps : p < a.tmps.size := by have := ha.fr.size; simp only at this; rw [this]; simpa [Nat.blt_eq] using hp
  show Code.wpIn Fence.wide m P _ (psr P _ k) a w
  refine wpIn_rangeFunc_ownF (F := Fence.wide) (n := m) rfl hm (lb := lb.toArray) hge trivial (fun args w => run_callFunc hf hn args) hseq hKt hKb (Below.refl _ _) (fun _ => rfl) I Ix hI hIx h0
    (fun x => { tmps := (a.tmps.setIfInBounds p (enc x)).setIfInBounds d (enc x), defers := [] }) ?_ ?_ ?_ ?_
  · intro l x W K hK
    refine wpIn_region_lit (l := [⟨some d, op, ty, pos, after, none⟩]) ?_
    have ez : ∀ f : Array Value → Tmp × Value → Array Value, ((#[p] : Array Tmp).zip #[enc x]).foldl f a.tmps = f a.tmps (p, enc x) := fun f => by simp
    rw [ez]
    unfold wpListIn
    rw [if_pos (by rfl)]
    refine ⟨fun _ _ => trivial, ?_⟩
    rw [Oper.semAt_eq _ _ _ hopd, hop]
    have e : (({ tmps := a.tmps.setIfInBounds p (enc x), defers := [] } : Act).eval (.tmp p)) = enc x := by simp [Act.eval, hps]
    show K (Act.put { tmps := a.tmps.setIfInBounds p (enc x), defers := [] } (some d) (Act.eval { tmps := a.tmps.setIfInBounds p (enc x), defers := [] } (.tmp p))) W
    rw [e]
    exact hK
  · intro l pre x W hi hl
    exact hbody l pre x W hi hl _ ⟨(ha.fr.put hp (enc x)).put hd (enc x), rfl⟩
  · intro D xs W hD hS hi hK
    have h := hdone D xs W hD hS hi hK { a with defers := { target := .collected D, args := #[] } :: a.defers } ⟨ha.fr, by show _ :: a.defers = _ :: ds; rw [ha.df]⟩
    rw [psr_mark] at h
    exact h
  · intro D c pre W hD hS hi hK
    have h := hstop D c pre W hD hS hi hK { a with defers := { target := .collected D, args := #[] } :: a.defers } ⟨ha.fr, by show _ :: a.defers = _ :: ds; rw [ha.df]⟩
    rw [psr_mark] at h
    exact h
end
theorem Ret.enterR {P : Program} {f : FuncId} {fn : Func} {c : Code} {args : List Value} {w : World} {Q : Value → World → Prop} {n : Nat} (m : Nat) (hf : P.funcs[f]? = some fn) (hb : fn.body = some c) (hnt : fn.ntmps = n)
    (hn : (!(fn.name == "runtime.NumGoroutine") && fn.body.isSome) = true) (hl : args.length + (n - args.length) = n)
    (h : KR P ⟨none, m, [], bodyPostM Fence.wide m P fn (fun e w' => ∃ v, e = .returned v ∧ Q v w')⟩ [.code c] n (argSig 0 args) w) : Ret P f args w Q := by
  refine ⟨⟨fn, hf, hn⟩, (callsIn_wide (n := m)).1 (callsIn_of_wp_marks hf hb trivial ?_)⟩
  have hfr : Fr n (argSig 0 args) { tmps := args.toArray ++ Array.replicate (fn.ntmps - args.toArray.size) undef, defers := [] } := by
    have := Fr.start args (n - args.length)
    rw [hl] at this
    simpa [hnt] using this
  exact h _ ⟨hfr, rfl⟩
section
variable {P : Program} {fn : Func} {Q : Value → World → Prop} {n m D : Nat} {σ : Sig} {w : World} {R : RP}
theorem retR_of {v : Value} {e : Exit} (he : e = .normal ∨ e = .ret) (hds : R.ds = []) (hp : R.post = bodyPostM Fence.wide m P fn (fun e w' => ∃ v, e = .returned v ∧ Q v w')) (hr : ∀ a, FrD R n σ a → (results fn a.tmps).run P w = .ok v w) (hq : Q v w) :
    ∀ a, FrD R n σ a → R.post e a w := fun a ha => by
  rw [hp]
  have h1 : LeavesInM Fence.wide m P fn a.tmps (fun e w' => ∃ v, e = .returned v ∧ Q v w') a.defers .returning w := by
    rw [ha.df, hds]
    exact ⟨v, hr a ha, v, rfl, hq⟩
  rcases he with rfl | rfl <;> exact h1
theorem retM_of {v : Value} {e : Exit} (he : e = .normal ∨ e = .ret) (hds : R.ds = [{ target := .collected D, args := #[] }]) (hp : R.post = bodyPostM Fence.wide m P fn (fun e w' => ∃ v, e = .returned v ∧ Q v w')) (hK : w.heap[D]? = some (.deferred (some [])))
    (hr : ∀ a w, FrD R n σ a → (results fn a.tmps).run P w = .ok v w) (hq : Q v (w.putObj D (.deferred none))) :
    ∀ a, FrD R n σ a → R.post e a w := fun a ha => by
  rw [hp]
  have h1 : LeavesInM Fence.wide m P fn a.tmps (fun e w' => ∃ v, e = .returned v ∧ Q v w') a.defers .returning w := by
    rw [ha.df, hds]
    exact ⟨by simp, .inl ⟨D, _, rfl, run_takeDeferred hK, v, hr a _ ha, v, rfl, hq⟩⟩
  rcases he with rfl | rfl <;> exact h1
theorem retR0 {e : Exit} (he : e = .normal ∨ e = .ret) (hds : R.ds = []) (hp : R.post = bodyPostM Fence.wide m P fn (fun e w' => ∃ v, e = .returned v ∧ Q v w')) (hs : fn.results = #[]) (hq : Q (.tuple #[]) w) : ∀ a, FrD R n σ a → R.post e a w :=
  retR_of he hds hp (fun _ _ => results_none hs _ _ _) hq
theorem retR2 {e : Exit} (he : e = .normal ∨ e = .ret) {t u : Nat} {v x : Value} (hds : R.ds = []) (hp : R.post = bodyPostM Fence.wide m P fn (fun e w' => ∃ v, e = .returned v ∧ Q v w')) (hs : fn.results = #[.tmp t, .tmp u]) (hv : lk σ t = some v) (hx : lk σ u = some x) (hq : Q (.tuple #[v, x]) w) :
    ∀ a, FrD R n σ a → R.post e a w :=
  retR_of he hds hp (fun a ha => by rw [results_tmp2 hs]; have h1 := ha.fr.val t v hv; have h2 := ha.fr.val u x hx; simp only at h1 h2; simp [h1, h2]) hq
theorem retM2 {e : Exit} (he : e = .normal ∨ e = .ret) {t u : Nat} {v x : Value} (hds : R.ds = [{ target := .collected D, args := #[] }]) (hp : R.post = bodyPostM Fence.wide m P fn (fun e w' => ∃ v, e = .returned v ∧ Q v w')) (hK : w.heap[D]? = some (.deferred (some []))) (hs : fn.results = #[.tmp t, .tmp u]) (hv : lk σ t = some v) (hx : lk σ u = some x) (hq : Q (.tuple #[v, x]) (w.putObj D (.deferred none))) :
    ∀ a, FrD R n σ a → R.post e a w :=
  retM_of he hds hp hK (fun a w ha => by rw [results_tmp2 hs]; have h1 := ha.fr.val t v hv; have h2 := ha.fr.val u x hx; simp only at h1 h2; simp [h1, h2]) hq
end
theorem Ext.putObj {w W : World} (h : Ext w W) {D : Nat} (hD : w.heap.size ≤ D) (o : Obj) : Ext w (W.putObj D o) :=
  ⟨h.os, h.tape, h.output, by simpa using h.size, fun k hk => (World.putObj_heap_other (by omega)).trans (h.block k hk)⟩
theorem Bk.putObj {w : World} {b D : Nat} {T : TypeId} {l : List Value} (h : Bk w b T l) (hD : b ≠ D) (o : Obj) : Bk (w.putObj D o) b T l := h.of_block (World.putObj_heap_other hD)
end Go.Proofs.YthgfdpcpbghkpaaGreatDoor
/- The engine's laws for structs: fields, values that are built, addresses that are compared. No program is spoken of. -/
namespace Go.Proofs.YthgfdpcpbghkpaaGreatDoor
set_option linter.unnecessarySimpa false
open Go.RowKit
set_option linter.unusedSimpArgs false
set_option linter.unusedVariables false
section
variable {P : Program} {n : Nat} {σ : Sig} {w : World} {x y : Operand} {t e ty T T' : TypeId} {b o : Nat} {z v : Value} {s bs : Nat} {l : List Value}
/-- the places of a struct's fields: where each begins, how many cells it has -/
def places (P : Program) (fs : List Field) : Option (List (Nat × Nat)) :=
  match fs with
  | [] => some []
  | f :: r => match P.info? f.type, places P r with
    | some i, some l => some ((f.offset, i.size) :: l)
    | _, _ => none
theorem run_places : ∀ (fs : List Field) (l : List (Nat × Nat)), places P fs = some l → (fs.mapM fun f => (do pure (f.offset, ← sizeOf f.type) : Sem (Nat × Nat))).run P w = .ok l w
  | [], l, h => by
    simp only [places, Option.some.injEq] at h
    subst h
    simp
  | f :: r, l, h => by
    simp only [places] at h
    split at h
    · rename_i i l' hi hl
      injection h with h
      subst h
      have ih := run_places r l' hl
      have hs : (sizeOf f.type).run P w = .ok i.size w := by simp [sizeOf, typeInfo, hi, Sem.run_bind]
      simp only [List.mapM_cons, Sem.run_bind, hs, Result.andThen_ok, Sem.run_pure, ih]
    · cases h
/-- one-cell parts are laid over a row -/
def setAll : List Value → List Nat → List Value → List Value
  | cs, i :: is, v :: vs => setAll (cs.set i v) is vs
  | cs, _, _ => cs
theorem setAll_length : ∀ (is : List Nat) (vs cs : List Value), (setAll cs is vs).length = cs.length
  | [], _, _ => by simp [setAll]
  | i :: is, [], cs => by simp [setAll]
  | i :: is, v :: vs, cs => by simp [setAll, setAll_length is vs]
theorem fill_setAll (pl : List (Nat × Nat)) : ∀ (pv : List (Nat × Value)) (is : List Nat) (cs : List Value), pv.length = is.length → (∀ (j : Nat) (p : Nat × Value) (i : Nat), pv[j]? = some p → is[j]? = some i → pl[p.1]? = some (i, 1) ∧ i < cs.length ∧ p.2.oneCell' = true) →
    Instr.fill (pl.toArray[·]?) cs.toArray pv = some (setAll cs is (pv.map (·.2))).toArray
  | [], is, cs, hl, _ => by
    cases is with
    | nil => simp [Instr.fill, setAll]
    | cons _ _ => simp at hl
  | (k, v) :: pv, is, cs, hl, h => by
    cases is with
    | nil => simp at hl
    | cons i is =>
      obtain ⟨h1, h2, h3⟩ := h 0 (k, v) i rfl rfl
      have hc := oneCell_cells h3
      have ih := fill_setAll pl pv is (cs.set i v) (by simpa using hl) (fun j p i' hp hi' => by
        have := h (j + 1) p i' (by simpa using hp) (by simpa using hi')
        simpa using this)
      simp only [List.map_cons, setAll]
      simp only [Instr.fill]
      have e1 : pl.toArray[k]? = some (i, 1) := by simpa using h1
      rw [e1]
      simp only [hc]
      have hn : ¬ ((#[v] : Array Value).size ≠ 1 ∨ i + (#[v] : Array Value).size > cs.toArray.size) := by simp; omega
      have hz : (#[v] : Array Value).zipIdx.foldl (fun cs (x : Value × Nat) => cs.setIfInBounds (i + x.2) x.1) cs.toArray = (cs.set i v).toArray := by
        have : (#[v] : Array Value).zipIdx.foldl (fun cs (x : Value × Nat) => cs.setIfInBounds (i + x.2) x.1) cs.toArray = cs.toArray.setIfInBounds (i + 0) v := rfl
        rw [this]
        simp
      simp only [ne_eq, Bool.or_eq_true, decide_eq_true_eq]
      rw [if_neg (by simpa using hn), hz]
      exact ih
/-- the parts' numbers and places, checked -/
def placed (pl : List (Nat × Nat)) (m : Nat) : List Nat → List Nat → Bool
  | k :: ks, i :: is => (match pl[k]? with | some (i', 1) => Nat.beq i' i | _ => false) && Nat.blt i m && placed pl m ks is
  | [], [] => true
  | _, _ => false
theorem placed_at {pl : List (Nat × Nat)} {m : Nat} : ∀ {ks is : List Nat}, placed pl m ks is = true → ks.length = is.length ∧ ∀ (j k i : Nat), ks[j]? = some k → is[j]? = some i → pl[k]? = some (i, 1) ∧ i < m
  | [], [], _ => ⟨rfl, fun j k i hk _ => by simp at hk⟩
  | [], i :: is, h => by simp [placed] at h
  | k :: ks, [], h => by simp [placed] at h
  | k :: ks, i :: is, h => by
    simp only [placed, Bool.and_eq_true] at h
    obtain ⟨⟨h1, h2⟩, h3⟩ := h
    obtain ⟨e, f⟩ := placed_at h3
    refine ⟨by simp [e], fun j k' i' hk hi => ?_⟩
    cases j with
    | zero =>
      simp at hk hi
      subst hk; subst hi
      split at h1
      · rename_i i' hp
        rw [hp, Nat.eq_of_beq_eq_true h1]
        refine ⟨rfl, ?_⟩
        have h2' : Nat.ble (i + 1) m = true := h2
        exact Nat.le_of_ble_eq_true h2'
      · cases h1
    | succ j => exact f j k' i' (by simpa using hk) (by simpa using hi)
theorem EX.buildS {fs : Array Field} {parts : Array (Nat × Operand)} {pl : List (Nat × Nat)} {ks is : List Nat} {vs zs : List Value} (hu : P.underlying t = some (.struct fs)) (hi : TI P t (.agg zs.toArray) s bs) (hp : places P fs.toList = some pl)
    (hk : parts.toList.map (·.1) = ks) (hv : evs σ (parts.toList.map (·.2)) = some vs) (hc : placed pl zs.length ks is = true) (h1 : vs.all (·.oneCell') = true) (hl : setAll zs is vs = l) :
    EX P n σ (.build t parts) ty w (.agg l.toArray) w := fun A ha dst pos after g => by
  subst hl
  obtain ⟨i, hq, hz, _, _⟩ := hi.at
  have hev := ha.evs hv
  have hpv : (parts.map fun (p : Nat × Operand) => (p.1, A.eval p.2)).toList = ks.zip vs := by
    rw [← hk, ← hev]
    simp only [Array.toList_map, List.map_map, List.zip_map']
    rfl
  obtain ⟨e1, e2⟩ := placed_at hc
  have hlen : ks.length = vs.length := by rw [← hk, ← hev]; simp
  have hf := fill_setAll pl (ks.zip vs) is zs (by simp [hlen]; omega) (fun j p i' hp' hi' => by
    rw [List.getElem?_zip_eq_some] at hp'
    obtain ⟨h2, h3⟩ := hp'
    obtain ⟨h4, h5⟩ := e2 j p.1 i' h2 hi'
    exact ⟨h4, h5, List.all_eq_true.1 h1 _ (List.mem_of_getElem? h3)⟩)
  have hsnd : (ks.zip vs).map (·.2) = vs := by
    rw [← List.unzip_snd, List.unzip_zip_right]
    omega
  rw [hsnd] at hf
  have hm : (fs.mapM fun f => (do pure (f.offset, ← sizeOf f.type) : Sem (Nat × Nat))).run P w = .ok pl.toArray w := by
    have := run_places (P := P) (w := w) fs.toList pl hp
    obtain ⟨fl⟩ := fs
    rw [List.mapM_toArray, map_eq_pure_bind, Sem.run_bind, this]
    rfl
  simp only [execOp, Instr.build, Sem.run_bind, run_zeroValue hi, Result.andThen_ok, run_underlying hu, hm]
  rw [show (parts.map fun (x : Nat × Operand) => match x with | (i, x) => (i, A.eval x)).toList = ks.zip vs from hpv]
  rw [show ((Value.agg zs.toArray).cells) = zs.toArray from rfl, hf]
  rfl
theorem EX.fieldAddr {fs : Array Field} {fd : Field} {f off : Nat} (hu : P.underlying t = some (.struct fs)) (hf : fs[f]? = some fd) (ho : fd.offset = off) (hi : TI P fd.type z s bs) (hs : Nat.blt 0 s = true) (hx : ev σ x = some (.pointer (some ⟨b, o, none⟩))) :
    EX P n σ (.fieldAddr t x f) ty w (.pointer (some ⟨b, o + off, none⟩)) w := fun A ha dst pos after g => by
  subst ho
  have hs' : s ≠ 0 := by have : 1 ≤ s := Nat.le_of_ble_eq_true hs; omega
  have hadd : (⟨b, o, none⟩ : Addr).add fd.offset = ⟨b, o + fd.offset, none⟩ := by unfold Addr.add; split <;> simp_all
  simp only [execOp, ha.ev hx]
  simp [Instr.fieldAt, run_underlying hu, Sem.run_bind, hf, Instr.sureAddr, fieldPlace, run_sizeOf hi, hs', hadd]
/-- a one-cell field of a struct's value -/
theorem EX.field1 {fs : Array Field} {fd : Field} {f off : Nat} {d : TypeDesc} (hu : P.underlying t = some (.struct fs)) (hf : fs[f]? = some fd) (ho : fd.offset = off) (hd : P.underlying fd.type = some d) (hfl : flat d = true)
    (hx : ev σ x = some (.agg l.toArray)) (hv : l[off]? = some v) : EX P n σ (.field t x f) ty w v w := fun A ha dst pos after g => by
  subst ho
  simp only [execOp, ha.ev hx]
  simp [Instr.field, run_underlying hu, Sem.run_bind, hf, asAgg, part, run_isAgg hd, hfl, hv]
theorem run_eq {u v : Value} {q : Bool} (e : binOp .eql t u v = (do pure (.bool (← Op.equal t u v)))) (h : ∀ d, (Op.equalIn (d + 1) t u v).run P w = .ok q w) : (binOp .eql t u v).run P w = .ok (.bool q) w := by
  have h1 : (Op.equal t u v).run P w = .ok q w := h 9999
  rw [e, Sem.run_bind, h1]
  rfl
theorem run_ne {u v : Value} {q : Bool} (e : binOp .neq t u v = (do pure (.bool !(← Op.equal t u v)))) (h : ∀ d, (Op.equalIn (d + 1) t u v).run P w = .ok (!q) w) : (binOp .neq t u v).run P w = .ok (.bool q) w := by
  have h1 : (Op.equal t u v).run P w = .ok (!q) w := h 9999
  rw [e, Sem.run_bind, h1]
  simp
/-- nil or not -/
theorem guard_ptr (op : BinOp) (i j : Option Addr) : (eqGuard op t x y (.pointer i) (.pointer j)).run P w = .ok () w := by
  unfold eqGuard; cases op <;> rfl
theorem EX.eqlP0 (hu : P.underlying t = some (.pointer e)) (hx : ev σ x = some (.pointer none)) (hy : ev σ y = some (.pointer none)) : EX P n σ (.binOp .eql t x y T) ty w (.bool true) w :=
  EX.bin hx hy (guard_ptr _ _ _) (run_eq rfl (fun d => by simp [Op.equalIn, run_underlying hu, Sem.run_bind]))
theorem EX.eqlP1 {a : Addr} (hu : P.underlying t = some (.pointer e)) (hx : ev σ x = some (.pointer (some a))) (hy : ev σ y = some (.pointer none)) : EX P n σ (.binOp .eql t x y T) ty w (.bool false) w :=
  EX.bin hx hy (guard_ptr _ _ _) (run_eq rfl (fun d => by simp [Op.equalIn, run_underlying hu, Sem.run_bind]))
theorem EX.neqP0 (hu : P.underlying t = some (.pointer e)) (hx : ev σ x = some (.pointer none)) (hy : ev σ y = some (.pointer none)) : EX P n σ (.binOp .neq t x y T) ty w (.bool false) w :=
  EX.bin hx hy (guard_ptr _ _ _) (run_ne rfl (fun d => by simp [Op.equalIn, run_underlying hu, Sem.run_bind]))
theorem EX.neqP1 {a : Addr} (hu : P.underlying t = some (.pointer e)) (hx : ev σ x = some (.pointer (some a))) (hy : ev σ y = some (.pointer none)) : EX P n σ (.binOp .neq t x y T) ty w (.bool true) w :=
  EX.bin hx hy (guard_ptr _ _ _) (run_ne rfl (fun d => by simp [Op.equalIn, run_underlying hu, Sem.run_bind]))
theorem EX.neqF0 {p q : Array TypeId} {vd : Bool} (hu : P.underlying t = some (.func p q vd)) (hx : ev σ x = some .nilFunc) (hy : ev σ y = some .nilFunc) : EX P n σ (.binOp .neq t x y T) ty w (.bool false) w :=
  EX.bin hx hy (by unfold eqGuard; rfl) (run_ne rfl (fun d => by simp [Op.equalIn, run_underlying hu, Sem.run_bind]))
theorem EX.neqF1 {p q : Array TypeId} {vd : Bool} {f : Fn} {fi ca : Array Value} (hu : P.underlying t = some (.func p q vd)) (hx : ev σ x = some (.func f fi ca)) (hy : ev σ y = some .nilFunc) : EX P n σ (.binOp .neq t x y T) ty w (.bool true) w :=
  EX.bin hx hy (by unfold eqGuard; rfl) (run_ne rfl (fun d => by simp [Op.equalIn, run_underlying hu, Sem.run_bind]))
/-- nil or a function -/
theorem EX.neqFb {p q : Array TypeId} {vd r : Bool} (hu : P.underlying t = some (.func p q vd)) (hx : ev σ x = some v) (hy : ev σ y = some .nilFunc) (hq : v = .nilFunc ∧ r = false ∨ ∃ f fi ca, v = .func f fi ca ∧ r = true) : EX P n σ (.binOp .neq t x y T) ty w (.bool r) w := by
  rcases hq with ⟨rfl, rfl⟩ | ⟨f, fi, ca, rfl, rfl⟩
  · exact EX.neqF0 hu hx hy
  · exact EX.neqF1 hu hx hy
end
section
variable {P : Program} {R : Act → World → Prop} {ops : Array Oper} {rest : List Oper} {k : List KI} {n : Nat} {σ : Sig} {w : World} {x y : Operand} {T T' e ty : TypeId} {pos : String} {after : Array Edge} {gd : Option (Nat × Bool)} {d : Nat} {v z : Value} {s bs : Nat} {l : List Value}
/-- a struct in a box of its own -/
theorem OW.boxS (hg : wantS ops σ gd = some true) (hd : Nat.blt d n = true) (hx : ev σ x = some (.agg l.toArray))
    (h : ∀ b w', w.heap.size ≤ b → Bk w' b T l → Ext w w' → OW P R ops rest k n ((d, .pointer (some ⟨b, 0, none⟩)) :: σ) w') :
    OW P R ops (⟨some d, .box T x, ty, pos, after, gd⟩ :: rest) k n σ w :=
  OW.val hg hd (EX.box (l := l) hx (by simp [Value.cells])) (h _ _ (Nat.le_refl _) (Bk.new w T l) (Ext.alloc w _))
/-- several cells are stored over others -/
theorem OW.storeS {b o : Nat} {vs : List Value} (hg : wantS ops σ gd = some true) (hi : TI P T z s bs) (hx : ev σ x = some (.pointer (some ⟨b, o, none⟩))) (hy : ev σ y = some (.agg vs.toArray)) (hs : vs.length = s) (h1 : vs.all (·.oneCell') = true) (hb : Bk w b T' l) (hlt : o + vs.length ≤ l.length)
    (h : ∀ w', Bk w' b T' (l.take o ++ vs ++ l.drop (o + vs.length)) → Mo w w' [b] → OW P R ops rest k n σ w') :
    OW P R ops (⟨none, .store T x y, ty, pos, after, gd⟩ :: rest) k n σ w := by
  obtain ⟨w', he, hb', hg'⟩ := EU.storeA (P := P) (n := n) (ty := ty) hi hx hy hs h1 hb hlt
  exact OW.eff hg he (h w' hb' (Mo.grown hg' (fun k e => by simp at e; simp [e])))
end
end Go.Proofs.YthgfdpcpbghkpaaGreatDoor
/- DERIVED: THE SHELF's CONTRACTS AT THIS DUMP, IN PLAIN WORDS (tools/lay-plain.mjs out of 'TryzShelf.lean', which tools/lay-shelf.mjs wrote): THE SAME DECLARATIONS UNDER THE SAME NAMES: 'import', 'namespace', 'open', 'def', 'theorem' AND NOTHING ELSE: no command of the shelf's: FOR A HAND-IN. Each laying: the table of numbers ('.._ren') and one theorem, a field a fact of the dump's own or the kernel's comparison; each contract: ONE APPLICATION. -/
namespace Go.Proofs.YthgfdpcpbghkpaaGreatDoor
set_option linter.unnecessarySimpa false
set_option linter.unusedVariables false
set_option linter.unusedSimpArgs false
open Go.Shelf
def Tryz.lays170_ren : Go.Shelf.Ren := ⟨fun | 170 => 86 | n => n, fun | 70 => 71 | 3 => 3 | 0 => 0 | 72 => 73 | 37 => 54 | 5 => 5 | n => n, fun | n => n⟩
theorem Tryz.lays170 : Go.Proofs.Lays.n170 Tryz.prog Tryz.lays170_ren := {
  mixed := by kernel_rfl
  f170 := Tryz.func86.trans (congrArg some (by kernel_rfl))
  t0 := Tryz.underlying0
  a0 := Tryz.isAgg0
  z0 := Tryz.sizeOf0
  v0 := Tryz.zeroValue0
  t3 := Tryz.underlying3
  a3 := Tryz.isAgg3
  z3 := Tryz.sizeOf3
  v3 := Tryz.zeroValue3
  t37 := Tryz.underlying54
  a37 := Tryz.isAgg54
  z37 := Tryz.sizeOf54
  v37 := Tryz.zeroValue54
  t70 := Tryz.underlying71
  a70 := Tryz.isAgg71
  z70 := Tryz.sizeOf71
  v70 := Tryz.zeroValue71
  t72 := Tryz.underlying73
  a72 := Tryz.isAgg73
  z72 := Tryz.sizeOf73
  v72 := Tryz.zeroValue73 }
open Go.RowKit in
/-- (*strings.Builder).Len: "Len returns the number of accumulated bytes; b.Len() == len(b.String()).": the world is as it was. (LAID: no walk: one application.) -/
theorem Tryz.Builder_Len (B b : Nat) (bs : List Value) (w : World) (h : Lib.IsBuilder 73 5 B b bs w) :
    Calls Tryz.prog 86 #[.pointer (some ⟨b, 0, none⟩)] w fun e w' => e = .returned (.int .i64 bs.length) ∧ w' = w := Any.Builder_Len Tryz.lays170 B b bs w h
def Tryz.lays169_ren : Go.Shelf.Ren := ⟨fun | 169 => 33 | n => n, fun | 70 => 71 | 9 => 9 | 0 => 0 | 72 => 73 | 37 => 54 | 127 => 123 | 3 => 3 | 5 => 5 | n => n, fun | n => n⟩
theorem Tryz.lays169 : Go.Proofs.Lays.n169 Tryz.prog Tryz.lays169_ren := {
  mixed := by kernel_rfl
  f169 := Tryz.func33.trans (congrArg some (by kernel_rfl))
  t0 := Tryz.underlying0
  a0 := Tryz.isAgg0
  z0 := Tryz.sizeOf0
  v0 := Tryz.zeroValue0
  t3 := Tryz.underlying3
  a3 := Tryz.isAgg3
  z3 := Tryz.sizeOf3
  v3 := Tryz.zeroValue3
  t9 := Tryz.underlying9
  a9 := Tryz.isAgg9
  z9 := Tryz.sizeOf9
  v9 := Tryz.zeroValue9
  t37 := Tryz.underlying54
  a37 := Tryz.isAgg54
  z37 := Tryz.sizeOf54
  v37 := Tryz.zeroValue54
  t70 := Tryz.underlying71
  a70 := Tryz.isAgg71
  z70 := Tryz.sizeOf71
  v70 := Tryz.zeroValue71
  t72 := Tryz.underlying73
  a72 := Tryz.isAgg73
  z72 := Tryz.sizeOf73
  v72 := Tryz.zeroValue73
  t127 := Tryz.underlying123
  a127 := Tryz.isAgg123
  z127 := Tryz.sizeOf123
  v127 := Tryz.zeroValue123 }
theorem Tryz.Builder_Extra_169 : Builder.Extra Tryz.prog Tryz.lays169_ren := {
  sizeBuilder := by kernel_rfl
  liesBuilder := by kernel_rfl
  t5 := Tryz.underlying5
  a5 := Tryz.isAgg5
  z5 := Tryz.sizeOf5
  v5 := Tryz.zeroValue5
  infoByte := by kernel_rfl
  cellsByte := by kernel_rfl
  sizeByte := by kernel_rfl
  neB5 := by decide }
open Go.RowKit in
/-- (*strings.Builder).String: "String returns the accumulated string.": OF A BUILDER THAT HOLDS AT LEAST ONE BYTE. ✋ THE MODEL FREEZES THOSE BYTES IN THE BUFFER (unsafe.String): a later write INTO them ends the model's run without an answer; a later append BEHIND them goes on. The statement's order of evaluation is drawn: one draw. (LAID: no walk: one application.) -/
theorem Tryz.Builder_String (B b : Nat) (l : List UInt8) (w : World) (h : Lib.IsBuilder 73 5 B b (Lib.byteCells l) w) (h0 : l ≠ []) :
    Calls Tryz.prog 33 #[.pointer (some ⟨b, 0, none⟩)] w fun e w' => e = .returned (.string ⟨l.toArray⟩) ∧ Below B w w' := Any.Builder_String Tryz.lays169 Tryz.Builder_Extra_169 B b l w h h0
open Go.RowKit in
/-- (*strings.Builder).String OF A BUILDER THAT HOLDS NO BYTE: the empty string. (Its buffer is nil, or a row of which it has taken nothing yet; where that row has NO capacity the model lays one new block for unsafe.SliceData's 'some address'.) One draw. (LAID: no walk: one application.) -/
theorem Tryz.Builder_String_empty (B b : Nat) (w : World) (h : Lib.IsBuilder 73 5 B b [] w) (hBw : B ≤ w.heap.size) :
    Calls Tryz.prog 33 #[.pointer (some ⟨b, 0, none⟩)] w fun e w' => e = .returned (.string ⟨#[]⟩) ∧ Below B w w' := Any.Builder_String_empty Tryz.lays169 Tryz.Builder_Extra_169 B b w h hBw
open Go.RowKit in
/-- (*strings.Builder).String: "String returns the accumulated string.": WHATEVER THE BUILDER HOLDS. (LAID: no walk: one application.) -/
theorem Tryz.Builder_String_any (B b : Nat) (l : List UInt8) (w : World) (h : Lib.IsBuilder 73 5 B b (Lib.byteCells l) w) (hBw : B ≤ w.heap.size) :
    Calls Tryz.prog 33 #[.pointer (some ⟨b, 0, none⟩)] w fun e w' => e = .returned (.string ⟨l.toArray⟩) ∧ Below B w w' := Any.Builder_String_any Tryz.lays169 Tryz.Builder_Extra_169 B b l w h hBw
def Tryz.lays241_ren : Go.Shelf.Ren := ⟨fun | 241 => 106 | 277 => 114 | n => n, fun | 70 => 71 | 3 => 3 | 0 => 0 | 72 => 73 | 37 => 54 | 5 => 5 | n => n, fun | n => n⟩
theorem Tryz.lays241 : Go.Proofs.Lays.n241 Tryz.prog Tryz.lays241_ren := {
  mixed := by kernel_rfl
  f241 := Tryz.func106.trans (congrArg some (by kernel_rfl))
  f277 := Tryz.func114.trans (congrArg some (by kernel_rfl))
  t0 := Tryz.underlying0
  a0 := Tryz.isAgg0
  z0 := Tryz.sizeOf0
  v0 := Tryz.zeroValue0
  t3 := Tryz.underlying3
  a3 := Tryz.isAgg3
  z3 := Tryz.sizeOf3
  v3 := Tryz.zeroValue3
  t37 := Tryz.underlying54
  a37 := Tryz.isAgg54
  z37 := Tryz.sizeOf54
  v37 := Tryz.zeroValue54
  t70 := Tryz.underlying71
  a70 := Tryz.isAgg71
  z70 := Tryz.sizeOf71
  v70 := Tryz.zeroValue71
  t72 := Tryz.underlying73
  a72 := Tryz.isAgg73
  z72 := Tryz.sizeOf73
  v72 := Tryz.zeroValue73 }
theorem Tryz.Builder_Extra_241 : Builder.Extra Tryz.prog Tryz.lays241_ren := {
  sizeBuilder := by kernel_rfl
  liesBuilder := by kernel_rfl
  t5 := Tryz.underlying5
  a5 := Tryz.isAgg5
  z5 := Tryz.sizeOf5
  v5 := Tryz.zeroValue5
  infoByte := by kernel_rfl
  cellsByte := by kernel_rfl
  sizeByte := by kernel_rfl
  neB5 := by decide }
open Go.RowKit in
/-- (*strings.Builder).grow (no doc but "grow copies the buffer to a new, larger buffer so that there are at least n bytes of capacity beyond len(b.buf)."): AT A BUILDER WITHOUT A BUFFER: a new row of whatever bytes for its buffer, none of them its own yet. Three draws. (LAID: no walk: one application.) -/
theorem Tryz.Builder_grow_fresh (B b n : Nat) (w : World) (hB : B ≤ b) (hbk : w.heap[b]? = some (.cells #[.pointer (some ⟨b, 0, none⟩), .slice none 0 0] 73 (0, 0))) (hBw : B ≤ w.heap.size) (hn : n ≤ 281474976710656) :
    Calls Tryz.prog 106 #[.pointer (some ⟨b, 0, none⟩), .int .i64 n] w fun e w' => e = .returned (.tuple #[]) ∧ (Lib.BuilderAt 73 5 B b (.pointer (some ⟨b, 0, none⟩)) [] w' ∧ Below B w w') := Any.Builder_grow_fresh Tryz.lays241 Tryz.Builder_Extra_241 B b n w hB hbk hBw hn
def Tryz.lays165_ren : Go.Shelf.Ren := ⟨fun | 165 => 85 | 240 => 63 | 241 => 106 | 276 => 82 | 277 => 114 | n => n, fun | 70 => 71 | 3 => 3 | 0 => 0 | 4 => 4 | 9 => 9 | 20 => 20 | 72 => 73 | 37 => 54 | 164 => 142 | 5 => 5 | n => n, fun | n => n⟩
theorem Tryz.lays165 : Go.Proofs.Lays.n165 Tryz.prog Tryz.lays165_ren := {
  mixed := by kernel_rfl
  f165 := Tryz.func85.trans (congrArg some (by kernel_rfl))
  f240 := Tryz.func63.trans (congrArg some (by kernel_rfl))
  f241 := Tryz.func106.trans (congrArg some (by kernel_rfl))
  f276 := Tryz.func82.trans (congrArg some (by kernel_rfl))
  f277 := Tryz.func114.trans (congrArg some (by kernel_rfl))
  t0 := Tryz.underlying0
  a0 := Tryz.isAgg0
  z0 := Tryz.sizeOf0
  v0 := Tryz.zeroValue0
  t3 := Tryz.underlying3
  a3 := Tryz.isAgg3
  z3 := Tryz.sizeOf3
  v3 := Tryz.zeroValue3
  t4 := Tryz.underlying4
  a4 := Tryz.isAgg4
  z4 := Tryz.sizeOf4
  v4 := Tryz.zeroValue4
  t9 := Tryz.underlying9
  a9 := Tryz.isAgg9
  z9 := Tryz.sizeOf9
  v9 := Tryz.zeroValue9
  t20 := Tryz.underlying20
  a20 := Tryz.isAgg20
  z20 := Tryz.sizeOf20
  v20 := Tryz.zeroValue20
  t37 := Tryz.underlying54
  a37 := Tryz.isAgg54
  z37 := Tryz.sizeOf54
  v37 := Tryz.zeroValue54
  t70 := Tryz.underlying71
  a70 := Tryz.isAgg71
  z70 := Tryz.sizeOf71
  v70 := Tryz.zeroValue71
  t72 := Tryz.underlying73
  a72 := Tryz.isAgg73
  z72 := Tryz.sizeOf73
  v72 := Tryz.zeroValue73
  t164 := Tryz.underlying142
  a164 := Tryz.isAgg142
  z164 := Tryz.sizeOf142
  v164 := Tryz.zeroValue142 }
theorem Tryz.Builder_Extra_165 : Builder.Extra Tryz.prog Tryz.lays165_ren := {
  sizeBuilder := by kernel_rfl
  liesBuilder := by kernel_rfl
  t5 := Tryz.underlying5
  a5 := Tryz.isAgg5
  z5 := Tryz.sizeOf5
  v5 := Tryz.zeroValue5
  infoByte := by kernel_rfl
  cellsByte := by kernel_rfl
  sizeByte := by kernel_rfl
  neB5 := by decide }
open Go.RowKit in
/-- (*strings.Builder).Grow AT A BUILDER THAT HAS NOT BEEN WRITTEN ('var b strings.Builder; b.Grow(n)'): "Grow grows b's capacity, if necessary, to guarantee space for another n bytes.": it holds no byte behind it as before it. (LAID: no walk: one application.) -/
theorem Tryz.Builder_Grow_fresh (B b n : Nat) (w : World) (hB : B ≤ b) (hbk : w.heap[b]? = some (.cells #[.pointer none, .slice none 0 0] 73 (0, 0))) (hBw : B ≤ w.heap.size) (hn : n ≤ 281474976710656) :
    Calls Tryz.prog 85 #[.pointer (some ⟨b, 0, none⟩), .int .i64 n] w fun e w' => e = .returned (.tuple #[]) ∧ (Lib.BuilderAt 73 5 B b (.pointer (some ⟨b, 0, none⟩)) [] w' ∧ Below B w w') := Any.Builder_Grow_fresh Tryz.lays165 Tryz.Builder_Extra_165 B b n w hB hbk hBw hn
def Tryz.lays156_ren : Go.Shelf.Ren := ⟨fun | 156 => 109 | 165 => 85 | 166 => 32 | 169 => 33 | 240 => 63 | 241 => 106 | 276 => 82 | 277 => 114 | n => n, fun | 31 => 24 | 9 => 9 | 3 => 3 | 4 => 4 | 0 => 0 | 20 => 20 | 72 => 73 | 76 => 78 | 70 => 71 | 37 => 54 | 75 => 77 | 127 => 123 | 164 => 142 | 5 => 5 | 80 => 63 | n => n, fun | n => n⟩
theorem Tryz.lays156 : Go.Proofs.Lays.n156 Tryz.prog Tryz.lays156_ren := {
  mixed := by kernel_rfl
  f156 := Tryz.func109.trans (congrArg some (by kernel_rfl))
  f165 := Tryz.func85.trans (congrArg some (by kernel_rfl))
  f166 := Tryz.func32.trans (congrArg some (by kernel_rfl))
  f169 := Tryz.func33.trans (congrArg some (by kernel_rfl))
  f240 := Tryz.func63.trans (congrArg some (by kernel_rfl))
  f241 := Tryz.func106.trans (congrArg some (by kernel_rfl))
  f276 := Tryz.func82.trans (congrArg some (by kernel_rfl))
  f277 := Tryz.func114.trans (congrArg some (by kernel_rfl))
  t0 := Tryz.underlying0
  a0 := Tryz.isAgg0
  z0 := Tryz.sizeOf0
  v0 := Tryz.zeroValue0
  t3 := Tryz.underlying3
  a3 := Tryz.isAgg3
  z3 := Tryz.sizeOf3
  v3 := Tryz.zeroValue3
  t4 := Tryz.underlying4
  a4 := Tryz.isAgg4
  z4 := Tryz.sizeOf4
  v4 := Tryz.zeroValue4
  t9 := Tryz.underlying9
  a9 := Tryz.isAgg9
  z9 := Tryz.sizeOf9
  v9 := Tryz.zeroValue9
  t20 := Tryz.underlying20
  a20 := Tryz.isAgg20
  z20 := Tryz.sizeOf20
  v20 := Tryz.zeroValue20
  t31 := Tryz.underlying24
  a31 := Tryz.isAgg24
  z31 := Tryz.sizeOf24
  v31 := Tryz.zeroValue24
  t37 := Tryz.underlying54
  a37 := Tryz.isAgg54
  z37 := Tryz.sizeOf54
  v37 := Tryz.zeroValue54
  t70 := Tryz.underlying71
  a70 := Tryz.isAgg71
  z70 := Tryz.sizeOf71
  v70 := Tryz.zeroValue71
  t72 := Tryz.underlying73
  a72 := Tryz.isAgg73
  z72 := Tryz.sizeOf73
  v72 := Tryz.zeroValue73
  t75 := Tryz.underlying77
  a75 := Tryz.isAgg77
  z75 := Tryz.sizeOf77
  v75 := Tryz.zeroValue77
  t76 := Tryz.underlying78
  a76 := Tryz.isAgg78
  z76 := Tryz.sizeOf78
  v76 := Tryz.zeroValue78
  t127 := Tryz.underlying123
  a127 := Tryz.isAgg123
  z127 := Tryz.sizeOf123
  v127 := Tryz.zeroValue123
  t164 := Tryz.underlying142
  a164 := Tryz.isAgg142
  z164 := Tryz.sizeOf142
  v164 := Tryz.zeroValue142 }
theorem Tryz.Builder_Extra_156 : Builder.Extra Tryz.prog Tryz.lays156_ren := {
  sizeBuilder := by kernel_rfl
  liesBuilder := by kernel_rfl
  t5 := Tryz.underlying5
  a5 := Tryz.isAgg5
  z5 := Tryz.sizeOf5
  v5 := Tryz.zeroValue5
  infoByte := by kernel_rfl
  cellsByte := by kernel_rfl
  sizeByte := by kernel_rfl
  neB5 := by decide }
open Go.RowKit in
/-- No element: the empty string; the world is as it was. (Whatever the slice's address and capacity: a nil slice too.) (LAID: no walk: one application.) -/
theorem Tryz.strings_Join_none (a : Option Addr) (c : Nat) (sep : ByteArray) (w : World) :
    Calls Tryz.prog 109 #[.slice a 0 c, .string sep] w fun e w' => e = .returned (.string ⟨#[]⟩) ∧ w' = w := Any.strings_Join_none Tryz.lays156 Tryz.Builder_Extra_156 a c sep w
open Go.RowKit in
/-- strings.Join: "Join concatenates the elements of its first argument to create a single string. The separator string sep is placed between elements in the resulting string.": HOWEVER MANY ELEMENTS. Below the heap's end the world is as it was. (LAID: no walk: one application.) -/
theorem Tryz.strings_Join (bk o c : Nat) (xs : List ByteArray) (sep : ByteArray) (w : World) (hcells : ∀ (j : Nat) x, xs[j]? = some x → w.cell? ⟨bk, o + j, none⟩ = some (.string x)) (hbk : bk < w.heap.size) (hN : xs.length ≤ 140737488355328) (hcap : xs.length ≤ c) (hlen : (Lib.join (xs.map (·.data.toList)) sep.data.toList).length ≤ 140737488355328) :
    Calls Tryz.prog 109 #[.slice (some ⟨bk, o, none⟩) xs.length c, .string sep] w fun e w' => e = .returned (.string ⟨(Lib.join (xs.map (·.data.toList)) sep.data.toList).toArray⟩) ∧ Below w.heap.size w w' := Any.strings_Join Tryz.lays156 Tryz.Builder_Extra_156 bk o c xs sep w hcells hbk hN hcap hlen
def Tryz.lays128_ren : Go.Shelf.Ren := ⟨fun | 128 => 127 | n => n, fun | 51 => 68 | 3 => 3 | 4 => 4 | 46 => 141 | 5 => 5 | 9 => 9 | n => n, fun | n => n⟩
theorem Tryz.lays128 : Go.Proofs.Lays.n128 Tryz.prog Tryz.lays128_ren := {
  mixed := by kernel_rfl
  f128 := Tryz.func127.trans (congrArg some (by kernel_rfl))
  t3 := Tryz.underlying3
  a3 := Tryz.isAgg3
  z3 := Tryz.sizeOf3
  v3 := Tryz.zeroValue3
  t4 := Tryz.underlying4
  a4 := Tryz.isAgg4
  z4 := Tryz.sizeOf4
  v4 := Tryz.zeroValue4
  t5 := Tryz.underlying5
  a5 := Tryz.isAgg5
  z5 := Tryz.sizeOf5
  v5 := Tryz.zeroValue5
  t9 := Tryz.underlying9
  a9 := Tryz.isAgg9
  z9 := Tryz.sizeOf9
  v9 := Tryz.zeroValue9
  t46 := Tryz.underlying141
  a46 := Tryz.isAgg141
  z46 := Tryz.sizeOf141
  v46 := Tryz.zeroValue141
  t51 := Tryz.underlying68
  a51 := Tryz.isAgg68
  z51 := Tryz.sizeOf68
  v51 := Tryz.zeroValue68 }
/-- bits.Len32: "Len32 returns the minimum number of bits required to represent x; the result is 0 for x == 0.": IT RETURNS 'Lib.bitLen x'; the world is as it was. ('h0', 'h1': x is a uint32.) (LAID: no walk: one application.) -/
theorem Tryz.bits_Len32 (x : Int) (w : World) (h0 : 0 ≤ x) (h1 : x ≤ 4294967295) :
    Calls Tryz.prog 127 #[.int .u32 x] w fun e w' => e = .returned (.int .i64 (Lib.bitLen x.toNat)) ∧ w' = w := Any.bits_Len32 Tryz.lays128 x w h0 h1
def Tryz.lays125_ren : Go.Shelf.Ren := ⟨fun | 125 => 113 | 128 => 127 | 129 => 128 | n => n, fun | 46 => 141 | 3 => 3 | 51 => 68 | 53 => 122 | 4 => 4 | 5 => 5 | 9 => 9 | n => n, fun | n => n⟩
theorem Tryz.lays125 : Go.Proofs.Lays.n125 Tryz.prog Tryz.lays125_ren := {
  mixed := by kernel_rfl
  f125 := Tryz.func113.trans (congrArg some (by kernel_rfl))
  f128 := Tryz.func127.trans (congrArg some (by kernel_rfl))
  f129 := Tryz.func128.trans (congrArg some (by kernel_rfl))
  t3 := Tryz.underlying3
  a3 := Tryz.isAgg3
  z3 := Tryz.sizeOf3
  v3 := Tryz.zeroValue3
  t4 := Tryz.underlying4
  a4 := Tryz.isAgg4
  z4 := Tryz.sizeOf4
  v4 := Tryz.zeroValue4
  t5 := Tryz.underlying5
  a5 := Tryz.isAgg5
  z5 := Tryz.sizeOf5
  v5 := Tryz.zeroValue5
  t9 := Tryz.underlying9
  a9 := Tryz.isAgg9
  z9 := Tryz.sizeOf9
  v9 := Tryz.zeroValue9
  t46 := Tryz.underlying141
  a46 := Tryz.isAgg141
  z46 := Tryz.sizeOf141
  v46 := Tryz.zeroValue141
  t51 := Tryz.underlying68
  a51 := Tryz.isAgg68
  z51 := Tryz.sizeOf68
  v51 := Tryz.zeroValue68
  t53 := Tryz.underlying122
  a53 := Tryz.isAgg122
  z53 := Tryz.sizeOf122
  v53 := Tryz.zeroValue122 }
/-- bits.Len: "Len returns the minimum number of bits required to represent x; the result is 0 for x == 0.": IT RETURNS 'Lib.bitLen x'; the world is as it was. (A uint has 64 bits in the model.) ITS CALLEE bits.Len64 IS MET BY ITS OWN CONTRACT OFF THE SHELF (lay that first). (LAID: no walk: one application.) -/
theorem Tryz.bits_Len (x : Int) (w : World) (h0 : 0 ≤ x) (h1 : x ≤ 18446744073709551615) :
    Calls Tryz.prog 113 #[.int .u64 x] w fun e w' => e = .returned (.int .i64 (Lib.bitLen x.toNat)) ∧ w' = w := Any.bits_Len Tryz.lays125 x w h0 h1
def Tryz.lays213_ren : Go.Shelf.Ren := ⟨fun | 213 => 97 | 265 => 111 | n => n, fun | 9 => 9 | 3 => 3 | n => n, fun | n => n⟩
theorem Tryz.lays213 : Go.Proofs.Lays.n213 Tryz.prog Tryz.lays213_ren := {
  mixed := by kernel_rfl
  f213 := Tryz.func97.trans (congrArg some (by kernel_rfl))
  f265 := Tryz.func111.trans (congrArg some (by kernel_rfl))
  t3 := Tryz.underlying3
  a3 := Tryz.isAgg3
  z3 := Tryz.sizeOf3
  v3 := Tryz.zeroValue3
  t9 := Tryz.underlying9
  a9 := Tryz.isAgg9
  z9 := Tryz.sizeOf9
  v9 := Tryz.zeroValue9 }
open Go.RowKit in
/-- internal/bytealg.CompareString (what strings.Compare calls): IT RETURNS 'Lib.compareBytes a b'; the world is as it was. (LAID: no walk: one application.) -/
theorem Tryz.bytealg_CompareString (a b : ByteArray) (w : World) :
    Calls Tryz.prog 97 #[.string a, .string b] w fun e w' => e = .returned (.int .i64 (Lib.compareBytes a.data.toList b.data.toList)) ∧ w' = w := Any.bytealg_CompareString Tryz.lays213 a b w
def Tryz.lays106_ren : Go.Shelf.Ren := ⟨fun | 106 => 70 | 213 => 97 | 265 => 111 | n => n, fun | 9 => 9 | 3 => 3 | n => n, fun | n => n⟩
theorem Tryz.lays106 : Go.Proofs.Lays.n106 Tryz.prog Tryz.lays106_ren := {
  mixed := by kernel_rfl
  f106 := Tryz.func70.trans (congrArg some (by kernel_rfl))
  f213 := Tryz.func97.trans (congrArg some (by kernel_rfl))
  f265 := Tryz.func111.trans (congrArg some (by kernel_rfl))
  t3 := Tryz.underlying3
  a3 := Tryz.isAgg3
  z3 := Tryz.sizeOf3
  v3 := Tryz.zeroValue3
  t9 := Tryz.underlying9
  a9 := Tryz.isAgg9
  z9 := Tryz.sizeOf9
  v9 := Tryz.zeroValue9 }
open Go.RowKit in
/-- strings.Compare: "Compare returns an integer comparing two strings lexicographically. The result will be 0 if a == b, -1 if a < b, and +1 if a > b.": IT RETURNS 'Lib.compareBytes a b'; the world is as it was. (LAID: no walk: one application.) -/
theorem Tryz.strings_Compare (a b : ByteArray) (w : World) :
    Calls Tryz.prog 70 #[.string a, .string b] w fun e w' => e = .returned (.int .i64 (Lib.compareBytes a.data.toList b.data.toList)) ∧ w' = w := Any.strings_Compare Tryz.lays106 a b w
open Go.RowKit in
/-- (*strings.Builder).Len: "Len returns the number of accumulated bytes; b.Len() == len(b.String()).": the world is as it was. (THE FORM '_f': 'Lib.IsBuilderF'.) (LAID: no walk: one application.) -/
theorem Tryz.Builder_Len_f (B b : Nat) (bs : List Value) (w : World) (h : Lib.IsBuilderF 73 5 B b bs w) :
    Calls Tryz.prog 86 #[.pointer (some ⟨b, 0, none⟩)] w fun e w' => e = .returned (.int .i64 bs.length) ∧ w' = w := Any.Builder_Len_f Tryz.lays170 B b bs w h
open Go.RowKit in
/-- (*strings.Builder).String: "String returns the accumulated string.": OF A BUILDER THAT HOLDS AT LEAST ONE BYTE. ✋ THE MODEL FREEZES THOSE BYTES IN THE BUFFER (unsafe.String): a later write INTO them ends the model's run without an answer; a later append BEHIND them goes on. The statement's order of evaluation is drawn: one draw. THE FORM '_f': IT SAYS BESIDES THAT THE BUILDER IS A BUILDER STILL ('Lib.IsBuilderF', the same bytes): SO IT CAN BE WRITTEN ON: 'b.WriteString(b.String()[:k])'. (LAID: no walk: one application.) -/
theorem Tryz.Builder_String_f (B b : Nat) (l : List UInt8) (w : World) (h : Lib.IsBuilderF 73 5 B b (Lib.byteCells l) w) (h0 : l ≠ []) :
    Calls Tryz.prog 33 #[.pointer (some ⟨b, 0, none⟩)] w fun e w' => e = .returned (.string ⟨l.toArray⟩) ∧ (Lib.IsBuilderF 73 5 B b (Lib.byteCells l) w' ∧ Below B w w') := Any.Builder_String_f Tryz.lays169 Tryz.Builder_Extra_169 B b l w h h0
open Go.RowKit in
/-- (*strings.Builder).String OF A BUILDER THAT HOLDS NO BYTE: the empty string; THE FORM '_f': a builder still. (LAID: no walk: one application.) -/
theorem Tryz.Builder_String_empty_f (B b : Nat) (w : World) (h : Lib.IsBuilderF 73 5 B b [] w) (hBw : B ≤ w.heap.size) :
    Calls Tryz.prog 33 #[.pointer (some ⟨b, 0, none⟩)] w fun e w' => e = .returned (.string ⟨#[]⟩) ∧ (Lib.IsBuilderF 73 5 B b [] w' ∧ Below B w w') := Any.Builder_String_empty_f Tryz.lays169 Tryz.Builder_Extra_169 B b w h hBw
open Go.RowKit in
/-- (*strings.Builder).String: "String returns the accumulated string.": WHATEVER THE BUILDER HOLDS; THE FORM '_f': OF A BUILDER THAT MAY HAVE BEEN READ BEFORE; AND IT IS A BUILDER STILL, holding the same bytes: it can be written on. (LAID: no walk: one application.) -/
theorem Tryz.Builder_String_any_f (B b : Nat) (l : List UInt8) (w : World) (h : Lib.IsBuilderF 73 5 B b (Lib.byteCells l) w) (hBw : B ≤ w.heap.size) :
    Calls Tryz.prog 33 #[.pointer (some ⟨b, 0, none⟩)] w fun e w' => e = .returned (.string ⟨l.toArray⟩) ∧ (Lib.IsBuilderF 73 5 B b (Lib.byteCells l) w' ∧ Below B w w') := Any.Builder_String_any_f Tryz.lays169 Tryz.Builder_Extra_169 B b l w h hBw
def Tryz.lays195_ren : Go.Shelf.Ren := ⟨fun | 195 => 130 | n => n, fun | 9 => 9 | 3 => 3 | 0 => 0 | 4 => 4 | n => n, fun | n => n⟩
theorem Tryz.lays195 : Go.Proofs.Lays.n195 Tryz.prog Tryz.lays195_ren := {
  mixed := by kernel_rfl
  f195 := Tryz.func130.trans (congrArg some (by kernel_rfl))
  t0 := Tryz.underlying0
  a0 := Tryz.isAgg0
  z0 := Tryz.sizeOf0
  v0 := Tryz.zeroValue0
  t3 := Tryz.underlying3
  a3 := Tryz.isAgg3
  z3 := Tryz.sizeOf3
  v3 := Tryz.zeroValue3
  t4 := Tryz.underlying4
  a4 := Tryz.isAgg4
  z4 := Tryz.sizeOf4
  v4 := Tryz.zeroValue4
  t9 := Tryz.underlying9
  a9 := Tryz.isAgg9
  z9 := Tryz.sizeOf9
  v9 := Tryz.zeroValue9 }
open Go.RowKit in
/-- unicode/utf8.RuneCountInString: "RuneCountInString is like RuneCount but its input is a string." ("RuneCount returns the number of runes in p. Erroneous and short encodings are treated as single runes of width 1 byte."): EVERY STRING, valid UTF-8 or not: 'Lib.runeCount s' (plain Lean over the model's own 'Utf8.decode'; 'Lib.runeCount_le': at most len(s); 'Lib.runeCount_ascii': on ASCII: len(s)). THE ONE CONDITION: len(s) below 2^63 - 1 (the counter does not wrap): the form's reach pays it. THE WORLD BEHIND THE CALL: ONE BLOCK MORE: the model's iterator over s, at its end: all else as it was. (LAID: no walk: one application.) -/
theorem Tryz.utf8_RuneCountInString (s : ByteArray) (w : World) (hs : s.size < 9223372036854775807) :
    Calls Tryz.prog 130 #[.string s] w fun e w' => e = .returned (.int .i64 (Lib.runeCount s)) ∧ ∃ pos, w' = w.iter s pos := Any.utf8_RuneCountInString Tryz.lays195 s w hs
open Go.RowKit in
/-- (*strings.Builder).grow (no doc but "grow copies the buffer to a new, larger buffer so that there are at least n bytes of capacity beyond len(b.buf)."): AT A BUILDER WITHOUT A BUFFER: a new row of whatever bytes for its buffer, none of them its own yet. Three draws. (LAID: no walk: one application.) -/
theorem Tryz.Builder_grow_fresh_cap (B b n : Nat) (w : World) (hB : B ≤ b) (hbk : w.heap[b]? = some (.cells #[.pointer (some ⟨b, 0, none⟩), .slice none 0 0] 73 (0, 0))) (hBw : B ≤ w.heap.size) (hn : n ≤ 281474976710656) :
    Calls Tryz.prog 106 #[.pointer (some ⟨b, 0, none⟩), .int .i64 n] w fun e w' => e = .returned (.tuple #[]) ∧ (Lib.BuilderAt 73 5 B b (.pointer (some ⟨b, 0, none⟩)) [] w' ∧ Below B w w') ∧ ∃ p cap, w'.cell? ⟨b, 1, none⟩ = some (.slice p 0 cap) ∧ n ≤ cap := Any.Builder_grow_fresh_cap Tryz.lays241 Tryz.Builder_Extra_241 B b n w hB hbk hBw hn
open Go.RowKit in
/-- (*strings.Builder).Grow AT A BUILDER THAT HAS NOT BEEN WRITTEN ('var b strings.Builder; b.Grow(n)'): "Grow grows b's capacity, if necessary, to guarantee space for another n bytes.": it holds no byte behind it as before it. (LAID: no walk: one application.) -/
theorem Tryz.Builder_Grow_fresh_cap (B b n : Nat) (w : World) (hB : B ≤ b) (hbk : w.heap[b]? = some (.cells #[.pointer none, .slice none 0 0] 73 (0, 0))) (hBw : B ≤ w.heap.size) (hn : n ≤ 281474976710656) :
    Calls Tryz.prog 85 #[.pointer (some ⟨b, 0, none⟩), .int .i64 n] w fun e w' => e = .returned (.tuple #[]) ∧ (Lib.BuilderAt 73 5 B b (.pointer (some ⟨b, 0, none⟩)) [] w' ∧ Below B w w') ∧ ∃ p cap, w'.cell? ⟨b, 1, none⟩ = some (.slice p 0 cap) ∧ n ≤ cap := Any.Builder_Grow_fresh_cap Tryz.lays165 Tryz.Builder_Extra_165 B b n w hB hbk hBw hn
def Tryz.lays129_ren : Go.Shelf.Ren := ⟨fun | 129 => 128 | n => n, fun | 53 => 122 | 3 => 3 | 4 => 4 | 46 => 141 | 5 => 5 | 9 => 9 | n => n, fun | n => n⟩
theorem Tryz.lays129 : Go.Proofs.Lays.n129 Tryz.prog Tryz.lays129_ren := {
  mixed := by kernel_rfl
  f129 := Tryz.func128.trans (congrArg some (by kernel_rfl))
  t3 := Tryz.underlying3
  a3 := Tryz.isAgg3
  z3 := Tryz.sizeOf3
  v3 := Tryz.zeroValue3
  t4 := Tryz.underlying4
  a4 := Tryz.isAgg4
  z4 := Tryz.sizeOf4
  v4 := Tryz.zeroValue4
  t5 := Tryz.underlying5
  a5 := Tryz.isAgg5
  z5 := Tryz.sizeOf5
  v5 := Tryz.zeroValue5
  t9 := Tryz.underlying9
  a9 := Tryz.isAgg9
  z9 := Tryz.sizeOf9
  v9 := Tryz.zeroValue9
  t46 := Tryz.underlying141
  a46 := Tryz.isAgg141
  z46 := Tryz.sizeOf141
  v46 := Tryz.zeroValue141
  t53 := Tryz.underlying122
  a53 := Tryz.isAgg122
  z53 := Tryz.sizeOf122
  v53 := Tryz.zeroValue122 }
/-- bits.Len64: "Len64 returns the minimum number of bits required to represent x; the result is 0 for x == 0.": IT RETURNS 'Lib.bitLen x'; the world is as it was. ('h0', 'h1': x is a uint64.) (LAID: no walk: one application.) -/
theorem Tryz.bits_Len64 (x : Int) (w : World) (h0 : 0 ≤ x) (h1 : x ≤ 18446744073709551615) :
    Calls Tryz.prog 128 #[.int .u64 x] w fun e w' => e = .returned (.int .i64 (Lib.bitLen x.toNat)) ∧ w' = w := Any.bits_Len64 Tryz.lays129 x w h0 h1
def Tryz.lays217_ren : Go.Shelf.Ren := ⟨fun | 217 => 140 | 266 => 145 | n => n, fun | 9 => 9 | 5 => 5 | 3 => 3 | n => n, fun | n => n⟩
theorem Tryz.lays217 : Go.Proofs.Lays.n217 Tryz.prog Tryz.lays217_ren := {
  mixed := by kernel_rfl
  f217 := Tryz.func140.trans (congrArg some (by kernel_rfl))
  f266 := Tryz.func145.trans (congrArg some (by kernel_rfl))
  t3 := Tryz.underlying3
  a3 := Tryz.isAgg3
  z3 := Tryz.sizeOf3
  v3 := Tryz.zeroValue3
  t5 := Tryz.underlying5
  a5 := Tryz.isAgg5
  z5 := Tryz.sizeOf5
  v5 := Tryz.zeroValue5
  t9 := Tryz.underlying9
  a9 := Tryz.isAgg9
  z9 := Tryz.sizeOf9
  v9 := Tryz.zeroValue9 }
open Go.RowKit Go.Lib in
/-- internal/stringslite.IndexByte (what strings.IndexByte calls): IT RETURNS 'Lib.indexByte s c'; the world is as it was. (LAID: no walk: one application.) -/
theorem Tryz.stringslite_IndexByte (s : ByteArray) (c : Int) (w : World) :
    Calls Tryz.prog 140 #[.string s, .int .u8 c] w fun e w' => e = .returned (.int .i64 (Lib.indexByte s.data.toList c.toNat.toUInt8)) ∧ w' = w := Any.stringslite_IndexByte Tryz.lays217 s c w
def Tryz.lays224_ren : Go.Shelf.Ren := ⟨fun | 224 => 142 | n => n, fun | 3 => 3 | n => n, fun | n => n⟩
theorem Tryz.lays224 : Go.Proofs.Lays.n224 Tryz.prog Tryz.lays224_ren := {
  mixed := by kernel_rfl
  f224 := Tryz.func142.trans (congrArg some (by kernel_rfl))
  t3 := Tryz.underlying3
  a3 := Tryz.isAgg3
  z3 := Tryz.sizeOf3
  v3 := Tryz.zeroValue3 }
open Go.RowKit Go.Lib in
/-- internal/bytealg.Cutover: "Cutover reports the number of failures of IndexByte we should tolerate before switching over to Index. n is the number of bytes processed so far.": on amd64: (n + 16) / 8. (LAID: no walk: one application.) -/
theorem Tryz.bytealg_Cutover (n : Int) (h0 : 0 ≤ n) (h1 : n < 4611686018427387904) (w : World) :
    Calls Tryz.prog 142 #[.int .i64 n] w fun e w' => e = .returned (.int .i64 ((n + 16) / 8)) ∧ w' = w := Any.bytealg_Cutover Tryz.lays224 n h0 h1 w
def Tryz.lays314_ren : Go.Shelf.Ren := ⟨fun | 314 => 146 | n => n, fun | 9 => 9 | 51 => 68 | 3 => 3 | 4 => 4 | 5 => 5 | 46 => 141 | n => n, fun | n => n⟩
theorem Tryz.lays314 : Go.Proofs.Lays.n314 Tryz.prog Tryz.lays314_ren := {
  mixed := by kernel_rfl
  f314 := Tryz.func146.trans (congrArg some (by kernel_rfl))
  t3 := Tryz.underlying3
  a3 := Tryz.isAgg3
  z3 := Tryz.sizeOf3
  v3 := Tryz.zeroValue3
  t4 := Tryz.underlying4
  a4 := Tryz.isAgg4
  z4 := Tryz.sizeOf4
  v4 := Tryz.zeroValue4
  t5 := Tryz.underlying5
  a5 := Tryz.isAgg5
  z5 := Tryz.sizeOf5
  v5 := Tryz.zeroValue5
  t9 := Tryz.underlying9
  a9 := Tryz.isAgg9
  z9 := Tryz.sizeOf9
  v9 := Tryz.zeroValue9
  t46 := Tryz.underlying141
  a46 := Tryz.isAgg141
  z46 := Tryz.sizeOf141
  v46 := Tryz.zeroValue141
  t51 := Tryz.underlying68
  a51 := Tryz.isAgg68
  z51 := Tryz.sizeOf68
  v51 := Tryz.zeroValue68 }
open Go.RowKit Go.Lib in
/-- hashStr: "returns the hash and the appropriate multiplicative factor for use in Rabin-Karp algorithm": THE HASH OF ALL OF sep, AND 16777619 ^ len(sep), both in uint32. (LAID: no walk: one application.) -/
theorem Tryz.bytealg_hashStr (sep : ByteArray) (hs : sep.size < 4294967281) (w : World) :
    Calls Tryz.prog 146 #[.string sep] w fun e w' => e = .returned (.tuple #[.int .u32 (RK.H sep.data.toList % 4294967296), .int .u32 (16777619 ^ sep.size % 4294967296)]) ∧ w' = w := Any.bytealg_hashStr Tryz.lays314 sep hs w
def Tryz.lays267_ren : Go.Shelf.Ren := ⟨fun | 267 => 143 | 314 => 146 | n => n, fun | 9 => 9 | 3 => 3 | 146 => 164 | 51 => 68 | 4 => 4 | 5 => 5 | 46 => 141 | n => n, fun | n => n⟩
theorem Tryz.lays267 : Go.Proofs.Lays.n267 Tryz.prog Tryz.lays267_ren := {
  mixed := by kernel_rfl
  f267 := Tryz.func143.trans (congrArg some (by kernel_rfl))
  f314 := Tryz.func146.trans (congrArg some (by kernel_rfl))
  t3 := Tryz.underlying3
  a3 := Tryz.isAgg3
  z3 := Tryz.sizeOf3
  v3 := Tryz.zeroValue3
  t4 := Tryz.underlying4
  a4 := Tryz.isAgg4
  z4 := Tryz.sizeOf4
  v4 := Tryz.zeroValue4
  t5 := Tryz.underlying5
  a5 := Tryz.isAgg5
  z5 := Tryz.sizeOf5
  v5 := Tryz.zeroValue5
  t9 := Tryz.underlying9
  a9 := Tryz.isAgg9
  z9 := Tryz.sizeOf9
  v9 := Tryz.zeroValue9
  t46 := Tryz.underlying141
  a46 := Tryz.isAgg141
  z46 := Tryz.sizeOf141
  v46 := Tryz.zeroValue141
  t51 := Tryz.underlying68
  a51 := Tryz.isAgg68
  z51 := Tryz.sizeOf68
  v51 := Tryz.zeroValue68
  t146 := Tryz.underlying164
  a146 := Tryz.isAgg164
  z146 := Tryz.sizeOf164
  v146 := Tryz.zeroValue164 }
open Go.RowKit Go.Lib in
theorem Tryz.bytealg_IndexRabinKarp (s sep : ByteArray) (h1 : 1 ≤ sep.size) (h2 : sep.size ≤ s.size) (hs : s.size < 4294967281) (w : World) :
    Calls Tryz.prog 143 #[.string s, .string sep] w fun e w' => e = .returned (.int .i64 (Lib.index s.data.toList sep.data.toList)) ∧ w' = w := Any.bytealg_IndexRabinKarp Tryz.lays267 s sep h1 h2 hs w
def Tryz.lays219_ren : Go.Shelf.Ren := ⟨fun | 219 => 133 | 217 => 140 | 225 => 141 | 224 => 142 | 267 => 143 | 266 => 145 | 314 => 146 | n => n, fun | 9 => 9 | 3 => 3 | 4 => 4 | 5 => 5 | 46 => 141 | 146 => 164 | 51 => 68 | n => n, fun | 1 => 0 | n => n⟩
theorem Tryz.lays219 : Go.Proofs.Lays.n219 Tryz.prog Tryz.lays219_ren := {
  mixed := by kernel_rfl
  f217 := Tryz.func140.trans (congrArg some (by kernel_rfl))
  f219 := Tryz.func133.trans (congrArg some (by kernel_rfl))
  f224 := Tryz.func142.trans (congrArg some (by kernel_rfl))
  f225 := Tryz.func141.trans (congrArg some (by kernel_rfl))
  f266 := Tryz.func145.trans (congrArg some (by kernel_rfl))
  f267 := Tryz.func143.trans (congrArg some (by kernel_rfl))
  f314 := Tryz.func146.trans (congrArg some (by kernel_rfl))
  t3 := Tryz.underlying3
  a3 := Tryz.isAgg3
  z3 := Tryz.sizeOf3
  v3 := Tryz.zeroValue3
  t4 := Tryz.underlying4
  a4 := Tryz.isAgg4
  z4 := Tryz.sizeOf4
  v4 := Tryz.zeroValue4
  t5 := Tryz.underlying5
  a5 := Tryz.isAgg5
  z5 := Tryz.sizeOf5
  v5 := Tryz.zeroValue5
  t9 := Tryz.underlying9
  a9 := Tryz.isAgg9
  z9 := Tryz.sizeOf9
  v9 := Tryz.zeroValue9
  t46 := Tryz.underlying141
  a46 := Tryz.isAgg141
  z46 := Tryz.sizeOf141
  v46 := Tryz.zeroValue141
  t51 := Tryz.underlying68
  a51 := Tryz.isAgg68
  z51 := Tryz.sizeOf68
  v51 := Tryz.zeroValue68
  t146 := Tryz.underlying164
  a146 := Tryz.isAgg164
  z146 := Tryz.sizeOf164
  v146 := Tryz.zeroValue164
  g1 := by kernel_rfl }
open Go.RowKit Go.Lib in
/-- internal/stringslite.Index (what strings.Index calls) AT A substr OF ONE BYTE c: IT RETURNS 'Lib.indexByte s c'; the world is as it was. (LAID: no walk: one application.) -/
theorem Tryz.stringslite_Index_one (s : ByteArray) (c : UInt8) (w : World) :
    Calls Tryz.prog 133 #[.string s, .string ⟨#[c]⟩] w fun e w' => e = .returned (.int .i64 (Lib.indexByte s.data.toList c)) ∧ w' = w := Any.stringslite_Index_one Tryz.lays219 s c w
open Go.RowKit Go.Lib in
/-- internal/stringslite.Index (what strings.Index calls) AT A substr OF WHATEVER LENGTH: IT RETURNS 'Lib.index s substr'; the world is as it was. 'm': what internal/bytealg.MaxLen holds: whatever. (LAID: no walk: one application.) -/
theorem Tryz.stringslite_Index (s sub : ByteArray) (m : Int) (w : World) (hs : s.size < 4294967281) (hm : w.cell? ⟨0, 0, none⟩ = some (.int .i64 m)) :
    Calls Tryz.prog 133 #[.string s, .string sub] w fun e w' => e = .returned (.int .i64 (Lib.index s.data.toList sub.data.toList)) ∧ w' = w := Any.stringslite_Index Tryz.lays219 s sub m w hs hm
def Tryz.lays143_ren : Go.Shelf.Ren := ⟨fun | 143 => 118 | 219 => 133 | 217 => 140 | 225 => 141 | 224 => 142 | 267 => 143 | 266 => 145 | 314 => 146 | n => n, fun | 9 => 9 | 3 => 3 | 4 => 4 | 5 => 5 | 46 => 141 | 146 => 164 | 51 => 68 | n => n, fun | 1 => 0 | n => n⟩
theorem Tryz.lays143 : Go.Proofs.Lays.n143 Tryz.prog Tryz.lays143_ren := {
  mixed := by kernel_rfl
  f143 := Tryz.func118.trans (congrArg some (by kernel_rfl))
  f217 := Tryz.func140.trans (congrArg some (by kernel_rfl))
  f219 := Tryz.func133.trans (congrArg some (by kernel_rfl))
  f224 := Tryz.func142.trans (congrArg some (by kernel_rfl))
  f225 := Tryz.func141.trans (congrArg some (by kernel_rfl))
  f266 := Tryz.func145.trans (congrArg some (by kernel_rfl))
  f267 := Tryz.func143.trans (congrArg some (by kernel_rfl))
  f314 := Tryz.func146.trans (congrArg some (by kernel_rfl))
  t3 := Tryz.underlying3
  a3 := Tryz.isAgg3
  z3 := Tryz.sizeOf3
  v3 := Tryz.zeroValue3
  t4 := Tryz.underlying4
  a4 := Tryz.isAgg4
  z4 := Tryz.sizeOf4
  v4 := Tryz.zeroValue4
  t5 := Tryz.underlying5
  a5 := Tryz.isAgg5
  z5 := Tryz.sizeOf5
  v5 := Tryz.zeroValue5
  t9 := Tryz.underlying9
  a9 := Tryz.isAgg9
  z9 := Tryz.sizeOf9
  v9 := Tryz.zeroValue9
  t46 := Tryz.underlying141
  a46 := Tryz.isAgg141
  z46 := Tryz.sizeOf141
  v46 := Tryz.zeroValue141
  t51 := Tryz.underlying68
  a51 := Tryz.isAgg68
  z51 := Tryz.sizeOf68
  v51 := Tryz.zeroValue68
  t146 := Tryz.underlying164
  a146 := Tryz.isAgg164
  z146 := Tryz.sizeOf164
  v146 := Tryz.zeroValue164
  g1 := by kernel_rfl }
open Go.RowKit Go.Lib in
/-- strings.Index: "Index returns the index of the first instance of substr in s, or -1 if substr is not present in s.": AT A substr OF ONE BYTE c: IT RETURNS 'Lib.indexByte s c'; the world is as it was. (LAID: no walk: one application.) -/
theorem Tryz.strings_Index_one (s : ByteArray) (c : UInt8) (w : World) :
    Calls Tryz.prog 118 #[.string s, .string ⟨#[c]⟩] w fun e w' => e = .returned (.int .i64 (Lib.indexByte s.data.toList c)) ∧ w' = w := Any.strings_Index_one Tryz.lays143 s c w
open Go.RowKit Go.Lib in
/-- strings.Index: "Index returns the index of the first instance of substr in s, or -1 if substr is not present in s.": IT RETURNS 'Lib.index s substr'; the world is as it was. (LAID: no walk: one application.) -/
theorem Tryz.strings_Index (s sub : ByteArray) (m : Int) (w : World) (hs : s.size < 4294967281) (hm : w.cell? ⟨0, 0, none⟩ = some (.int .i64 m)) :
    Calls Tryz.prog 118 #[.string s, .string sub] w fun e w' => e = .returned (.int .i64 (Lib.index s.data.toList sub.data.toList)) ∧ w' = w := Any.strings_Index Tryz.lays143 s sub m w hs hm
def Tryz.lays138_ren : Go.Shelf.Ren := ⟨fun | 138 => 117 | 195 => 130 | 218 => 132 | 143 => 118 | 219 => 133 | 217 => 140 | 225 => 141 | 224 => 142 | 267 => 143 | 266 => 145 | 314 => 146 | n => n, fun | 9 => 9 | 3 => 3 | 4 => 4 | 5 => 5 | 0 => 0 | 46 => 141 | 146 => 164 | 51 => 68 | n => n, fun | 1 => 0 | n => n⟩
theorem Tryz.lays138 : Go.Proofs.Lays.n138 Tryz.prog Tryz.lays138_ren := {
  mixed := by kernel_rfl
  f138 := Tryz.func117.trans (congrArg some (by kernel_rfl))
  f143 := Tryz.func118.trans (congrArg some (by kernel_rfl))
  f195 := Tryz.func130.trans (congrArg some (by kernel_rfl))
  f217 := Tryz.func140.trans (congrArg some (by kernel_rfl))
  f218 := Tryz.func132.trans (congrArg some (by kernel_rfl))
  f219 := Tryz.func133.trans (congrArg some (by kernel_rfl))
  f224 := Tryz.func142.trans (congrArg some (by kernel_rfl))
  f225 := Tryz.func141.trans (congrArg some (by kernel_rfl))
  f266 := Tryz.func145.trans (congrArg some (by kernel_rfl))
  f267 := Tryz.func143.trans (congrArg some (by kernel_rfl))
  f314 := Tryz.func146.trans (congrArg some (by kernel_rfl))
  t0 := Tryz.underlying0
  a0 := Tryz.isAgg0
  z0 := Tryz.sizeOf0
  v0 := Tryz.zeroValue0
  t3 := Tryz.underlying3
  a3 := Tryz.isAgg3
  z3 := Tryz.sizeOf3
  v3 := Tryz.zeroValue3
  t4 := Tryz.underlying4
  a4 := Tryz.isAgg4
  z4 := Tryz.sizeOf4
  v4 := Tryz.zeroValue4
  t5 := Tryz.underlying5
  a5 := Tryz.isAgg5
  z5 := Tryz.sizeOf5
  v5 := Tryz.zeroValue5
  t9 := Tryz.underlying9
  a9 := Tryz.isAgg9
  z9 := Tryz.sizeOf9
  v9 := Tryz.zeroValue9
  t46 := Tryz.underlying141
  a46 := Tryz.isAgg141
  z46 := Tryz.sizeOf141
  v46 := Tryz.zeroValue141
  t51 := Tryz.underlying68
  a51 := Tryz.isAgg68
  z51 := Tryz.sizeOf68
  v51 := Tryz.zeroValue68
  t146 := Tryz.underlying164
  a146 := Tryz.isAgg164
  z146 := Tryz.sizeOf164
  v146 := Tryz.zeroValue164
  g1 := by kernel_rfl }
open Go.RowKit Go.Lib in
/-- strings.Count AT A substr OF ONE BYTE ('hp'): "Count counts the number of non-overlapping instances of substr in s.": IT RETURNS 'Lib.countByte s (that byte)'; the world is as it was. ✋ NO CONTRACT HERE YET at an empty substr (utf8.RuneCountInString) or at a longer one (a loop over strings.Index). (LAID: no walk: one application.) -/
theorem Tryz.strings_Count_one (s : ByteArray) (c : UInt8) (w : World) :
    Calls Tryz.prog 117 #[.string s, .string ⟨#[c]⟩] w fun e w' => e = .returned (.int .i64 (Lib.countByte s.data.toList c)) ∧ w' = w := Any.strings_Count_one Tryz.lays138 s c w
open Go.RowKit Go.Lib in
/-- strings.Count AT A substr OF TWO BYTES OR MORE: "Count counts the number of non-overlapping instances of substr in s.": IT RETURNS 'Lib.count s substr'; the world is as it was. (LAID: no walk: one application.) -/
theorem Tryz.strings_Count (s sub : ByteArray) (m : Int) (w : World) (hs : s.size < 4294967281) (hm : w.cell? ⟨0, 0, none⟩ = some (.int .i64 m)) (h2 : 2 ≤ sub.size) :
    Calls Tryz.prog 117 #[.string s, .string sub] w fun e w' => e = .returned (.int .i64 (Lib.countB s sub)) ∧ w' = w := Any.strings_Count Tryz.lays138 s sub m w hs hm h2
def Tryz.laysM219_ren : Go.Shelf.Ren := ⟨fun | 219 => 133 | 217 => 140 | 225 => 141 | 224 => 142 | 267 => 143 | 266 => 145 | 314 => 146 | n => n, fun | 9 => 9 | 3 => 3 | 4 => 4 | 5 => 5 | 46 => 141 | 146 => 164 | 51 => 68 | n => n, fun | 1 => 0 | n => n⟩
theorem Tryz.laysM219 : Go.Proofs.LaysM.n219 Tryz.prog Tryz.laysM219_ren := {
  mixed := by kernel_rfl
  f217 := Tryz.func140.trans (congrArg some (by kernel_rfl))
  f219 := Tryz.func133.trans (congrArg some (by kernel_rfl))
  f224 := Tryz.func142.trans (congrArg some (by kernel_rfl))
  f225 := Tryz.func141.trans (congrArg some (by kernel_rfl))
  f266 := Tryz.func145.trans (congrArg some (by kernel_rfl))
  f267 := Tryz.func143.trans (congrArg some (by kernel_rfl))
  f314 := Tryz.func146.trans (congrArg some (by kernel_rfl))
  t3 := Tryz.underlying3
  a3 := Tryz.isAgg3
  z3 := Tryz.sizeOf3
  v3 := Tryz.zeroValue3
  t4 := Tryz.underlying4
  a4 := Tryz.isAgg4
  z4 := Tryz.sizeOf4
  v4 := Tryz.zeroValue4
  t5 := Tryz.underlying5
  a5 := Tryz.isAgg5
  z5 := Tryz.sizeOf5
  v5 := Tryz.zeroValue5
  t9 := Tryz.underlying9
  a9 := Tryz.isAgg9
  z9 := Tryz.sizeOf9
  v9 := Tryz.zeroValue9
  t46 := Tryz.underlying141
  a46 := Tryz.isAgg141
  z46 := Tryz.sizeOf141
  v46 := Tryz.zeroValue141
  t51 := Tryz.underlying68
  a51 := Tryz.isAgg68
  z51 := Tryz.sizeOf68
  v51 := Tryz.zeroValue68
  t146 := Tryz.underlying164
  a146 := Tryz.isAgg164
  z146 := Tryz.sizeOf164
  v146 := Tryz.zeroValue164
  g1 := by kernel_rfl
  i3 := by kernel_rfl
  i4 := by kernel_rfl
  i5 := by kernel_rfl
  i9 := by kernel_rfl
  i46 := by kernel_rfl
  i51 := by kernel_rfl
  i146 := by kernel_rfl
  m1 := by kernel_rfl
  s1_3 := fun w h => Go.Proofs.cell_of_shapedOpen_int (zero := #[.int .i64 0]) (t := 3) h (of_decide_eq_true (by kernel_rfl)) (by kernel_rfl) rfl (by kernel_rfl) (by kernel_rfl) Tryz.underlying3 }
open Go.RowKit Go.Lib in
theorem Tryz.stringslite_Index_shaped (s sub : ByteArray) (w : World) (h : w.ShapedOpen Tryz.prog) (hs : s.size < 4294967281) :
    Calls Tryz.prog 133 #[.string s, .string sub] w fun e w' => e = .returned (.int .i64 (Lib.index s.data.toList sub.data.toList)) ∧ w' = w := Any.stringslite_Index_shaped Tryz.laysM219 s sub w h hs
def Tryz.laysM143_ren : Go.Shelf.Ren := ⟨fun | 143 => 118 | 219 => 133 | 217 => 140 | 225 => 141 | 224 => 142 | 267 => 143 | 266 => 145 | 314 => 146 | n => n, fun | 9 => 9 | 3 => 3 | 4 => 4 | 5 => 5 | 46 => 141 | 146 => 164 | 51 => 68 | n => n, fun | 1 => 0 | n => n⟩
theorem Tryz.laysM143 : Go.Proofs.LaysM.n143 Tryz.prog Tryz.laysM143_ren := {
  mixed := by kernel_rfl
  f143 := Tryz.func118.trans (congrArg some (by kernel_rfl))
  f217 := Tryz.func140.trans (congrArg some (by kernel_rfl))
  f219 := Tryz.func133.trans (congrArg some (by kernel_rfl))
  f224 := Tryz.func142.trans (congrArg some (by kernel_rfl))
  f225 := Tryz.func141.trans (congrArg some (by kernel_rfl))
  f266 := Tryz.func145.trans (congrArg some (by kernel_rfl))
  f267 := Tryz.func143.trans (congrArg some (by kernel_rfl))
  f314 := Tryz.func146.trans (congrArg some (by kernel_rfl))
  t3 := Tryz.underlying3
  a3 := Tryz.isAgg3
  z3 := Tryz.sizeOf3
  v3 := Tryz.zeroValue3
  t4 := Tryz.underlying4
  a4 := Tryz.isAgg4
  z4 := Tryz.sizeOf4
  v4 := Tryz.zeroValue4
  t5 := Tryz.underlying5
  a5 := Tryz.isAgg5
  z5 := Tryz.sizeOf5
  v5 := Tryz.zeroValue5
  t9 := Tryz.underlying9
  a9 := Tryz.isAgg9
  z9 := Tryz.sizeOf9
  v9 := Tryz.zeroValue9
  t46 := Tryz.underlying141
  a46 := Tryz.isAgg141
  z46 := Tryz.sizeOf141
  v46 := Tryz.zeroValue141
  t51 := Tryz.underlying68
  a51 := Tryz.isAgg68
  z51 := Tryz.sizeOf68
  v51 := Tryz.zeroValue68
  t146 := Tryz.underlying164
  a146 := Tryz.isAgg164
  z146 := Tryz.sizeOf164
  v146 := Tryz.zeroValue164
  g1 := by kernel_rfl
  i3 := by kernel_rfl
  i4 := by kernel_rfl
  i5 := by kernel_rfl
  i9 := by kernel_rfl
  i46 := by kernel_rfl
  i51 := by kernel_rfl
  i146 := by kernel_rfl
  m1 := by kernel_rfl
  s1_3 := fun w h => Go.Proofs.cell_of_shapedOpen_int (zero := #[.int .i64 0]) (t := 3) h (of_decide_eq_true (by kernel_rfl)) (by kernel_rfl) rfl (by kernel_rfl) (by kernel_rfl) Tryz.underlying3 }
open Go.RowKit Go.Lib in
theorem Tryz.strings_Index_shaped (s sub : ByteArray) (w : World) (h : w.ShapedOpen Tryz.prog) (hs : s.size < 4294967281) :
    Calls Tryz.prog 118 #[.string s, .string sub] w fun e w' => e = .returned (.int .i64 (Lib.index s.data.toList sub.data.toList)) ∧ w' = w := Any.strings_Index_shaped Tryz.laysM143 s sub w h hs
def Tryz.laysM138_ren : Go.Shelf.Ren := ⟨fun | 138 => 117 | 195 => 130 | 218 => 132 | 143 => 118 | 219 => 133 | 217 => 140 | 225 => 141 | 224 => 142 | 267 => 143 | 266 => 145 | 314 => 146 | n => n, fun | 9 => 9 | 3 => 3 | 4 => 4 | 5 => 5 | 0 => 0 | 46 => 141 | 146 => 164 | 51 => 68 | n => n, fun | 1 => 0 | n => n⟩
theorem Tryz.laysM138 : Go.Proofs.LaysM.n138 Tryz.prog Tryz.laysM138_ren := {
  mixed := by kernel_rfl
  f138 := Tryz.func117.trans (congrArg some (by kernel_rfl))
  f143 := Tryz.func118.trans (congrArg some (by kernel_rfl))
  f195 := Tryz.func130.trans (congrArg some (by kernel_rfl))
  f217 := Tryz.func140.trans (congrArg some (by kernel_rfl))
  f218 := Tryz.func132.trans (congrArg some (by kernel_rfl))
  f219 := Tryz.func133.trans (congrArg some (by kernel_rfl))
  f224 := Tryz.func142.trans (congrArg some (by kernel_rfl))
  f225 := Tryz.func141.trans (congrArg some (by kernel_rfl))
  f266 := Tryz.func145.trans (congrArg some (by kernel_rfl))
  f267 := Tryz.func143.trans (congrArg some (by kernel_rfl))
  f314 := Tryz.func146.trans (congrArg some (by kernel_rfl))
  t0 := Tryz.underlying0
  a0 := Tryz.isAgg0
  z0 := Tryz.sizeOf0
  v0 := Tryz.zeroValue0
  t3 := Tryz.underlying3
  a3 := Tryz.isAgg3
  z3 := Tryz.sizeOf3
  v3 := Tryz.zeroValue3
  t4 := Tryz.underlying4
  a4 := Tryz.isAgg4
  z4 := Tryz.sizeOf4
  v4 := Tryz.zeroValue4
  t5 := Tryz.underlying5
  a5 := Tryz.isAgg5
  z5 := Tryz.sizeOf5
  v5 := Tryz.zeroValue5
  t9 := Tryz.underlying9
  a9 := Tryz.isAgg9
  z9 := Tryz.sizeOf9
  v9 := Tryz.zeroValue9
  t46 := Tryz.underlying141
  a46 := Tryz.isAgg141
  z46 := Tryz.sizeOf141
  v46 := Tryz.zeroValue141
  t51 := Tryz.underlying68
  a51 := Tryz.isAgg68
  z51 := Tryz.sizeOf68
  v51 := Tryz.zeroValue68
  t146 := Tryz.underlying164
  a146 := Tryz.isAgg164
  z146 := Tryz.sizeOf164
  v146 := Tryz.zeroValue164
  g1 := by kernel_rfl
  i0 := by kernel_rfl
  i3 := by kernel_rfl
  i4 := by kernel_rfl
  i5 := by kernel_rfl
  i9 := by kernel_rfl
  i46 := by kernel_rfl
  i51 := by kernel_rfl
  i146 := by kernel_rfl
  m1 := by kernel_rfl
  s1_3 := fun w h => Go.Proofs.cell_of_shapedOpen_int (zero := #[.int .i64 0]) (t := 3) h (of_decide_eq_true (by kernel_rfl)) (by kernel_rfl) rfl (by kernel_rfl) (by kernel_rfl) Tryz.underlying3 }
open Go.RowKit Go.Lib in
theorem Tryz.strings_Count_shaped (s sub : ByteArray) (w : World) (h : w.ShapedOpen Tryz.prog) (hs : s.size < 4294967281) (h2 : 2 ≤ sub.size) :
    Calls Tryz.prog 117 #[.string s, .string sub] w fun e w' => e = .returned (.int .i64 (Lib.countB s sub)) ∧ w' = w := Any.strings_Count_shaped Tryz.laysM138 s sub w h hs h2
def Tryz.lays206_ren : Go.Shelf.Ren := ⟨fun | 206 => 105 | n => n, fun | 9 => 9 | 4 => 4 | 3 => 3 | n => n, fun | n => n⟩
theorem Tryz.lays206 : Go.Proofs.Lays.n206 Tryz.prog Tryz.lays206_ren := {
  mixed := by kernel_rfl
  f206 := Tryz.func105.trans (congrArg some (by kernel_rfl))
  t3 := Tryz.underlying3
  a3 := Tryz.isAgg3
  z3 := Tryz.sizeOf3
  v3 := Tryz.zeroValue3
  t4 := Tryz.underlying4
  a4 := Tryz.isAgg4
  z4 := Tryz.sizeOf4
  v4 := Tryz.zeroValue4
  t9 := Tryz.underlying9
  a9 := Tryz.isAgg9
  z9 := Tryz.sizeOf9
  v9 := Tryz.zeroValue9 }
open Go.RowKit Go.Lib in
/-- internal/stringslite.HasPrefix (what strings.HasPrefix calls). (LAID: no walk: one application.) -/
theorem Tryz.stringslite_HasPrefix (s p : ByteArray) (w : World) :
    Calls Tryz.prog 105 #[.string s, .string p] w fun e w' => e = .returned (.bool (Lib.hasPrefix s.data.toList p.data.toList)) ∧ w' = w := Any.stringslite_HasPrefix Tryz.lays206 s p w
def Tryz.lays99_ren : Go.Shelf.Ren := ⟨fun | 99 => 84 | 206 => 105 | n => n, fun | 9 => 9 | 4 => 4 | 3 => 3 | n => n, fun | n => n⟩
theorem Tryz.lays99 : Go.Proofs.Lays.n99 Tryz.prog Tryz.lays99_ren := {
  mixed := by kernel_rfl
  f99 := Tryz.func84.trans (congrArg some (by kernel_rfl))
  f206 := Tryz.func105.trans (congrArg some (by kernel_rfl))
  t3 := Tryz.underlying3
  a3 := Tryz.isAgg3
  z3 := Tryz.sizeOf3
  v3 := Tryz.zeroValue3
  t4 := Tryz.underlying4
  a4 := Tryz.isAgg4
  z4 := Tryz.sizeOf4
  v4 := Tryz.zeroValue4
  t9 := Tryz.underlying9
  a9 := Tryz.isAgg9
  z9 := Tryz.sizeOf9
  v9 := Tryz.zeroValue9 }
open Go.RowKit Go.Lib in
/-- strings.HasPrefix: "HasPrefix reports whether the string s begins with prefix.": IT RETURNS 'Lib.hasPrefix s prefix'; the world is as it was. (LAID: no walk: one application.) -/
theorem Tryz.strings_HasPrefix (s p : ByteArray) (w : World) :
    Calls Tryz.prog 84 #[.string s, .string p] w fun e w' => e = .returned (.bool (Lib.hasPrefix s.data.toList p.data.toList)) ∧ w' = w := Any.strings_HasPrefix Tryz.lays99 s p w
open Go.RowKit Go.Lib in
/-- strings.Count at whatever sep that is not empty: the two roads under one statement. (LAID: no walk: one application.) -/
theorem Tryz.strings_Count_any (s sep : ByteArray) (m : Int) (w : World) (hs : s.size < 4294967281) (hm : w.cell? ⟨0, 0, none⟩ = some (.int .i64 m)) (h1 : 1 ≤ sep.size) :
    Calls Tryz.prog 117 #[.string s, .string sep] w fun e w' => e = .returned (.int .i64 (Lib.countB s sep)) ∧ w' = w := Any.strings_Count_any Tryz.lays138 s sep m w hs hm h1
def Tryz.lays221_ren : Go.Shelf.Ren := ⟨fun | 221 => 110 | 268 => 116 | 138 => 117 | 143 => 118 | 195 => 130 | 197 => 131 | 218 => 132 | 219 => 133 | 260 => 139 | 217 => 140 | 225 => 141 | 224 => 142 | 267 => 143 | 266 => 145 | 314 => 146 | n => n, fun | 9 => 9 | 3 => 3 | 31 => 24 | 4 => 4 | 0 => 0 | 105 => 188 | 21 => 21 | 5 => 5 | 46 => 141 | 119 => 200 | 139 => 203 | 138 => 202 | 146 => 164 | 51 => 68 | n => n, fun | 1 => 0 | 3 => 1 | 4 => 2 | n => n⟩
theorem Tryz.lays221 : Go.Proofs.Lays.n221 Tryz.prog Tryz.lays221_ren := {
  mixed := by kernel_rfl
  f138 := Tryz.func117.trans (congrArg some (by kernel_rfl))
  f143 := Tryz.func118.trans (congrArg some (by kernel_rfl))
  f195 := Tryz.func130.trans (congrArg some (by kernel_rfl))
  f197 := Tryz.func131.trans (congrArg some (by kernel_rfl))
  f217 := Tryz.func140.trans (congrArg some (by kernel_rfl))
  f218 := Tryz.func132.trans (congrArg some (by kernel_rfl))
  f219 := Tryz.func133.trans (congrArg some (by kernel_rfl))
  f221 := Tryz.func110.trans (congrArg some (by kernel_rfl))
  f224 := Tryz.func142.trans (congrArg some (by kernel_rfl))
  f225 := Tryz.func141.trans (congrArg some (by kernel_rfl))
  f260 := Tryz.func139.trans (congrArg some (by kernel_rfl))
  f266 := Tryz.func145.trans (congrArg some (by kernel_rfl))
  f267 := Tryz.func143.trans (congrArg some (by kernel_rfl))
  f268 := Tryz.func116.trans (congrArg some (by kernel_rfl))
  f314 := Tryz.func146.trans (congrArg some (by kernel_rfl))
  t0 := Tryz.underlying0
  a0 := Tryz.isAgg0
  z0 := Tryz.sizeOf0
  v0 := Tryz.zeroValue0
  t3 := Tryz.underlying3
  a3 := Tryz.isAgg3
  z3 := Tryz.sizeOf3
  v3 := Tryz.zeroValue3
  t4 := Tryz.underlying4
  a4 := Tryz.isAgg4
  z4 := Tryz.sizeOf4
  v4 := Tryz.zeroValue4
  t5 := Tryz.underlying5
  a5 := Tryz.isAgg5
  z5 := Tryz.sizeOf5
  v5 := Tryz.zeroValue5
  t9 := Tryz.underlying9
  a9 := Tryz.isAgg9
  z9 := Tryz.sizeOf9
  v9 := Tryz.zeroValue9
  t21 := Tryz.underlying21
  a21 := Tryz.isAgg21
  z21 := Tryz.sizeOf21
  v21 := Tryz.zeroValue21
  t31 := Tryz.underlying24
  a31 := Tryz.isAgg24
  z31 := Tryz.sizeOf24
  v31 := Tryz.zeroValue24
  t46 := Tryz.underlying141
  a46 := Tryz.isAgg141
  z46 := Tryz.sizeOf141
  v46 := Tryz.zeroValue141
  t51 := Tryz.underlying68
  a51 := Tryz.isAgg68
  z51 := Tryz.sizeOf68
  v51 := Tryz.zeroValue68
  t105 := Tryz.underlying188
  a105 := Tryz.isAgg188
  z105 := Tryz.sizeOf188
  v105 := Tryz.zeroValue188
  t119 := Tryz.underlying200
  a119 := Tryz.isAgg200
  z119 := Tryz.sizeOf200
  t138 := Tryz.underlying202
  a138 := Tryz.isAgg202
  z138 := Tryz.sizeOf202
  v138 := Tryz.zeroValue202
  t139 := Tryz.underlying203
  a139 := Tryz.isAgg203
  z139 := Tryz.sizeOf203
  v139 := Tryz.zeroValue203
  t146 := Tryz.underlying164
  a146 := Tryz.isAgg164
  z146 := Tryz.sizeOf164
  v146 := Tryz.zeroValue164
  g1 := by kernel_rfl
  g3 := by kernel_rfl
  g4 := by kernel_rfl }
open Go.RowKit Go.Lib in
theorem Tryz.strings_genSplit (s sep : ByteArray) (sv : Nat) (n : Int) (N : Nat) (m : Int) (w : World) (hs : s.size < 4294967281) (hm : w.cell? ⟨0, 0, none⟩ = some (.int .i64 m)) (h1 : 1 ≤ sep.size) (hsv : sv ≤ sep.size) (hn0 : n ≠ 0) (hn63 : n ≤ 9223372036854775807) (hN : (N : Int) = min (if n < 0 then (Lib.countB s sep : Int) + 1 else n) ((s.size : Int) + 1)) :
    Calls Tryz.prog 110 #[.string s, .string sep, .int .i64 sv, .int .i64 n] w fun e w' =>
      e = .returned (.slice (some ⟨w.heap.size, 0, none⟩) (Lib.splitB sep sv (N - 1) s).length N) ∧ w' = w.alloc (.cells (Lib.cellsOf (Lib.splitB sep sv (N - 1) s) N) 9) := Any.strings_genSplit Tryz.lays221 (by kernel_rfl) s sep sv n N m w hs hm h1 hsv hn0 hn63 hN
def Tryz.lays146_ren : Go.Shelf.Ren := ⟨fun | 146 => 96 | 221 => 110 | 268 => 116 | 138 => 117 | 143 => 118 | 195 => 130 | 197 => 131 | 218 => 132 | 219 => 133 | 260 => 139 | 217 => 140 | 225 => 141 | 224 => 142 | 267 => 143 | 266 => 145 | 314 => 146 | n => n, fun | 9 => 9 | 31 => 24 | 3 => 3 | 4 => 4 | 0 => 0 | 105 => 188 | 21 => 21 | 5 => 5 | 46 => 141 | 119 => 200 | 139 => 203 | 138 => 202 | 146 => 164 | 51 => 68 | n => n, fun | 1 => 0 | 3 => 1 | 4 => 2 | n => n⟩
theorem Tryz.lays146 : Go.Proofs.Lays.n146 Tryz.prog Tryz.lays146_ren := {
  mixed := by kernel_rfl
  f138 := Tryz.func117.trans (congrArg some (by kernel_rfl))
  f143 := Tryz.func118.trans (congrArg some (by kernel_rfl))
  f146 := Tryz.func96.trans (congrArg some (by kernel_rfl))
  f195 := Tryz.func130.trans (congrArg some (by kernel_rfl))
  f197 := Tryz.func131.trans (congrArg some (by kernel_rfl))
  f217 := Tryz.func140.trans (congrArg some (by kernel_rfl))
  f218 := Tryz.func132.trans (congrArg some (by kernel_rfl))
  f219 := Tryz.func133.trans (congrArg some (by kernel_rfl))
  f221 := Tryz.func110.trans (congrArg some (by kernel_rfl))
  f224 := Tryz.func142.trans (congrArg some (by kernel_rfl))
  f225 := Tryz.func141.trans (congrArg some (by kernel_rfl))
  f260 := Tryz.func139.trans (congrArg some (by kernel_rfl))
  f266 := Tryz.func145.trans (congrArg some (by kernel_rfl))
  f267 := Tryz.func143.trans (congrArg some (by kernel_rfl))
  f268 := Tryz.func116.trans (congrArg some (by kernel_rfl))
  f314 := Tryz.func146.trans (congrArg some (by kernel_rfl))
  t0 := Tryz.underlying0
  a0 := Tryz.isAgg0
  z0 := Tryz.sizeOf0
  v0 := Tryz.zeroValue0
  t3 := Tryz.underlying3
  a3 := Tryz.isAgg3
  z3 := Tryz.sizeOf3
  v3 := Tryz.zeroValue3
  t4 := Tryz.underlying4
  a4 := Tryz.isAgg4
  z4 := Tryz.sizeOf4
  v4 := Tryz.zeroValue4
  t5 := Tryz.underlying5
  a5 := Tryz.isAgg5
  z5 := Tryz.sizeOf5
  v5 := Tryz.zeroValue5
  t9 := Tryz.underlying9
  a9 := Tryz.isAgg9
  z9 := Tryz.sizeOf9
  v9 := Tryz.zeroValue9
  t21 := Tryz.underlying21
  a21 := Tryz.isAgg21
  z21 := Tryz.sizeOf21
  v21 := Tryz.zeroValue21
  t31 := Tryz.underlying24
  a31 := Tryz.isAgg24
  z31 := Tryz.sizeOf24
  v31 := Tryz.zeroValue24
  t46 := Tryz.underlying141
  a46 := Tryz.isAgg141
  z46 := Tryz.sizeOf141
  v46 := Tryz.zeroValue141
  t51 := Tryz.underlying68
  a51 := Tryz.isAgg68
  z51 := Tryz.sizeOf68
  v51 := Tryz.zeroValue68
  t105 := Tryz.underlying188
  a105 := Tryz.isAgg188
  z105 := Tryz.sizeOf188
  v105 := Tryz.zeroValue188
  t119 := Tryz.underlying200
  a119 := Tryz.isAgg200
  z119 := Tryz.sizeOf200
  t138 := Tryz.underlying202
  a138 := Tryz.isAgg202
  z138 := Tryz.sizeOf202
  v138 := Tryz.zeroValue202
  t139 := Tryz.underlying203
  a139 := Tryz.isAgg203
  z139 := Tryz.sizeOf203
  v139 := Tryz.zeroValue203
  t146 := Tryz.underlying164
  a146 := Tryz.isAgg164
  z146 := Tryz.sizeOf164
  v146 := Tryz.zeroValue164
  g1 := by kernel_rfl
  g3 := by kernel_rfl
  g4 := by kernel_rfl }
open Go.RowKit Go.Lib in
/-- strings.Split. (LAID: no walk: one application.) -/
theorem Tryz.strings_Split (s sep : ByteArray) (m : Int) (w : World) (hs : s.size < 4294967281) (hm : w.cell? ⟨0, 0, none⟩ = some (.int .i64 m)) (h1 : 1 ≤ sep.size) :
    Calls Tryz.prog 96 #[.string s, .string sep] w fun e w' =>
      e = .returned (.slice (some ⟨w.heap.size, 0, none⟩) (Lib.countB s sep + 1) (Lib.countB s sep + 1)) ∧ w' = w.alloc (.cells ((Lib.splitB sep 0 (Lib.countB s sep) s).map Value.string).toArray 9) := Any.strings_Split Tryz.lays146 (by kernel_rfl) s sep m w hs hm h1
def Tryz.laysM146_ren : Go.Shelf.Ren := ⟨fun | 146 => 96 | 221 => 110 | 268 => 116 | 138 => 117 | 143 => 118 | 195 => 130 | 197 => 131 | 218 => 132 | 219 => 133 | 260 => 139 | 217 => 140 | 225 => 141 | 224 => 142 | 267 => 143 | 266 => 145 | 314 => 146 | n => n, fun | 9 => 9 | 31 => 24 | 3 => 3 | 4 => 4 | 0 => 0 | 105 => 188 | 21 => 21 | 5 => 5 | 46 => 141 | 119 => 200 | 139 => 203 | 138 => 202 | 146 => 164 | 51 => 68 | n => n, fun | 1 => 0 | 3 => 1 | 4 => 2 | n => n⟩
theorem Tryz.laysM146 : Go.Proofs.LaysM.n146 Tryz.prog Tryz.laysM146_ren := {
  mixed := by kernel_rfl
  f138 := Tryz.func117.trans (congrArg some (by kernel_rfl))
  f143 := Tryz.func118.trans (congrArg some (by kernel_rfl))
  f146 := Tryz.func96.trans (congrArg some (by kernel_rfl))
  f195 := Tryz.func130.trans (congrArg some (by kernel_rfl))
  f197 := Tryz.func131.trans (congrArg some (by kernel_rfl))
  f217 := Tryz.func140.trans (congrArg some (by kernel_rfl))
  f218 := Tryz.func132.trans (congrArg some (by kernel_rfl))
  f219 := Tryz.func133.trans (congrArg some (by kernel_rfl))
  f221 := Tryz.func110.trans (congrArg some (by kernel_rfl))
  f224 := Tryz.func142.trans (congrArg some (by kernel_rfl))
  f225 := Tryz.func141.trans (congrArg some (by kernel_rfl))
  f260 := Tryz.func139.trans (congrArg some (by kernel_rfl))
  f266 := Tryz.func145.trans (congrArg some (by kernel_rfl))
  f267 := Tryz.func143.trans (congrArg some (by kernel_rfl))
  f268 := Tryz.func116.trans (congrArg some (by kernel_rfl))
  f314 := Tryz.func146.trans (congrArg some (by kernel_rfl))
  t0 := Tryz.underlying0
  a0 := Tryz.isAgg0
  z0 := Tryz.sizeOf0
  v0 := Tryz.zeroValue0
  t3 := Tryz.underlying3
  a3 := Tryz.isAgg3
  z3 := Tryz.sizeOf3
  v3 := Tryz.zeroValue3
  t4 := Tryz.underlying4
  a4 := Tryz.isAgg4
  z4 := Tryz.sizeOf4
  v4 := Tryz.zeroValue4
  t5 := Tryz.underlying5
  a5 := Tryz.isAgg5
  z5 := Tryz.sizeOf5
  v5 := Tryz.zeroValue5
  t9 := Tryz.underlying9
  a9 := Tryz.isAgg9
  z9 := Tryz.sizeOf9
  v9 := Tryz.zeroValue9
  t21 := Tryz.underlying21
  a21 := Tryz.isAgg21
  z21 := Tryz.sizeOf21
  v21 := Tryz.zeroValue21
  t31 := Tryz.underlying24
  a31 := Tryz.isAgg24
  z31 := Tryz.sizeOf24
  v31 := Tryz.zeroValue24
  t46 := Tryz.underlying141
  a46 := Tryz.isAgg141
  z46 := Tryz.sizeOf141
  v46 := Tryz.zeroValue141
  t51 := Tryz.underlying68
  a51 := Tryz.isAgg68
  z51 := Tryz.sizeOf68
  v51 := Tryz.zeroValue68
  t105 := Tryz.underlying188
  a105 := Tryz.isAgg188
  z105 := Tryz.sizeOf188
  v105 := Tryz.zeroValue188
  t119 := Tryz.underlying200
  a119 := Tryz.isAgg200
  z119 := Tryz.sizeOf200
  t138 := Tryz.underlying202
  a138 := Tryz.isAgg202
  z138 := Tryz.sizeOf202
  v138 := Tryz.zeroValue202
  t139 := Tryz.underlying203
  a139 := Tryz.isAgg203
  z139 := Tryz.sizeOf203
  v139 := Tryz.zeroValue203
  t146 := Tryz.underlying164
  a146 := Tryz.isAgg164
  z146 := Tryz.sizeOf164
  v146 := Tryz.zeroValue164
  g1 := by kernel_rfl
  g3 := by kernel_rfl
  g4 := by kernel_rfl
  i0 := by kernel_rfl
  i3 := by kernel_rfl
  i4 := by kernel_rfl
  i5 := by kernel_rfl
  i9 := by kernel_rfl
  i21 := by kernel_rfl
  i31 := by kernel_rfl
  i46 := by kernel_rfl
  i51 := by kernel_rfl
  i105 := by kernel_rfl
  i138 := by kernel_rfl
  i139 := by kernel_rfl
  i146 := by kernel_rfl
  m1 := by kernel_rfl
  s1_3 := fun w h => Go.Proofs.cell_of_shapedOpen_int (zero := #[.int .i64 0]) (t := 3) h (of_decide_eq_true (by kernel_rfl)) (by kernel_rfl) rfl (by kernel_rfl) (by kernel_rfl) Tryz.underlying3
  m3 := by kernel_rfl
  m4 := by kernel_rfl }
open Go.RowKit Go.Lib in
/-- strings.Split, sep not empty. (LAID: no walk: one application.) -/
theorem Tryz.strings_Split_shaped (s sep : ByteArray) (w : World) (h : w.ShapedOpen Tryz.prog) (hs : s.size < 4294967281) (h1 : 1 ≤ sep.size) :
    Calls Tryz.prog 96 #[.string s, .string sep] w fun e w' =>
      e = .returned (.slice (some ⟨w.heap.size, 0, none⟩) (Lib.countB s sep + 1) (Lib.countB s sep + 1)) ∧ w' = w.alloc (.cells ((Lib.splitB sep 0 (Lib.countB s sep) s).map Value.string).toArray 9) := Any.strings_Split_shaped Tryz.laysM146 s sep w h hs h1
def Tryz.lays197_ren : Go.Shelf.Ren := ⟨fun | 197 => 131 | 260 => 139 | n => n, fun | 9 => 9 | 21 => 21 | 3 => 3 | 4 => 4 | 5 => 5 | 105 => 188 | 119 => 200 | 0 => 0 | 46 => 141 | 139 => 203 | 138 => 202 | n => n, fun | 3 => 1 | 4 => 2 | n => n⟩
theorem Tryz.lays197 : Go.Proofs.Lays.n197 Tryz.prog Tryz.lays197_ren := {
  mixed := by kernel_rfl
  f197 := Tryz.func131.trans (congrArg some (by kernel_rfl))
  f260 := Tryz.func139.trans (congrArg some (by kernel_rfl))
  t0 := Tryz.underlying0
  a0 := Tryz.isAgg0
  z0 := Tryz.sizeOf0
  v0 := Tryz.zeroValue0
  t3 := Tryz.underlying3
  a3 := Tryz.isAgg3
  z3 := Tryz.sizeOf3
  v3 := Tryz.zeroValue3
  t4 := Tryz.underlying4
  a4 := Tryz.isAgg4
  z4 := Tryz.sizeOf4
  v4 := Tryz.zeroValue4
  t5 := Tryz.underlying5
  a5 := Tryz.isAgg5
  z5 := Tryz.sizeOf5
  v5 := Tryz.zeroValue5
  t9 := Tryz.underlying9
  a9 := Tryz.isAgg9
  z9 := Tryz.sizeOf9
  v9 := Tryz.zeroValue9
  t21 := Tryz.underlying21
  a21 := Tryz.isAgg21
  z21 := Tryz.sizeOf21
  v21 := Tryz.zeroValue21
  t46 := Tryz.underlying141
  a46 := Tryz.isAgg141
  z46 := Tryz.sizeOf141
  v46 := Tryz.zeroValue141
  t105 := Tryz.underlying188
  a105 := Tryz.isAgg188
  z105 := Tryz.sizeOf188
  v105 := Tryz.zeroValue188
  t119 := Tryz.underlying200
  a119 := Tryz.isAgg200
  z119 := Tryz.sizeOf200
  t138 := Tryz.underlying202
  a138 := Tryz.isAgg202
  z138 := Tryz.sizeOf202
  v138 := Tryz.zeroValue202
  t139 := Tryz.underlying203
  a139 := Tryz.isAgg203
  z139 := Tryz.sizeOf203
  v139 := Tryz.zeroValue203
  g3 := by kernel_rfl
  g4 := by kernel_rfl }
open Go.RowKit Go.Lib in
/-- unicode/utf8.DecodeRuneInString: "DecodeRuneInString is like DecodeRune but its input is a string.": ("DecodeRune unpacks the first UTF-8 encoding in p and returns the rune and its width in bytes."): WHERE s BEGINS WITH AN ASCII BYTE x: (x, 1). (LAID: no walk: one application.) -/
theorem Tryz.utf8_DecodeRuneInString_ascii (s : ByteArray) (x : UInt8) (w : World) (h0 : s.data.toList[0]? = some x) (hx : x.toNat < 128) :
    Calls Tryz.prog 131 #[.string s] w fun e w' => e = .returned (.tuple #[.int .i32 x.toNat, .int .i64 1]) ∧ w' = w := Any.utf8_DecodeRuneInString_ascii Tryz.lays197 s x w h0 hx
open Go.RowKit Go.Lib in
theorem Tryz.utf8_RuneCountInString_ascii (s : ByteArray) (w : World) (hs : s.size < 4294967281) (hascii : ∀ (j : Nat) b, s.data.toList[j]? = some b → b.toNat < 128) :
    Calls Tryz.prog 130 #[.string s] w fun e w' => e = .returned (.int .i64 s.size) ∧ w' = w.iter s s.size := Any.utf8_RuneCountInString_ascii Tryz.lays195 s w hs hascii
def Tryz.lays268_ren : Go.Shelf.Ren := ⟨fun | 268 => 116 | 195 => 130 | 197 => 131 | 260 => 139 | n => n, fun | 9 => 9 | 3 => 3 | 31 => 24 | 4 => 4 | 105 => 188 | 21 => 21 | 0 => 0 | 5 => 5 | 119 => 200 | 46 => 141 | 139 => 203 | 138 => 202 | n => n, fun | 3 => 1 | 4 => 2 | n => n⟩
theorem Tryz.lays268 : Go.Proofs.Lays.n268 Tryz.prog Tryz.lays268_ren := {
  mixed := by kernel_rfl
  f195 := Tryz.func130.trans (congrArg some (by kernel_rfl))
  f197 := Tryz.func131.trans (congrArg some (by kernel_rfl))
  f260 := Tryz.func139.trans (congrArg some (by kernel_rfl))
  f268 := Tryz.func116.trans (congrArg some (by kernel_rfl))
  t0 := Tryz.underlying0
  a0 := Tryz.isAgg0
  z0 := Tryz.sizeOf0
  v0 := Tryz.zeroValue0
  t3 := Tryz.underlying3
  a3 := Tryz.isAgg3
  z3 := Tryz.sizeOf3
  v3 := Tryz.zeroValue3
  t4 := Tryz.underlying4
  a4 := Tryz.isAgg4
  z4 := Tryz.sizeOf4
  v4 := Tryz.zeroValue4
  t5 := Tryz.underlying5
  a5 := Tryz.isAgg5
  z5 := Tryz.sizeOf5
  v5 := Tryz.zeroValue5
  t9 := Tryz.underlying9
  a9 := Tryz.isAgg9
  z9 := Tryz.sizeOf9
  v9 := Tryz.zeroValue9
  t21 := Tryz.underlying21
  a21 := Tryz.isAgg21
  z21 := Tryz.sizeOf21
  v21 := Tryz.zeroValue21
  t31 := Tryz.underlying24
  a31 := Tryz.isAgg24
  z31 := Tryz.sizeOf24
  v31 := Tryz.zeroValue24
  t46 := Tryz.underlying141
  a46 := Tryz.isAgg141
  z46 := Tryz.sizeOf141
  v46 := Tryz.zeroValue141
  t105 := Tryz.underlying188
  a105 := Tryz.isAgg188
  z105 := Tryz.sizeOf188
  v105 := Tryz.zeroValue188
  t119 := Tryz.underlying200
  a119 := Tryz.isAgg200
  z119 := Tryz.sizeOf200
  t138 := Tryz.underlying202
  a138 := Tryz.isAgg202
  z138 := Tryz.sizeOf202
  v138 := Tryz.zeroValue202
  t139 := Tryz.underlying203
  a139 := Tryz.isAgg203
  z139 := Tryz.sizeOf203
  v139 := Tryz.zeroValue203
  g3 := by kernel_rfl
  g4 := by kernel_rfl }
open Go.RowKit Go.Lib in
theorem Tryz.strings_explode_all (s : ByteArray) (n : Int) (w : World) (hn : n < 0) (hs : s.size < 4294967281) (hascii : ∀ (j : Nat) b, s.data.toList[j]? = some b → b.toNat < 128) :
    Calls Tryz.prog 116 #[.string s, .int .i64 n] w fun e w' =>
      e = .returned (.slice (some ⟨(w.iter s s.size).heap.size, 0, none⟩) s.size s.size) ∧ w' = (w.iter s s.size).alloc (.cells ((Lib.charsB s).map Value.string).toArray 9) := Any.strings_explode_all Tryz.lays268 (by kernel_rfl) s n w hn hs hascii
open Go.RowKit Go.Lib in
/-- strings.genSplit at sep == "", n < 0: 'return explode(s, n)'. (LAID: no walk: one application.) -/
theorem Tryz.strings_genSplit_chars (s sep : ByteArray) (sv n : Int) (w : World) (h0 : sep.size = 0) (hn : n < 0) (hs : s.size < 4294967281) (hascii : ∀ (j : Nat) b, s.data.toList[j]? = some b → b.toNat < 128) :
    Calls Tryz.prog 110 #[.string s, .string sep, .int .i64 sv, .int .i64 n] w fun e w' =>
      e = .returned (.slice (some ⟨(w.iter s s.size).heap.size, 0, none⟩) s.size s.size) ∧ w' = (w.iter s s.size).alloc (.cells ((Lib.charsB s).map Value.string).toArray 9) := Any.strings_genSplit_chars Tryz.lays221 (by kernel_rfl) s sep sv n w h0 hn hs hascii
open Go.RowKit Go.Lib in
/-- strings.Split(s, ""), s ASCII: a piece a byte. (LAID: no walk: one application.) -/
theorem Tryz.strings_Split_chars (s sep : ByteArray) (w : World) (h0 : sep.size = 0) (hs : s.size < 4294967281) (hascii : ∀ (j : Nat) b, s.data.toList[j]? = some b → b.toNat < 128) :
    Calls Tryz.prog 96 #[.string s, .string sep] w fun e w' =>
      e = .returned (.slice (some ⟨(w.iter s s.size).heap.size, 0, none⟩) s.size s.size) ∧ w' = (w.iter s s.size).alloc (.cells ((Lib.charsB s).map Value.string).toArray 9) := Any.strings_Split_chars Tryz.lays146 (by kernel_rfl) s sep w h0 hs hascii
def Tryz.lays264_ren : Go.Shelf.Ren := ⟨fun | 264 => 104 | n => n, fun | 53 => 122 | 46 => 141 | n => n, fun | n => n⟩
theorem Tryz.lays264 : Go.Proofs.Lays.n264 Tryz.prog Tryz.lays264_ren := {
  mixed := by kernel_rfl
  f264 := Tryz.func104.trans (congrArg some (by kernel_rfl))
  t46 := Tryz.underlying141
  a46 := Tryz.isAgg141
  z46 := Tryz.sizeOf141
  v46 := Tryz.zeroValue141
  t53 := Tryz.underlying122
  a53 := Tryz.isAgg122
  z53 := Tryz.sizeOf122
  v53 := Tryz.zeroValue122 }
open Go.RowKit Go.Lib in
theorem Tryz.bits_Mul64 (x y : Nat) (hx : x < 18446744073709551616) (hy : y < 18446744073709551616) (w : World) :
    Calls Tryz.prog 104 #[.int .u64 x, .int .u64 y] w fun e w' => e = .returned (.tuple #[.int .u64 ((x * y / 18446744073709551616 : Nat) : Int), .int .u64 ((x * y % 18446744073709551616 : Nat) : Int)]) ∧ w' = w := Any.bits_Mul64 Tryz.lays264 x y hx hy w
def Tryz.lays212_ren : Go.Shelf.Ren := ⟨fun | 212 => 83 | 263 => 103 | 264 => 104 | n => n, fun | 46 => 141 | 51 => 68 | 146 => 164 | 53 => 122 | 148 => 166 | n => n, fun | n => n⟩
theorem Tryz.lays212 : Go.Proofs.Lays.n212 Tryz.prog Tryz.lays212_ren := {
  mixed := by kernel_rfl
  f212 := Tryz.func83.trans (congrArg some (by kernel_rfl))
  f263 := Tryz.func103.trans (congrArg some (by kernel_rfl))
  f264 := Tryz.func104.trans (congrArg some (by kernel_rfl))
  t46 := Tryz.underlying141
  a46 := Tryz.isAgg141
  z46 := Tryz.sizeOf141
  v46 := Tryz.zeroValue141
  t51 := Tryz.underlying68
  a51 := Tryz.isAgg68
  z51 := Tryz.sizeOf68
  v51 := Tryz.zeroValue68
  t53 := Tryz.underlying122
  a53 := Tryz.isAgg122
  z53 := Tryz.sizeOf122
  v53 := Tryz.zeroValue122
  t146 := Tryz.underlying164
  a146 := Tryz.isAgg164
  z146 := Tryz.sizeOf164
  v146 := Tryz.zeroValue164
  t148 := Tryz.underlying166
  a148 := Tryz.isAgg166
  z148 := Tryz.sizeOf166
  v148 := Tryz.zeroValue166 }
open Go.RowKit Go.Lib in
/-- math/bits.Mul: "Mul returns the full-width product of x and y": on a machine of 64 bits: Mul64's. (LAID: no walk: one application.) -/
theorem Tryz.bits_Mul (x y : Nat) (hx : x < 18446744073709551616) (hy : y < 18446744073709551616) (w : World) :
    Calls Tryz.prog 83 #[.int .u64 x, .int .u64 y] w fun e w' => e = .returned (.tuple #[.int .u64 ((x * y / 18446744073709551616 : Nat) : Int), .int .u64 ((x * y % 18446744073709551616 : Nat) : Int)]) ∧ w' = w := Any.bits_Mul Tryz.lays212 x y hx hy w
def Tryz.lays105_ren : Go.Shelf.Ren := ⟨fun | 105 => 64 | 212 => 83 | 99 => 84 | 165 => 85 | 166 => 32 | 170 => 86 | 169 => 33 | 263 => 103 | 264 => 104 | 206 => 105 | 240 => 63 | 241 => 106 | 276 => 82 | 277 => 114 | n => n, fun | 9 => 9 | 3 => 3 | 4 => 4 | 20 => 20 | 0 => 0 | 46 => 141 | 109 => 144 | 5 => 5 | 72 => 73 | 76 => 78 | 51 => 68 | 146 => 164 | 53 => 122 | 148 => 166 | 70 => 71 | 37 => 54 | 75 => 77 | 127 => 123 | 164 => 142 | 80 => 63 | n => n, fun | n => n⟩
theorem Tryz.lays105 : Go.Proofs.Lays.n105 Tryz.prog Tryz.lays105_ren := {
  mixed := by kernel_rfl
  f99 := Tryz.func84.trans (congrArg some (by kernel_rfl))
  f105 := Tryz.func64.trans (congrArg some (by kernel_rfl))
  f165 := Tryz.func85.trans (congrArg some (by kernel_rfl))
  f166 := Tryz.func32.trans (congrArg some (by kernel_rfl))
  f169 := Tryz.func33.trans (congrArg some (by kernel_rfl))
  f170 := Tryz.func86.trans (congrArg some (by kernel_rfl))
  f206 := Tryz.func105.trans (congrArg some (by kernel_rfl))
  f212 := Tryz.func83.trans (congrArg some (by kernel_rfl))
  f240 := Tryz.func63.trans (congrArg some (by kernel_rfl))
  f241 := Tryz.func106.trans (congrArg some (by kernel_rfl))
  f263 := Tryz.func103.trans (congrArg some (by kernel_rfl))
  f264 := Tryz.func104.trans (congrArg some (by kernel_rfl))
  f276 := Tryz.func82.trans (congrArg some (by kernel_rfl))
  f277 := Tryz.func114.trans (congrArg some (by kernel_rfl))
  t0 := Tryz.underlying0
  a0 := Tryz.isAgg0
  z0 := Tryz.sizeOf0
  v0 := Tryz.zeroValue0
  t3 := Tryz.underlying3
  a3 := Tryz.isAgg3
  z3 := Tryz.sizeOf3
  v3 := Tryz.zeroValue3
  t4 := Tryz.underlying4
  a4 := Tryz.isAgg4
  z4 := Tryz.sizeOf4
  v4 := Tryz.zeroValue4
  t5 := Tryz.underlying5
  a5 := Tryz.isAgg5
  z5 := Tryz.sizeOf5
  v5 := Tryz.zeroValue5
  t9 := Tryz.underlying9
  a9 := Tryz.isAgg9
  z9 := Tryz.sizeOf9
  v9 := Tryz.zeroValue9
  t20 := Tryz.underlying20
  a20 := Tryz.isAgg20
  z20 := Tryz.sizeOf20
  v20 := Tryz.zeroValue20
  t37 := Tryz.underlying54
  a37 := Tryz.isAgg54
  z37 := Tryz.sizeOf54
  v37 := Tryz.zeroValue54
  t46 := Tryz.underlying141
  a46 := Tryz.isAgg141
  z46 := Tryz.sizeOf141
  v46 := Tryz.zeroValue141
  t51 := Tryz.underlying68
  a51 := Tryz.isAgg68
  z51 := Tryz.sizeOf68
  v51 := Tryz.zeroValue68
  t53 := Tryz.underlying122
  a53 := Tryz.isAgg122
  z53 := Tryz.sizeOf122
  v53 := Tryz.zeroValue122
  t70 := Tryz.underlying71
  a70 := Tryz.isAgg71
  z70 := Tryz.sizeOf71
  v70 := Tryz.zeroValue71
  t72 := Tryz.underlying73
  a72 := Tryz.isAgg73
  z72 := Tryz.sizeOf73
  v72 := Tryz.zeroValue73
  t75 := Tryz.underlying77
  a75 := Tryz.isAgg77
  z75 := Tryz.sizeOf77
  v75 := Tryz.zeroValue77
  t76 := Tryz.underlying78
  a76 := Tryz.isAgg78
  z76 := Tryz.sizeOf78
  v76 := Tryz.zeroValue78
  t109 := Tryz.underlying144
  a109 := Tryz.isAgg144
  z109 := Tryz.sizeOf144
  v109 := Tryz.zeroValue144
  t127 := Tryz.underlying123
  a127 := Tryz.isAgg123
  z127 := Tryz.sizeOf123
  v127 := Tryz.zeroValue123
  t146 := Tryz.underlying164
  a146 := Tryz.isAgg164
  z146 := Tryz.sizeOf164
  v146 := Tryz.zeroValue164
  t148 := Tryz.underlying166
  a148 := Tryz.isAgg166
  z148 := Tryz.sizeOf166
  v148 := Tryz.zeroValue166
  t164 := Tryz.underlying142
  a164 := Tryz.isAgg142
  z164 := Tryz.sizeOf142
  v164 := Tryz.zeroValue142 }
theorem Tryz.Builder_Extra_105 : Builder.Extra Tryz.prog Tryz.lays105_ren := {
  sizeBuilder := by kernel_rfl
  liesBuilder := by kernel_rfl
  t5 := Tryz.underlying5
  a5 := Tryz.isAgg5
  z5 := Tryz.sizeOf5
  v5 := Tryz.zeroValue5
  infoByte := by kernel_rfl
  cellsByte := by kernel_rfl
  sizeByte := by kernel_rfl
  neB5 := by decide }
open Go.RowKit Go.Lib in
/-- THE MAIN CASE: at least two copies of a string that is not empty. (LAID: no walk: one application.) -/
theorem Tryz.strings_Repeat_main (s : ByteArray) (c : Nat) (w : World) (hc2 : 2 ≤ c) (hc : c ≤ 9223372036854775807) (hlen : s.size * c ≤ 140737488355328) (h0 : 0 < s.size) :
    Calls Tryz.prog 64 #[.string s, .int .i64 c] w fun e w' => e = .returned (.string ⟨(Lib.repeatL s.data.toList c).toArray⟩) ∧ Below w.heap.size w w' := Any.strings_Repeat_main Tryz.lays105 Tryz.Builder_Extra_105 s c w hc2 hc hlen h0
open Go.RowKit Go.Lib in
theorem Tryz.strings_Repeat_zero (s : ByteArray) (w : World) :
    Calls Tryz.prog 64 #[.string s, .int .i64 0] w fun e w' => e = .returned (.string ⟨#[]⟩) ∧ w' = w := Any.strings_Repeat_zero Tryz.lays105 s w
open Go.RowKit Go.Lib in
theorem Tryz.strings_Repeat_one (s : ByteArray) (w : World) :
    Calls Tryz.prog 64 #[.string s, .int .i64 1] w fun e w' => e = .returned (.string s) ∧ w' = w := Any.strings_Repeat_one Tryz.lays105 s w
open Go.RowKit Go.Lib in
/-- Copies of the empty string. (LAID: no walk: one application.) -/
theorem Tryz.strings_Repeat_empty (s : ByteArray) (c : Nat) (w : World) (hc2 : 2 ≤ c) (hc : c ≤ 9223372036854775807) (h0 : s.size = 0) :
    Calls Tryz.prog 64 #[.string s, .int .i64 c] w fun e w' => e = .returned (.string ⟨#[]⟩) ∧ w' = w := Any.strings_Repeat_empty Tryz.lays105 s c w hc2 hc h0
open Go.RowKit Go.Lib in
/-- count < 0: "It panics if count is negative". (LAID: no walk: one application.) -/
theorem Tryz.strings_Repeat_negative (s : ByteArray) (c : Int) (w : World) (hc : c < 0) :
    Calls Tryz.prog 64 #[.string s, .int .i64 c] w fun e w' => e = .panicked [{ v := repeatPanic Tryz.lays105_ren "strings: negative Repeat count", recovered := false }] ∧ w' = w := Any.strings_Repeat_negative Tryz.lays105 s c w hc
open Go.RowKit Go.Lib in
/-- len(s) * count is no int: ".. or if the result of (len(s) * count) overflows". (LAID: no walk: one application.) -/
theorem Tryz.strings_Repeat_overflow (s : ByteArray) (c : Nat) (w : World) (hc : c ≤ 9223372036854775807) (hs : s.size ≤ 9223372036854775807) (hbig : 9223372036854775807 < s.size * c) :
    Calls Tryz.prog 64 #[.string s, .int .i64 c] w fun e w' => e = .panicked [{ v := repeatPanic Tryz.lays105_ren "strings: Repeat output length overflow", recovered := false }] ∧ w' = w := Any.strings_Repeat_overflow Tryz.lays105 s c w hc hs hbig
open Go.RowKit Go.Lib in
/-- **strings.Repeat: count ≥ 0, the result within one allocation: count copies of s.** (LAID: no walk: one application.) -/
theorem Tryz.strings_Repeat (s : ByteArray) (c : Nat) (w : World) (hc : c ≤ 9223372036854775807) (hlen : s.size * c ≤ 140737488355328) :
    Calls Tryz.prog 64 #[.string s, .int .i64 c] w fun e w' => e = .returned (.string ⟨(Lib.repeatL s.data.toList c).toArray⟩) ∧ Below w.heap.size w w' := Any.strings_Repeat Tryz.lays105 Tryz.Builder_Extra_105 s c w hc hlen
def Tryz.lays260_ren : Go.Shelf.Ren := ⟨fun | 260 => 139 | n => n, fun | 9 => 9 | 21 => 21 | 3 => 3 | 4 => 4 | 5 => 5 | 119 => 200 | 0 => 0 | 46 => 141 | 139 => 203 | 138 => 202 | n => n, fun | 3 => 1 | 4 => 2 | n => n⟩
theorem Tryz.lays260 : Go.Proofs.Lays.n260 Tryz.prog Tryz.lays260_ren := {
  mixed := by kernel_rfl
  f260 := Tryz.func139.trans (congrArg some (by kernel_rfl))
  t0 := Tryz.underlying0
  a0 := Tryz.isAgg0
  z0 := Tryz.sizeOf0
  v0 := Tryz.zeroValue0
  t3 := Tryz.underlying3
  a3 := Tryz.isAgg3
  z3 := Tryz.sizeOf3
  v3 := Tryz.zeroValue3
  t4 := Tryz.underlying4
  a4 := Tryz.isAgg4
  z4 := Tryz.sizeOf4
  v4 := Tryz.zeroValue4
  t5 := Tryz.underlying5
  a5 := Tryz.isAgg5
  z5 := Tryz.sizeOf5
  v5 := Tryz.zeroValue5
  t9 := Tryz.underlying9
  a9 := Tryz.isAgg9
  z9 := Tryz.sizeOf9
  v9 := Tryz.zeroValue9
  t21 := Tryz.underlying21
  a21 := Tryz.isAgg21
  z21 := Tryz.sizeOf21
  v21 := Tryz.zeroValue21
  t46 := Tryz.underlying141
  a46 := Tryz.isAgg141
  z46 := Tryz.sizeOf141
  v46 := Tryz.zeroValue141
  t119 := Tryz.underlying200
  a119 := Tryz.isAgg200
  z119 := Tryz.sizeOf200
  t138 := Tryz.underlying202
  a138 := Tryz.isAgg202
  z138 := Tryz.sizeOf202
  v138 := Tryz.zeroValue202
  t139 := Tryz.underlying203
  a139 := Tryz.isAgg203
  z139 := Tryz.sizeOf203
  v139 := Tryz.zeroValue203
  g3 := by kernel_rfl
  g4 := by kernel_rfl }
open Go.RowKit Go.Lib in
theorem Tryz.utf8_decodeRuneInStringSlow (s : ByteArray) (w : World) (hT : Lib.Utf8Tabs 1 2 w) :
    Calls Tryz.prog 139 #[.string s] w fun e w' => e = .returned (.tuple #[.int .i32 (Lib.decodeGo s).1, .int .i64 (Lib.decodeGo s).2]) ∧ Below w.heap.size w w' := Any.utf8_decodeRuneInStringSlow Tryz.lays260 s w hT
open Go.RowKit Go.Lib in
/-- **unicode/utf8.DecodeRuneInString AT EVERY STRING.** (LAID: no walk: one application.) -/
theorem Tryz.utf8_DecodeRuneInString (s : ByteArray) (w : World) (hT : Lib.Utf8Tabs 1 2 w) :
    Calls Tryz.prog 131 #[.string s] w fun e w' => e = .returned (.tuple #[.int .i32 (Lib.decodeGo s).1, .int .i64 (Lib.decodeGo s).2]) ∧ Below w.heap.size w w' := Any.utf8_DecodeRuneInString Tryz.lays197 s w hT
def Tryz.laysSlE041_f55_ren : Go.Shelf.Ren := ⟨fun | 41 => 55 | n => n, fun | 22 => 47 | 23 => 4 | 4 => 4 | n => n, fun | n => n⟩
theorem Tryz.laysSlE041_f55 : Go.Proofs.SlLaysE0.n41 Tryz.prog Tryz.laysSlE041_f55_ren := {
  mixed := by kernel_rfl
  f41 := ⟨Tryz.f55.name, by decide, Tryz.func55.trans (congrArg some (by kernel_rfl))⟩
  t4 := Tryz.underlying4
  a4 := Tryz.isAgg4
  z4 := Tryz.sizeOf4
  v4 := Tryz.zeroValue4
  t22 := Tryz.underlying47
  a22 := Tryz.isAgg47
  z22 := Tryz.sizeOf47
  v22 := Tryz.zeroValue47 }
open Go.RowKit Go.Lib in
/-- slices.Clone: "Clone returns a copy of the slice. The elements are copied using assignment, so this is a shallow clone. The result may have additional unused capacity. The result preserves the nilness of s.": OF A SLICE THAT IS NOT nil IT RETURNS A SLICE THAT IS NOT nil, OF THE SAME CELLS, IN MEMORY OF THE CALL's OWN ('ownsRow': the how-to's 6f); below the heap's size at the call all is as it was. (LAID AT THE INSTANCE 'slices.Clone[[]bool,bool]': no walk: one application.) -/
theorem Tryz.slices_Clone (i0 : TypeInfo) (z : Value) (size bytes : Nat) (hi : Tryz.prog.info? 4 = some i0) (hz0 : i0.zero = some z) (hz1 : i0.size = size) (hz2 : i0.bytes = bytes) (hzs : z.cells.size = size) (hsz : 0 < size) (z23 : ∀ w, (Go.sizeOf 4).run Tryz.prog w = .ok size w) (b off n c : Nat) (news : List Value) (w : World) (hl : news.length = n * size) (hn : n ≤ maxLen) (hbig : n * bytes ≤ 140737488355328) (hc : ∀ j u, news[j]? = some u → w.cell? ⟨b, off + j, none⟩ = some u) (h1 : ∀ u ∈ news, u.oneCell' = true) :
    Calls Tryz.prog 55 #[.slice (some ⟨b, off, none⟩) n c] w fun e w' => ∃ v', e = .returned v' ∧ w'.ownsRow w.heap.size 4 size v' n news ∧ v' ≠ .slice none 0 0 ∧ Below w.heap.size w w' := AnyE.slices_Clone Tryz.laysSlE041_f55 i0 z size bytes hi hz0 hz1 hz2 hzs hsz z23 b off n c news w hl hn hbig hc h1
open Go.RowKit Go.Lib in
/-- The same at nil: nil comes back; the world is as it was; nothing is asked of the element's type. (LAID AT THE INSTANCE 'slices.Clone[[]bool,bool]': no walk: one application.) -/
theorem Tryz.slices_Clone_nil (n c : Nat) (w : World) :
    Calls Tryz.prog 55 #[.slice none n c] w fun e w' => e = .returned (.slice none 0 0) ∧ w' = w := AnyE.slices_Clone_nil Tryz.laysSlE041_f55 n c w
end Go.Proofs.YthgfdpcpbghkpaaGreatDoor
/- paths: the iterator over a path's parts, Join. -/
namespace Go.Proofs.YthgfdpcpbghkpaaGreatDoor
set_option linter.unnecessarySimpa false
open Go.RowKit Pth
set_option linter.unusedVariables false
set_option linter.unusedSimpArgs false

def txtsV (l : Txts) : List Value := l.map fun s => str s
theorem txtsV_length (l : Txts) : (txtsV l).length = l.length := by simp [txtsV]
theorem txtsV_snoc (l : Txts) (x : List UInt8) : txtsV (l ++ [x]) = txtsV l ++ [str x] := by simp [txtsV]
/-- texts are put together, a slash between two -/
theorem join_c (A : Option Addr) (c : Nat) (l : Txts) (B : Nat) (w : World) (hs : Sl w B A (txtsV l)) (hB : B ≤ w.heap.size) (hc : l.length ≤ c) (hl : wt l ≤ 140737488355328) :
    Ret Tryz.prog 109 [.slice A l.length c, str [47]] w fun v w' => v = str (joinS l) ∧ Ext w w' := by
  have hn : (!(Tryz.f109.name == "runtime.NumGoroutine") && Tryz.f109.body.isSome) = true := by kernel_rfl
  by_cases h0 : l = []
  · subst h0
    refine (Ret.of_calls Tryz.func109 hn ((Tryz.strings_Join_none A c ⟨#[47]⟩ w).mono (fun e w' h => ⟨h.1, (show Ext w w' by rw [h.2]; exact Ext.refl _)⟩))).mono ?_
    rintro v w' ⟨rfl, hx⟩
    exact ⟨rfl, hx⟩
  · rcases hs with hs | ⟨bk, o, rfl, hbk, hcell⟩
    · exact absurd (by simpa [txtsV] using hs) h0
    · have hml : (l.map fun s => (⟨s.toArray⟩ : ByteArray)).map (·.data.toList) = l := by
        rw [List.map_map]
        exact List.map_id l
      have hln : (l.map fun s => (⟨s.toArray⟩ : ByteArray)).length = l.length := by simp
      have h := Tryz.strings_Join bk o c (l.map fun s => (⟨s.toArray⟩ : ByteArray)) ⟨#[47]⟩ w (fun j x hj => by
        have : (txtsV l)[j]? = some (.string x) := by
          simp only [txtsV, List.getElem?_map] at hj ⊢
          obtain ⟨s, h1, rfl⟩ := Option.map_eq_some_iff.1 hj
          rw [h1]; rfl
        exact hcell j _ this) (by omega) (by rw [hln]; have := wt_len l; omega) (by rw [hln]; exact hc) (by rw [hml]; show (Go.Lib.join l [47]).length ≤ _; rw [joinS_eq]; have := joinS_wt l; omega)
      rw [hml, hln] at h
      have e : Go.Lib.join l (⟨#[47]⟩ : ByteArray).data.toList = joinS l := joinS_eq l
      rw [e] at h
      refine (Ret.of_calls Tryz.func109 hn (h.mono (fun e w' q => q))).mono ?_
      rintro v w' ⟨rfl, hx⟩
      exact ⟨rfl, hx⟩
/-- a round leaves the text's block alone -/
def KpS (sb : Nat) (W W' : World) : Prop := W'.heap[sb]? = W.heap[sb]?
theorem piece_step {s : List UInt8} {i fr : Nat} (h : i ≤ s.length) (hf : fr ≤ i) : s.drop fr = (s.drop fr).take (i - fr) ++ s.drop i := by
  have := List.take_append_drop (i - fr) (s.drop fr)
  rw [List.drop_drop, show fr + (i - fr) = i by omega] at this
  exact this.symm
theorem iter_s (sb : Nat) (s : List UInt8) (hs : s.length ≤ 1000000000000) (w : World) (hsb : Bk w sb 9 [str s]) :
    SeqStopsK Fence.wide 2 Tryz.prog 108 [Value.pointer (some ⟨sb, 0, none⟩)].toArray (fun x => #[str x]) (KpS sb) (fun xs => xs = parts s) (fun pre => pre <+: parts s) (s.length + 1) w := fun l J Jx W hW hJ hJx hY h0 => by
  have hb0 : Bk W sb 9 [str s] := hsb.ext hW
  have hret : Ret Tryz.prog 108 [.func (.yield l) #[] #[], .pointer (some ⟨sb, 0, none⟩)] W fun v W' => (∃ xs, xs = parts s ∧ J xs W') ∨ (∃ pre, pre <+: parts s ∧ Jx pre W') := by
    have hpl : (parts s).length ≤ s.length + 1 := by have := wt_len (parts s); rw [wt_parts] at this; exact this
    refine Ret.enterR 2 Tryz.func108 rfl Tryz.ntmps108 (by kernel_rfl) rfl ?_
    refine KR.seq (KR.region ?_)
    refine OR.val rfl rfl (EX.assign rfl) ?_
    refine OR.nil ?_
    refine KR.seq (KR.region ?_)
    refine OR.val rfl rfl (EX.assign rfl) ?_
    refine OR.nil ?_
    refine KR.block ?_
    refine KR.loop4 (fun (i : Nat) (fr : Nat) (pre : Txts) (wr : World) => i ≤ s.length + 1 ∧ fr ≤ i ∧ (i ≤ s.length → parts s = pre ++ parts (s.drop fr) ∧ ∀ c ∈ (s.drop fr).take (i - fr), c ≠ 47) ∧ (i = s.length + 1 → pre = parts s) ∧ J pre wr ∧ Bk wr sb 9 [str s]) (fun (i : Nat) (fr : Nat) (pre : Txts) (wr : World) => [(0, .func (.yield l) #[] #[]), (1, .pointer (some ⟨sb, 0, none⟩)), (3, .int .i64 ((fr : Nat) : Int)), (4, .int .i64 ((i : Nat) : Int))]) (fun (i : Nat) (fr : Nat) (pre : Txts) (wr : World) => wr) (fun (i : Nat) (fr : Nat) (pre : Txts) (wr : World) => s.length + 1 - i) (0) (0) ([]) (W) ⟨rfl, rfl, rfl, rfl, trivial⟩ rfl ?_ ?_
    · exact ⟨by omega, by omega, fun _ => ⟨rfl, by simp⟩, fun h => by omega, h0, hb0⟩
    · rintro i fr pre wr ⟨hi, hf, hp, hend, hj, hb⟩
      refine KR.seq (KR.seq (KR.region ?_))
      refine OR.val rfl rfl (EX.move rfl) ?_
      refine OR.val rfl rfl (EX.load Tryz.underlying9 rfl rfl (hb.cell_of rfl)) ?_
      refine OR.val rfl rfl (EX.lenS Tryz.underlying9 rfl) ?_
      refine OR.val rfl rfl (by first | exact EX.leqN rfl rfl | exact EX.leqZ rfl rfl) ?_
      refine OR.nil ?_
      refine KR.condD rfl (fun hle => ?_) (fun hle => ?_)
      · obtain ⟨hp1, hp2⟩ := hp hle
        have hpre : pre.length < s.length + 1 := by
          have h1 := List.length_pos_iff.2 (parts_ne (s.drop fr))
          have h2 := congrArg List.length hp1
          rw [List.length_append] at h2
          omega
        have hyl : ∀ x : List UInt8, YieldR Tryz.prog 1 l [str x] wr fun v W' => ∃ b, v = .bool b ∧ ((b = true ∧ J (pre ++ [x]) W' ∧ KpS sb wr W') ∨ (b = false ∧ Jx (pre ++ [x]) W')) := fun x =>
          YieldAt.mono (hY pre x wr hj hpre) (by
            rintro e W' (⟨rfl, h1, h2⟩ | ⟨rfl, h1⟩)
            · exact ⟨_, rfl, true, rfl, .inl ⟨rfl, h1, h2⟩⟩
            · exact ⟨_, rfl, false, rfl, .inr ⟨rfl, h1⟩⟩)
        refine KR.skip (KR.seq (KR.block (KR.seq (KR.region ?_))))
        refine OR.val rfl rfl (EX.move rfl) ?_
        refine OR.val rfl rfl (EX.load Tryz.underlying9 rfl rfl (hb.cell_of rfl)) ?_
        refine OR.val rfl rfl (EX.lenS Tryz.underlying9 rfl) ?_
        refine OR.val rfl rfl (by first | exact EX.eqlN rfl rfl | exact EX.eqlZ rfl rfl) ?_
        refine OR.val rfl rfl (EX.move rfl) ?_
        refine OR.splitD 15 rfl (fun he => ?_) (fun he => ?_)
        · have hpe : parts s = pre ++ [(s.drop fr).take (i - fr)] := by
            have e : (s.drop fr).take (i - fr) = s.drop fr := List.take_of_length_le (by simp; omega)
            rw [e] at hp2 ⊢
            rw [hp1, parts_whole _ hp2]
          refine OR.pass rfl rfl ?_
          refine OR.pass rfl rfl ?_
          refine OR.pass rfl rfl ?_
          refine OR.pass rfl rfl ?_
          refine OR.val rfl rfl (EX.pickT rfl rfl) ?_
          refine OR.nil ?_
          refine KR.condT rfl (KR.seq (KR.seq (KR.region ?_)))
          refine OR.val rfl rfl (EX.move rfl) ?_
          refine OR.val rfl rfl (EX.load Tryz.underlying9 rfl rfl (hb.cell_of rfl)) ?_
          refine OR.val rfl rfl (EX.move rfl) ?_
          refine OR.val rfl rfl (EX.move rfl) ?_
          refine OR.val rfl rfl (EX.sliceLH Tryz.underlying9 rfl rfl rfl (by omega)) ?_
          refine OR.yield rfl rfl rfl rfl rfl (hyl _) ?_
          rintro _ w1 ⟨y, rfl, hv⟩
          refine OR.val rfl rfl (by first | exact EX.notD rfl | exact EX.notB rfl) ?_
          refine OR.nil ?_
          refine KR.cond rfl (fun hy => ?_) (fun hy => ?_)
          · obtain ⟨rfl, hj1⟩ : y = false ∧ Jx (pre ++ [(s.drop fr).take (i - fr)]) w1 := by
              rcases hv with ⟨rfl, _⟩ | h
              · cases hy
              · exact h
            refine KR.ret (retR0 (.inr rfl) rfl rfl rfl ?_)
            exact .inr ⟨_, ⟨[], by rw [List.append_nil, hpe]⟩, hj1⟩
          · obtain ⟨rfl, hj1, hk⟩ : y = true ∧ J (pre ++ [(s.drop fr).take (i - fr)]) w1 ∧ KpS sb wr w1 := by
              rcases hv with h | ⟨rfl, _⟩
              · exact h
              · cases hy
            refine KR.skip (KR.region ?_)
            refine OR.val rfl rfl (EX.move rfl) ?_
            refine OR.val rfl rfl (by first | exact EX.addN (b := 1) (m := 9223372036854775807) rfl rfl rfl (by omega) | exact EX.addZ (m := 9223372036854775807) rfl rfl rfl rfl (by omega)) ?_
            refine OR.val rfl rfl (EX.assign rfl) ?_
            refine OR.nil ?_
            refine KR.leave (KR.region ?_)
            refine OR.val rfl rfl (EX.move rfl) ?_
            refine OR.val rfl rfl (by first | exact EX.addN (b := 1) (m := 9223372036854775807) rfl rfl rfl (by omega) | exact EX.addZ (m := 9223372036854775807) rfl rfl rfl rfl (by omega)) ?_
            refine OR.val rfl rfl (EX.assign rfl) ?_
            refine OR.nil ?_
            have hb1 : Bk w1 sb 9 [str s] := hb.of_block hk
            refine KR.back4 (i + 1) (i + 1) (pre ++ [(s.drop fr).take (i - fr)]) (w1) ⟨rfl, rfl, rfl, rfl, trivial⟩ rfl ?_ (by omega)
            exact ⟨by omega, by omega, fun h => by omega, fun _ => hpe.symm, hj1, hb1⟩
        · skip
          refine OR.val rfl rfl (EX.load Tryz.underlying9 rfl rfl (hb.cell_of rfl)) ?_
          refine OR.val rfl rfl (EX.move rfl) ?_
          refine OR.val rfl rfl (EX.indexS Tryz.underlying9 rfl rfl (List.getElem?_eq_getElem (by omega))) ?_
          refine OR.val rfl rfl (by first | exact EX.eqlN (b := 47) rfl rfl | exact EX.eqlZ rfl rfl) ?_
          refine OR.val rfl rfl (EX.pickF rfl rfl) ?_
          refine OR.nil ?_
          refine KR.condD rfl (fun hc => ?_) (fun hc => ?_)
          · refine KR.seq (KR.seq (KR.region ?_))
            refine OR.val rfl rfl (EX.move rfl) ?_
            refine OR.val rfl rfl (EX.load Tryz.underlying9 rfl rfl (hb.cell_of rfl)) ?_
            refine OR.val rfl rfl (EX.move rfl) ?_
            refine OR.val rfl rfl (EX.move rfl) ?_
            refine OR.val rfl rfl (EX.sliceLH Tryz.underlying9 rfl rfl rfl (by omega)) ?_
            have hlt : i < s.length := by omega
            have hd : s.drop i = 47 :: s.drop (i + 1) := by
              rw [List.drop_eq_getElem_cons hlt]
              congr 1
              exact UInt8.toNat_inj.1 hc
            have hpe : parts s = (pre ++ [(s.drop fr).take (i - fr)]) ++ parts (s.drop (i + 1)) := by
              rw [hp1, piece_step hle hf, hd, parts_slash _ _ hp2, ← hd, ← piece_step hle hf]
              simp
            refine OR.yield rfl rfl rfl rfl rfl (hyl _) ?_
            rintro _ w1 ⟨y, rfl, hv⟩
            refine OR.val rfl rfl (by first | exact EX.notD rfl | exact EX.notB rfl) ?_
            refine OR.nil ?_
            refine KR.cond rfl (fun hy => ?_) (fun hy => ?_)
            · obtain ⟨rfl, hj1⟩ : y = false ∧ Jx (pre ++ [(s.drop fr).take (i - fr)]) w1 := by
                rcases hv with ⟨rfl, _⟩ | h
                · cases hy
                · exact h
              refine KR.ret (retR0 (.inr rfl) rfl rfl rfl ?_)
              exact .inr ⟨_, ⟨parts (s.drop (i + 1)), hpe.symm⟩, hj1⟩
            · obtain ⟨rfl, hj1, hk⟩ : y = true ∧ J (pre ++ [(s.drop fr).take (i - fr)]) w1 ∧ KpS sb wr w1 := by
                rcases hv with h | ⟨rfl, _⟩
                · exact h
                · cases hy
              refine KR.skip (KR.region ?_)
              refine OR.val rfl rfl (EX.move rfl) ?_
              refine OR.val rfl rfl (by first | exact EX.addN (b := 1) (m := 9223372036854775807) rfl rfl rfl (by omega) | exact EX.addZ (m := 9223372036854775807) rfl rfl rfl rfl (by omega)) ?_
              refine OR.val rfl rfl (EX.assign rfl) ?_
              refine OR.nil ?_
              refine KR.leave (KR.region ?_)
              refine OR.val rfl rfl (EX.move rfl) ?_
              refine OR.val rfl rfl (by first | exact EX.addN (b := 1) (m := 9223372036854775807) rfl rfl rfl (by omega) | exact EX.addZ (m := 9223372036854775807) rfl rfl rfl rfl (by omega)) ?_
              refine OR.val rfl rfl (EX.assign rfl) ?_
              refine OR.nil ?_
              have hb1 : Bk w1 sb 9 [str s] := hb.of_block hk
              refine KR.back4 (i + 1) (i + 1) (pre ++ [(s.drop fr).take (i - fr)]) (w1) ⟨rfl, rfl, rfl, rfl, trivial⟩ rfl ?_ (by omega)
              exact ⟨by omega, by omega, fun _ => ⟨hpe, by simp⟩, fun h => by omega, hj1, hb1⟩
          · have hlt : i < s.length := by omega
            refine KR.skip (KR.leave (KR.region ?_))
            refine OR.val rfl rfl (EX.move rfl) ?_
            refine OR.val rfl rfl (by first | exact EX.addN (b := 1) (m := 9223372036854775807) rfl rfl rfl (by omega) | exact EX.addZ (m := 9223372036854775807) rfl rfl rfl rfl (by omega)) ?_
            refine OR.val rfl rfl (EX.assign rfl) ?_
            refine OR.nil ?_
            refine KR.back4 (i + 1) (fr) (pre) (wr) ⟨rfl, rfl, rfl, rfl, trivial⟩ rfl ?_ (by omega)
            refine ⟨by omega, by omega, fun _ => ⟨hp1, ?_⟩, fun h => by omega, hj, hb⟩
            have e : (s.drop fr).take (i + 1 - fr) = (s.drop fr).take (i - fr) ++ [s[i]] := by
              rw [show i + 1 - fr = i - fr + 1 by omega, List.take_add_one, List.getElem?_drop, show fr + (i - fr) = i by omega, List.getElem?_eq_getElem hlt]
              rfl
            rw [e]
            intro c hcm
            rcases List.mem_append.1 hcm with hcm | hcm
            · exact hp2 c hcm
            · simp only [List.mem_singleton] at hcm
              subst hcm
              exact fun q => hc (by rw [q]; rfl)
      · obtain rfl : i = s.length + 1 := by omega
        refine KR.exit rfl ?_
        refine KR.done (retR0 (.inl rfl) rfl rfl rfl ?_)
        exact .inl ⟨_, hend rfl, hj⟩
  exact callsIn_wide.2 (hret.2.mono fun e W' ⟨v, he, hq⟩ => ⟨⟨v, he⟩, hq⟩)
end Go.Proofs.YthgfdpcpbghkpaaGreatDoor
