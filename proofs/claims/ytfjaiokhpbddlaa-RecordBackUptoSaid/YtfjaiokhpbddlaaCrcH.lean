/-
  crc: the program's sum of IEEE 802.3 and the reference's, where the statements' own functions are others' (out of XCrcE and XCrcF).
-/
import Derived.Test.YtfjaiokhpbddlaaCrcC
import Derived.Test.YtfjaiokhpbddlaaCrcM
namespace Go.Proofs.Ytfjaiokhpbddlaa
open Go.RowKit
set_option linter.unusedVariables false
theorem u8_lt (c : UInt8) : c.toNat < 256 := c.toNat_lt

theorem ieee_s (s : List UInt8) (hs : s.length ≤ 9223372036854775807) (w : World) :
    Ret Try.prog 23 [str s] w fun v w' => v = .int .u32 (cieee s : Nat) ∧ Ext w w' := by
  refine Ret.enter Try.func23 rfl Try.ntmps23 (by kernel_rfl) rfl ?_
  refine KW.seq (KW.region ?_)
  refine OW.val rfl rfl (EX.assign rfl) ?_
  refine OW.nil ?_
  refine KW.seq (KW.region ?_)
  refine OW.call rfl rfl rfl (table_s w) ?_
  rintro _ w1 ⟨rfl, hx1⟩
  refine OW.val rfl rfl (EX.alloc (l := zt256) ti_tab rfl) ?_
  have hb0 := Bk.new w1 82 zt256
  have hx2 := hx1.trans (Ext.alloc w1 (.cells zt256.toArray 82))
  refine OW.storeW rfl ti_tab rfl rfl tabV_length (List.all_eq_true.2 fun v hv => by obtain ⟨_, _, rfl⟩ := List.mem_map.1 hv; rfl) hb0 List.length_replicate ?_
  intro w2 hb hg
  refine OW.nil ?_
  refine KW.seq (KW.region ?_)
  refine OW.val rfl rfl (EX.assign rfl) ?_
  refine OW.nil ?_
  refine KW.seq (KW.seq (KW.region ?_))
  refine OW.val rfl rfl (EX.move rfl) ?_
  refine OW.val rfl rfl (EX.lenS Try.underlying9 rfl) ?_
  refine OW.val rfl rfl (EX.move rfl) ?_
  refine OW.nil ?_
  refine KW.block ?_
  have hx := hx2.grown hg (fun g hg => by cases hg; exact hx1.size)
  refine KW.loop2 (fun (k : Nat) (x : Nat) => k ≤ s.length ∧ x < 4294967296 ∧ x = cieeeR (s.take k)) (fun (k : Nat) (x : Nat) => [(0, str (s)), (3, .pointer (some ⟨w1.heap.size, 0, none⟩)), (4, .int .u32 ((x : Nat) : Int)), (8, .int .i64 ((s.length : Nat) : Int)), (9, .int .i64 ((k : Nat) : Int))]) (fun (k : Nat) (x : Nat) => w2) (fun (k : Nat) (x : Nat) => s.length - k) (0) (4294967295) ⟨rfl, rfl, rfl, rfl, rfl, trivial⟩ rfl ?_ ?_
  · exact ⟨by omega, by omega, rfl⟩
  · rintro k x ⟨hk, hx1, hxe⟩
    refine KW.seq (KW.region ?_)
    refine OW.val rfl rfl (by first | exact EX.lssN rfl rfl | exact EX.lssZ rfl rfl) ?_
    refine OW.nil ?_
    refine KW.seq ?_
    refine KW.condD rfl (fun h => ?_) (fun h => ?_)
    · have hc := u8_lt s[k]
      have ht8 := trn8_lt s[k].toNat
      have hxor : x / 16777216 ^^^ trn 8 s[k].toNat 0 < 256 := Nat.xor_lt_two_pow (n := 8) (by omega) ht8
      have hct := ctab_lt (x / 16777216 ^^^ trn 8 s[k].toNat 0)
      refine KW.skip (KW.seq (KW.block (KW.seq (KW.region ?_))))
      refine OW.val rfl rfl (EX.move rfl) ?_
      refine OW.val rfl rfl (EX.assign rfl) ?_
      refine OW.nil ?_
      refine KW.region ?_
      refine OW.val rfl rfl (EX.move rfl) ?_
      refine OW.val rfl rfl (by first | exact EX.shlN (s := 8) (p := 256) (m := 4294967295) rfl rfl (by decide) (by decide) rfl (by omega) | exact EX.shlW (s := 8) (p := 256) (m := 4294967296) rfl rfl (by decide) (by decide) rfl (by decide)) ?_
      refine OW.val rfl rfl (EX.move rfl) ?_
      refine OW.val rfl rfl (EX.shrN (s := 24) (p := 16777216) rfl rfl (by decide) (by decide)) ?_
      refine OW.val rfl rfl (by first | exact EX.convN (m := 255) Try.underlying38 Try.underlying5 rfl rfl (by omega) | exact EX.convW (m := 256) Try.underlying38 Try.underlying5 rfl rfl (by decide) | exact EX.convZ Try.underlying38 Try.underlying5 rfl) ?_
      refine OW.val rfl rfl (EX.move rfl) ?_
      refine OW.val rfl rfl (EX.move rfl) ?_
      refine OW.val rfl rfl (EX.indexS Try.underlying9 rfl rfl (List.getElem?_eq_getElem (by omega))) ?_
      refine OW.val rfl rfl (by first | exact EX.convN (m := 4294967295) Try.underlying5 Try.underlying38 rfl rfl (by omega) | exact EX.convW (m := 4294967296) Try.underlying5 Try.underlying38 rfl rfl (by decide) | exact EX.convZ Try.underlying5 Try.underlying38 rfl) ?_
      refine OW.call rfl rfl rfl (turned_s s[k].toNat 8 (by omega) (by omega) w2) ?_
      rintro _ _ ⟨rfl, rfl⟩
      refine OW.val rfl rfl (by first | exact EX.convN (m := 255) Try.underlying38 Try.underlying5 rfl rfl (by omega) | exact EX.convW (m := 256) Try.underlying38 Try.underlying5 rfl rfl (by decide) | exact EX.convZ Try.underlying38 Try.underlying5 rfl) ?_
      refine OW.val rfl rfl (EX.xorN (m := 255) rfl rfl rfl (by omega)) ?_
      refine OW.val rfl rfl (by first | exact EX.indexAddrA0 Try.underlying82 ti38 rfl rfl (by omega) | exact EX.indexAddrA1 Try.underlying82 ti38 rfl rfl (by omega)) ?_
      refine OW.val rfl rfl (EX.load Try.underlying38 rfl rfl (hb.cell_of (tabV_get _ hxor))) ?_
      refine OW.val rfl rfl (EX.xorN (m := 4294967295) rfl rfl rfl (by omega)) ?_
      refine OW.val rfl rfl (EX.assign rfl) ?_
      refine OW.nil ?_
      refine KW.leave (KW.region ?_)
      refine OW.val rfl rfl (by first | exact EX.addN (b := 1) (m := 9223372036854775807) rfl rfl rfl (by omega) | exact EX.addZ (m := 9223372036854775807) rfl rfl rfl rfl (by omega)) ?_
      refine OW.val rfl rfl (EX.move rfl) ?_
      refine OW.nil ?_
      refine KW.back2 (k + 1) (cnext x (trn 8 s[k].toNat 0)) ⟨rfl, rfl, rfl, rfl, rfl, trivial⟩ rfl ?_ (by omega)
      exact ⟨by omega, cnext_lt _ _, by rw [take_snoc s k h, cieeeR_snoc, ← hxe]⟩
    · refine KW.exit rfl (KW.seq (KW.region ?_))
      refine OW.val rfl rfl (EX.move rfl) ?_
      refine OW.val rfl rfl (EX.notN (m := 4294967295) rfl rfl rfl (by omega)) ?_
      refine OW.call rfl rfl rfl (turned_s (4294967295 - x) 32 (by omega) (by omega) w2) ?_
      rintro _ _ ⟨rfl, rfl⟩
      refine OW.val rfl rfl (EX.assign rfl) ?_
      refine OW.nil ?_
      refine KW.ret (ret1 rfl rfl ?_)
      rw [List.take_of_length_le (by omega)] at hxe
      exact ⟨by rw [hxe]; rfl, hx⟩

theorem rmore_lt (r : Nat) (s : List UInt8) : rmore r s < 4294967296 := by
  have h1 : ∀ x ∈ addP (bitsOf s ++ List.replicate 32 0) (bitsN 32 r), x ≤ 1 := addP_le _ _ fun x hx => by
    rcases List.mem_append.1 hx with h | h
    · exact bitsOf_le _ x h
    · rw [(List.mem_replicate.1 h).2]; omega
  have := numN_lt _ (restN_le _ h1)
  rw [restN_length _ (by rw [addP_length]; simp)] at this
  exact this

theorem rbzip_s (s : List UInt8) (hs : s.length ≤ 100000) (w : World) :
    Ret Try.prog 42 [str s] w fun v w' => v = .int .u32 (4294967295 - rmore 4294967295 s : Nat) ∧ Ext w w' := by
  have hlt := rmore_lt 4294967295 s
  refine Ret.enter Try.func42 rfl Try.ntmps42 (by kernel_rfl) rfl ?_
  refine KW.seq (KW.region ?_)
  refine OW.val rfl rfl (EX.assign rfl) ?_
  refine OW.nil ?_
  refine KW.seq (KW.region ?_)
  refine OW.val rfl rfl (EX.move rfl) ?_
  refine OW.call rfl rfl rfl (rmore_s 4294967295 (by omega) s hs w) ?_
  rintro _ w1 ⟨rfl, hx1⟩
  refine OW.val rfl rfl (EX.subN (a := 4294967295) (m := 4294967295) rfl rfl rfl (by omega)) ?_
  refine OW.val rfl rfl (EX.assign rfl) ?_
  refine OW.nil ?_
  refine KW.ret (ret1 rfl rfl ?_)
  exact ⟨rfl, hx1⟩

theorem rturned_s (l : List Nat) (A : Option Addr) (c : Nat) (hn : l.length ≤ 1000000) (w : World) (B : Nat) (hs : Sl w B A (ints .i64 l)) :
    Ret Try.prog 39 [.slice A l.length c] w fun v w' => Own w' w.heap.size 3 1 v l.length (ints .i64 l.reverse) ∧ Ext w w' := by
  refine Ret.enter Try.func39 rfl Try.ntmps39 (by kernel_rfl) rfl ?_
  refine KW.seq (KW.region ?_)
  refine OW.val rfl rfl (EX.assign rfl) ?_
  refine OW.nil ?_
  refine KW.seq (KW.region ?_)
  refine OW.val rfl rfl (EX.assign rfl) ?_
  refine OW.nil ?_
  refine KW.seq (KW.seq (KW.region ?_))
  refine OW.val rfl rfl (EX.move rfl) ?_
  refine OW.val rfl rfl (EX.lenA Try.underlying85 rfl) ?_
  refine OW.val rfl rfl (by first | exact EX.subN (b := 1) (m := 9223372036854775807) rfl rfl rfl (by omega) | exact EX.subZ (m := 9223372036854775807) rfl rfl rfl rfl (by omega)) ?_
  refine OW.val rfl rfl (EX.assign rfl) ?_
  refine OW.nil ?_
  refine KW.block ?_
  refine KW.as 4 (.int .i64 (((l.length : Int) - 1 - ((0 : Nat) : Int)) : Int)) rfl (by simp) ?_
  refine KW.loop3 (fun (j : Nat) (v : Value) (wr : World) => j ≤ l.length ∧ Own wr w.heap.size 3 1 v j (ints .i64 (l.reverse.take j)) ∧ Ext w wr) (fun (j : Nat) (v : Value) (wr : World) => [(0, .slice A l.length c), (3, v), (4, .int .i64 (((l.length : Int) - 1 - (j : Int)) : Int))]) (fun (j : Nat) (v : Value) (wr : World) => wr) (fun (j : Nat) (v : Value) (wr : World) => l.length - j) (0) (.slice none 0 0) (w) ⟨rfl, rfl, rfl, trivial⟩ rfl ?_ ?_
  · exact ⟨by omega, Own.nil _ _ _ _, Ext.refl _⟩
  · rintro j v wr ⟨hj, hown, hx⟩
    refine KW.seq (KW.seq (KW.region ?_))
    refine OW.val rfl rfl (EX.move rfl) ?_
    refine OW.val rfl rfl (by first | exact EX.geqN (b := 0) rfl rfl | exact EX.geqZ rfl rfl) ?_
    refine OW.nil ?_
    refine KW.condD rfl (fun h => ?_) (fun h => ?_)
    · obtain ⟨i, hi⟩ : ∃ i, i = l.length - 1 - j := ⟨_, rfl⟩
      refine KW.as 4 (.int .i64 ((i : Nat) : Int)) rfl (by congr 1; omega) ?_
      obtain ⟨b, o, rfl, _, hc⟩ := (hs.ext hx).at_ (by rw [ints_length]; omega)
      have hil : i < l.length := by omega
      refine KW.skip (KW.seq (KW.block (KW.region ?_)))
      refine OW.val rfl rfl (EX.move rfl) ?_
      refine OW.val rfl rfl (EX.move rfl) ?_
      refine OW.val rfl rfl (EX.move rfl) ?_
      refine OW.val rfl rfl (by first | exact EX.indexAddrS0 Try.underlying85 ti3 rfl rfl (by omega) | exact EX.indexAddrS1 Try.underlying85 ti3 rfl rfl (by omega)) ?_
      refine OW.val rfl rfl (EX.load Try.underlying3 rfl rfl (hc i _ (ints_get hil))) ?_
      refine OW.push rfl rfl (fun _ => rfl) rfl Try.underlying85 ti3 rfl rfl (fun _ => rfl) rfl (hx) (hown) (by simp only [maxLen]; omega) (by omega) ?_
      rintro _ v' w' hown' hx' _ _
      refine OW.val rfl rfl (EX.assign rfl) ?_
      refine OW.nil ?_
      refine KW.leave (KW.region ?_)
      refine OW.val rfl rfl (EX.move rfl) ?_
      refine OW.val rfl rfl (by first | exact EX.subN (b := 1) (m := 9223372036854775807) rfl rfl rfl (by omega) | exact EX.subZ (m := 9223372036854775807) rfl rfl rfl rfl (by omega)) ?_
      refine OW.val rfl rfl (EX.assign rfl) ?_
      refine OW.nil ?_
      refine KW.as 4 (.int .i64 (((l.length : Int) - 1 - ((j + 1 : Nat) : Int)) : Int)) rfl (by congr 1; omega) ?_
      refine KW.back3 (j + 1) (v') (w') ⟨rfl, rfl, rfl, trivial⟩ rfl ?_ (by omega)
      refine ⟨by omega, ?_, hx'⟩
      have hrev : l.reverse.take (j + 1) = l.reverse.take j ++ [l[i]] := by
        rw [take_snoc _ _ (by simp; omega)]
        congr 2
        rw [List.getElem_reverse]
        congr 1
        omega
      rw [hrev, ints_append]
      exact hown'
    · refine KW.exit rfl (KW.seq (KW.region ?_))
      refine OW.val rfl rfl (EX.move rfl) ?_
      refine OW.val rfl rfl (EX.assign rfl) ?_
      refine OW.nil ?_
      refine KW.ret (ret1 rfl rfl ?_)
      obtain rfl : j = l.length := by omega
      rw [List.take_of_length_le (by simp)] at hown
      exact ⟨hown, hx⟩

theorem text_s (l : List Nat) (A : Option Addr) (c : Nat) (h1 : ∀ x ∈ l, x ≤ 1) (hn : l.length ≤ 1000000) (w : World) (B : Nat) (hs : Sl w B A (ints .i64 l)) :
    Ret Try.prog 43 [.slice A l.length c] w fun v w' => v = str (textOf l) ∧ Ext w w' := by
  refine Ret.enter Try.func43 rfl Try.ntmps43 (by kernel_rfl) rfl ?_
  refine KW.seq (KW.region ?_)
  refine OW.val rfl rfl (EX.assign rfl) ?_
  refine OW.nil ?_
  refine KW.seq (KW.region ?_)
  refine OW.val rfl rfl (EX.assign rfl) ?_
  refine OW.nil ?_
  refine KW.seq (KW.seq (KW.region ?_))
  refine OW.val rfl rfl (EX.assign rfl) ?_
  refine OW.nil ?_
  refine KW.block ?_
  refine KW.loop3 (fun (i : Nat) (v : Value) (wr : World) => i ≤ (l.length + 7) / 8 ∧ Own wr w.heap.size 5 1 v i (bytesV ((textOf l).take i)) ∧ Ext w wr) (fun (i : Nat) (v : Value) (wr : World) => [(0, .slice A l.length c), (3, v), (4, .int .i64 (((8 * i) : Nat) : Int))]) (fun (i : Nat) (v : Value) (wr : World) => wr) (fun (i : Nat) (v : Value) (wr : World) => (l.length + 7) / 8 - i) (0) (.slice none 0 0) (w) ⟨rfl, rfl, rfl, trivial⟩ rfl ?_ ?_
  · exact ⟨by omega, Own.nil _ _ _ _, Ext.refl _⟩
  · rintro i v wr ⟨hi, hown, hx⟩
    refine KW.seq (KW.seq (KW.region ?_))
    refine OW.val rfl rfl (EX.move rfl) ?_
    refine OW.val rfl rfl (EX.move rfl) ?_
    refine OW.val rfl rfl (EX.lenA Try.underlying85 rfl) ?_
    refine OW.val rfl rfl (by first | exact EX.lssN rfl rfl | exact EX.lssZ rfl rfl) ?_
    refine OW.nil ?_
    refine KW.condD rfl (fun h => ?_) (fun h => ?_)
    · refine KW.skip (KW.seq (KW.block (KW.seq (KW.region ?_))))
      refine OW.val rfl rfl (EX.assign rfl) ?_
      refine OW.nil ?_
      refine KW.seq (KW.seq (KW.region ?_))
      refine OW.val rfl rfl (EX.assign rfl) ?_
      refine OW.nil ?_
      refine KW.block ?_
      refine KW.loop2 (fun (k : Nat) (b : Nat) => k ≤ 8 ∧ b = (List.range k).foldl (fun b k => b * 2 + l.getD (8 * i + k) 0) 0 ∧ b < 2 ^ k) (fun (k : Nat) (b : Nat) => [(0, .slice A l.length c), (3, v), (4, .int .i64 (((8 * i) : Nat) : Int)), (5, .int .i64 ((b : Nat) : Int)), (6, .int .i64 ((k : Nat) : Int))]) (fun (k : Nat) (b : Nat) => wr) (fun (k : Nat) (b : Nat) => 8 - k) (0) (0) ⟨rfl, rfl, rfl, rfl, rfl, trivial⟩ rfl ?_ ?_
      · exact ⟨by omega, rfl, by decide⟩
      · rintro k b ⟨hk, hb, hbl⟩
        have hp : 2 ^ k ≤ 2 ^ 8 := Nat.pow_le_pow_right (by decide) hk
        have hp2 : 2 ^ (k + 1) = 2 * 2 ^ k := by rw [Nat.pow_succ, Nat.mul_comm]
        have hsn : ∀ x, x = l.getD (8 * i + k) 0 → b * 2 + x = (List.range (k + 1)).foldl (fun b k => b * 2 + l.getD (8 * i + k) 0) 0 := by
          intro x hx
          rw [List.range_succ, List.foldl_append, ← hb, hx]
          rfl
        refine KW.seq (KW.seq (KW.region ?_))
        refine OW.val rfl rfl (EX.move rfl) ?_
        refine OW.val rfl rfl (by first | exact EX.lssN (b := 8) rfl rfl | exact EX.lssZ rfl rfl) ?_
        refine OW.nil ?_
        refine KW.condD rfl (fun h8 => ?_) (fun h8 => ?_)
        · refine KW.skip (KW.seq (KW.block (KW.seq (KW.region ?_))))
          refine OW.val rfl rfl (EX.move rfl) ?_
          refine OW.val rfl rfl (by first | exact EX.mulN (b := 2) (m := 9223372036854775807) rfl rfl rfl (by omega) | exact EX.mulZ (m := 9223372036854775807) rfl rfl rfl rfl (by omega)) ?_
          refine OW.val rfl rfl (EX.assign rfl) ?_
          refine OW.nil ?_
          refine KW.seq (KW.region ?_)
          refine OW.val rfl rfl (EX.move rfl) ?_
          refine OW.val rfl rfl (EX.move rfl) ?_
          refine OW.val rfl rfl (by first | exact EX.addN (m := 9223372036854775807) rfl rfl rfl (by omega) | exact EX.addZ (m := 9223372036854775807) rfl rfl rfl rfl (by omega)) ?_
          refine OW.val rfl rfl (EX.move rfl) ?_
          refine OW.val rfl rfl (EX.lenA Try.underlying85 rfl) ?_
          refine OW.val rfl rfl (by first | exact EX.lssN rfl rfl | exact EX.lssZ rfl rfl) ?_
          refine OW.nil ?_
          refine KW.condD rfl (fun hik => ?_) (fun hik => ?_)
          · obtain ⟨bb, o, rfl, _, hc⟩ := (hs.ext hx).at_ (by rw [ints_length]; omega)
            have hx1 := h1 l[8 * i + k] (by simp)
            refine KW.region ?_
            refine OW.val rfl rfl (EX.move rfl) ?_
            refine OW.val rfl rfl (EX.move rfl) ?_
            refine OW.val rfl rfl (EX.move rfl) ?_
            refine OW.val rfl rfl (EX.move rfl) ?_
            refine OW.val rfl rfl (by first | exact EX.addN (m := 9223372036854775807) rfl rfl rfl (by omega) | exact EX.addZ (m := 9223372036854775807) rfl rfl rfl rfl (by omega)) ?_
            refine OW.val rfl rfl (by first | exact EX.indexAddrS0 Try.underlying85 ti3 rfl rfl (by omega) | exact EX.indexAddrS1 Try.underlying85 ti3 rfl rfl (by omega)) ?_
            refine OW.val rfl rfl (EX.load Try.underlying3 rfl rfl (hc (8 * i + k) _ (ints_get hik))) ?_
            refine OW.val rfl rfl (by first | exact EX.addN (m := 9223372036854775807) rfl rfl rfl (by omega) | exact EX.addZ (m := 9223372036854775807) rfl rfl rfl rfl (by omega)) ?_
            refine OW.val rfl rfl (EX.assign rfl) ?_
            refine OW.nil ?_
            refine KW.leave (KW.region ?_)
            refine OW.val rfl rfl (EX.move rfl) ?_
            refine OW.val rfl rfl (by first | exact EX.addN (b := 1) (m := 9223372036854775807) rfl rfl rfl (by omega) | exact EX.addZ (m := 9223372036854775807) rfl rfl rfl rfl (by omega)) ?_
            refine OW.val rfl rfl (EX.assign rfl) ?_
            refine OW.nil ?_
            refine KW.back2 (k + 1) (b * 2 + l[8 * i + k]) ⟨rfl, rfl, rfl, rfl, rfl, trivial⟩ rfl ?_ (by omega)
            exact ⟨by omega, hsn _ (by simp [List.getD, hik]), by omega⟩
          · refine KW.skip (KW.leave (KW.region ?_))
            refine OW.val rfl rfl (EX.move rfl) ?_
            refine OW.val rfl rfl (by first | exact EX.addN (b := 1) (m := 9223372036854775807) rfl rfl rfl (by omega) | exact EX.addZ (m := 9223372036854775807) rfl rfl rfl rfl (by omega)) ?_
            refine OW.val rfl rfl (EX.assign rfl) ?_
            refine OW.nil ?_
            refine KW.back2 (k + 1) (b * 2) ⟨rfl, rfl, rfl, rfl, rfl, trivial⟩ rfl ?_ (by omega)
            exact ⟨by omega, by rw [← hsn 0 (by simp [List.getD, List.getElem?_eq_none (Nat.le_of_not_lt hik)]), Nat.add_zero], by omega⟩
        · obtain rfl : k = 8 := by omega
          have hb256 : b < 256 := hbl
          refine KW.exit rfl (KW.region ?_)
          refine OW.val rfl rfl (EX.move rfl) ?_
          refine OW.val rfl rfl (EX.move rfl) ?_
          refine OW.val rfl rfl (by first | exact EX.convN (m := 255) Try.underlying3 Try.underlying5 rfl rfl (by omega) | exact EX.convW (m := 256) Try.underlying3 Try.underlying5 rfl rfl (by decide) | exact EX.convZ Try.underlying3 Try.underlying5 rfl) ?_
          refine OW.push rfl rfl (fun _ => rfl) rfl Try.underlying46 ti5 rfl rfl (fun _ => rfl) rfl (hx) (hown) (by simp only [maxLen]; omega) (by omega) ?_
          rintro _ v' w' hown' hx' _ _
          refine OW.val rfl rfl (EX.assign rfl) ?_
          refine OW.nil ?_
          refine KW.leave (KW.region ?_)
          refine OW.val rfl rfl (EX.move rfl) ?_
          refine OW.val rfl rfl (by first | exact EX.addN (b := 8) (m := 9223372036854775807) rfl rfl rfl (by omega) | exact EX.addZ (m := 9223372036854775807) rfl rfl rfl rfl (by omega)) ?_
          refine OW.val rfl rfl (EX.assign rfl) ?_
          refine OW.nil ?_
          refine KW.as 4 (.int .i64 (((8 * (i + 1)) : Nat) : Int)) rfl (rfl) ?_
          refine KW.back3 (i + 1) (v') (w') ⟨rfl, rfl, rfl, trivial⟩ rfl ?_ (by omega)
          refine ⟨by omega, ?_, hx'⟩
          have hit : i < (textOf l).length := by simp [textOf]; omega
          have hti : (textOf l)[i] = UInt8.ofNat b := by simp [textOf, byteOf, hb]
          rw [take_snoc _ _ hit, bytesV_append, hti]
          have : bytesV [UInt8.ofNat b] = [.int .u8 (b : Nat)] := by
            simp [bytesV, Nat.mod_eq_of_lt hb256]
          rw [this]
          exact hown'
    · obtain ⟨A', c', rfl, _, hsl⟩ := hown.slice
      have hil : i = (textOf l).length := by simp [textOf]; omega
      refine KW.exit rfl (KW.seq (KW.region ?_))
      refine OW.val rfl rfl (EX.move rfl) ?_
      refine OW.val rfl rfl (EX.strOf Try.underlying46 Try.underlying5 Try.underlying9 rfl hsl (by rw [List.length_take]; omega)) ?_
      refine OW.val rfl rfl (EX.assign rfl) ?_
      refine OW.nil ?_
      refine KW.ret (ret1 rfl rfl ?_)
      rw [List.take_of_length_le (by omega)]
      exact ⟨rfl, hx⟩

theorem revs_length (s : List UInt8) : (s.flatMap fun c => (bits8 c.toNat).reverse).length = 8 * s.length := by
  induction s with
  | nil => rfl
  | cons c s ih => rw [List.flatMap_cons, List.length_append, ih, List.length_reverse, bits8_length, List.length_cons]; omega
theorem revs_le (s : List UInt8) : ∀ x ∈ s.flatMap fun c => (bits8 c.toNat).reverse, x ≤ 1 := by
  intro x hx
  obtain ⟨c, _, h⟩ := List.mem_flatMap.1 hx
  exact bits8_le _ x (List.mem_reverse.1 h)

theorem rieee_s (s : List UInt8) (hs : s.length ≤ 100000) (w : World) :
    Ret Try.prog 25 [str s] w fun v w' => v = .int .u32 (rieee s : Nat) ∧ Ext w w' := by
  refine Ret.enter Try.func25 rfl Try.ntmps25 (by kernel_rfl) rfl ?_
  refine KW.seq (KW.region ?_)
  refine OW.val rfl rfl (EX.assign rfl) ?_
  refine OW.nil ?_
  refine KW.seq (KW.region ?_)
  refine OW.val rfl rfl (EX.assign rfl) ?_
  refine OW.nil ?_
  refine KW.seq (KW.seq (KW.region ?_))
  refine OW.val rfl rfl (EX.assign rfl) ?_
  refine OW.nil ?_
  refine KW.block ?_
  refine KW.loop3 (fun (i : Nat) (v : Value) (wr : World) => i ≤ s.length ∧ Own wr w.heap.size 3 1 v (8 * i) (ints .i64 ((s.take i).flatMap fun c => (bits8 c.toNat).reverse)) ∧ Ext w wr) (fun (i : Nat) (v : Value) (wr : World) => [(0, str (s)), (3, v), (4, .int .i64 ((i : Nat) : Int))]) (fun (i : Nat) (v : Value) (wr : World) => wr) (fun (i : Nat) (v : Value) (wr : World) => s.length - i) (0) (.slice none 0 0) (w) ⟨rfl, rfl, rfl, trivial⟩ rfl ?_ ?_
  · exact ⟨by omega, Own.nil _ _ _ _, Ext.refl _⟩
  · rintro i v wr ⟨hi, hown, hx⟩
    refine KW.seq (KW.seq (KW.region ?_))
    refine OW.val rfl rfl (EX.move rfl) ?_
    refine OW.val rfl rfl (EX.move rfl) ?_
    refine OW.val rfl rfl (EX.lenS Try.underlying9 rfl) ?_
    refine OW.val rfl rfl (by first | exact EX.lssN rfl rfl | exact EX.lssZ rfl rfl) ?_
    refine OW.nil ?_
    refine KW.condD rfl (fun h => ?_) (fun h => ?_)
    · refine KW.skip (KW.seq (KW.block (KW.region ?_)))
      refine OW.val rfl rfl (EX.move rfl) ?_
      refine OW.val rfl rfl (EX.move rfl) ?_
      refine OW.val rfl rfl (EX.move rfl) ?_
      refine OW.val rfl rfl (EX.move rfl) ?_
      refine OW.val rfl rfl (by first | exact EX.addN (b := 1) (m := 9223372036854775807) rfl rfl rfl (by omega) | exact EX.addZ (m := 9223372036854775807) rfl rfl rfl rfl (by omega)) ?_
      refine OW.val rfl rfl (EX.sliceLH Try.underlying9 rfl rfl rfl (by omega)) ?_
      refine OW.as 18 (str ([s[i]])) rfl (by rw [show i + 1 - i = 1 by omega, List.drop_eq_getElem_cons h]; rfl) ?_
      refine OW.call rfl rfl rfl (of_s [s[i]] (by simp) wr) ?_
      rintro u w2 ⟨hou, hx2⟩
      simp only [List.length_singleton, Nat.mul_one] at hou
      obtain ⟨A, cp, rfl, _, hsl⟩ := hou.slice
      have hrc := rturned_s (bitsOf [s[i]]) A cp (by rw [bitsOf_length]; simp) w2 _ hsl
      rw [bitsOf_length] at hrc
      simp only [List.length_singleton, Nat.mul_one] at hrc
      refine OW.call rfl rfl rfl (hrc) ?_
      rintro u2 w3 ⟨hou2, hx3⟩
      obtain ⟨A2, cp2, rfl, _, hsl2⟩ := hou2.slice
      have hext := (hx.trans hx2).trans hx3
      refine OW.appendX rfl rfl Try.underlying85 ti3 rfl (by decide) rfl rfl (hext) ((hown.ext hx2).ext hx3) (Src.of_sl Try.underlying85 hsl2 (by rw [ints_length, List.length_reverse, bitsOf_length, List.length_singleton]) ints_one (by decide)) (by simp only [maxLen]; omega) (by omega) ?_
      rintro v' w' hown' hx' _ _
      refine OW.val rfl rfl (EX.assign rfl) ?_
      refine OW.nil ?_
      refine KW.leave (KW.region ?_)
      refine OW.val rfl rfl (EX.move rfl) ?_
      refine OW.val rfl rfl (by first | exact EX.addN (b := 1) (m := 9223372036854775807) rfl rfl rfl (by omega) | exact EX.addZ (m := 9223372036854775807) rfl rfl rfl rfl (by omega)) ?_
      refine OW.val rfl rfl (EX.assign rfl) ?_
      refine OW.nil ?_
      refine KW.back3 (i + 1) (v') (w') ⟨rfl, rfl, rfl, trivial⟩ rfl ?_ (by omega)
      refine ⟨by omega, ?_, hx'⟩
      have e : (s.take (i + 1)).flatMap (fun c => (bits8 c.toNat).reverse) = (s.take i).flatMap (fun c => (bits8 c.toNat).reverse) ++ (bitsOf [s[i]]).reverse := by
        rw [take_snoc s i h, List.flatMap_append]
        simp [bitsOf]
      rw [e, ints_append]
      exact hown'
    · obtain rfl : i = s.length := by omega
      rw [List.take_length] at hown
      obtain ⟨A, cp, rfl, _, hsl⟩ := hown.slice
      have hlen := revs_length s
      have htc := text_s _ A cp (revs_le s) (by omega) wr _ hsl
      rw [hlen] at htc
      generalize hq : (s.flatMap fun c => (bits8 c.toNat).reverse) = q at *
      have htl : (textOf q).length = s.length := by simp [textOf]; omega
      refine KW.exit rfl (KW.seq (KW.region ?_))
      refine OW.val rfl rfl (EX.move rfl) ?_
      refine OW.call rfl rfl rfl (htc) ?_
      rintro _ w2 ⟨rfl, hx2⟩
      have hlt := rmore_lt 4294967295 (textOf q)
      refine OW.call rfl rfl rfl (rbzip_s (textOf q) (by omega) w2) ?_
      rintro _ w3 ⟨rfl, hx3⟩
      refine OW.val rfl rfl (by first | exact EX.convN (m := 18446744073709551615) Try.underlying38 Try.underlying56 rfl rfl (by omega) | exact EX.convW (m := 18446744073709551616) Try.underlying38 Try.underlying56 rfl rfl (by decide) | exact EX.convZ Try.underlying38 Try.underlying56 rfl) ?_
      generalize hz : 4294967295 - rmore 4294967295 (textOf q) = z at *
      refine OW.call rfl rfl rfl (bits_s z 32 (by omega) (by omega) w3) ?_
      rintro _ w4 ⟨u, rfl, hob, hx4⟩
      refine OW.val rfl rfl (EX.move rfl) ?_
      refine OW.val rfl rfl (EX.extract rfl rfl) ?_
      refine OW.val rfl rfl (EX.extract rfl rfl) ?_
      refine OW.val rfl rfl (EX.assign rfl) ?_
      refine OW.val rfl rfl (EX.assign rfl) ?_
      refine OW.nil ?_
      refine KW.seq (KW.region ?_)
      refine OW.val rfl rfl (EX.move rfl) ?_
      obtain ⟨A2, cp2, rfl, _, hsl2⟩ := hob.slice
      have hrc := rturned_s (bitsN 32 z) A2 cp2 (by rw [bitsN_length]; omega) w4 _ hsl2
      rw [bitsN_length] at hrc
      refine OW.call rfl rfl rfl (hrc) ?_
      rintro u2 w5 ⟨hou2, hx5⟩
      obtain ⟨A3, cp3, rfl, _, hsl3⟩ := hou2.slice
      have hle : ∀ x ∈ (bitsN 32 z).reverse, x ≤ 1 := fun x hx => bitsN_le _ _ x (List.mem_reverse.1 hx)
      have hnc := number_s (bitsN 32 z).reverse A3 cp3 hle (by rw [List.length_reverse, bitsN_length]; omega) w5 _ hsl3
      have hl5 : (bitsN 32 z).reverse.length = 32 := by rw [List.length_reverse, bitsN_length]
      rw [hl5] at hnc
      have hnl := numN_lt _ hle
      rw [hl5, show 2 ^ 32 = 4294967296 by decide] at hnl
      refine OW.call rfl rfl rfl (hnc) ?_
      rintro _ _ ⟨rfl, rfl⟩
      refine OW.val rfl rfl (by first | exact EX.convN (m := 4294967295) Try.underlying56 Try.underlying38 rfl rfl (by omega) | exact EX.convW (m := 4294967296) Try.underlying56 Try.underlying38 rfl rfl (by decide) | exact EX.convZ Try.underlying56 Try.underlying38 rfl) ?_
      refine OW.val rfl rfl (EX.assign rfl) ?_
      refine OW.nil ?_
      refine KW.ret (ret1 rfl rfl ?_)
      refine ⟨?_, (((hx.trans hx2).trans hx3).trans hx4).trans hx5⟩
      rw [rieee, hq, hz]

end Go.Proofs.Ytfjaiokhpbddlaa
