/-
  crc: the reference's sum of IEEE; the statements' own functions.
-/
import Derived.Test.YtmpgffdfejnklaaCrcE
namespace Go.Proofs.Ytmpgffdfejnklaa
open Go.RowKit
set_option linter.unusedVariables false

theorem revs_length (s : List UInt8) : (s.flatMap fun c => (bits8 c.toNat).reverse).length = 8 * s.length := by
  induction s with
  | nil => rfl
  | cons c s ih => rw [List.flatMap_cons, List.length_append, ih, List.length_reverse, bits8_length, List.length_cons]; omega
theorem revs_le (s : List UInt8) : ∀ x ∈ s.flatMap fun c => (bits8 c.toNat).reverse, x ≤ 1 := by
  intro x hx
  obtain ⟨c, _, h⟩ := List.mem_flatMap.1 hx
  exact bits8_le _ x (List.mem_reverse.1 h)

theorem rieee_s (s : List UInt8) (hs : s.length ≤ 100000) (w : World) :
    Ret Try.prog 15 [str s] w fun v w' => v = .int .u32 (rieee s : Nat) ∧ Ext w w' := by
  refine Ret.enter Try.func15 rfl Try.ntmps15 (by kernel_rfl) rfl ?_
  refine KW.seq (KW.region ?_)
  refine OW.val rfl rfl (EX.assign rfl) ?_
  refine OW.nil ?_
  refine KW.seq (KW.region ?_)
  refine OW.val rfl rfl (EX.assign rfl) ?_
  refine OW.nil ?_
  refine KW.seq (KW.seq (KW.region ?_))
  refine OW.val rfl rfl (EX.assign rfl) ?_
  refine OW.nil ?_
  refine KW.block ?_
  refine KW.loop3 (fun (i : Nat) (v : Value) (wr : World) => i ≤ s.length ∧ Own wr w.heap.size 3 1 v (8 * i) (ints .i64 ((s.take i).flatMap fun c => (bits8 c.toNat).reverse)) ∧ Ext w wr) (fun (i : Nat) (v : Value) (wr : World) => [(0, str (s)), (3, v), (4, .int .i64 ((i : Nat) : Int))]) (fun (i : Nat) (v : Value) (wr : World) => wr) (fun (i : Nat) (v : Value) (wr : World) => s.length - i) (0) (.slice none 0 0) (w) ⟨rfl, rfl, rfl, trivial⟩ rfl ?_ ?_
  · exact ⟨by omega, Own.nil _ _ _ _, Ext.refl _⟩
  · rintro i v wr ⟨hi, hown, hx⟩
    refine KW.seq (KW.seq (KW.region ?_))
    refine OW.val rfl rfl (EX.move rfl) ?_
    refine OW.val rfl rfl (EX.move rfl) ?_
    refine OW.val rfl rfl (EX.lenS Try.underlying9 rfl) ?_
    refine OW.val rfl rfl (by first | exact EX.lssN rfl rfl | exact EX.lssZ rfl rfl) ?_
    refine OW.nil ?_
    refine KW.condD rfl (fun h => ?_) (fun h => ?_)
    · refine KW.skip (KW.seq (KW.block (KW.region ?_)))
      refine OW.val rfl rfl (EX.move rfl) ?_
      refine OW.val rfl rfl (EX.move rfl) ?_
      refine OW.val rfl rfl (EX.move rfl) ?_
      refine OW.val rfl rfl (EX.move rfl) ?_
      refine OW.val rfl rfl (by first | exact EX.addN (b := 1) (m := 9223372036854775807) rfl rfl rfl (by omega) | exact EX.addZ (m := 9223372036854775807) rfl rfl rfl rfl (by omega)) ?_
      refine OW.val rfl rfl (EX.sliceLH Try.underlying9 rfl rfl rfl (by omega)) ?_
      refine OW.as 18 (str ([s[i]])) rfl (by rw [show i + 1 - i = 1 by omega, List.drop_eq_getElem_cons h]; rfl) ?_
      refine OW.call rfl rfl rfl (of_s [s[i]] (by simp) wr) ?_
      rintro u w2 ⟨hou, hx2⟩
      simp only [List.length_singleton, Nat.mul_one] at hou
      obtain ⟨A, cp, rfl, _, hsl⟩ := hou.slice
      have hrc := rturned_s (bitsOf [s[i]]) A cp (by rw [bitsOf_length]; simp) w2 _ hsl
      rw [bitsOf_length] at hrc
      simp only [List.length_singleton, Nat.mul_one] at hrc
      refine OW.call rfl rfl rfl (hrc) ?_
      rintro u2 w3 ⟨hou2, hx3⟩
      obtain ⟨A2, cp2, rfl, _, hsl2⟩ := hou2.slice
      have hext := (hx.trans hx2).trans hx3
      refine OW.appendX rfl rfl Try.underlying39 ti3 rfl (by decide) rfl rfl (hext) ((hown.ext hx2).ext hx3) (Src.of_sl Try.underlying39 hsl2 (by rw [ints_length, List.length_reverse, bitsOf_length, List.length_singleton]) ints_one (by decide)) (by simp only [maxLen]; omega) (by omega) ?_
      rintro v' w' hown' hx' _ _
      refine OW.val rfl rfl (EX.assign rfl) ?_
      refine OW.nil ?_
      refine KW.leave (KW.region ?_)
      refine OW.val rfl rfl (EX.move rfl) ?_
      refine OW.val rfl rfl (by first | exact EX.addN (b := 1) (m := 9223372036854775807) rfl rfl rfl (by omega) | exact EX.addZ (m := 9223372036854775807) rfl rfl rfl rfl (by omega)) ?_
      refine OW.val rfl rfl (EX.assign rfl) ?_
      refine OW.nil ?_
      refine KW.back3 (i + 1) (v') (w') ⟨rfl, rfl, rfl, trivial⟩ rfl ?_ (by omega)
      refine ⟨by omega, ?_, hx'⟩
      have e : (s.take (i + 1)).flatMap (fun c => (bits8 c.toNat).reverse) = (s.take i).flatMap (fun c => (bits8 c.toNat).reverse) ++ (bitsOf [s[i]]).reverse := by
        rw [take_snoc s i h, List.flatMap_append]
        simp [bitsOf]
      rw [e, ints_append]
      exact hown'
    · obtain rfl : i = s.length := by omega
      rw [List.take_length] at hown
      obtain ⟨A, cp, rfl, _, hsl⟩ := hown.slice
      have hlen := revs_length s
      have htc := text_s _ A cp (revs_le s) (by omega) wr _ hsl
      rw [hlen] at htc
      generalize hq : (s.flatMap fun c => (bits8 c.toNat).reverse) = q at *
      have htl : (textOf q).length = s.length := by simp [textOf]; omega
      refine KW.exit rfl (KW.seq (KW.region ?_))
      refine OW.val rfl rfl (EX.move rfl) ?_
      refine OW.call rfl rfl rfl (htc) ?_
      rintro _ w2 ⟨rfl, hx2⟩
      have hlt := rmore_lt 4294967295 (textOf q)
      refine OW.call rfl rfl rfl (rbzip_s (textOf q) (by omega) w2) ?_
      rintro _ w3 ⟨rfl, hx3⟩
      refine OW.val rfl rfl (by first | exact EX.convN (m := 18446744073709551615) Try.underlying22 Try.underlying43 rfl rfl (by omega) | exact EX.convW (m := 18446744073709551616) Try.underlying22 Try.underlying43 rfl rfl (by decide) | exact EX.convZ Try.underlying22 Try.underlying43 rfl) ?_
      generalize hz : 4294967295 - rmore 4294967295 (textOf q) = z at *
      refine OW.call rfl rfl rfl (bits_s z 32 (by omega) (by omega) w3) ?_
      rintro _ w4 ⟨u, rfl, hob, hx4⟩
      refine OW.val rfl rfl (EX.move rfl) ?_
      refine OW.val rfl rfl (EX.extract rfl rfl) ?_
      refine OW.val rfl rfl (EX.extract rfl rfl) ?_
      refine OW.val rfl rfl (EX.assign rfl) ?_
      refine OW.val rfl rfl (EX.assign rfl) ?_
      refine OW.nil ?_
      refine KW.seq (KW.region ?_)
      refine OW.val rfl rfl (EX.move rfl) ?_
      obtain ⟨A2, cp2, rfl, _, hsl2⟩ := hob.slice
      have hrc := rturned_s (bitsN 32 z) A2 cp2 (by rw [bitsN_length]; omega) w4 _ hsl2
      rw [bitsN_length] at hrc
      refine OW.call rfl rfl rfl (hrc) ?_
      rintro u2 w5 ⟨hou2, hx5⟩
      obtain ⟨A3, cp3, rfl, _, hsl3⟩ := hou2.slice
      have hle : ∀ x ∈ (bitsN 32 z).reverse, x ≤ 1 := fun x hx => bitsN_le _ _ x (List.mem_reverse.1 hx)
      have hnc := number_s (bitsN 32 z).reverse A3 cp3 hle (by rw [List.length_reverse, bitsN_length]; omega) w5 _ hsl3
      have hl5 : (bitsN 32 z).reverse.length = 32 := by rw [List.length_reverse, bitsN_length]
      rw [hl5] at hnc
      have hnl := numN_lt _ hle
      rw [hl5, show 2 ^ 32 = 4294967296 by decide] at hnl
      refine OW.call rfl rfl rfl (hnc) ?_
      rintro _ _ ⟨rfl, rfl⟩
      refine OW.val rfl rfl (by first | exact EX.convN (m := 4294967295) Try.underlying43 Try.underlying22 rfl rfl (by omega) | exact EX.convW (m := 4294967296) Try.underlying43 Try.underlying22 rfl rfl (by decide) | exact EX.convZ Try.underlying43 Try.underlying22 rfl) ?_
      refine OW.val rfl rfl (EX.assign rfl) ?_
      refine OW.nil ?_
      refine KW.ret (ret1 rfl rfl ?_)
      refine ⟨?_, (((hx.trans hx2).trans hx3).trans hx4).trans hx5⟩
      rw [rieee, hq, hz]

theorem mix_length (a b : List UInt8) : (mix a b).length = min a.length b.length := by simp [mix]

theorem mixed_s (a b : List UInt8) (hab : a.length = b.length) (ha : a.length ≤ 9223372036854775807) (w : World) :
    Ret Try.prog 18 [str a, str b] w fun v w' => v = str (mix a b) ∧ Ext w w' := by
  refine Ret.enter Try.func18 rfl Try.ntmps18 (by kernel_rfl) rfl ?_
  refine KW.seq (KW.region ?_)
  refine OW.val rfl rfl (EX.assign rfl) ?_
  refine OW.nil ?_
  refine KW.seq (KW.region ?_)
  refine OW.val rfl rfl (EX.move rfl) ?_
  refine OW.bytesOf rfl rfl Try.underlying9 Try.underlying48 Try.underlying5 rfl (ha) ?_
  rintro cap rs w1 hb hc hm hl hx
  refine OW.val rfl rfl (EX.assign rfl) ?_
  refine OW.nil ?_
  refine KW.seq (KW.seq (KW.region ?_))
  refine OW.val rfl rfl (EX.assign rfl) ?_
  refine OW.nil ?_
  refine KW.block ?_
  refine KW.loop3 (fun (i : Nat) (l : List UInt8) (wr : World) => i ≤ a.length ∧ l.length = a.length ∧ (∀ j, j < i → l[j]? = (mix a b)[j]?) ∧ (∀ j, i ≤ j → l[j]? = a[j]?) ∧ Bk wr w.heap.size 5 (bytesV l ++ rs) ∧ Ext w wr) (fun (i : Nat) (l : List UInt8) (wr : World) => [(1, str (b)), (5, .slice (some ⟨w.heap.size, 0, none⟩) a.length cap), (6, .int .i64 ((i : Nat) : Int))]) (fun (i : Nat) (l : List UInt8) (wr : World) => wr) (fun (i : Nat) (l : List UInt8) (wr : World) => a.length - i) (0) (a) (w1) ⟨rfl, rfl, rfl, trivial⟩ rfl ?_ ?_
  · exact ⟨by omega, rfl, fun j h => absurd h (by omega), fun j _ => rfl, hb, hx⟩
  · rintro i l wr ⟨hi, hll, hl1, hl2, hb, hx⟩
    refine KW.seq (KW.seq (KW.region ?_))
    refine OW.val rfl rfl (EX.move rfl) ?_
    refine OW.val rfl rfl (EX.move rfl) ?_
    refine OW.val rfl rfl (EX.lenA Try.underlying48 rfl) ?_
    refine OW.val rfl rfl (by first | exact EX.lssN rfl rfl | exact EX.lssZ rfl rfl) ?_
    refine OW.nil ?_
    refine KW.condD rfl (fun h => ?_) (fun h => ?_)
    · have hil : i < l.length := by omega
      have hc1 := u8_lt l[i]
      have hc2 := u8_lt b[i]
      have hcell : (bytesV l ++ rs)[i]? = some (.int .u8 (l[i].toNat : Int)) := by
        rw [List.getElem?_append_left (by rw [bytesV_length]; exact hil)]
        simp [bytesV, hil]
      refine KW.skip (KW.seq (KW.block ?_))
      refine KW.regionH 9 (by kernel_rfl) (by kernel_rfl) ?_
      refine HW.val rfl rfl (EX.move rfl) ?_
      refine HW.val rfl rfl (EX.move rfl) ?_
      refine HW.val rfl rfl (by first | exact EX.indexAddrS0 Try.underlying48 ti5 rfl rfl (by omega) | exact EX.indexAddrS1 Try.underlying48 ti5 rfl rfl (by omega)) ?_
      refine HW.val rfl rfl (EX.load Try.underlying5 rfl rfl (hb.drew.cell_of hcell)) ?_
      refine HW.val rfl rfl (EX.move rfl) ?_
      refine HW.val rfl rfl (EX.move rfl) ?_
      refine HW.val rfl rfl (EX.indexS Try.underlying9 rfl rfl (List.getElem?_eq_getElem (by omega))) ?_
      refine HW.val rfl rfl (EX.xorN (m := 255) rfl rfl rfl (by omega)) ?_
      refine HW.val rfl rfl (by first | exact EX.indexAddrS0 Try.underlying48 ti5 rfl rfl (by omega) | exact EX.indexAddrS1 Try.underlying48 ti5 rfl rfl (by omega)) ?_
      refine HW.tail ?_
      refine OW.eff rfl (EU.storeBk ti5 rfl rfl rfl (hb.drew) (by rw [List.length_append, bytesV_length]; omega)) ?_
      refine OW.nil ?_
      refine KW.leave (KW.region ?_)
      refine OW.val rfl rfl (EX.move rfl) ?_
      refine OW.val rfl rfl (by first | exact EX.addN (b := 1) (m := 9223372036854775807) rfl rfl rfl (by omega) | exact EX.addZ (m := 9223372036854775807) rfl rfl rfl rfl (by omega)) ?_
      refine OW.val rfl rfl (EX.assign rfl) ?_
      refine OW.nil ?_
      refine KW.back3 (i + 1) (l.set i ((l[i] ^^^ b[i]))) (_) ⟨rfl, rfl, rfl, trivial⟩ rfl ?_ (by omega)
      have hx8 : l[i].toNat ^^^ b[i].toNat < 256 := Nat.xor_lt_two_pow (n := 8) hc1 hc2
      refine ⟨by omega, by simpa using hll, fun j hj => ?_, fun j hj => ?_, ?_, (Below.drew hx).setCell (p := ⟨w.heap.size, i, none⟩) (Nat.le_refl _) _⟩
      · rcases Nat.decEq j i with h1 | h1
        · rw [List.getElem?_set_ne (by omega)]; exact hl1 j (by omega)
        · subst h1
          have hli : l[j] = a[j] := by
            have := hl2 j (Nat.le_refl _)
            rw [List.getElem?_eq_getElem hil, List.getElem?_eq_getElem (by omega)] at this
            simpa using this
          rw [List.getElem?_set_self hil, hli]
          rw [mix, List.getElem?_zipWith, List.getElem?_eq_getElem h, List.getElem?_eq_getElem (show j < b.length by omega)]
      · rw [List.getElem?_set_ne (by omega)]; exact hl2 j (by omega)
      · have := hb.drew.set i (.int .u8 ((l[i].toNat ^^^ b[i].toNat : Nat) : Int))
        rw [List.set_append_left _ _ (by rw [bytesV_length]; exact hil)] at this
        have e : (bytesV l).set i (.int .u8 ((l[i].toNat ^^^ b[i].toNat : Nat) : Int)) = bytesV (l.set i ((l[i] ^^^ b[i]))) := by
          simp only [bytesV, List.map_set]
          rw [UInt8.toNat_xor]
        rw [e] at this
        exact this
    · obtain rfl : i = a.length := by omega
      have he : l = mix a b := by
        apply List.ext_getElem?
        intro j
        rcases Nat.lt_or_ge j a.length with h1 | h1
        · exact hl1 j h1
        · rw [List.getElem?_eq_none (by omega), List.getElem?_eq_none (by rw [mix_length]; omega)]
      subst he
      have hsl : Sl wr wr.heap.size (some ⟨w.heap.size, 0, none⟩) (bytesV (mix a b)) := by
        have := (Sl.of_bk (B := wr.heap.size) hb hb.lt).pre (bytesV (mix a b)).length
        rwa [List.take_left] at this
      refine KW.exit rfl (KW.seq (KW.region ?_))
      refine OW.val rfl rfl (EX.move rfl) ?_
      refine OW.val rfl rfl (EX.strOf Try.underlying48 Try.underlying5 Try.underlying9 rfl (hsl) (hll)) ?_
      refine OW.val rfl rfl (EX.assign rfl) ?_
      refine OW.nil ?_
      refine KW.ret (ret1 rfl rfl ?_)
      exact ⟨rfl, hx⟩

theorem aw1 : cbzip [49, 50, 51, 52, 53, 54, 55, 56, 57] = 4236843288 := by decide +kernel
theorem aw2 : cieee [49, 50, 51, 52, 53, 54, 55, 56, 57] = 3421780262 := by decide +kernel
theorem aw3 : cstream [2147483648, 0] = 1 := by decide +kernel
theorem aw4 : cmore 1 [] = 1 := rfl
theorem awake_s (w : World) : Ret Try.prog 11 [] w fun v w' => v = .bool true ∧ Ext w w' := by
  refine Ret.enter Try.func11 rfl Try.ntmps11 (by kernel_rfl) rfl ?_
  refine KW.seq (KW.region ?_)
  refine OW.val rfl rfl (EX.assign rfl) ?_
  refine OW.nil ?_
  refine KW.seq ?_
  refine KW.region ?_
  refine OW.call rfl rfl rfl (bzip_s [49, 50, 51, 52, 53, 54, 55, 56, 57] (by decide) w) ?_
  rintro _ w1 ⟨rfl, hx1⟩
  refine OW.val rfl rfl (by first | exact EX.eqlN (b := 4236843288) rfl rfl | exact EX.eqlZ rfl rfl) ?_
  refine OW.val rfl rfl (EX.move rfl) ?_
  refine OW.as 3 (.bool true) rfl (congrArg Value.bool (decide_eq_true (aw1))) ?_
  refine OW.call rfl rfl rfl (ieee_s [49, 50, 51, 52, 53, 54, 55, 56, 57] (by decide) w1) ?_
  rintro _ w2 ⟨rfl, hx2⟩
  refine OW.val rfl rfl (by first | exact EX.eqlN (b := 3421780262) rfl rfl | exact EX.eqlZ rfl rfl) ?_
  refine OW.val rfl rfl (EX.pickT rfl rfl) ?_
  refine OW.val rfl rfl (EX.move rfl) ?_
  refine OW.as 7 (.bool true) rfl (congrArg Value.bool (decide_eq_true (aw2))) ?_
  refine OW.val rfl rfl (EX.buildSlice 2 Try.underlying28 ti22 rfl rfl rfl rfl rfl (by decide)) ?_
  refine OW.call rfl rfl rfl (stream_s [2147483648, 0] _ _ (by decide) (by decide) _ _ ((Bk.new w2 22 (ints .u32 [2147483648, 0])).sl)) ?_
  rintro _ _ ⟨rfl, rfl⟩
  refine OW.val rfl rfl (by first | exact EX.eqlN (b := 1) rfl rfl | exact EX.eqlZ rfl rfl) ?_
  refine OW.val rfl rfl (EX.pickT rfl rfl) ?_
  refine OW.val rfl rfl (EX.move rfl) ?_
  refine OW.as 12 (.bool true) rfl (congrArg Value.bool (decide_eq_true (aw3))) ?_
  refine OW.call rfl rfl rfl (more_s 1 (by decide) [] (by decide) _) ?_
  rintro _ w4 ⟨rfl, hx4⟩
  refine OW.val rfl rfl (by first | exact EX.eqlN (b := 1) rfl rfl | exact EX.eqlZ rfl rfl) ?_
  refine OW.val rfl rfl (EX.pickT rfl rfl) ?_
  refine OW.val rfl rfl (EX.assign rfl) ?_
  refine OW.nil ?_
  refine KW.as 0 (.bool true) rfl (congrArg Value.bool (decide_eq_true (aw4))) ?_
  refine KW.ret (ret1 rfl rfl ?_)
  exact ⟨rfl, ((hx1.trans hx2).trans (Ext.alloc _ _)).trans hx4⟩

end Go.Proofs.Ytmpgffdfejnklaa
