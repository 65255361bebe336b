/-
  crc: the program's sums; the reference's further functions.
-/
import Derived.Test.YtmpgffdfejnklaaCrcC
namespace Go.Proofs.Ytmpgffdfejnklaa
open Go.RowKit
set_option linter.unusedVariables false

theorem u8_lt (c : UInt8) : c.toNat < 256 := c.toNat_lt

theorem more_s (r : Nat) (hr : r < 4294967296) (s : List UInt8) (hs : s.length ≤ 9223372036854775807) (w : World) :
    Ret Try.prog 12 [.int .u32 r, str s] w fun v w' => v = .int .u32 (cmore r s : Nat) ∧ Ext w w' := by
  refine Ret.enter Try.func12 rfl Try.ntmps12 (by kernel_rfl) rfl ?_
  refine KW.seq (KW.region ?_)
  refine OW.val rfl rfl (EX.assign rfl) ?_
  refine OW.nil ?_
  refine KW.seq (KW.region ?_)
  refine OW.call rfl rfl rfl (table_s w) ?_
  rintro _ w1 ⟨rfl, hx1⟩
  refine OW.val rfl rfl (EX.alloc (l := zt256) ti_tab rfl) ?_
  have hb0 := Bk.new w1 36 zt256
  have hx2 := hx1.trans (Ext.alloc w1 (.cells zt256.toArray 36))
  refine OW.storeW rfl ti_tab rfl rfl tabV_length (List.all_eq_true.2 fun v hv => by obtain ⟨_, _, rfl⟩ := List.mem_map.1 hv; rfl) hb0 List.length_replicate ?_
  intro w2 hb hg
  refine OW.nil ?_
  refine KW.seq (KW.seq (KW.region ?_))
  refine OW.val rfl rfl (EX.move rfl) ?_
  refine OW.val rfl rfl (EX.lenS Try.underlying9 rfl) ?_
  refine OW.val rfl rfl (EX.move rfl) ?_
  refine OW.nil ?_
  refine KW.block ?_
  have hx := hx2.grown hg (fun g hg => by cases hg; exact hx1.size)
  refine KW.loop2 (fun (k : Nat) (x : Nat) => k ≤ s.length ∧ x < 4294967296 ∧ x = cmore r (s.take k)) (fun (k : Nat) (x : Nat) => [(0, .int .u32 ((x : Nat) : Int)), (1, str (s)), (5, .pointer (some ⟨w1.heap.size, 0, none⟩)), (9, .int .i64 ((s.length : Nat) : Int)), (10, .int .i64 ((k : Nat) : Int))]) (fun (k : Nat) (x : Nat) => w2) (fun (k : Nat) (x : Nat) => s.length - k) (0) (r) ⟨rfl, rfl, rfl, rfl, rfl, trivial⟩ rfl ?_ ?_
  · exact ⟨by omega, hr, rfl⟩
  · rintro k x ⟨hk, hx1, hxe⟩
    refine KW.seq (KW.region ?_)
    refine OW.val rfl rfl (by first | exact EX.lssN rfl rfl | exact EX.lssZ rfl rfl) ?_
    refine OW.nil ?_
    refine KW.seq ?_
    refine KW.condD rfl (fun h => ?_) (fun h => ?_)
    · have hc := u8_lt s[k]
      have hxor : x / 16777216 ^^^ s[k].toNat < 256 := Nat.xor_lt_two_pow (n := 8) (by omega) hc
      have hct := ctab_lt (x / 16777216 ^^^ s[k].toNat)
      refine KW.skip (KW.seq (KW.block (KW.seq (KW.region ?_))))
      refine OW.val rfl rfl (EX.move rfl) ?_
      refine OW.val rfl rfl (EX.assign rfl) ?_
      refine OW.nil ?_
      refine KW.region ?_
      refine OW.val rfl rfl (EX.move rfl) ?_
      refine OW.val rfl rfl (by first | exact EX.shlN (s := 8) (p := 256) (m := 4294967295) rfl rfl (by decide) (by decide) rfl (by omega) | exact EX.shlW (s := 8) (p := 256) (m := 4294967296) rfl rfl (by decide) (by decide) rfl (by decide)) ?_
      refine OW.val rfl rfl (EX.move rfl) ?_
      refine OW.val rfl rfl (EX.shrN (s := 24) (p := 16777216) rfl rfl (by decide) (by decide)) ?_
      refine OW.val rfl rfl (by first | exact EX.convN (m := 255) Try.underlying22 Try.underlying5 rfl rfl (by omega) | exact EX.convW (m := 256) Try.underlying22 Try.underlying5 rfl rfl (by decide) | exact EX.convZ Try.underlying22 Try.underlying5 rfl) ?_
      refine OW.val rfl rfl (EX.move rfl) ?_
      refine OW.val rfl rfl (EX.move rfl) ?_
      refine OW.val rfl rfl (EX.indexS Try.underlying9 rfl rfl (List.getElem?_eq_getElem (by omega))) ?_
      refine OW.val rfl rfl (EX.xorN (m := 255) rfl rfl rfl (by omega)) ?_
      refine OW.val rfl rfl (by first | exact EX.indexAddrA0 Try.underlying36 ti22 rfl rfl (by omega) | exact EX.indexAddrA1 Try.underlying36 ti22 rfl rfl (by omega)) ?_
      refine OW.val rfl rfl (EX.load Try.underlying22 rfl rfl (hb.cell_of (tabV_get _ hxor))) ?_
      refine OW.val rfl rfl (EX.xorN (m := 4294967295) rfl rfl rfl (by omega)) ?_
      refine OW.val rfl rfl (EX.assign rfl) ?_
      refine OW.nil ?_
      refine KW.leave (KW.region ?_)
      refine OW.val rfl rfl (by first | exact EX.addN (b := 1) (m := 9223372036854775807) rfl rfl rfl (by omega) | exact EX.addZ (m := 9223372036854775807) rfl rfl rfl rfl (by omega)) ?_
      refine OW.val rfl rfl (EX.move rfl) ?_
      refine OW.nil ?_
      refine KW.back2 (k + 1) (cnext x s[k].toNat) ⟨rfl, rfl, rfl, rfl, rfl, trivial⟩ rfl ?_ (by omega)
      exact ⟨by omega, cnext_lt _ _, by rw [take_snoc s k h, cmore_snoc, ← hxe]⟩
    · refine KW.exit rfl (KW.seq (KW.region ?_))
      refine OW.val rfl rfl (EX.move rfl) ?_
      refine OW.val rfl rfl (EX.assign rfl) ?_
      refine OW.nil ?_
      refine KW.ret (ret1 rfl rfl ?_)
      rw [List.take_of_length_le (by omega)] at hxe
      exact ⟨by rw [hxe], hx⟩

theorem bzip_s (s : List UInt8) (hs : s.length ≤ 9223372036854775807) (w : World) :
    Ret Try.prog 9 [str s] w fun v w' => v = .int .u32 (cbzip s : Nat) ∧ Ext w w' := by
  have hlt := cmore_lt 4294967295 s (by omega)
  refine Ret.enter Try.func9 rfl Try.ntmps9 (by kernel_rfl) rfl ?_
  refine KW.seq (KW.region ?_)
  refine OW.val rfl rfl (EX.assign rfl) ?_
  refine OW.nil ?_
  refine KW.seq (KW.region ?_)
  refine OW.val rfl rfl (EX.move rfl) ?_
  refine OW.call rfl rfl rfl (more_s 4294967295 (by omega) s hs w) ?_
  rintro _ w1 ⟨rfl, hx1⟩
  refine OW.val rfl rfl (EX.notN (m := 4294967295) rfl rfl rfl (by omega)) ?_
  refine OW.val rfl rfl (EX.assign rfl) ?_
  refine OW.nil ?_
  refine KW.ret (ret1 rfl rfl ?_)
  exact ⟨rfl, hx1⟩

theorem ieee_s (s : List UInt8) (hs : s.length ≤ 9223372036854775807) (w : World) :
    Ret Try.prog 14 [str s] w fun v w' => v = .int .u32 (cieee s : Nat) ∧ Ext w w' := by
  refine Ret.enter Try.func14 rfl Try.ntmps14 (by kernel_rfl) rfl ?_
  refine KW.seq (KW.region ?_)
  refine OW.val rfl rfl (EX.assign rfl) ?_
  refine OW.nil ?_
  refine KW.seq (KW.region ?_)
  refine OW.call rfl rfl rfl (table_s w) ?_
  rintro _ w1 ⟨rfl, hx1⟩
  refine OW.val rfl rfl (EX.alloc (l := zt256) ti_tab rfl) ?_
  have hb0 := Bk.new w1 36 zt256
  have hx2 := hx1.trans (Ext.alloc w1 (.cells zt256.toArray 36))
  refine OW.storeW rfl ti_tab rfl rfl tabV_length (List.all_eq_true.2 fun v hv => by obtain ⟨_, _, rfl⟩ := List.mem_map.1 hv; rfl) hb0 List.length_replicate ?_
  intro w2 hb hg
  refine OW.nil ?_
  refine KW.seq (KW.region ?_)
  refine OW.val rfl rfl (EX.assign rfl) ?_
  refine OW.nil ?_
  refine KW.seq (KW.seq (KW.region ?_))
  refine OW.val rfl rfl (EX.move rfl) ?_
  refine OW.val rfl rfl (EX.lenS Try.underlying9 rfl) ?_
  refine OW.val rfl rfl (EX.move rfl) ?_
  refine OW.nil ?_
  refine KW.block ?_
  have hx := hx2.grown hg (fun g hg => by cases hg; exact hx1.size)
  refine KW.loop2 (fun (k : Nat) (x : Nat) => k ≤ s.length ∧ x < 4294967296 ∧ x = cieeeR (s.take k)) (fun (k : Nat) (x : Nat) => [(0, str (s)), (3, .pointer (some ⟨w1.heap.size, 0, none⟩)), (4, .int .u32 ((x : Nat) : Int)), (8, .int .i64 ((s.length : Nat) : Int)), (9, .int .i64 ((k : Nat) : Int))]) (fun (k : Nat) (x : Nat) => w2) (fun (k : Nat) (x : Nat) => s.length - k) (0) (4294967295) ⟨rfl, rfl, rfl, rfl, rfl, trivial⟩ rfl ?_ ?_
  · exact ⟨by omega, by omega, rfl⟩
  · rintro k x ⟨hk, hx1, hxe⟩
    refine KW.seq (KW.region ?_)
    refine OW.val rfl rfl (by first | exact EX.lssN rfl rfl | exact EX.lssZ rfl rfl) ?_
    refine OW.nil ?_
    refine KW.seq ?_
    refine KW.condD rfl (fun h => ?_) (fun h => ?_)
    · have hc := u8_lt s[k]
      have ht8 := trn8_lt s[k].toNat
      have hxor : x / 16777216 ^^^ trn 8 s[k].toNat 0 < 256 := Nat.xor_lt_two_pow (n := 8) (by omega) ht8
      have hct := ctab_lt (x / 16777216 ^^^ trn 8 s[k].toNat 0)
      refine KW.skip (KW.seq (KW.block (KW.seq (KW.region ?_))))
      refine OW.val rfl rfl (EX.move rfl) ?_
      refine OW.val rfl rfl (EX.assign rfl) ?_
      refine OW.nil ?_
      refine KW.region ?_
      refine OW.val rfl rfl (EX.move rfl) ?_
      refine OW.val rfl rfl (by first | exact EX.shlN (s := 8) (p := 256) (m := 4294967295) rfl rfl (by decide) (by decide) rfl (by omega) | exact EX.shlW (s := 8) (p := 256) (m := 4294967296) rfl rfl (by decide) (by decide) rfl (by decide)) ?_
      refine OW.val rfl rfl (EX.move rfl) ?_
      refine OW.val rfl rfl (EX.shrN (s := 24) (p := 16777216) rfl rfl (by decide) (by decide)) ?_
      refine OW.val rfl rfl (by first | exact EX.convN (m := 255) Try.underlying22 Try.underlying5 rfl rfl (by omega) | exact EX.convW (m := 256) Try.underlying22 Try.underlying5 rfl rfl (by decide) | exact EX.convZ Try.underlying22 Try.underlying5 rfl) ?_
      refine OW.val rfl rfl (EX.move rfl) ?_
      refine OW.val rfl rfl (EX.move rfl) ?_
      refine OW.val rfl rfl (EX.indexS Try.underlying9 rfl rfl (List.getElem?_eq_getElem (by omega))) ?_
      refine OW.val rfl rfl (by first | exact EX.convN (m := 4294967295) Try.underlying5 Try.underlying22 rfl rfl (by omega) | exact EX.convW (m := 4294967296) Try.underlying5 Try.underlying22 rfl rfl (by decide) | exact EX.convZ Try.underlying5 Try.underlying22 rfl) ?_
      refine OW.call rfl rfl rfl (turned_s s[k].toNat 8 (by omega) (by omega) w2) ?_
      rintro _ _ ⟨rfl, rfl⟩
      refine OW.val rfl rfl (by first | exact EX.convN (m := 255) Try.underlying22 Try.underlying5 rfl rfl (by omega) | exact EX.convW (m := 256) Try.underlying22 Try.underlying5 rfl rfl (by decide) | exact EX.convZ Try.underlying22 Try.underlying5 rfl) ?_
      refine OW.val rfl rfl (EX.xorN (m := 255) rfl rfl rfl (by omega)) ?_
      refine OW.val rfl rfl (by first | exact EX.indexAddrA0 Try.underlying36 ti22 rfl rfl (by omega) | exact EX.indexAddrA1 Try.underlying36 ti22 rfl rfl (by omega)) ?_
      refine OW.val rfl rfl (EX.load Try.underlying22 rfl rfl (hb.cell_of (tabV_get _ hxor))) ?_
      refine OW.val rfl rfl (EX.xorN (m := 4294967295) rfl rfl rfl (by omega)) ?_
      refine OW.val rfl rfl (EX.assign rfl) ?_
      refine OW.nil ?_
      refine KW.leave (KW.region ?_)
      refine OW.val rfl rfl (by first | exact EX.addN (b := 1) (m := 9223372036854775807) rfl rfl rfl (by omega) | exact EX.addZ (m := 9223372036854775807) rfl rfl rfl rfl (by omega)) ?_
      refine OW.val rfl rfl (EX.move rfl) ?_
      refine OW.nil ?_
      refine KW.back2 (k + 1) (cnext x (trn 8 s[k].toNat 0)) ⟨rfl, rfl, rfl, rfl, rfl, trivial⟩ rfl ?_ (by omega)
      exact ⟨by omega, cnext_lt _ _, by rw [take_snoc s k h, cieeeR_snoc, ← hxe]⟩
    · refine KW.exit rfl (KW.seq (KW.region ?_))
      refine OW.val rfl rfl (EX.move rfl) ?_
      refine OW.val rfl rfl (EX.notN (m := 4294967295) rfl rfl rfl (by omega)) ?_
      refine OW.call rfl rfl rfl (turned_s (4294967295 - x) 32 (by omega) (by omega) w2) ?_
      rintro _ _ ⟨rfl, rfl⟩
      refine OW.val rfl rfl (EX.assign rfl) ?_
      refine OW.nil ?_
      refine KW.ret (ret1 rfl rfl ?_)
      rw [List.take_of_length_le (by omega)] at hxe
      exact ⟨by rw [hxe]; rfl, hx⟩

theorem stream_s (l : List Nat) (A : Option Addr) (c : Nat) (hl : ∀ x ∈ l, x < 4294967296) (hn : l.length ≤ 9223372036854775807) (w : World) (B : Nat) (hs : Sl w B A (ints .u32 l)) :
    Ret Try.prog 16 [.slice A l.length c] w fun r w' => r = .int .u32 (cstream l : Nat) ∧ w = w' := by
  refine Ret.enter Try.func16 rfl Try.ntmps16 (by kernel_rfl) rfl ?_
  refine KW.seq (KW.region ?_)
  refine OW.val rfl rfl (EX.assign rfl) ?_
  refine OW.nil ?_
  refine KW.seq (KW.region ?_)
  refine OW.val rfl rfl (EX.assign rfl) ?_
  refine OW.nil ?_
  refine KW.seq (KW.seq (KW.region ?_))
  refine OW.val rfl rfl (EX.move rfl) ?_
  refine OW.val rfl rfl (EX.lenA Try.underlying28 rfl) ?_
  refine OW.val rfl rfl (EX.move rfl) ?_
  refine OW.nil ?_
  refine KW.block ?_
  refine KW.loop2 (fun (i : Nat) (x : Nat) => i ≤ l.length ∧ x < 4294967296 ∧ x = cstream (l.take i)) (fun (i : Nat) (x : Nat) => [(3, .int .u32 ((x : Nat) : Int)), (6, .slice A l.length c), (7, .int .i64 ((l.length : Nat) : Int)), (8, .int .i64 ((i : Nat) : Int))]) (fun (i : Nat) (x : Nat) => w) (fun (i : Nat) (x : Nat) => l.length - i) (0) (0) ⟨rfl, rfl, rfl, rfl, trivial⟩ rfl ?_ ?_
  · exact ⟨by omega, by omega, rfl⟩
  · rintro i x ⟨hi, hx, hxe⟩
    refine KW.seq (KW.region ?_)
    refine OW.val rfl rfl (by first | exact EX.lssN rfl rfl | exact EX.lssZ rfl rfl) ?_
    refine OW.nil ?_
    refine KW.seq ?_
    refine KW.condD rfl (fun h => ?_) (fun h => ?_)
    · obtain ⟨b, o, rfl, _, hc⟩ := hs.at_ (by rw [ints_length]; omega)
      have hli := hl l[i] (by simp)
      have hor : (x * 2 % 4294967296) ||| x / 2147483648 < 4294967296 := Nat.or_lt_two_pow (n := 32) (by omega) (by omega)
      refine KW.skip (KW.seq (KW.block (KW.seq (KW.region ?_))))
      refine OW.val rfl rfl (by first | exact EX.indexAddrS0 Try.underlying28 ti22 rfl rfl (by omega) | exact EX.indexAddrS1 Try.underlying28 ti22 rfl rfl (by omega)) ?_
      refine OW.val rfl rfl (EX.load Try.underlying22 rfl rfl (hc i _ (ints_get h))) ?_
      refine OW.val rfl rfl (EX.assign rfl) ?_
      refine OW.nil ?_
      refine KW.seq (KW.region ?_)
      refine OW.val rfl rfl (EX.move rfl) ?_
      refine OW.val rfl rfl (by first | exact EX.shlN (s := 1) (p := 2) (m := 4294967295) rfl rfl (by decide) (by decide) rfl (by omega) | exact EX.shlW (s := 1) (p := 2) (m := 4294967296) rfl rfl (by decide) (by decide) rfl (by decide)) ?_
      refine OW.val rfl rfl (EX.move rfl) ?_
      refine OW.val rfl rfl (EX.shrN (s := 31) (p := 2147483648) rfl rfl (by decide) (by decide)) ?_
      refine OW.val rfl rfl (EX.orN (m := 4294967295) rfl rfl rfl (by omega)) ?_
      refine OW.val rfl rfl (EX.assign rfl) ?_
      refine OW.nil ?_
      refine KW.region ?_
      refine OW.val rfl rfl (EX.move rfl) ?_
      refine OW.val rfl rfl (EX.move rfl) ?_
      refine OW.val rfl rfl (EX.xorN (m := 4294967295) rfl rfl rfl (by omega)) ?_
      refine OW.val rfl rfl (EX.assign rfl) ?_
      refine OW.nil ?_
      refine KW.leave (KW.region ?_)
      refine OW.val rfl rfl (by first | exact EX.addN (b := 1) (m := 9223372036854775807) rfl rfl rfl (by omega) | exact EX.addZ (m := 9223372036854775807) rfl rfl rfl rfl (by omega)) ?_
      refine OW.val rfl rfl (EX.move rfl) ?_
      refine OW.nil ?_
      refine KW.back2 (i + 1) (crot x l[i]) ⟨rfl, rfl, rfl, rfl, trivial⟩ rfl ?_ (by omega)
      exact ⟨by omega, crot_lt _ _ hli hx, by rw [take_snoc l i h, cstream_snoc, ← hxe]⟩
    · refine KW.exit rfl (KW.seq (KW.region ?_))
      refine OW.val rfl rfl (EX.move rfl) ?_
      refine OW.val rfl rfl (EX.assign rfl) ?_
      refine OW.nil ?_
      refine KW.ret (ret1 rfl rfl ?_)
      rw [List.take_of_length_le (by omega)] at hxe
      exact ⟨by rw [hxe], rfl⟩

theorem rstream_s (l : List Nat) (A : Option Addr) (c : Nat) (hl : ∀ x ∈ l, x < 4294967296) (hn : l.length ≤ 9223372036854775807) (w : World) (B : Nat) (hs : Sl w B A (ints .u32 l)) :
    Ret Try.prog 17 [.slice A l.length c] w fun r w' => r = .int .u32 (cstream l : Nat) ∧ w = w' := by
  refine Ret.enter Try.func17 rfl Try.ntmps17 (by kernel_rfl) rfl ?_
  refine KW.seq (KW.region ?_)
  refine OW.val rfl rfl (EX.assign rfl) ?_
  refine OW.nil ?_
  refine KW.seq (KW.region ?_)
  refine OW.val rfl rfl (EX.assign rfl) ?_
  refine OW.nil ?_
  refine KW.seq (KW.seq (KW.region ?_))
  refine OW.val rfl rfl (EX.assign rfl) ?_
  refine OW.nil ?_
  refine KW.block ?_
  refine KW.loop2 (fun (i : Nat) (x : Nat) => i ≤ l.length ∧ x < 4294967296 ∧ x = cstream (l.take i)) (fun (i : Nat) (x : Nat) => [(0, .slice A l.length c), (3, .int .u32 ((x : Nat) : Int)), (4, .int .i64 ((i : Nat) : Int))]) (fun (i : Nat) (x : Nat) => w) (fun (i : Nat) (x : Nat) => l.length - i) (0) (0) ⟨rfl, rfl, rfl, trivial⟩ rfl ?_ ?_
  · exact ⟨by omega, by omega, rfl⟩
  · rintro i x ⟨hi, hx, hxe⟩
    refine KW.seq (KW.seq (KW.region ?_))
    refine OW.val rfl rfl (EX.move rfl) ?_
    refine OW.val rfl rfl (EX.move rfl) ?_
    refine OW.val rfl rfl (EX.lenA Try.underlying28 rfl) ?_
    refine OW.val rfl rfl (by first | exact EX.lssN rfl rfl | exact EX.lssZ rfl rfl) ?_
    refine OW.nil ?_
    refine KW.condD rfl (fun h => ?_) (fun h => ?_)
    · obtain ⟨b, o, rfl, _, hc⟩ := hs.at_ (by rw [ints_length]; omega)
      have hli := hl l[i] (by simp)
      refine KW.skip (KW.seq (KW.block (KW.seq (KW.region ?_))))
      refine OW.val rfl rfl (EX.move rfl) ?_
      refine OW.val rfl rfl (EX.quoN (b := 2147483648) (m := 4294967295) rfl rfl rfl (by omega)) ?_
      refine OW.val rfl rfl (EX.assign rfl) ?_
      refine OW.nil ?_
      refine KW.seq (KW.region ?_)
      refine OW.val rfl rfl (EX.move rfl) ?_
      refine OW.val rfl rfl (EX.remN (b := 2147483648) rfl rfl (by omega)) ?_
      refine OW.val rfl rfl (by first | exact EX.mulN (b := 2) (m := 4294967295) rfl rfl rfl (by omega) | exact EX.mulW (b := 2) (m := 4294967296) rfl rfl rfl (by decide)) ?_
      refine OW.val rfl rfl (EX.move rfl) ?_
      refine OW.val rfl rfl (by first | exact EX.addN (m := 4294967295) rfl rfl rfl (by omega) | exact EX.addW (m := 4294967296) rfl rfl rfl (by decide)) ?_
      refine OW.val rfl rfl (EX.assign rfl) ?_
      refine OW.nil ?_
      refine KW.region ?_
      refine OW.val rfl rfl (EX.move rfl) ?_
      refine OW.val rfl rfl (EX.move rfl) ?_
      refine OW.val rfl rfl (EX.move rfl) ?_
      refine OW.val rfl rfl (by first | exact EX.indexAddrS0 Try.underlying28 ti22 rfl rfl (by omega) | exact EX.indexAddrS1 Try.underlying28 ti22 rfl rfl (by omega)) ?_
      refine OW.val rfl rfl (EX.load Try.underlying22 rfl rfl (hc i _ (ints_get h))) ?_
      refine OW.val rfl rfl (EX.xorN (m := 4294967295) rfl rfl rfl (by omega)) ?_
      refine OW.val rfl rfl (EX.assign rfl) ?_
      refine OW.nil ?_
      refine KW.leave (KW.region ?_)
      refine OW.val rfl rfl (EX.move rfl) ?_
      refine OW.val rfl rfl (by first | exact EX.addN (b := 1) (m := 9223372036854775807) rfl rfl rfl (by omega) | exact EX.addZ (m := 9223372036854775807) rfl rfl rfl rfl (by omega)) ?_
      refine OW.val rfl rfl (EX.assign rfl) ?_
      refine OW.nil ?_
      refine KW.back2 (i + 1) (rrot x l[i]) ⟨rfl, rfl, rfl, trivial⟩ rfl ?_ (by omega)
      rw [rrot_eq _ _ hx]
      exact ⟨by omega, crot_lt _ _ hli hx, by rw [take_snoc l i h, cstream_snoc, ← hxe]⟩
    · refine KW.exit rfl (KW.seq (KW.region ?_))
      refine OW.val rfl rfl (EX.move rfl) ?_
      refine OW.val rfl rfl (EX.assign rfl) ?_
      refine OW.nil ?_
      refine KW.ret (ret1 rfl rfl ?_)
      rw [List.take_of_length_le (by omega)] at hxe
      exact ⟨by rw [hxe], rfl⟩

theorem rmore_lt (r : Nat) (s : List UInt8) : rmore r s < 4294967296 := by
  have h1 : ∀ x ∈ addP (bitsOf s ++ List.replicate 32 0) (bitsN 32 r), x ≤ 1 := addP_le _ _ fun x hx => by
    rcases List.mem_append.1 hx with h | h
    · exact bitsOf_le _ x h
    · rw [(List.mem_replicate.1 h).2]; omega
  have := numN_lt _ (restN_le _ h1)
  rw [restN_length _ (by rw [addP_length]; simp)] at this
  exact this

theorem rbzip_s (s : List UInt8) (hs : s.length ≤ 100000) (w : World) :
    Ret Try.prog 10 [str s] w fun v w' => v = .int .u32 (4294967295 - rmore 4294967295 s : Nat) ∧ Ext w w' := by
  have hlt := rmore_lt 4294967295 s
  refine Ret.enter Try.func10 rfl Try.ntmps10 (by kernel_rfl) rfl ?_
  refine KW.seq (KW.region ?_)
  refine OW.val rfl rfl (EX.assign rfl) ?_
  refine OW.nil ?_
  refine KW.seq (KW.region ?_)
  refine OW.val rfl rfl (EX.move rfl) ?_
  refine OW.call rfl rfl rfl (rmore_s 4294967295 (by omega) s hs w) ?_
  rintro _ w1 ⟨rfl, hx1⟩
  refine OW.val rfl rfl (EX.subN (a := 4294967295) (m := 4294967295) rfl rfl rfl (by omega)) ?_
  refine OW.val rfl rfl (EX.assign rfl) ?_
  refine OW.nil ?_
  refine KW.ret (ret1 rfl rfl ?_)
  exact ⟨rfl, hx1⟩

theorem rturned_s (l : List Nat) (A : Option Addr) (c : Nat) (hn : l.length ≤ 1000000) (w : World) (B : Nat) (hs : Sl w B A (ints .i64 l)) :
    Ret Try.prog 25 [.slice A l.length c] w fun v w' => Own w' w.heap.size 3 1 v l.length (ints .i64 l.reverse) ∧ Ext w w' := by
  refine Ret.enter Try.func25 rfl Try.ntmps25 (by kernel_rfl) rfl ?_
  refine KW.seq (KW.region ?_)
  refine OW.val rfl rfl (EX.assign rfl) ?_
  refine OW.nil ?_
  refine KW.seq (KW.region ?_)
  refine OW.val rfl rfl (EX.assign rfl) ?_
  refine OW.nil ?_
  refine KW.seq (KW.seq (KW.region ?_))
  refine OW.val rfl rfl (EX.move rfl) ?_
  refine OW.val rfl rfl (EX.lenA Try.underlying39 rfl) ?_
  refine OW.val rfl rfl (by first | exact EX.subN (b := 1) (m := 9223372036854775807) rfl rfl rfl (by omega) | exact EX.subZ (m := 9223372036854775807) rfl rfl rfl rfl (by omega)) ?_
  refine OW.val rfl rfl (EX.assign rfl) ?_
  refine OW.nil ?_
  refine KW.block ?_
  refine KW.as 4 (.int .i64 (((l.length : Int) - 1 - ((0 : Nat) : Int)) : Int)) rfl (by simp) ?_
  refine KW.loop3 (fun (j : Nat) (v : Value) (wr : World) => j ≤ l.length ∧ Own wr w.heap.size 3 1 v j (ints .i64 (l.reverse.take j)) ∧ Ext w wr) (fun (j : Nat) (v : Value) (wr : World) => [(0, .slice A l.length c), (3, v), (4, .int .i64 (((l.length : Int) - 1 - (j : Int)) : Int))]) (fun (j : Nat) (v : Value) (wr : World) => wr) (fun (j : Nat) (v : Value) (wr : World) => l.length - j) (0) (.slice none 0 0) (w) ⟨rfl, rfl, rfl, trivial⟩ rfl ?_ ?_
  · exact ⟨by omega, Own.nil _ _ _ _, Ext.refl _⟩
  · rintro j v wr ⟨hj, hown, hx⟩
    refine KW.seq (KW.seq (KW.region ?_))
    refine OW.val rfl rfl (EX.move rfl) ?_
    refine OW.val rfl rfl (by first | exact EX.geqN (b := 0) rfl rfl | exact EX.geqZ rfl rfl) ?_
    refine OW.nil ?_
    refine KW.condD rfl (fun h => ?_) (fun h => ?_)
    · obtain ⟨i, hi⟩ : ∃ i, i = l.length - 1 - j := ⟨_, rfl⟩
      refine KW.as 4 (.int .i64 ((i : Nat) : Int)) rfl (by congr 1; omega) ?_
      obtain ⟨b, o, rfl, _, hc⟩ := (hs.ext hx).at_ (by rw [ints_length]; omega)
      have hil : i < l.length := by omega
      refine KW.skip (KW.seq (KW.block (KW.region ?_)))
      refine OW.val rfl rfl (EX.move rfl) ?_
      refine OW.val rfl rfl (EX.move rfl) ?_
      refine OW.val rfl rfl (EX.move rfl) ?_
      refine OW.val rfl rfl (by first | exact EX.indexAddrS0 Try.underlying39 ti3 rfl rfl (by omega) | exact EX.indexAddrS1 Try.underlying39 ti3 rfl rfl (by omega)) ?_
      refine OW.val rfl rfl (EX.load Try.underlying3 rfl rfl (hc i _ (ints_get hil))) ?_
      refine OW.push rfl rfl (fun _ => rfl) rfl Try.underlying39 ti3 rfl rfl (fun _ => rfl) rfl (hx) (hown) (by simp only [maxLen]; omega) (by omega) ?_
      rintro _ v' w' hown' hx' _ _
      refine OW.val rfl rfl (EX.assign rfl) ?_
      refine OW.nil ?_
      refine KW.leave (KW.region ?_)
      refine OW.val rfl rfl (EX.move rfl) ?_
      refine OW.val rfl rfl (by first | exact EX.subN (b := 1) (m := 9223372036854775807) rfl rfl rfl (by omega) | exact EX.subZ (m := 9223372036854775807) rfl rfl rfl rfl (by omega)) ?_
      refine OW.val rfl rfl (EX.assign rfl) ?_
      refine OW.nil ?_
      refine KW.as 4 (.int .i64 (((l.length : Int) - 1 - ((j + 1 : Nat) : Int)) : Int)) rfl (by congr 1; omega) ?_
      refine KW.back3 (j + 1) (v') (w') ⟨rfl, rfl, rfl, trivial⟩ rfl ?_ (by omega)
      refine ⟨by omega, ?_, hx'⟩
      have hrev : l.reverse.take (j + 1) = l.reverse.take j ++ [l[i]] := by
        rw [take_snoc _ _ (by simp; omega)]
        congr 2
        rw [List.getElem_reverse]
        congr 1
        omega
      rw [hrev, ints_append]
      exact hown'
    · refine KW.exit rfl (KW.seq (KW.region ?_))
      refine OW.val rfl rfl (EX.move rfl) ?_
      refine OW.val rfl rfl (EX.assign rfl) ?_
      refine OW.nil ?_
      refine KW.ret (ret1 rfl rfl ?_)
      obtain rfl : j = l.length := by omega
      rw [List.take_of_length_le (by simp)] at hown
      exact ⟨hown, hx⟩

theorem text_s (l : List Nat) (A : Option Addr) (c : Nat) (h1 : ∀ x ∈ l, x ≤ 1) (hn : l.length ≤ 1000000) (w : World) (B : Nat) (hs : Sl w B A (ints .i64 l)) :
    Ret Try.prog 26 [.slice A l.length c] w fun v w' => v = str (textOf l) ∧ Ext w w' := by
  refine Ret.enter Try.func26 rfl Try.ntmps26 (by kernel_rfl) rfl ?_
  refine KW.seq (KW.region ?_)
  refine OW.val rfl rfl (EX.assign rfl) ?_
  refine OW.nil ?_
  refine KW.seq (KW.region ?_)
  refine OW.val rfl rfl (EX.assign rfl) ?_
  refine OW.nil ?_
  refine KW.seq (KW.seq (KW.region ?_))
  refine OW.val rfl rfl (EX.assign rfl) ?_
  refine OW.nil ?_
  refine KW.block ?_
  refine KW.loop3 (fun (i : Nat) (v : Value) (wr : World) => i ≤ (l.length + 7) / 8 ∧ Own wr w.heap.size 5 1 v i (bytesV ((textOf l).take i)) ∧ Ext w wr) (fun (i : Nat) (v : Value) (wr : World) => [(0, .slice A l.length c), (3, v), (4, .int .i64 (((8 * i) : Nat) : Int))]) (fun (i : Nat) (v : Value) (wr : World) => wr) (fun (i : Nat) (v : Value) (wr : World) => (l.length + 7) / 8 - i) (0) (.slice none 0 0) (w) ⟨rfl, rfl, rfl, trivial⟩ rfl ?_ ?_
  · exact ⟨by omega, Own.nil _ _ _ _, Ext.refl _⟩
  · rintro i v wr ⟨hi, hown, hx⟩
    refine KW.seq (KW.seq (KW.region ?_))
    refine OW.val rfl rfl (EX.move rfl) ?_
    refine OW.val rfl rfl (EX.move rfl) ?_
    refine OW.val rfl rfl (EX.lenA Try.underlying39 rfl) ?_
    refine OW.val rfl rfl (by first | exact EX.lssN rfl rfl | exact EX.lssZ rfl rfl) ?_
    refine OW.nil ?_
    refine KW.condD rfl (fun h => ?_) (fun h => ?_)
    · refine KW.skip (KW.seq (KW.block (KW.seq (KW.region ?_))))
      refine OW.val rfl rfl (EX.assign rfl) ?_
      refine OW.nil ?_
      refine KW.seq (KW.seq (KW.region ?_))
      refine OW.val rfl rfl (EX.assign rfl) ?_
      refine OW.nil ?_
      refine KW.block ?_
      refine KW.loop2 (fun (k : Nat) (b : Nat) => k ≤ 8 ∧ b = (List.range k).foldl (fun b k => b * 2 + l.getD (8 * i + k) 0) 0 ∧ b < 2 ^ k) (fun (k : Nat) (b : Nat) => [(0, .slice A l.length c), (3, v), (4, .int .i64 (((8 * i) : Nat) : Int)), (5, .int .i64 ((b : Nat) : Int)), (6, .int .i64 ((k : Nat) : Int))]) (fun (k : Nat) (b : Nat) => wr) (fun (k : Nat) (b : Nat) => 8 - k) (0) (0) ⟨rfl, rfl, rfl, rfl, rfl, trivial⟩ rfl ?_ ?_
      · exact ⟨by omega, rfl, by decide⟩
      · rintro k b ⟨hk, hb, hbl⟩
        have hp : 2 ^ k ≤ 2 ^ 8 := Nat.pow_le_pow_right (by decide) hk
        have hp2 : 2 ^ (k + 1) = 2 * 2 ^ k := by rw [Nat.pow_succ, Nat.mul_comm]
        have hsn : ∀ x, x = l.getD (8 * i + k) 0 → b * 2 + x = (List.range (k + 1)).foldl (fun b k => b * 2 + l.getD (8 * i + k) 0) 0 := by
          intro x hx
          rw [List.range_succ, List.foldl_append, ← hb, hx]
          rfl
        refine KW.seq (KW.seq (KW.region ?_))
        refine OW.val rfl rfl (EX.move rfl) ?_
        refine OW.val rfl rfl (by first | exact EX.lssN (b := 8) rfl rfl | exact EX.lssZ rfl rfl) ?_
        refine OW.nil ?_
        refine KW.condD rfl (fun h8 => ?_) (fun h8 => ?_)
        · refine KW.skip (KW.seq (KW.block (KW.seq (KW.region ?_))))
          refine OW.val rfl rfl (EX.move rfl) ?_
          refine OW.val rfl rfl (by first | exact EX.mulN (b := 2) (m := 9223372036854775807) rfl rfl rfl (by omega) | exact EX.mulZ (m := 9223372036854775807) rfl rfl rfl rfl (by omega)) ?_
          refine OW.val rfl rfl (EX.assign rfl) ?_
          refine OW.nil ?_
          refine KW.seq (KW.region ?_)
          refine OW.val rfl rfl (EX.move rfl) ?_
          refine OW.val rfl rfl (EX.move rfl) ?_
          refine OW.val rfl rfl (by first | exact EX.addN (m := 9223372036854775807) rfl rfl rfl (by omega) | exact EX.addZ (m := 9223372036854775807) rfl rfl rfl rfl (by omega)) ?_
          refine OW.val rfl rfl (EX.move rfl) ?_
          refine OW.val rfl rfl (EX.lenA Try.underlying39 rfl) ?_
          refine OW.val rfl rfl (by first | exact EX.lssN rfl rfl | exact EX.lssZ rfl rfl) ?_
          refine OW.nil ?_
          refine KW.condD rfl (fun hik => ?_) (fun hik => ?_)
          · obtain ⟨bb, o, rfl, _, hc⟩ := (hs.ext hx).at_ (by rw [ints_length]; omega)
            have hx1 := h1 l[8 * i + k] (by simp)
            refine KW.region ?_
            refine OW.val rfl rfl (EX.move rfl) ?_
            refine OW.val rfl rfl (EX.move rfl) ?_
            refine OW.val rfl rfl (EX.move rfl) ?_
            refine OW.val rfl rfl (EX.move rfl) ?_
            refine OW.val rfl rfl (by first | exact EX.addN (m := 9223372036854775807) rfl rfl rfl (by omega) | exact EX.addZ (m := 9223372036854775807) rfl rfl rfl rfl (by omega)) ?_
            refine OW.val rfl rfl (by first | exact EX.indexAddrS0 Try.underlying39 ti3 rfl rfl (by omega) | exact EX.indexAddrS1 Try.underlying39 ti3 rfl rfl (by omega)) ?_
            refine OW.val rfl rfl (EX.load Try.underlying3 rfl rfl (hc (8 * i + k) _ (ints_get hik))) ?_
            refine OW.val rfl rfl (by first | exact EX.addN (m := 9223372036854775807) rfl rfl rfl (by omega) | exact EX.addZ (m := 9223372036854775807) rfl rfl rfl rfl (by omega)) ?_
            refine OW.val rfl rfl (EX.assign rfl) ?_
            refine OW.nil ?_
            refine KW.leave (KW.region ?_)
            refine OW.val rfl rfl (EX.move rfl) ?_
            refine OW.val rfl rfl (by first | exact EX.addN (b := 1) (m := 9223372036854775807) rfl rfl rfl (by omega) | exact EX.addZ (m := 9223372036854775807) rfl rfl rfl rfl (by omega)) ?_
            refine OW.val rfl rfl (EX.assign rfl) ?_
            refine OW.nil ?_
            refine KW.back2 (k + 1) (b * 2 + l[8 * i + k]) ⟨rfl, rfl, rfl, rfl, rfl, trivial⟩ rfl ?_ (by omega)
            exact ⟨by omega, hsn _ (by simp [List.getD, hik]), by omega⟩
          · refine KW.skip (KW.leave (KW.region ?_))
            refine OW.val rfl rfl (EX.move rfl) ?_
            refine OW.val rfl rfl (by first | exact EX.addN (b := 1) (m := 9223372036854775807) rfl rfl rfl (by omega) | exact EX.addZ (m := 9223372036854775807) rfl rfl rfl rfl (by omega)) ?_
            refine OW.val rfl rfl (EX.assign rfl) ?_
            refine OW.nil ?_
            refine KW.back2 (k + 1) (b * 2) ⟨rfl, rfl, rfl, rfl, rfl, trivial⟩ rfl ?_ (by omega)
            exact ⟨by omega, by rw [← hsn 0 (by simp [List.getD, List.getElem?_eq_none (Nat.le_of_not_lt hik)]), Nat.add_zero], by omega⟩
        · obtain rfl : k = 8 := by omega
          have hb256 : b < 256 := hbl
          refine KW.exit rfl (KW.region ?_)
          refine OW.val rfl rfl (EX.move rfl) ?_
          refine OW.val rfl rfl (EX.move rfl) ?_
          refine OW.val rfl rfl (by first | exact EX.convN (m := 255) Try.underlying3 Try.underlying5 rfl rfl (by omega) | exact EX.convW (m := 256) Try.underlying3 Try.underlying5 rfl rfl (by decide) | exact EX.convZ Try.underlying3 Try.underlying5 rfl) ?_
          refine OW.push rfl rfl (fun _ => rfl) rfl Try.underlying48 ti5 rfl rfl (fun _ => rfl) rfl (hx) (hown) (by simp only [maxLen]; omega) (by omega) ?_
          rintro _ v' w' hown' hx' _ _
          refine OW.val rfl rfl (EX.assign rfl) ?_
          refine OW.nil ?_
          refine KW.leave (KW.region ?_)
          refine OW.val rfl rfl (EX.move rfl) ?_
          refine OW.val rfl rfl (by first | exact EX.addN (b := 8) (m := 9223372036854775807) rfl rfl rfl (by omega) | exact EX.addZ (m := 9223372036854775807) rfl rfl rfl rfl (by omega)) ?_
          refine OW.val rfl rfl (EX.assign rfl) ?_
          refine OW.nil ?_
          refine KW.as 4 (.int .i64 (((8 * (i + 1)) : Nat) : Int)) rfl (rfl) ?_
          refine KW.back3 (i + 1) (v') (w') ⟨rfl, rfl, rfl, trivial⟩ rfl ?_ (by omega)
          refine ⟨by omega, ?_, hx'⟩
          have hit : i < (textOf l).length := by simp [textOf]; omega
          have hti : (textOf l)[i] = UInt8.ofNat b := by simp [textOf, byteOf, hb]
          rw [take_snoc _ _ hit, bytesV_append, hti]
          have : bytesV [UInt8.ofNat b] = [.int .u8 (b : Nat)] := by
            simp [bytesV, Nat.mod_eq_of_lt hb256]
          rw [this]
          exact hown'
    · obtain ⟨A', c', rfl, _, hsl⟩ := hown.slice
      have hil : i = (textOf l).length := by simp [textOf]; omega
      refine KW.exit rfl (KW.seq (KW.region ?_))
      refine OW.val rfl rfl (EX.move rfl) ?_
      refine OW.val rfl rfl (EX.strOf Try.underlying48 Try.underlying5 Try.underlying9 rfl hsl (by rw [List.length_take]; omega)) ?_
      refine OW.val rfl rfl (EX.assign rfl) ?_
      refine OW.nil ?_
      refine KW.ret (ret1 rfl rfl ?_)
      rw [List.take_of_length_le (by omega)]
      exact ⟨rfl, hx⟩

end Go.Proofs.Ytmpgffdfejnklaa
