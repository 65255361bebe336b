/-
  record: numbers as bytes, and bytes as numbers.
-/
import Derived.Test.YtfjaiokhpbddlaaRecD
import Derived.Test.YtfjaiokhpbddlaaCrcH
import Derived.Test.YtfjaiokhpbddlaaPthC
namespace Go.Proofs.Ytfjaiokhpbddlaa
open Go.RowKit Rec
set_option linter.unusedVariables false
set_option linter.unusedSimpArgs false

theorem pow256 (k : Nat) : 2 ^ (8 * k) = 256 ^ k := by rw [Nat.pow_mul]
theorem number_r (n width : Nat) (hn : n < 18446744073709551616) (hw : 1 ≤ width ∧ width ≤ 8) (w : World) :
    Ret Try.prog 21 [.int .u64 (n : Int), .int .i64 (width : Int)] w fun v w' => v = str (be width n) ∧ Ext w w' := by
  refine Ret.enter Try.func21 rfl Try.ntmps21 (by kernel_rfl) rfl ?_
  refine KW.seq (KW.region ?_)
  refine OW.val rfl rfl (EX.assign rfl) ?_
  refine OW.nil ?_
  refine KW.seq (KW.region ?_)
  refine OW.val rfl rfl (EX.move rfl) ?_
  refine OW.makeB rfl rfl Try.underlying46 ti5 rfl rfl rfl (by omega) (by omega) ?_
  rintro gb w1 hge hg hx
  refine OW.val rfl rfl (EX.assign rfl) ?_
  refine OW.nil ?_
  refine KW.seq (KW.seq (KW.region ?_))
  refine OW.val rfl rfl (EX.move rfl) ?_
  refine OW.val rfl rfl (EX.lenA Try.underlying46 rfl) ?_
  refine OW.val rfl rfl (EX.move rfl) ?_
  refine OW.nil ?_
  refine KW.block ?_
  refine KW.loop2 (fun (i : Nat) (wr : World) => i ≤ width ∧ Bk wr gb 5 (bytesV (be i (n / 256 ^ (width - i))) ++ List.replicate (width - i) (.int .u8 0)) ∧ Ext w wr) (fun (i : Nat) (wr : World) => [(0, .int .u64 ((n : Nat) : Int)), (1, .int .i64 ((width : Nat) : Int)), (5, .slice (some ⟨gb, 0, none⟩) width width), (10, .int .i64 ((width : Nat) : Int)), (11, .int .i64 ((i : Nat) : Int))]) (fun (i : Nat) (wr : World) => wr) (fun (i : Nat) (wr : World) => width - i) (0) (w1) ⟨rfl, rfl, rfl, rfl, rfl, trivial⟩ rfl ?_ ?_
  · exact ⟨by omega, by simpa [be, bytesV] using hg, hx⟩
  · rintro i wr ⟨hi, hb, hxr⟩
    refine KW.seq (KW.region ?_)
    refine OW.val rfl rfl (by first | exact EX.lssN rfl rfl | exact EX.lssZ rfl rfl) ?_
    refine OW.nil ?_
    refine KW.seq ?_
    refine KW.condD rfl (fun hlt => ?_) (fun hlt => ?_)
    · have hs : n / 256 ^ (width - 1 - i) / 256 = n / 256 ^ (width - i) := by
        rw [show width - i = (width - 1 - i) + 1 by omega, Nat.pow_succ, Nat.div_div_eq_div_mul]
      have hq : n / 256 ^ (width - 1 - i) ≤ n := Nat.div_le_self _ _
      refine KW.skip (KW.seq (KW.block (KW.seq (KW.region ?_))))
      refine OW.val rfl rfl (EX.move rfl) ?_
      refine OW.val rfl rfl (EX.assign rfl) ?_
      refine OW.nil ?_
      refine KW.region ?_
      refine OW.val rfl rfl (EX.move rfl) ?_
      refine OW.val rfl rfl (EX.move rfl) ?_
      refine OW.val rfl rfl (EX.move rfl) ?_
      refine OW.val rfl rfl (EX.move rfl) ?_
      refine OW.val rfl rfl (by first | exact EX.subN (b := 1) (m := 9223372036854775807) rfl rfl rfl (by omega) | exact EX.subZ (m := 9223372036854775807) rfl rfl rfl rfl (by omega)) ?_
      refine OW.val rfl rfl (EX.move rfl) ?_
      refine OW.val rfl rfl (by first | exact EX.subN (m := 9223372036854775807) rfl rfl rfl (by omega) | exact EX.subZ (m := 9223372036854775807) rfl rfl rfl rfl (by omega)) ?_
      refine OW.val rfl rfl (by first | exact EX.mulN (a := 8) (m := 9223372036854775807) rfl rfl rfl (by omega) | exact EX.mulZ (m := 9223372036854775807) rfl rfl rfl rfl (by omega)) ?_
      refine OW.val rfl rfl (by first | exact EX.convN (m := 18446744073709551615) Try.underlying3 Try.underlying68 rfl rfl (by omega) | exact EX.convW (m := 18446744073709551616) Try.underlying3 Try.underlying68 rfl rfl (by decide) | exact EX.convZ Try.underlying3 Try.underlying68 rfl) ?_
      refine OW.val rfl rfl (EX.shrN (s := 8 * (width - 1 - i)) (p := 256 ^ (width - 1 - i)) rfl rfl (pow256 _) (by show _ ≤ 64; omega)) ?_
      refine OW.val rfl rfl (by first | exact EX.convN (m := 255) Try.underlying56 Try.underlying5 rfl rfl (by omega) | exact EX.convW (m := 256) Try.underlying56 Try.underlying5 rfl rfl (by decide) | exact EX.convZ Try.underlying56 Try.underlying5 rfl) ?_
      refine OW.val rfl rfl (by first | exact EX.indexAddrS0 Try.underlying46 ti5 rfl rfl (by omega) | exact EX.indexAddrS1 Try.underlying46 ti5 rfl rfl (by omega)) ?_
      refine OW.storeB rfl ti5 rfl rfl (by first | rfl | assumption | exact Own.one (by assumption)) (hb) (by simp [bytesV, be_length]; omega) ?_
      rintro w2 hb2 hm2
      refine OW.nil ?_
      refine KW.leave (KW.region ?_)
      refine OW.val rfl rfl (by first | exact EX.addN (b := 1) (m := 9223372036854775807) rfl rfl rfl (by omega) | exact EX.addZ (m := 9223372036854775807) rfl rfl rfl rfl (by omega)) ?_
      refine OW.val rfl rfl (EX.move rfl) ?_
      refine OW.nil ?_
      refine KW.back2 (i + 1) (w2) ⟨rfl, rfl, rfl, rfl, rfl, trivial⟩ rfl ?_ (by omega)
      refine ⟨by omega, ?_, below_mo hxr hm2 hxr.size (fun k hk => by simp at hk; omega)⟩
      have e : be (i + 1) (n / 256 ^ (width - (i + 1))) = be i (n / 256 ^ (width - i)) ++ [UInt8.ofNat (n / 256 ^ (width - 1 - i) % 256)] := by
        rw [show width - (i + 1) = width - 1 - i by omega]
        simp only [be]
        rw [hs]
      have e2 : (bytesV (be i (n / 256 ^ (width - i))) ++ List.replicate (width - i) (Value.int .u8 0)).set i (.int .u8 ((n / 256 ^ (width - 1 - i) % 256 : Nat) : Int)) = bytesV (be (i + 1) (n / 256 ^ (width - (i + 1)))) ++ List.replicate (width - (i + 1)) (.int .u8 0) := by
        rw [e, List.set_append_right _ _ (by simp [bytesV, be_length])]
        have hl : (bytesV (be i (n / 256 ^ (width - i)))).length = i := by simp [bytesV, be_length]
        rw [hl, Nat.sub_self, show width - i = (width - (i + 1)) + 1 by omega, List.replicate_succ, List.set_cons_zero]
        simp [bytesV]
      rw [← e2]
      exact hb2
    · obtain rfl : i = width := by omega
      rw [Nat.sub_self, List.replicate_zero, List.append_nil, Nat.pow_zero, Nat.div_one] at hb
      refine KW.exit rfl (KW.seq (KW.region ?_))
      refine OW.val rfl rfl (EX.move rfl) ?_
      refine OW.val rfl rfl (EX.strOf Try.underlying46 Try.underlying5 Try.underlying9 rfl (hb.sl) (be_length _ _)) ?_
      refine OW.val rfl rfl (EX.assign rfl) ?_
      refine OW.nil ?_
      refine KW.ret (ret1 rfl rfl ?_)
      exact ⟨rfl, hxr⟩
theorem rNumber_r (n width : Nat) (hn : n < 18446744073709551616) (hw : width ≤ 8) (w : World) :
    Ret Try.prog 24 [.int .u64 (n : Int), .int .i64 (width : Int)] w fun v w' => v = str (be width n) ∧ Ext w w' := by
  refine Ret.enter Try.func24 rfl Try.ntmps24 (by kernel_rfl) rfl ?_
  refine KW.seq (KW.region ?_)
  refine OW.val rfl rfl (EX.assign rfl) ?_
  refine OW.nil ?_
  refine KW.seq (KW.region ?_)
  refine OW.val rfl rfl (EX.assign rfl) ?_
  refine OW.nil ?_
  refine KW.seq (KW.seq (KW.region ?_))
  refine OW.val rfl rfl (EX.assign rfl) ?_
  refine OW.nil ?_
  refine KW.block ?_
  refine KW.loop4 (fun (i : Nat) (m : Nat) (q : (List UInt8)) (wr : World) => i ≤ width ∧ m = n / 256 ^ i ∧ q = be i n ∧ Ext w wr) (fun (i : Nat) (m : Nat) (q : (List UInt8)) (wr : World) => [(0, .int .u64 ((m : Nat) : Int)), (1, .int .i64 ((width : Nat) : Int)), (5, str (q)), (6, .int .i64 ((i : Nat) : Int))]) (fun (i : Nat) (m : Nat) (q : (List UInt8)) (wr : World) => wr) (fun (i : Nat) (m : Nat) (q : (List UInt8)) (wr : World) => width - i) (0) (n) ([]) (w) ⟨rfl, rfl, rfl, rfl, trivial⟩ rfl ?_ ?_
  · exact ⟨by omega, by simp, rfl, Ext.refl _⟩
  · rintro i m q wr ⟨hi, hm, hq, hxr⟩
    refine KW.seq (KW.seq (KW.region ?_))
    refine OW.val rfl rfl (EX.move rfl) ?_
    refine OW.val rfl rfl (EX.move rfl) ?_
    refine OW.val rfl rfl (by first | exact EX.lssN rfl rfl | exact EX.lssZ rfl rfl) ?_
    refine OW.nil ?_
    refine KW.condD rfl (fun hlt => ?_) (fun hlt => ?_)
    · have hmn : m ≤ n := by rw [hm]; exact Nat.div_le_self _ _
      have hl : q.length = i := by rw [hq, be_length]
      refine KW.skip (KW.seq (KW.block (KW.seq (KW.region ?_))))
      refine OW.val rfl rfl (EX.move rfl) ?_
      refine OW.val rfl rfl (by first | exact EX.convN (m := 255) Try.underlying56 Try.underlying5 rfl rfl (by omega) | exact EX.convW (m := 256) Try.underlying56 Try.underlying5 rfl rfl (by decide) | exact EX.convZ Try.underlying56 Try.underlying5 rfl) ?_
      refine OW.buildB 1 rfl rfl Try.underlying46 ti5 rfl rfl rfl rfl (by first | rfl | (simp only [List.all_cons, List.all_nil, Bool.and_true, Bool.and_eq_true]; assumption)) (by decide) ?_
      rintro gb w2 hge2 hg2 hx2
      have hg3 : Bk w2 gb 5 (bytesV [UInt8.ofNat (m % 256)]) := by simpa [bytesV] using hg2
      refine OW.val rfl rfl (EX.strOf Try.underlying46 Try.underlying5 Try.underlying9 rfl (hg3.sl) (rfl)) ?_
      refine OW.val rfl rfl (EX.move rfl) ?_
      refine OW.val rfl rfl (EX.addS rfl rfl (by first | omega | (simp only [List.length_append, List.length_cons, List.length_nil, List.length_take, List.length_drop, List.length_replicate]; omega))) ?_
      refine OW.val rfl rfl (EX.assign rfl) ?_
      refine OW.nil ?_
      refine KW.region ?_
      refine OW.val rfl rfl (EX.move rfl) ?_
      refine OW.val rfl rfl (EX.shrN (s := 8) (p := 256) rfl rfl (by decide) (by decide)) ?_
      refine OW.val rfl rfl (EX.assign rfl) ?_
      refine OW.nil ?_
      refine KW.leave (KW.region ?_)
      refine OW.val rfl rfl (EX.move rfl) ?_
      refine OW.val rfl rfl (by first | exact EX.addN (b := 1) (m := 9223372036854775807) rfl rfl rfl (by omega) | exact EX.addZ (m := 9223372036854775807) rfl rfl rfl rfl (by omega)) ?_
      refine OW.val rfl rfl (EX.assign rfl) ?_
      refine OW.nil ?_
      refine KW.back4 (i + 1) (m / 256) ([UInt8.ofNat (m % 256)] ++ q) (w2) ⟨rfl, rfl, rfl, rfl, trivial⟩ rfl ?_ (by omega)
      exact ⟨by omega, by rw [hm, Nat.div_div_eq_div_mul, Nat.pow_succ], by rw [be_cons, hm, hq]; rfl, hxr.trans hx2⟩
    · obtain rfl : i = width := by omega
      subst hq
      refine KW.exit rfl (KW.seq (KW.region ?_))
      refine OW.val rfl rfl (EX.move rfl) ?_
      refine OW.val rfl rfl (EX.assign rfl) ?_
      refine OW.nil ?_
      refine KW.ret (ret1 rfl rfl ?_)
      exact ⟨rfl, hxr⟩
/-! ### The reader -/
theorem nb_take_succ (s : List UInt8) {i : Nat} (h : i < s.length) : nb (s.take (i + 1)) = nb (s.take i) * 256 + s[i].toNat := by
  rw [List.take_add_one, List.getElem?_eq_getElem h]
  exact nb_snoc _ _
theorem take_s (rb n : Nat) (s : List UInt8) (T : TypeId) (w : World) (hb : Bk w rb T [str s]) (hn : n ≤ 1000000000000) (hs : s.length ≤ 1000000000000) :
    Ret Try.prog 26 [.pointer (some ⟨rb, 0, none⟩), .int .i64 (n : Int)] w fun v w' => v = str (s.take n) ∧ Bk w' rb T [str (s.drop n)] ∧ Mo w w' [rb] := by
  refine Ret.enter Try.func26 rfl Try.ntmps26 (by kernel_rfl) rfl ?_
  refine KW.seq (KW.region ?_)
  refine OW.val rfl rfl (EX.assign rfl) ?_
  refine OW.nil ?_
  refine KW.seq (KW.seq (KW.region ?_))
  refine OW.val rfl rfl (EX.move rfl) ?_
  refine OW.val rfl rfl (EX.move rfl) ?_
  refine OW.val rfl rfl (EX.nilCheck rfl) ?_
  refine OW.val rfl rfl (EX.fieldAddr (off := 0) Try.underlying61 rfl rfl ti9 rfl rfl) ?_
  refine OW.val rfl rfl (EX.load Try.underlying9 rfl rfl (hb.cell_of rfl)) ?_
  refine OW.val rfl rfl (EX.lenS Try.underlying9 rfl) ?_
  refine OW.val rfl rfl (by first | exact EX.gtrN rfl rfl | exact EX.gtrZ rfl rfl) ?_
  refine OW.nil ?_
  refine KW.condD rfl (fun h => ?_) (fun h => ?_)
  · have e1 : s.take n = s := List.take_of_length_le (by omega)
    have e2 : s.drop n = [] := List.drop_of_length_le (by omega)
    refine KW.region ?_
    refine OW.val rfl rfl (EX.move rfl) ?_
    refine OW.val rfl rfl (EX.nilCheck rfl) ?_
    refine OW.val rfl rfl (EX.fieldAddr (off := 0) Try.underlying61 rfl rfl ti9 rfl rfl) ?_
    refine OW.val rfl rfl (EX.load Try.underlying9 rfl rfl (hb.cell_of rfl)) ?_
    refine OW.val rfl rfl (EX.lenS Try.underlying9 rfl) ?_
    refine OW.val rfl rfl (EX.assign rfl) ?_
    refine OW.nil ?_
    refine KW.seq (KW.region ?_)
    refine OW.val rfl rfl (EX.move rfl) ?_
    refine OW.val rfl rfl (EX.nilCheck rfl) ?_
    refine OW.val rfl rfl (EX.fieldAddr (off := 0) Try.underlying61 rfl rfl ti9 rfl rfl) ?_
    refine OW.val rfl rfl (EX.load Try.underlying9 rfl rfl (hb.cell_of rfl)) ?_
    refine OW.val rfl rfl (EX.move rfl) ?_
    refine OW.val rfl rfl (EX.sliceFH Try.underlying9 rfl rfl (by omega)) ?_
    refine OW.val rfl rfl (EX.assign rfl) ?_
    refine OW.nil ?_
    refine KW.seq (KW.region ?_)
    refine OW.val rfl rfl (EX.move rfl) ?_
    refine OW.val rfl rfl (EX.move rfl) ?_
    refine OW.val rfl rfl (EX.nilCheck rfl) ?_
    refine OW.val rfl rfl (EX.fieldAddr (off := 0) Try.underlying61 rfl rfl ti9 rfl rfl) ?_
    refine OW.val rfl rfl (EX.load Try.underlying9 rfl rfl (hb.cell_of rfl)) ?_
    refine OW.val rfl rfl (EX.move rfl) ?_
    refine OW.val rfl rfl (EX.sliceLE Try.underlying9 rfl rfl (by omega)) ?_
    refine OW.val rfl rfl (EX.nilCheck rfl) ?_
    refine OW.val rfl rfl (EX.fieldAddr (off := 0) Try.underlying61 rfl rfl ti9 rfl rfl) ?_
    refine OW.storeB rfl ti9 rfl rfl (by first | rfl | assumption | exact Own.one (by assumption)) (hb) (by simp) ?_
    rintro w2 hb2 hm2
    refine OW.nil ?_
    refine KW.seq (KW.region ?_)
    refine OW.val rfl rfl (EX.move rfl) ?_
    refine OW.val rfl rfl (EX.assign rfl) ?_
    refine OW.nil ?_
    refine KW.ret (ret1 rfl rfl ?_)
    rw [e1, e2]
    refine ⟨?_, ?_, hm2⟩
    · simp
    · simpa using hb2
  · refine KW.skip (KW.seq (KW.region ?_))
    refine OW.val rfl rfl (EX.move rfl) ?_
    refine OW.val rfl rfl (EX.nilCheck rfl) ?_
    refine OW.val rfl rfl (EX.fieldAddr (off := 0) Try.underlying61 rfl rfl ti9 rfl rfl) ?_
    refine OW.val rfl rfl (EX.load Try.underlying9 rfl rfl (hb.cell_of rfl)) ?_
    refine OW.val rfl rfl (EX.move rfl) ?_
    refine OW.val rfl rfl (EX.sliceFH Try.underlying9 rfl rfl (by omega)) ?_
    refine OW.val rfl rfl (EX.assign rfl) ?_
    refine OW.nil ?_
    refine KW.seq (KW.region ?_)
    refine OW.val rfl rfl (EX.move rfl) ?_
    refine OW.val rfl rfl (EX.move rfl) ?_
    refine OW.val rfl rfl (EX.nilCheck rfl) ?_
    refine OW.val rfl rfl (EX.fieldAddr (off := 0) Try.underlying61 rfl rfl ti9 rfl rfl) ?_
    refine OW.val rfl rfl (EX.load Try.underlying9 rfl rfl (hb.cell_of rfl)) ?_
    refine OW.val rfl rfl (EX.move rfl) ?_
    refine OW.val rfl rfl (EX.sliceLE Try.underlying9 rfl rfl (by omega)) ?_
    refine OW.val rfl rfl (EX.nilCheck rfl) ?_
    refine OW.val rfl rfl (EX.fieldAddr (off := 0) Try.underlying61 rfl rfl ti9 rfl rfl) ?_
    refine OW.storeB rfl ti9 rfl rfl (by first | rfl | assumption | exact Own.one (by assumption)) (hb) (by simp) ?_
    rintro w2 hb2 hm2
    refine OW.nil ?_
    refine KW.seq (KW.region ?_)
    refine OW.val rfl rfl (EX.move rfl) ?_
    refine OW.val rfl rfl (EX.assign rfl) ?_
    refine OW.nil ?_
    refine KW.ret (ret1 rfl rfl ?_)
    exact ⟨rfl, by simpa using hb2, hm2⟩
theorem wrap64 (n : Nat) (h : n < 18446744073709551616) : IntKind.i64.wrap (n : Int) = if n < 9223372036854775808 then (n : Int) else (n : Int) - 18446744073709551616 := by
  have e : IntKind.i64.wrap (n : Int) = if (n : Int) % 18446744073709551616 ≥ 9223372036854775808 then (n : Int) % 18446744073709551616 - 18446744073709551616 else (n : Int) % 18446744073709551616 := by
    unfold IntKind.wrap
    simp [IntKind.bits, IntKind.signed]
  rw [e, Int.emod_eq_of_lt (by omega) (by omega)]
  split <;> split <;> omega
theorem wrap_numI (s : List UInt8) (h : nb s < 18446744073709551616) : IntKind.i64.wrap (nb s : Int) = numI s := by rw [wrap64 _ h]; rfl
theorem ofInt_wrap (n : Nat) (h : n < 18446744073709551616) : (BitVec.ofInt 64 (IntKind.i64.wrap (n : Int))).toNat = n := by
  rw [wrap64 n h, BitVec.toNat_ofInt]
  split <;> omega
section
variable {P : Program} {n : Nat} {σ : Sig} {w : World} {x y : Operand} {t t' ty : TypeId}
theorem EX.shlZ {s p : Nat} {c : Int} {k k' : IntKind} (hx : ev σ x = some (.int k c)) (hy : ev σ y = some (.int k' (s : Int))) (hp : 2 ^ s = p) (hs : s ≤ k.bits) :
    EX P n σ (.binOp .shl t x y t') ty w (.int k (k.wrap (c * (p : Int)))) w :=
  EX.bin hx hy (by unfold eqGuard; rfl) (by
    subst hp
    have hn : ¬ (s : Int) < 0 := by omega
    simp [binOp, Op.shift, hn, Nat.min_eq_left hs])
theorem EX.orLow {a b : Nat} {c : Int} (hx : ev σ x = some (.int .i64 c)) (hc : c = IntKind.i64.wrap ((a * 256 : Nat) : Int)) (hy : ev σ y = some (.int .i64 (b : Int))) (hb : b < 256) (ha : a < 72057594037927936) (hor : a * 256 ||| b = a * 256 + b) :
    EX P n σ (.binOp .or t x y t') ty w (.int .i64 (IntKind.i64.wrap ((a * 256 + b : Nat) : Int))) w :=
  EX.binI hx hy (by
    have e3 : (binOp .or t (.int .i64 c) (.int .i64 (b : Int))).run P w = .ok (.int .i64 (IntKind.i64.wrap ((BitVec.ofInt 64 c ||| BitVec.ofInt 64 (b : Int)).toNat : Int))) w := rfl
    have hf : (BitVec.ofInt 64 (b : Int)).toNat = b := ofInt_fit (k := .i64) (by simp only [maxN]; omega)
    rw [e3, BitVec.toNat_or, hc, ofInt_wrap _ (by omega), hf, hor])
end
theorem or_low (m b : Nat) (h : b < 256) : m * 256 ||| b = m * 256 + b := by
  have := Nat.two_pow_add_eq_or_of_lt (i := 8) h m
  rw [Nat.mul_comm m 256]
  exact this.symm
theorem rnumber_s (s : List UInt8) (hs : s.length ≤ 8) (w : World) :
    Ret Try.prog 28 [str s] w fun v w' => v = .int .i64 (numI s) ∧ w = w' := by
  have hlt8 : nb s < 18446744073709551616 := Nat.lt_of_lt_of_le (nb_lt s.length s rfl) (Nat.pow_le_pow_right (by decide) hs)
  refine Ret.enter Try.func28 rfl Try.ntmps28 (by kernel_rfl) rfl ?_
  refine KW.seq (KW.region ?_)
  refine OW.val rfl rfl (EX.assign rfl) ?_
  refine OW.nil ?_
  refine KW.seq (KW.region ?_)
  refine OW.val rfl rfl (EX.assign rfl) ?_
  refine OW.nil ?_
  refine KW.seq (KW.seq (KW.region ?_))
  refine OW.val rfl rfl (EX.assign rfl) ?_
  refine OW.nil ?_
  refine KW.block ?_
  refine KW.loop2 (fun (i : Nat) (m : Nat) => i ≤ s.length ∧ m = nb (s.take i)) (fun (i : Nat) (m : Nat) => [(0, str (s)), (3, .int .u64 ((m : Nat) : Int)), (4, .int .i64 ((i : Nat) : Int))]) (fun (i : Nat) (m : Nat) => w) (fun (i : Nat) (m : Nat) => s.length - i) (0) (0) ⟨rfl, rfl, rfl, trivial⟩ rfl ?_ ?_
  · exact ⟨by omega, rfl⟩
  · rintro i m ⟨hi, hm⟩
    refine KW.seq (KW.seq (KW.region ?_))
    refine OW.val rfl rfl (EX.move rfl) ?_
    refine OW.val rfl rfl (EX.move rfl) ?_
    refine OW.val rfl rfl (EX.lenS Try.underlying9 rfl) ?_
    refine OW.val rfl rfl (by first | exact EX.lssN rfl rfl | exact EX.lssZ rfl rfl) ?_
    refine OW.nil ?_
    refine KW.condD rfl (fun hlt => ?_) (fun hlt => ?_)
    · have hm8 : m < 72057594037927936 := by
        rw [hm]
        exact Nat.lt_of_lt_of_le (nb_lt i _ (by simp; omega)) (Nat.pow_le_pow_right (by decide) (show i ≤ 7 by omega))
      have hc := (s[i]).toNat_lt
      refine KW.skip (KW.seq (KW.block (KW.region ?_)))
      refine OW.val rfl rfl (EX.move rfl) ?_
      refine OW.val rfl rfl (by first | exact EX.shlN (s := 8) (p := 256) (m := 18446744073709551615) rfl rfl (by decide) (by decide) rfl (by omega) | exact EX.shlW (s := 8) (p := 256) (m := 18446744073709551616) rfl rfl (by decide) (by decide) rfl (by decide)) ?_
      refine OW.val rfl rfl (EX.move rfl) ?_
      refine OW.val rfl rfl (EX.move rfl) ?_
      refine OW.val rfl rfl (EX.indexS Try.underlying9 rfl rfl (List.getElem?_eq_getElem (by omega))) ?_
      refine OW.val rfl rfl (by first | exact EX.convN (m := 18446744073709551615) Try.underlying5 Try.underlying56 rfl rfl (by omega) | exact EX.convW (m := 18446744073709551616) Try.underlying5 Try.underlying56 rfl rfl (by decide) | exact EX.convZ Try.underlying5 Try.underlying56 rfl) ?_
      refine OW.val rfl rfl (EX.orN (m := 18446744073709551615) rfl rfl rfl (by omega)) ?_
      refine OW.val rfl rfl (EX.assign rfl) ?_
      refine OW.nil ?_
      refine KW.leave (KW.region ?_)
      refine OW.val rfl rfl (EX.move rfl) ?_
      refine OW.val rfl rfl (by first | exact EX.addN (b := 1) (m := 9223372036854775807) rfl rfl rfl (by omega) | exact EX.addZ (m := 9223372036854775807) rfl rfl rfl rfl (by omega)) ?_
      refine OW.val rfl rfl (EX.assign rfl) ?_
      refine OW.nil ?_
      refine KW.back2 (i + 1) (m * 256 ||| s[i].toNat) ⟨rfl, rfl, rfl, trivial⟩ rfl ?_ (by omega)
      exact ⟨by omega, by rw [or_low _ _ (by omega), nb_take_succ s hlt, hm]⟩
    · obtain rfl : i = s.length := by omega
      rw [List.take_length] at hm
      refine KW.exit rfl (KW.seq (KW.region ?_))
      refine OW.val rfl rfl (EX.move rfl) ?_
      refine OW.val rfl rfl (by first | exact EX.convN (m := 9223372036854775807) Try.underlying56 Try.underlying3 rfl rfl (by omega) | exact EX.convZ Try.underlying56 Try.underlying3 rfl) ?_
      refine OW.val rfl rfl (EX.assign rfl) ?_
      refine OW.nil ?_
      refine KW.ret (ret1 rfl rfl ?_)
      refine ⟨?_, rfl⟩
      rw [hm, wrap_numI s hlt8]
set_option maxRecDepth 20000 in
theorem num_s (rb n : Nat) (s : List UInt8) (T : TypeId) (w : World) (hb : Bk w rb T [str s]) (hn : n ≤ 8) (hs : s.length ≤ 1000000000000) :
    Ret Try.prog 27 [.pointer (some ⟨rb, 0, none⟩), .int .i64 (n : Int)] w fun v w' => v = .int .i64 (numI (s.take n)) ∧ Bk w' rb T [str (s.drop n)] ∧ Mo w w' [rb] := by
  have htl : (s.take n).length ≤ 8 := by rw [List.length_take]; omega
  have hlt8 : nb (s.take n) < 18446744073709551616 := Nat.lt_of_lt_of_le (nb_lt _ _ rfl) (Nat.pow_le_pow_right (by decide) htl)
  refine Ret.enter Try.func27 rfl Try.ntmps27 (by kernel_rfl) rfl ?_
  refine KW.seq (KW.region ?_)
  refine OW.val rfl rfl (EX.assign rfl) ?_
  refine OW.nil ?_
  refine KW.seq (KW.region ?_)
  refine OW.val rfl rfl (EX.assign rfl) ?_
  refine OW.nil ?_
  refine KW.seq (KW.seq (KW.region ?_))
  refine OW.val rfl rfl (EX.move rfl) ?_
  refine OW.val rfl rfl (EX.nilCheck rfl) ?_
  refine OW.val rfl rfl (EX.fieldAddr (off := 0) Try.underlying63 rfl rfl ti61 rfl rfl) ?_
  refine OW.val rfl rfl (EX.move rfl) ?_
  refine OW.call rfl rfl rfl (take_s rb n s T w hb (by omega) hs) ?_
  rintro _ w1 ⟨rfl, hb1, hm1⟩
  generalize hq : s.take n = q at htl hlt8
  refine OW.bytesOf rfl rfl Try.underlying9 Try.underlying46 Try.underlying5 rfl (by omega) ?_
  rintro cap rs w2 hgb hc hmx hl hx2
  refine OW.val rfl rfl (EX.lenA Try.underlying46 rfl) ?_
  refine OW.val rfl rfl (EX.move rfl) ?_
  refine OW.nil ?_
  refine KW.block ?_
  refine KW.loop2 (fun (i : Nat) (z : Int) => i ≤ q.length ∧ z = IntKind.i64.wrap ((nb (q.take i) : Nat) : Int)) (fun (i : Nat) (z : Int) => [(5, .int .i64 (z : Int)), (13, .slice (some ⟨w1.heap.size, 0, none⟩) q.length cap), (14, .int .i64 ((q.length : Nat) : Int)), (15, .int .i64 ((i : Nat) : Int))]) (fun (i : Nat) (z : Int) => w2) (fun (i : Nat) (z : Int) => q.length - i) (0) (0) ⟨rfl, rfl, rfl, rfl, trivial⟩ rfl ?_ ?_
  · exact ⟨by omega, by simp [nb]; rfl⟩
  · rintro i z ⟨hi, hz⟩
    refine KW.seq (KW.region ?_)
    refine OW.val rfl rfl (by first | exact EX.lssN rfl rfl | exact EX.lssZ rfl rfl) ?_
    refine OW.nil ?_
    refine KW.seq ?_
    refine KW.condD rfl (fun hlt => ?_) (fun hlt => ?_)
    · have hm8 : nb (q.take i) < 72057594037927936 := Nat.lt_of_lt_of_le (nb_lt i _ (by simp; omega)) (Nat.pow_le_pow_right (by decide) (show i ≤ 7 by omega))
      have hcc := (q[i]).toNat_lt
      obtain rfl : z = ((nb (q.take i) : Nat) : Int) := by rw [hz, wrap64 _ (by omega), if_pos (by omega)]
      have hel : (bytesV q ++ rs)[i]? = some (.int .u8 ((q[i].toNat : Nat) : Int)) := by
        rw [List.getElem?_append_left (by simpa [bytesV] using hlt)]
        simp [bytesV, hlt]
      refine KW.skip (KW.seq (KW.block (KW.seq (KW.region ?_))))
      refine OW.val rfl rfl (by first | exact EX.indexAddrS0 Try.underlying46 ti5 rfl rfl (by omega) | exact EX.indexAddrS1 Try.underlying46 ti5 rfl rfl (by omega)) ?_
      refine OW.val rfl rfl (EX.load Try.underlying5 rfl rfl (hgb.cell_of hel)) ?_
      refine OW.val rfl rfl (EX.assign rfl) ?_
      refine OW.nil ?_
      refine KW.region ?_
      refine OW.val rfl rfl (EX.move rfl) ?_
      refine OW.val rfl rfl (EX.shlZ (s := 8) (p := 256) rfl rfl rfl (by decide)) ?_
      refine OW.val rfl rfl (EX.move rfl) ?_
      refine OW.val rfl rfl (by first | exact EX.convN (m := 9223372036854775807) Try.underlying5 Try.underlying3 rfl rfl (by omega) | exact EX.convZ Try.underlying5 Try.underlying3 rfl) ?_
      refine OW.val rfl rfl (EX.orLow (a := nb (q.take i)) rfl (by simp) rfl (by omega) hm8 (or_low _ _ (by omega))) ?_
      refine OW.val rfl rfl (EX.assign rfl) ?_
      refine OW.nil ?_
      refine KW.leave (KW.region ?_)
      refine OW.val rfl rfl (by first | exact EX.addN (b := 1) (m := 9223372036854775807) rfl rfl rfl (by omega) | exact EX.addZ (m := 9223372036854775807) rfl rfl rfl rfl (by omega)) ?_
      refine OW.val rfl rfl (EX.move rfl) ?_
      refine OW.nil ?_
      refine KW.back2 (i + 1) (IntKind.i64.wrap ((nb (q.take i) * 256 + q[i].toNat : Nat) : Int)) ⟨rfl, rfl, rfl, rfl, trivial⟩ rfl ?_ (by omega)
      exact ⟨by omega, by rw [nb_take_succ q hlt]⟩
    · obtain rfl : i = q.length := by omega
      rw [List.take_length] at hz
      refine KW.exit rfl (KW.seq (KW.region ?_))
      refine OW.val rfl rfl (EX.move rfl) ?_
      refine OW.val rfl rfl (EX.assign rfl) ?_
      refine OW.nil ?_
      refine KW.ret (ret1 rfl rfl ?_)
      refine ⟨by rw [hz, wrap_numI _ hlt8], hb1.ext hx2, hm1.trans (Mo.of_ext hx2 _)⟩
end Go.Proofs.Ytfjaiokhpbddlaa
