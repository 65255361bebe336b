/-
  record: records are read, by the program and by the document.
-/
import Derived.Test.YtfjaiokhpbddlaaRecB
import Derived.Test.YtfjaiokhpbddlaaKe
namespace Go.Proofs.Ytfjaiokhpbddlaa
open Go.RowKit Rec
set_option linter.unusedVariables false
set_option linter.unusedSimpArgs false

def _root_.Go.Proofs.Ytfjaiokhpbddlaa.Rec.R.cells (x : R) : List Value := [.int .u8 (x.kind : Int), .int .i64 x.gen, .int .i64 x.index, str x.data]
theorem numI_small (s : List UInt8) (h : s.length ≤ 4) : numI s = (nb s : Int) := by
  have h1 : nb s < 256 ^ 4 := Nat.lt_of_lt_of_le (nb_lt _ s rfl) (Nat.pow_le_pow_right (by decide) h)
  unfold numI
  rw [if_pos (by omega)]
theorem dec_none {s : List UInt8} (h : ¬ (s.length = 512 ∧ nb ((s.drop 17).take 2) ≤ 486 ∧ encodeR (decR s).kind (decR s).gen (decR s).index (decR s).data = (s, 0))) : decodeR s = (R0, 200) := by
  unfold decodeR
  rw [if_neg h]
theorem dec_some {s : List UInt8} (h : s.length = 512 ∧ nb ((s.drop 17).take 2) ≤ 486 ∧ encodeR (decR s).kind (decR s).gen (decR s).index (decR s).data = (s, 0)) : decodeR s = (decR s, 0) := by
  unfold decodeR
  rw [if_pos h]
theorem enc_magic {k : Nat} {g i : Int} {d s : List UInt8} (h : encodeR k g i d = (s, 0)) : s.take 4 = [75, 73, 83, 84] := by
  unfold encodeR at h
  split at h
  · simp at h
  · simp only [Prod.mk.injEq, and_true] at h
    rw [← h]
    rfl
set_option maxRecDepth 20000 in
theorem decode_s (s : List UInt8) (w : World) :
    Ret Try.prog 12 [str s] w fun v w' => v = .tuple #[.agg (decodeR s).1.cells.toArray, .int .i64 (((decodeR s).2 : Nat) : Int)] ∧ Ext w w' := by
  refine Ret.enter Try.func12 rfl Try.ntmps12 (by kernel_rfl) rfl ?_
  refine KW.seq (KW.region ?_)
  refine OW.allocB (l := [.int .u8 0, .int .i64 0, .int .i64 0, str []]) rfl rfl ti31 rfl ?_
  rintro cb w1 hge1 hc1 hx1
  refine OW.val rfl rfl (EX.assign rfl) ?_
  refine OW.nil ?_
  refine KW.seq (KW.seq (KW.region ?_))
  refine OW.val rfl rfl (EX.move rfl) ?_
  refine OW.val rfl rfl (EX.lenS Try.underlying9 rfl) ?_
  refine OW.val rfl rfl (by first | exact EX.neqN (b := 512) rfl rfl | exact EX.neqZ rfl rfl) ?_
  refine OW.nil ?_
  refine KW.condD rfl (fun a1 => ?_) (fun a1 => ?_)
  · have e := dec_none (s := s) (fun h => a1 (by omega))
    refine KW.seq (KW.region ?_)
    refine OW.val rfl rfl (EX.buildS (pl := [(0, 1), (1, 1), (2, 1), (3, 1)]) (ks := []) (is := []) (zs := [.int .u8 0, .int .i64 0, .int .i64 0, str []]) Try.underlying31 ti31 (by kernel_rfl) rfl rfl rfl (by first | rfl | (simp only [List.all_cons, List.all_nil, Bool.and_true, Bool.true_and, Bool.and_eq_true, Value.oneCell']; repeat (first | assumption | exact Own.one (by assumption) | constructor))) (by simp only [setAll, List.set_cons_zero, List.set_cons_succ]; rfl)) ?_
    refine OW.storeS rfl ti31 rfl rfl rfl (by first | rfl | (simp only [List.all_cons, List.all_nil, Bool.and_true, Bool.true_and, Bool.and_eq_true, Value.oneCell']; repeat (first | assumption | exact Own.one (by assumption) | constructor))) (hc1) (by simp) ?_
    rintro w2 hb2 hm2
    refine OW.val rfl rfl (EX.assign rfl) ?_
    refine OW.nil ?_
    refine KW.ret (retC2 rfl Try.underlying31 rfl ti31 rfl rfl (hb2) rfl ?_)
    rw [e]
    exact ⟨rfl, below_mo hx1 hm2 hx1.size (fun k hk => by simp at hk; omega)⟩
  · have hl : s.length = 512 := by omega
    refine KW.skip (KW.seq (KW.region ?_))
    refine OW.val rfl rfl (EX.move rfl) ?_
    refine OW.val rfl rfl (EX.buildS (pl := [(0, 1)]) (ks := [0]) (is := [0]) (zs := [str []]) Try.underlying61 ti61 (by kernel_rfl) rfl rfl rfl (by first | rfl | (simp only [List.all_cons, List.all_nil, Bool.and_true, Bool.true_and, Bool.and_eq_true, Value.oneCell']; repeat (first | assumption | exact Own.one (by assumption) | constructor))) (by simp only [setAll, List.set_cons_zero, List.set_cons_succ]; rfl)) ?_
    refine OW.val rfl rfl (EX.buildG (pl := [(0, 1)]) (ks := [0]) (zs := [str []]) Try.underlying63 ti63 (by kernel_rfl) rfl rfl rfl) ?_
    refine OW.boxS rfl rfl rfl ?_
    rintro rb w3 hge3 hr3 hx3
    refine OW.val rfl rfl (EX.assign rfl) ?_
    refine OW.nil ?_
    refine KW.seq (KW.region ?_)
    refine OW.val rfl rfl (EX.move rfl) ?_
    refine OW.val rfl rfl (EX.nilCheck rfl) ?_
    refine OW.val rfl rfl (EX.fieldAddr (off := 0) Try.underlying63 rfl rfl ti61 rfl rfl) ?_
    have hc3 := hc1.ext hx3
    have x3 := hx1.trans hx3
    have hrw : w.heap.size ≤ rb := by have := hx1.size; omega
    refine OW.call rfl rfl rfl (take_s rb 4 s _ w3 hr3 (by omega) (by omega)) ?_
    rintro _ w4 ⟨rfl, hr4, hm4⟩
    refine OW.val rfl rfl (EX.assign rfl) ?_
    refine OW.nil ?_
    refine KW.seq ?_
    have hc4 := hc3.mo hm4 (by simp; exact hc3.ne hr3 (by decide))
    have x4 : Ext w w4 := below_mo x3 hm4 x3.size (fun k hk => by simp at hk; omega)
    have k4 : ((s.drop 4).take 1)[0]? = some (s.getD 4 0) := by simp [List.getElem?_drop, List.getD, hl]
    have d5 : (s.drop 4).drop 1 = s.drop 5 := by rw [List.drop_drop]
    have d13 : (s.drop 5).drop 8 = s.drop 13 := by rw [List.drop_drop]
    have d17 : (s.drop 13).drop 4 = s.drop 17 := by rw [List.drop_drop]
    have d19 : (s.drop 17).drop 2 = s.drop 19 := by rw [List.drop_drop]
    have ln : ∀ j, (s.drop j).length ≤ 1000000000000 := fun j => by rw [List.length_drop]; omega
    refine KW.cut2 (fun (xb : Nat) (wr : World) => Ext w wr ∧ w.heap.size ≤ xb ∧ Bk wr rb 63 [str (s.drop 17)] ∧ Bk wr cb 31 R0.cells ∧ Bk wr xb 31 [.int .u8 (((s.getD 4 0).toNat : Nat) : Int), .int .i64 (numI ((s.drop 5).take 8)), .int .i64 (numI ((s.drop 13).take 4)), str []] ∧ xb ≠ cb) (fun (xb : Nat) (wr : World) => [(0, str (s)), (2, .pointer (some ⟨cb, 0, none⟩)), (4, .pointer (some ⟨rb, 0, none⟩)), (5, str ((s.take 4))), (6, .pointer (some ⟨xb, 0, none⟩))]) (fun (xb : Nat) (wr : World) => wr) ?_ ?_
    · skip
      refine KW.regionG (N := 12) (fun w' => Ext w w') (by kernel_rfl) rfl ?_
      have hS : (fun w' => Ext w w') w4.drew := x4.trans (Ext.drew w4)
      have hr4 := hr4.ext (Ext.drew _)
      have hc4 := hc4.ext (Ext.drew _)
      refine GW.val 0 rfl (by kernel_rfl) (by kernel_rfl) (by kernel_rfl) rfl rfl hS (fun w' hS' => EX.move rfl) ?_
      refine GW.val 1 rfl (by kernel_rfl) (by kernel_rfl) (by kernel_rfl) rfl rfl hS (fun w' hS' => EX.nilCheck rfl) ?_
      refine GW.val 2 rfl (by kernel_rfl) (by kernel_rfl) (by kernel_rfl) rfl rfl hS (fun w' hS' => EX.fieldAddr (off := 0) Try.underlying63 rfl rfl ti61 rfl rfl) ?_
      refine GW.val 5 rfl (by kernel_rfl) (by kernel_rfl) (by kernel_rfl) rfl rfl hS (fun w' hS' => EX.move rfl) ?_
      refine GW.val 7 rfl (by kernel_rfl) (by kernel_rfl) (by kernel_rfl) rfl rfl hS (fun w' hS' => EX.move rfl) ?_
      refine GW.two 3 10 (by kernel_rfl) ?_ ?_
      · refine GO.call 3 rfl rfl rfl rfl (take_s rb 1 (s.drop 4) _ w4.drew hr4 (by omega) (ln 4)) ?_
        rintro _ w3 ⟨rfl, hb3, hm3⟩
        have hc4 := hc4.mo hm3 (by simp; exact hc4.ne hr4 (by decide))
        refine ⟨below_mo hS hm3 hS.size (fun k hk => by simp at hk; omega), fun hS => ?_⟩
        rw [d5] at hb3
        refine GW.val 4 rfl (by kernel_rfl) (by kernel_rfl) (by kernel_rfl) rfl rfl hS (fun w' hS' => EX.indexS (i := 0) Try.underlying9 rfl rfl k4) ?_
        refine GW.two 6 10 (by kernel_rfl) ?_ ?_
        · refine GO.call 6 rfl rfl rfl rfl (num_s rb 8 (s.drop 5) _ w3 hb3 (by omega) (ln 5)) ?_
          rintro _ w6 ⟨rfl, hb6, hm6⟩
          have hc4 := hc4.mo hm6 (by simp; exact hc4.ne hb3 (by decide))
          refine ⟨below_mo hS hm6 hS.size (fun k hk => by simp at hk; omega), fun hS => ?_⟩
          rw [d13] at hb6
          refine GW.two 8 10 (by kernel_rfl) ?_ ?_
          · refine GO.call 8 rfl rfl rfl rfl (num_s rb 4 (s.drop 13) _ w6 hb6 (by omega) (ln 13)) ?_
            rintro _ w8 ⟨rfl, hb8, hm8⟩
            have hc4 := hc4.mo hm8 (by simp; exact hc4.ne hb6 (by decide))
            refine ⟨below_mo hS hm8 hS.size (fun k hk => by simp at hk; omega), fun hS => ?_⟩
            rw [d17] at hb8
            refine GW.val 9 rfl (by kernel_rfl) (by kernel_rfl) (by kernel_rfl) rfl rfl hS (fun w' hS' => EX.buildS (pl := [(0, 1), (1, 1), (2, 1), (3, 1)]) (ks := [0, 1, 2]) (is := [0, 1, 2]) (zs := [.int .u8 0, .int .i64 0, .int .i64 0, str []]) Try.underlying31 ti31 (by kernel_rfl) rfl rfl rfl (by first | rfl | (simp only [List.all_cons, List.all_nil, Bool.and_true, Bool.true_and, Bool.and_eq_true, Value.oneCell']; repeat (first | assumption | exact Own.one (by assumption) | constructor))) (by simp only [setAll, List.set_cons_zero, List.set_cons_succ]; rfl)) ?_
            refine GW.allocB (l := [.int .u8 0, .int .i64 0, .int .i64 0, str []]) 10 rfl (by kernel_rfl) rfl rfl ti31 rfl ?_
            rintro xb w10 hge10 h10 hx10
            have hne : xb ≠ cb := fun q => (by have := hc4.lt; omega)
            have hxge : w.heap.size ≤ xb := (by have := hS.size; omega)
            refine ⟨hS.trans hx10, fun hS => ?_⟩
            have hc4 := hc4.ext hx10
            have hb8 := hb8.ext hx10
            refine GW.storeS 11 rfl (by kernel_rfl) rfl ti31 rfl rfl rfl (by first | rfl | (simp only [List.all_cons, List.all_nil, Bool.and_true, Bool.true_and, Bool.and_eq_true, Value.oneCell']; repeat (first | assumption | constructor))) (h10) (by simp) ?_
            rintro w11 hb11 hm11
            refine ⟨below_mo hS hm11 hS.size (fun k hk => by simp at hk; omega), fun hS => ?_⟩
            have hc4 := hc4.mo hm11 (by simp; exact Ne.symm hne)
            have hr11 := hb8.mo hm11 (by simp; exact hb8.ne h10 (by decide))
            refine GW.done (by kernel_rfl) ?_
            refine KW.meet2 xb w11 ⟨rfl, rfl, rfl, rfl, rfl, trivial⟩ rfl ?_
            exact ⟨hS, hxge, hr11, hc4, hb11, hne⟩
          · refine GO.allocB (l := [.int .u8 0, .int .i64 0, .int .i64 0, str []]) 10 rfl rfl rfl ti31 rfl ?_
            rintro xb w10 hge10 h10 hx10
            have hne : xb ≠ cb := fun q => (by have := hc4.lt; omega)
            have hxge : w.heap.size ≤ xb := (by have := hS.size; omega)
            refine ⟨hS.trans hx10, fun hS => ?_⟩
            have hc4 := hc4.ext hx10
            have hb6 := hb6.ext hx10
            refine GW.call 8 rfl (by kernel_rfl) rfl rfl rfl (num_s rb 4 (s.drop 13) _ w10 hb6 (by omega) (ln 13)) ?_
            rintro _ w8 ⟨rfl, hb8, hm8⟩
            have hc4 := hc4.mo hm8 (by simp; exact hc4.ne hb6 (by decide))
            have h10 := h10.mo hm8 (by simp; exact h10.ne hb6 (by decide))
            refine ⟨below_mo hS hm8 hS.size (fun k hk => by simp at hk; omega), fun hS => ?_⟩
            rw [d17] at hb8
            refine GW.val 9 rfl (by kernel_rfl) (by kernel_rfl) (by kernel_rfl) rfl rfl hS (fun w' hS' => EX.buildS (pl := [(0, 1), (1, 1), (2, 1), (3, 1)]) (ks := [0, 1, 2]) (is := [0, 1, 2]) (zs := [.int .u8 0, .int .i64 0, .int .i64 0, str []]) Try.underlying31 ti31 (by kernel_rfl) rfl rfl rfl (by first | rfl | (simp only [List.all_cons, List.all_nil, Bool.and_true, Bool.true_and, Bool.and_eq_true, Value.oneCell']; repeat (first | assumption | exact Own.one (by assumption) | constructor))) (by simp only [setAll, List.set_cons_zero, List.set_cons_succ]; rfl)) ?_
            refine GW.storeS 11 rfl (by kernel_rfl) rfl ti31 rfl rfl rfl (by first | rfl | (simp only [List.all_cons, List.all_nil, Bool.and_true, Bool.true_and, Bool.and_eq_true, Value.oneCell']; repeat (first | assumption | constructor))) (h10) (by simp) ?_
            rintro w11 hb11 hm11
            refine ⟨below_mo hS hm11 hS.size (fun k hk => by simp at hk; omega), fun hS => ?_⟩
            have hc4 := hc4.mo hm11 (by simp; exact Ne.symm hne)
            have hr11 := hb8.mo hm11 (by simp; exact hb8.ne h10 (by decide))
            refine GW.done (by kernel_rfl) ?_
            refine KW.meet2 xb w11 ⟨rfl, rfl, rfl, rfl, rfl, trivial⟩ rfl ?_
            exact ⟨hS, hxge, hr11, hc4, hb11, hne⟩
        · refine GO.allocB (l := [.int .u8 0, .int .i64 0, .int .i64 0, str []]) 10 rfl rfl rfl ti31 rfl ?_
          rintro xb w10 hge10 h10 hx10
          have hne : xb ≠ cb := fun q => (by have := hc4.lt; omega)
          have hxge : w.heap.size ≤ xb := (by have := hS.size; omega)
          refine ⟨hS.trans hx10, fun hS => ?_⟩
          have hc4 := hc4.ext hx10
          have hb3 := hb3.ext hx10
          refine GW.call 6 rfl (by kernel_rfl) rfl rfl rfl (num_s rb 8 (s.drop 5) _ w10 hb3 (by omega) (ln 5)) ?_
          rintro _ w6 ⟨rfl, hb6, hm6⟩
          have hc4 := hc4.mo hm6 (by simp; exact hc4.ne hb3 (by decide))
          have h10 := h10.mo hm6 (by simp; exact h10.ne hb3 (by decide))
          refine ⟨below_mo hS hm6 hS.size (fun k hk => by simp at hk; omega), fun hS => ?_⟩
          rw [d13] at hb6
          refine GW.call 8 rfl (by kernel_rfl) rfl rfl rfl (num_s rb 4 (s.drop 13) _ w6 hb6 (by omega) (ln 13)) ?_
          rintro _ w8 ⟨rfl, hb8, hm8⟩
          have hc4 := hc4.mo hm8 (by simp; exact hc4.ne hb6 (by decide))
          have h10 := h10.mo hm8 (by simp; exact h10.ne hb6 (by decide))
          refine ⟨below_mo hS hm8 hS.size (fun k hk => by simp at hk; omega), fun hS => ?_⟩
          rw [d17] at hb8
          refine GW.val 9 rfl (by kernel_rfl) (by kernel_rfl) (by kernel_rfl) rfl rfl hS (fun w' hS' => EX.buildS (pl := [(0, 1), (1, 1), (2, 1), (3, 1)]) (ks := [0, 1, 2]) (is := [0, 1, 2]) (zs := [.int .u8 0, .int .i64 0, .int .i64 0, str []]) Try.underlying31 ti31 (by kernel_rfl) rfl rfl rfl (by first | rfl | (simp only [List.all_cons, List.all_nil, Bool.and_true, Bool.true_and, Bool.and_eq_true, Value.oneCell']; repeat (first | assumption | exact Own.one (by assumption) | constructor))) (by simp only [setAll, List.set_cons_zero, List.set_cons_succ]; rfl)) ?_
          refine GW.storeS 11 rfl (by kernel_rfl) rfl ti31 rfl rfl rfl (by first | rfl | (simp only [List.all_cons, List.all_nil, Bool.and_true, Bool.true_and, Bool.and_eq_true, Value.oneCell']; repeat (first | assumption | constructor))) (h10) (by simp) ?_
          rintro w11 hb11 hm11
          refine ⟨below_mo hS hm11 hS.size (fun k hk => by simp at hk; omega), fun hS => ?_⟩
          have hc4 := hc4.mo hm11 (by simp; exact Ne.symm hne)
          have hr11 := hb8.mo hm11 (by simp; exact hb8.ne h10 (by decide))
          refine GW.done (by kernel_rfl) ?_
          refine KW.meet2 xb w11 ⟨rfl, rfl, rfl, rfl, rfl, trivial⟩ rfl ?_
          exact ⟨hS, hxge, hr11, hc4, hb11, hne⟩
      · refine GO.allocB (l := [.int .u8 0, .int .i64 0, .int .i64 0, str []]) 10 rfl rfl rfl ti31 rfl ?_
        rintro xb w10 hge10 h10 hx10
        have hne : xb ≠ cb := fun q => (by have := hc4.lt; omega)
        have hxge : w.heap.size ≤ xb := (by have := hS.size; omega)
        refine ⟨hS.trans hx10, fun hS => ?_⟩
        have hc4 := hc4.ext hx10
        have hr4 := hr4.ext hx10
        refine GW.call 3 rfl (by kernel_rfl) rfl rfl rfl (take_s rb 1 (s.drop 4) _ w10 hr4 (by omega) (ln 4)) ?_
        rintro _ w3 ⟨rfl, hb3, hm3⟩
        have hc4 := hc4.mo hm3 (by simp; exact hc4.ne hr4 (by decide))
        have h10 := h10.mo hm3 (by simp; exact h10.ne hr4 (by decide))
        refine ⟨below_mo hS hm3 hS.size (fun k hk => by simp at hk; omega), fun hS => ?_⟩
        rw [d5] at hb3
        refine GW.val 4 rfl (by kernel_rfl) (by kernel_rfl) (by kernel_rfl) rfl rfl hS (fun w' hS' => EX.indexS (i := 0) Try.underlying9 rfl rfl k4) ?_
        refine GW.call 6 rfl (by kernel_rfl) rfl rfl rfl (num_s rb 8 (s.drop 5) _ w3 hb3 (by omega) (ln 5)) ?_
        rintro _ w6 ⟨rfl, hb6, hm6⟩
        have hc4 := hc4.mo hm6 (by simp; exact hc4.ne hb3 (by decide))
        have h10 := h10.mo hm6 (by simp; exact h10.ne hb3 (by decide))
        refine ⟨below_mo hS hm6 hS.size (fun k hk => by simp at hk; omega), fun hS => ?_⟩
        rw [d13] at hb6
        refine GW.call 8 rfl (by kernel_rfl) rfl rfl rfl (num_s rb 4 (s.drop 13) _ w6 hb6 (by omega) (ln 13)) ?_
        rintro _ w8 ⟨rfl, hb8, hm8⟩
        have hc4 := hc4.mo hm8 (by simp; exact hc4.ne hb6 (by decide))
        have h10 := h10.mo hm8 (by simp; exact h10.ne hb6 (by decide))
        refine ⟨below_mo hS hm8 hS.size (fun k hk => by simp at hk; omega), fun hS => ?_⟩
        rw [d17] at hb8
        refine GW.val 9 rfl (by kernel_rfl) (by kernel_rfl) (by kernel_rfl) rfl rfl hS (fun w' hS' => EX.buildS (pl := [(0, 1), (1, 1), (2, 1), (3, 1)]) (ks := [0, 1, 2]) (is := [0, 1, 2]) (zs := [.int .u8 0, .int .i64 0, .int .i64 0, str []]) Try.underlying31 ti31 (by kernel_rfl) rfl rfl rfl (by first | rfl | (simp only [List.all_cons, List.all_nil, Bool.and_true, Bool.true_and, Bool.and_eq_true, Value.oneCell']; repeat (first | assumption | exact Own.one (by assumption) | constructor))) (by simp only [setAll, List.set_cons_zero, List.set_cons_succ]; rfl)) ?_
        refine GW.storeS 11 rfl (by kernel_rfl) rfl ti31 rfl rfl rfl (by first | rfl | (simp only [List.all_cons, List.all_nil, Bool.and_true, Bool.true_and, Bool.and_eq_true, Value.oneCell']; repeat (first | assumption | constructor))) (h10) (by simp) ?_
        rintro w11 hb11 hm11
        refine ⟨below_mo hS hm11 hS.size (fun k hk => by simp at hk; omega), fun hS => ?_⟩
        have hc4 := hc4.mo hm11 (by simp; exact Ne.symm hne)
        have hr11 := hb8.mo hm11 (by simp; exact hb8.ne h10 (by decide))
        refine GW.done (by kernel_rfl) ?_
        refine KW.meet2 xb w11 ⟨rfl, rfl, rfl, rfl, rfl, trivial⟩ rfl ?_
        exact ⟨hS, hxge, hr11, hc4, hb11, hne⟩
    · rintro xb wr ⟨x5, hxge, hr5, hc5, hb5, hne⟩
      have hn4 : numI ((s.drop 17).take 2) = ((nb ((s.drop 17).take 2) : Nat) : Int) := numI_small _ (by rw [List.length_take]; omega)
      have hlast := ln 19
      refine KW.seq (KW.region ?_)
      refine OW.val rfl rfl (EX.move rfl) ?_
      refine OW.call rfl rfl rfl (num_s rb 2 (s.drop 17) _ wr hr5 (by omega) (ln 17)) ?_
      rintro _ w6 ⟨rfl, hr6, hm6⟩
      refine OW.val rfl rfl (EX.assign rfl) ?_
      refine OW.nil ?_
      refine KW.seq (KW.seq ?_)
      rw [d19] at hr6
      rw [hn4]
      have hc6 := hc5.mo hm6 (by simp; exact hc5.ne hr5 (by decide))
      have hb6 := hb5.mo hm6 (by simp; exact hb5.ne hr5 (by decide))
      have x6 : Ext w w6 := below_mo x5 hm6 x5.size (fun k hk => by simp at hk; omega)
      generalize hn : nb ((s.drop 17).take 2) = n
      have refuse : ¬ (s.length = 512 ∧ n ≤ 486 ∧ encodeR (decR s).kind (decR s).gen (decR s).index (decR s).data = (s, 0)) → ∀ w7, Bk w7 cb 31 R0.cells → Ext w w7 → (Value.tuple #[.agg R0.cells.toArray, .int .i64 ((200 : Nat) : Int)] = Value.tuple #[.agg (decodeR s).1.cells.toArray, .int .i64 (((decodeR s).2 : Nat) : Int)] ∧ Ext w w7) := fun h w7 _ hx => by
        rw [dec_none (by rw [hn]; exact h)]
        exact ⟨rfl, hx⟩
      have hset : ∀ w7 w8, Ext w w7 → Mo w7 w8 [cb] → Ext w w8 := fun w7 w8 h1 h2 => below_mo h1 h2 h1.size (fun k hk => by simp at hk; omega)
      refine KW.region ?_
      refine OW.val rfl rfl (EX.move rfl) ?_
      refine OW.val rfl rfl (EX.neqS (r := [75, 73, 83, 84]) rfl rfl) ?_
      refine OW.val rfl rfl (EX.move rfl) ?_
      refine OW.splitD 36 rfl (fun b1 => ?_) (fun b1 => ?_)
      · refine OW.pass rfl rfl ?_
        refine OW.pass rfl rfl ?_
        refine OW.val rfl rfl (EX.pickT rfl rfl) ?_
        refine OW.nil ?_
        refine KW.condT rfl (KW.seq (KW.region ?_))
        refine OW.val rfl rfl (EX.buildS (pl := [(0, 1), (1, 1), (2, 1), (3, 1)]) (ks := []) (is := []) (zs := [.int .u8 0, .int .i64 0, .int .i64 0, str []]) Try.underlying31 ti31 (by kernel_rfl) rfl rfl rfl (by first | rfl | (simp only [List.all_cons, List.all_nil, Bool.and_true, Bool.true_and, Bool.and_eq_true, Value.oneCell']; repeat (first | assumption | exact Own.one (by assumption) | constructor))) (by simp only [setAll, List.set_cons_zero, List.set_cons_succ]; rfl)) ?_
        refine OW.storeS rfl ti31 rfl rfl rfl (by first | rfl | (simp only [List.all_cons, List.all_nil, Bool.and_true, Bool.true_and, Bool.and_eq_true, Value.oneCell']; repeat (first | assumption | exact Own.one (by assumption) | constructor))) (hc6) (by decide) ?_
        rintro w7 hb7 hm7
        refine OW.val rfl rfl (EX.assign rfl) ?_
        refine OW.nil ?_
        refine KW.ret (retC2 rfl Try.underlying31 rfl ti31 rfl rfl (hb7) rfl ?_)
        exact refuse (fun h => b1 (enc_magic h.2.2)) _ hb7 (hset _ _ x6 hm7)
      · refine OW.val rfl rfl (EX.move rfl) ?_
        refine OW.val rfl rfl (by first | exact EX.gtrN (b := 486) rfl rfl | exact EX.gtrZ rfl rfl) ?_
        refine OW.val rfl rfl (EX.pickF rfl rfl) ?_
        refine OW.nil ?_
        refine KW.condD rfl (fun b2 => ?_) (fun b2 => ?_)
        · refine KW.seq (KW.region ?_)
          refine OW.val rfl rfl (EX.buildS (pl := [(0, 1), (1, 1), (2, 1), (3, 1)]) (ks := []) (is := []) (zs := [.int .u8 0, .int .i64 0, .int .i64 0, str []]) Try.underlying31 ti31 (by kernel_rfl) rfl rfl rfl (by first | rfl | (simp only [List.all_cons, List.all_nil, Bool.and_true, Bool.true_and, Bool.and_eq_true, Value.oneCell']; repeat (first | assumption | exact Own.one (by assumption) | constructor))) (by simp only [setAll, List.set_cons_zero, List.set_cons_succ]; rfl)) ?_
          refine OW.storeS rfl ti31 rfl rfl rfl (by first | rfl | (simp only [List.all_cons, List.all_nil, Bool.and_true, Bool.true_and, Bool.and_eq_true, Value.oneCell']; repeat (first | assumption | exact Own.one (by assumption) | constructor))) (hc6) (by decide) ?_
          rintro w7 hb7 hm7
          refine OW.val rfl rfl (EX.assign rfl) ?_
          refine OW.nil ?_
          refine KW.ret (retC2 rfl Try.underlying31 rfl ti31 rfl rfl (hb7) rfl ?_)
          exact refuse (fun h => by omega) _ hb7 (hset _ _ x6 hm7)
        · refine KW.skip (KW.seq (KW.region ?_))
          refine OW.val rfl rfl (EX.move rfl) ?_
          refine OW.val rfl rfl (EX.nilCheck rfl) ?_
          refine OW.val rfl rfl (EX.fieldAddr (off := 0) Try.underlying63 rfl rfl ti61 rfl rfl) ?_
          refine OW.val rfl rfl (EX.move rfl) ?_
          refine OW.call rfl rfl rfl (take_s rb n (s.drop 19) _ w6 hr6 (by omega) (ln 19)) ?_
          rintro _ w7 ⟨rfl, hr7, hm7⟩
          refine OW.val rfl rfl (EX.fieldAddr (off := 3) Try.underlying31 rfl rfl ti9 rfl rfl) ?_
          have hc7 := hc6.mo hm7 (by simp; exact hc6.ne hr6 (by decide))
          have hb7 := hb6.mo hm7 (by simp; exact hb6.ne hr6 (by decide))
          have x7 : Ext w w7 := below_mo x6 hm7 x6.size (fun k hk => by simp at hk; omega)
          refine OW.storeB rfl ti9 rfl rfl (by first | rfl | assumption | exact Own.one (by assumption)) (hb7) (by simp) ?_
          rintro w8 hb8 hm8
          refine OW.nil ?_
          refine KW.seq (KW.seq (KW.region ?_))
          refine OW.val rfl rfl (EX.fieldAddr (off := 0) Try.underlying31 rfl rfl ti5 rfl rfl) ?_
          have hc8 := hc7.mo hm8 (by simp; exact Ne.symm hne)
          have x8 : Ext w w8 := below_mo x7 hm8 x7.size (fun k hk => by simp at hk; omega)
          have hdec : decR s = ⟨(s.getD 4 0).toNat, numI ((s.drop 5).take 8), numI ((s.drop 13).take 4), (s.drop 19).take n⟩ := by unfold decR; rw [hn]
          replace hb8 : Bk w8 xb 31 (decR s).cells := by rw [hdec]; exact hb8
          refine OW.val rfl rfl (EX.load Try.underlying5 rfl rfl (hb8.cell_of rfl)) ?_
          refine OW.val rfl rfl (EX.fieldAddr (off := 1) Try.underlying31 rfl rfl ti3 rfl rfl) ?_
          refine OW.val rfl rfl (EX.load Try.underlying3 rfl rfl (hb8.cell_of rfl)) ?_
          refine OW.val rfl rfl (EX.fieldAddr (off := 2) Try.underlying31 rfl rfl ti3 rfl rfl) ?_
          refine OW.val rfl rfl (EX.load Try.underlying3 rfl rfl (hb8.cell_of rfl)) ?_
          refine OW.val rfl rfl (EX.fieldAddr (off := 3) Try.underlying31 rfl rfl ti9 rfl rfl) ?_
          refine OW.val rfl rfl (EX.load Try.underlying9 rfl rfl (hb8.cell_of rfl)) ?_
          have hk : (decR s).kind ≤ 255 := by rw [hdec]; have := (s.getD 4 0).toNat_lt; show (s.getD 4 0).toNat ≤ 255; omega
          have hdl : (decR s).data.length ≤ 140737488355328 := by rw [hdec]; show ((s.drop 19).take n).length ≤ _; rw [List.length_take]; omega
          refine OW.call rfl rfl rfl (encode_s (decR s).kind hk (decR s).gen (decR s).index (decR s).data hdl w8) ?_
          rintro _ w9 ⟨rfl, hx9⟩
          refine OW.val rfl rfl (EX.move rfl) ?_
          refine OW.val rfl rfl (EX.extract rfl rfl) ?_
          refine OW.val rfl rfl (EX.extract rfl rfl) ?_
          refine OW.val rfl rfl (EX.assign rfl) ?_
          refine OW.val rfl rfl (EX.assign rfl) ?_
          refine OW.nil ?_
          refine KW.seq ?_
          have hc9 := hc8.ext hx9
          have hb9 := hb8.ext hx9
          have x9 := x8.trans hx9
          rcases he : encodeR (decR s).kind (decR s).gen (decR s).index (decR s).data with ⟨t, e⟩
          rw [he] at refuse
          refine KW.region ?_
          refine OW.val rfl rfl (EX.move rfl) ?_
          refine OW.val rfl rfl (by first | exact EX.neqN (b := 0) rfl rfl | exact EX.neqZ rfl rfl) ?_
          refine OW.val rfl rfl (EX.move rfl) ?_
          refine OW.splitD 61 rfl (fun g1 => ?_) (fun g1 => ?_)
          · refine OW.pass rfl rfl ?_
            refine OW.pass rfl rfl ?_
            refine OW.pass rfl rfl ?_
            refine OW.val rfl rfl (EX.pickT rfl rfl) ?_
            refine OW.nil ?_
            refine KW.condT rfl (KW.seq (KW.region ?_))
            refine OW.val rfl rfl (EX.buildS (pl := [(0, 1), (1, 1), (2, 1), (3, 1)]) (ks := []) (is := []) (zs := [.int .u8 0, .int .i64 0, .int .i64 0, str []]) Try.underlying31 ti31 (by kernel_rfl) rfl rfl rfl (by first | rfl | (simp only [List.all_cons, List.all_nil, Bool.and_true, Bool.true_and, Bool.and_eq_true, Value.oneCell']; repeat (first | assumption | exact Own.one (by assumption) | constructor))) (by simp only [setAll, List.set_cons_zero, List.set_cons_succ]; rfl)) ?_
            refine OW.storeS rfl ti31 rfl rfl rfl (by first | rfl | (simp only [List.all_cons, List.all_nil, Bool.and_true, Bool.true_and, Bool.and_eq_true, Value.oneCell']; repeat (first | assumption | exact Own.one (by assumption) | constructor))) (hc9) (by decide) ?_
            rintro w10 hb10 hm10
            refine OW.val rfl rfl (EX.assign rfl) ?_
            refine OW.nil ?_
            refine KW.ret (retC2 rfl Try.underlying31 rfl ti31 rfl rfl (hb10) rfl ?_)
            exact refuse (fun h => by have := h.2.2; simp only [Prod.mk.injEq] at this; omega) _ hb10 (hset _ _ x9 hm10)
          · refine OW.val rfl rfl (EX.move rfl) ?_
            refine OW.val rfl rfl (EX.move rfl) ?_
            refine OW.val rfl rfl (EX.neqS rfl rfl) ?_
            refine OW.val rfl rfl (EX.pickF rfl rfl) ?_
            refine OW.nil ?_
            refine KW.condD rfl (fun g2 => ?_) (fun g2 => ?_)
            · refine KW.seq (KW.region ?_)
              refine OW.val rfl rfl (EX.buildS (pl := [(0, 1), (1, 1), (2, 1), (3, 1)]) (ks := []) (is := []) (zs := [.int .u8 0, .int .i64 0, .int .i64 0, str []]) Try.underlying31 ti31 (by kernel_rfl) rfl rfl rfl (by first | rfl | (simp only [List.all_cons, List.all_nil, Bool.and_true, Bool.true_and, Bool.and_eq_true, Value.oneCell']; repeat (first | assumption | exact Own.one (by assumption) | constructor))) (by simp only [setAll, List.set_cons_zero, List.set_cons_succ]; rfl)) ?_
              refine OW.storeS rfl ti31 rfl rfl rfl (by first | rfl | (simp only [List.all_cons, List.all_nil, Bool.and_true, Bool.true_and, Bool.and_eq_true, Value.oneCell']; repeat (first | assumption | exact Own.one (by assumption) | constructor))) (hc9) (by decide) ?_
              rintro w10 hb10 hm10
              refine OW.val rfl rfl (EX.assign rfl) ?_
              refine OW.nil ?_
              refine KW.ret (retC2 rfl Try.underlying31 rfl ti31 rfl rfl (hb10) rfl ?_)
              exact refuse (fun h => by have := h.2.2; simp only [Prod.mk.injEq] at this; exact g2 this.1) _ hb10 (hset _ _ x9 hm10)
            · refine KW.skip (KW.seq (KW.region ?_))
              refine OW.val rfl rfl (EX.loadBk Try.underlying31 rfl ti31 rfl (hb9) (rfl)) ?_
              refine OW.storeS rfl ti31 rfl rfl rfl (by first | rfl | (simp only [List.all_cons, List.all_nil, Bool.and_true, Bool.true_and, Bool.and_eq_true, Value.oneCell']; repeat (first | assumption | exact Own.one (by assumption) | constructor))) (hc9) (Nat.le_refl _) ?_
              rintro w10 hb10 hm10
              refine OW.val rfl rfl (EX.assign rfl) ?_
              refine OW.nil ?_
              refine KW.ret (retC2 rfl Try.underlying31 rfl ti31 rfl rfl (hb10) rfl ?_)
              rw [dec_some ⟨hl, by rw [hn]; omega, by rw [he]; simp only [Prod.mk.injEq]; exact ⟨by simpa using g2, by omega⟩⟩]
              exact ⟨rfl, hset _ _ x9 hm10⟩
end Go.Proofs.Ytfjaiokhpbddlaa
