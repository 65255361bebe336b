/-
  record: the document's reading.
-/
import Derived.Test.YtfjaiokhpbddlaaRecC
namespace Go.Proofs.Ytfjaiokhpbddlaa
open Go.RowKit Rec
set_option linter.unusedVariables false
set_option linter.unusedSimpArgs false

set_option maxRecDepth 20000 in
theorem rdecode_s (s : List UInt8) (w : World) :
    Ret Try.prog 13 [str s] w fun v w' => v = .tuple #[.agg (decodeR s).1.cells.toArray, .int .i64 (((decodeR s).2 : Nat) : Int)] ∧ Ext w w' := by
  refine Ret.enter Try.func13 rfl Try.ntmps13 (by kernel_rfl) rfl ?_
  refine KW.seq (KW.region ?_)
  refine OW.allocB (l := [.int .u8 0, .int .i64 0, .int .i64 0, str []]) rfl rfl ti34 rfl ?_
  rintro cb w1 hge1 hc1 hx1
  refine OW.val rfl rfl (EX.assign rfl) ?_
  refine OW.nil ?_
  refine KW.seq (KW.seq ?_)
  have hset : ∀ w7 w8, Ext w w7 → Mo w7 w8 [cb] → Ext w w8 := fun w7 w8 h1 h2 => below_mo h1 h2 h1.size (fun k hk => by simp at hk; omega)
  refine KW.region ?_
  refine OW.val rfl rfl (EX.move rfl) ?_
  refine OW.val rfl rfl (EX.lenS Try.underlying9 rfl) ?_
  refine OW.val rfl rfl (by first | exact EX.neqN (b := 512) rfl rfl | exact EX.neqZ rfl rfl) ?_
  refine OW.val rfl rfl (EX.move rfl) ?_
  refine OW.splitD 10 rfl (fun a1 => ?_) (fun a1 => ?_)
  · have e := dec_none (s := s) (fun h => a1 (by omega))
    refine OW.pass rfl rfl ?_
    refine OW.pass rfl rfl ?_
    refine OW.pass rfl rfl ?_
    refine OW.pass rfl rfl ?_
    refine OW.val rfl rfl (EX.pickT rfl rfl) ?_
    refine OW.nil ?_
    refine KW.condT rfl (KW.seq (KW.region ?_))
    refine OW.val rfl rfl (EX.buildS (pl := [(0, 1), (1, 1), (2, 1), (3, 1)]) (ks := []) (is := []) (zs := [.int .u8 0, .int .i64 0, .int .i64 0, str []]) Try.underlying34 ti34 (by kernel_rfl) rfl rfl rfl (by first | rfl | (simp only [List.all_cons, List.all_nil, Bool.and_true, Bool.true_and, Bool.and_eq_true, Value.oneCell']; repeat (first | assumption | exact Own.one (by assumption) | constructor))) (by simp only [setAll, List.set_cons_zero, List.set_cons_succ]; rfl)) ?_
    refine OW.storeS rfl ti34 rfl rfl rfl (by first | rfl | (simp only [List.all_cons, List.all_nil, Bool.and_true, Bool.true_and, Bool.and_eq_true, Value.oneCell']; repeat (first | assumption | exact Own.one (by assumption) | constructor))) (hc1) (by simp) ?_
    rintro w2 hb2 hm2
    refine OW.val rfl rfl (EX.assign rfl) ?_
    refine OW.nil ?_
    refine KW.ret (retC2 rfl Try.underlying34 rfl ti34 rfl rfl (hb2) rfl ?_)
    rw [e]
    exact ⟨rfl, hset _ _ hx1 hm2⟩
  · have hl : s.length = 512 := by omega
    have hn4 : numI ((s.drop 17).take 2) = ((nb ((s.drop 17).take 2) : Nat) : Int) := numI_small _ (by rw [List.length_take]; omega)
    refine OW.val rfl rfl (EX.move rfl) ?_
    refine OW.val rfl rfl (EX.sliceLH (i := 17) (j := 19) Try.underlying9 rfl rfl rfl (by omega)) ?_
    refine OW.call rfl rfl rfl (rnumber_s ((s.drop 17).take 2) (by rw [List.length_take]; omega) w1) ?_
    rintro _ _ ⟨rfl, rfl⟩
    refine OW.val rfl rfl (by first | exact EX.gtrN (b := 486) rfl rfl | exact EX.gtrZ rfl rfl) ?_
    refine OW.val rfl rfl (EX.pickF rfl rfl) ?_
    refine OW.nil ?_
    rw [hn4]
    refine KW.condD rfl (fun a2 => ?_) (fun a2 => ?_)
    · have e := dec_none (s := s) (fun h => by omega)
      refine KW.seq (KW.region ?_)
      refine OW.val rfl rfl (EX.buildS (pl := [(0, 1), (1, 1), (2, 1), (3, 1)]) (ks := []) (is := []) (zs := [.int .u8 0, .int .i64 0, .int .i64 0, str []]) Try.underlying34 ti34 (by kernel_rfl) rfl rfl rfl (by first | rfl | (simp only [List.all_cons, List.all_nil, Bool.and_true, Bool.true_and, Bool.and_eq_true, Value.oneCell']; repeat (first | assumption | exact Own.one (by assumption) | constructor))) (by simp only [setAll, List.set_cons_zero, List.set_cons_succ]; rfl)) ?_
      refine OW.storeS rfl ti34 rfl rfl rfl (by first | rfl | (simp only [List.all_cons, List.all_nil, Bool.and_true, Bool.true_and, Bool.and_eq_true, Value.oneCell']; repeat (first | assumption | exact Own.one (by assumption) | constructor))) (hc1) (by simp) ?_
      rintro w2 hb2 hm2
      refine OW.val rfl rfl (EX.assign rfl) ?_
      refine OW.nil ?_
      refine KW.ret (retC2 rfl Try.underlying34 rfl ti34 rfl rfl (hb2) rfl ?_)
      rw [e]
      exact ⟨rfl, hset _ _ hx1 hm2⟩
    · have l2 : ∀ j, ((s.drop 17).take j).length ≤ j := fun j => by rw [List.length_take]; omega
      refine KW.skip (KW.seq ?_)
      refine KW.cut2 (fun (xb : Nat) (wr : World) => Ext w wr ∧ w.heap.size ≤ xb ∧ Bk wr cb 34 R0.cells ∧ Bk wr xb 34 [.int .u8 (((s.getD 4 0).toNat : Nat) : Int), .int .i64 (numI ((s.drop 5).take 8)), .int .i64 (numI ((s.drop 13).take 4)), str ((s.drop 19).take (nb ((s.drop 17).take 2)))] ∧ xb ≠ cb) (fun (xb : Nat) (wr : World) => [(0, str (s)), (2, .pointer (some ⟨cb, 0, none⟩)), (4, .pointer (some ⟨xb, 0, none⟩))]) (fun (xb : Nat) (wr : World) => wr) ?_ ?_
      · have hsl : (s.drop 19).take (19 + nb ((s.drop 17).take 2) - 19) = (s.drop 19).take (nb ((s.drop 17).take 2)) := by rw [Nat.add_sub_cancel_left]
        have hk4 : s[4]? = some (s.getD 4 0) := by simp [List.getD, hl]
        refine KW.regionG (N := 17) (fun w' => Ext w w') (by kernel_rfl) rfl ?_
        have hS : (fun w' => Ext w w') w1.drew := hx1.trans (Ext.drew w1)
        have hc1 := hc1.ext (Ext.drew _)
        refine GW.val 0 rfl (by kernel_rfl) (by kernel_rfl) (by kernel_rfl) rfl rfl hS (fun w' hS' => EX.move rfl) ?_
        refine GW.val 1 rfl (by kernel_rfl) (by kernel_rfl) (by kernel_rfl) rfl rfl hS (fun w' hS' => EX.indexS (i := 4) Try.underlying9 rfl rfl hk4) ?_
        refine GW.val 2 rfl (by kernel_rfl) (by kernel_rfl) (by kernel_rfl) rfl rfl hS (fun w' hS' => EX.move rfl) ?_
        refine GW.val 3 rfl (by kernel_rfl) (by kernel_rfl) (by kernel_rfl) rfl rfl hS (fun w' hS' => EX.sliceLH (i := 5) (j := 13) Try.underlying9 rfl rfl rfl (by omega)) ?_
        refine GW.val 5 rfl (by kernel_rfl) (by kernel_rfl) (by kernel_rfl) rfl rfl hS (fun w' hS' => EX.move rfl) ?_
        refine GW.val 6 rfl (by kernel_rfl) (by kernel_rfl) (by kernel_rfl) rfl rfl hS (fun w' hS' => EX.sliceLH (i := 13) (j := 17) Try.underlying9 rfl rfl rfl (by omega)) ?_
        refine GW.val 8 rfl (by kernel_rfl) (by kernel_rfl) (by kernel_rfl) rfl rfl hS (fun w' hS' => EX.move rfl) ?_
        refine GW.val 9 rfl (by kernel_rfl) (by kernel_rfl) (by kernel_rfl) rfl rfl hS (fun w' hS' => EX.move rfl) ?_
        refine GW.val 10 rfl (by kernel_rfl) (by kernel_rfl) (by kernel_rfl) rfl rfl hS (fun w' hS' => EX.sliceLH (i := 17) (j := 19) Try.underlying9 rfl rfl rfl (by omega)) ?_
        refine GW.two 4 15 (by kernel_rfl) ?_ ?_
        · refine GO.call 4 rfl rfl rfl rfl (rnumber_s ((s.drop 5).take 8) (by rw [List.length_take]; omega) w1.drew) ?_
          rintro _ _ ⟨rfl, rfl⟩
          refine ⟨hS, fun hS => ?_⟩
          refine GW.two 7 15 (by kernel_rfl) ?_ ?_
          · refine GO.call 7 rfl rfl rfl rfl (rnumber_s ((s.drop 13).take 4) (by rw [List.length_take]; omega) w1.drew) ?_
            rintro _ _ ⟨rfl, rfl⟩
            refine ⟨hS, fun hS => ?_⟩
            refine GW.two 11 15 (by kernel_rfl) ?_ ?_
            · refine GO.call 11 rfl rfl rfl rfl ((by have := rnumber_s ((s.drop 17).take 2) (by rw [List.length_take]; omega) w1.drew; rwa [hn4] at this)) ?_
              rintro _ _ ⟨rfl, rfl⟩
              refine ⟨hS, fun hS => ?_⟩
              refine GW.val 12 rfl (by kernel_rfl) (by kernel_rfl) (by kernel_rfl) rfl rfl hS (fun w' hS' => by first | exact EX.addN (a := 19) (m := 9223372036854775807) rfl rfl rfl (by omega) | exact EX.addZ (m := 9223372036854775807) rfl rfl rfl rfl (by omega)) ?_
              refine GW.val 13 rfl (by kernel_rfl) (by kernel_rfl) (by kernel_rfl) rfl rfl hS (fun w' hS' => EX.sliceLH (i := 19) Try.underlying9 rfl rfl rfl (by omega)) ?_
              refine GW.val 14 rfl (by kernel_rfl) (by kernel_rfl) (by kernel_rfl) rfl rfl hS (fun w' hS' => EX.buildS (pl := [(0, 1), (1, 1), (2, 1), (3, 1)]) (ks := [0, 1, 2, 3]) (is := [0, 1, 2, 3]) (zs := [.int .u8 0, .int .i64 0, .int .i64 0, str []]) Try.underlying34 ti34 (by kernel_rfl) rfl rfl rfl (by first | rfl | (simp only [List.all_cons, List.all_nil, Bool.and_true, Bool.true_and, Bool.and_eq_true, Value.oneCell']; repeat (first | assumption | exact Own.one (by assumption) | constructor))) (by simp only [setAll, List.set_cons_zero, List.set_cons_succ]; rfl)) ?_
              refine GW.allocB (l := [.int .u8 0, .int .i64 0, .int .i64 0, str []]) 15 rfl (by kernel_rfl) rfl rfl ti34 rfl ?_
              rintro xb w15 hge15 h15 hx15
              have hne : xb ≠ cb := fun q => (by have := hc1.lt; omega)
              have hxge : w.heap.size ≤ xb := (by have := hS.size; omega)
              refine ⟨hS.trans hx15, fun hS => ?_⟩
              have hc1 := hc1.ext hx15
              refine GW.storeS 16 rfl (by kernel_rfl) rfl ti34 rfl rfl rfl (by first | rfl | (simp only [List.all_cons, List.all_nil, Bool.and_true, Bool.true_and, Bool.and_eq_true, Value.oneCell']; repeat (first | assumption | constructor))) (h15) (by simp) ?_
              rintro w16 hb16 hm16
              refine ⟨below_mo hS hm16 hS.size (fun k hk => by simp at hk; omega), fun hS => ?_⟩
              have hc1 := hc1.mo hm16 (by simp; exact Ne.symm hne)
              refine GW.done (by kernel_rfl) ?_
              refine KW.meet2 xb w16 ⟨rfl, rfl, rfl, trivial⟩ rfl ?_
              exact ⟨hS, hxge, hc1, by rw [← hsl]; exact hb16, hne⟩
            · refine GO.allocB (l := [.int .u8 0, .int .i64 0, .int .i64 0, str []]) 15 rfl rfl rfl ti34 rfl ?_
              rintro xb w15 hge15 h15 hx15
              have hne : xb ≠ cb := fun q => (by have := hc1.lt; omega)
              have hxge : w.heap.size ≤ xb := (by have := hS.size; omega)
              refine ⟨hS.trans hx15, fun hS => ?_⟩
              have hc1 := hc1.ext hx15
              refine GW.call 11 rfl (by kernel_rfl) rfl rfl rfl ((by have := rnumber_s ((s.drop 17).take 2) (by rw [List.length_take]; omega) w15; rwa [hn4] at this)) ?_
              rintro _ _ ⟨rfl, rfl⟩
              refine ⟨hS, fun hS => ?_⟩
              refine GW.val 12 rfl (by kernel_rfl) (by kernel_rfl) (by kernel_rfl) rfl rfl hS (fun w' hS' => by first | exact EX.addN (a := 19) (m := 9223372036854775807) rfl rfl rfl (by omega) | exact EX.addZ (m := 9223372036854775807) rfl rfl rfl rfl (by omega)) ?_
              refine GW.val 13 rfl (by kernel_rfl) (by kernel_rfl) (by kernel_rfl) rfl rfl hS (fun w' hS' => EX.sliceLH (i := 19) Try.underlying9 rfl rfl rfl (by omega)) ?_
              refine GW.val 14 rfl (by kernel_rfl) (by kernel_rfl) (by kernel_rfl) rfl rfl hS (fun w' hS' => EX.buildS (pl := [(0, 1), (1, 1), (2, 1), (3, 1)]) (ks := [0, 1, 2, 3]) (is := [0, 1, 2, 3]) (zs := [.int .u8 0, .int .i64 0, .int .i64 0, str []]) Try.underlying34 ti34 (by kernel_rfl) rfl rfl rfl (by first | rfl | (simp only [List.all_cons, List.all_nil, Bool.and_true, Bool.true_and, Bool.and_eq_true, Value.oneCell']; repeat (first | assumption | exact Own.one (by assumption) | constructor))) (by simp only [setAll, List.set_cons_zero, List.set_cons_succ]; rfl)) ?_
              refine GW.storeS 16 rfl (by kernel_rfl) rfl ti34 rfl rfl rfl (by first | rfl | (simp only [List.all_cons, List.all_nil, Bool.and_true, Bool.true_and, Bool.and_eq_true, Value.oneCell']; repeat (first | assumption | constructor))) (h15) (by simp) ?_
              rintro w16 hb16 hm16
              refine ⟨below_mo hS hm16 hS.size (fun k hk => by simp at hk; omega), fun hS => ?_⟩
              have hc1 := hc1.mo hm16 (by simp; exact Ne.symm hne)
              refine GW.done (by kernel_rfl) ?_
              refine KW.meet2 xb w16 ⟨rfl, rfl, rfl, trivial⟩ rfl ?_
              exact ⟨hS, hxge, hc1, by rw [← hsl]; exact hb16, hne⟩
          · refine GO.allocB (l := [.int .u8 0, .int .i64 0, .int .i64 0, str []]) 15 rfl rfl rfl ti34 rfl ?_
            rintro xb w15 hge15 h15 hx15
            have hne : xb ≠ cb := fun q => (by have := hc1.lt; omega)
            have hxge : w.heap.size ≤ xb := (by have := hS.size; omega)
            refine ⟨hS.trans hx15, fun hS => ?_⟩
            have hc1 := hc1.ext hx15
            refine GW.call 7 rfl (by kernel_rfl) rfl rfl rfl (rnumber_s ((s.drop 13).take 4) (by rw [List.length_take]; omega) w15) ?_
            rintro _ _ ⟨rfl, rfl⟩
            refine ⟨hS, fun hS => ?_⟩
            refine GW.call 11 rfl (by kernel_rfl) rfl rfl rfl ((by have := rnumber_s ((s.drop 17).take 2) (by rw [List.length_take]; omega) w15; rwa [hn4] at this)) ?_
            rintro _ _ ⟨rfl, rfl⟩
            refine ⟨hS, fun hS => ?_⟩
            refine GW.val 12 rfl (by kernel_rfl) (by kernel_rfl) (by kernel_rfl) rfl rfl hS (fun w' hS' => by first | exact EX.addN (a := 19) (m := 9223372036854775807) rfl rfl rfl (by omega) | exact EX.addZ (m := 9223372036854775807) rfl rfl rfl rfl (by omega)) ?_
            refine GW.val 13 rfl (by kernel_rfl) (by kernel_rfl) (by kernel_rfl) rfl rfl hS (fun w' hS' => EX.sliceLH (i := 19) Try.underlying9 rfl rfl rfl (by omega)) ?_
            refine GW.val 14 rfl (by kernel_rfl) (by kernel_rfl) (by kernel_rfl) rfl rfl hS (fun w' hS' => EX.buildS (pl := [(0, 1), (1, 1), (2, 1), (3, 1)]) (ks := [0, 1, 2, 3]) (is := [0, 1, 2, 3]) (zs := [.int .u8 0, .int .i64 0, .int .i64 0, str []]) Try.underlying34 ti34 (by kernel_rfl) rfl rfl rfl (by first | rfl | (simp only [List.all_cons, List.all_nil, Bool.and_true, Bool.true_and, Bool.and_eq_true, Value.oneCell']; repeat (first | assumption | exact Own.one (by assumption) | constructor))) (by simp only [setAll, List.set_cons_zero, List.set_cons_succ]; rfl)) ?_
            refine GW.storeS 16 rfl (by kernel_rfl) rfl ti34 rfl rfl rfl (by first | rfl | (simp only [List.all_cons, List.all_nil, Bool.and_true, Bool.true_and, Bool.and_eq_true, Value.oneCell']; repeat (first | assumption | constructor))) (h15) (by simp) ?_
            rintro w16 hb16 hm16
            refine ⟨below_mo hS hm16 hS.size (fun k hk => by simp at hk; omega), fun hS => ?_⟩
            have hc1 := hc1.mo hm16 (by simp; exact Ne.symm hne)
            refine GW.done (by kernel_rfl) ?_
            refine KW.meet2 xb w16 ⟨rfl, rfl, rfl, trivial⟩ rfl ?_
            exact ⟨hS, hxge, hc1, by rw [← hsl]; exact hb16, hne⟩
        · refine GO.allocB (l := [.int .u8 0, .int .i64 0, .int .i64 0, str []]) 15 rfl rfl rfl ti34 rfl ?_
          rintro xb w15 hge15 h15 hx15
          have hne : xb ≠ cb := fun q => (by have := hc1.lt; omega)
          have hxge : w.heap.size ≤ xb := (by have := hS.size; omega)
          refine ⟨hS.trans hx15, fun hS => ?_⟩
          have hc1 := hc1.ext hx15
          refine GW.call 4 rfl (by kernel_rfl) rfl rfl rfl (rnumber_s ((s.drop 5).take 8) (by rw [List.length_take]; omega) w15) ?_
          rintro _ _ ⟨rfl, rfl⟩
          refine ⟨hS, fun hS => ?_⟩
          refine GW.call 7 rfl (by kernel_rfl) rfl rfl rfl (rnumber_s ((s.drop 13).take 4) (by rw [List.length_take]; omega) w15) ?_
          rintro _ _ ⟨rfl, rfl⟩
          refine ⟨hS, fun hS => ?_⟩
          refine GW.call 11 rfl (by kernel_rfl) rfl rfl rfl ((by have := rnumber_s ((s.drop 17).take 2) (by rw [List.length_take]; omega) w15; rwa [hn4] at this)) ?_
          rintro _ _ ⟨rfl, rfl⟩
          refine ⟨hS, fun hS => ?_⟩
          refine GW.val 12 rfl (by kernel_rfl) (by kernel_rfl) (by kernel_rfl) rfl rfl hS (fun w' hS' => by first | exact EX.addN (a := 19) (m := 9223372036854775807) rfl rfl rfl (by omega) | exact EX.addZ (m := 9223372036854775807) rfl rfl rfl rfl (by omega)) ?_
          refine GW.val 13 rfl (by kernel_rfl) (by kernel_rfl) (by kernel_rfl) rfl rfl hS (fun w' hS' => EX.sliceLH (i := 19) Try.underlying9 rfl rfl rfl (by omega)) ?_
          refine GW.val 14 rfl (by kernel_rfl) (by kernel_rfl) (by kernel_rfl) rfl rfl hS (fun w' hS' => EX.buildS (pl := [(0, 1), (1, 1), (2, 1), (3, 1)]) (ks := [0, 1, 2, 3]) (is := [0, 1, 2, 3]) (zs := [.int .u8 0, .int .i64 0, .int .i64 0, str []]) Try.underlying34 ti34 (by kernel_rfl) rfl rfl rfl (by first | rfl | (simp only [List.all_cons, List.all_nil, Bool.and_true, Bool.true_and, Bool.and_eq_true, Value.oneCell']; repeat (first | assumption | exact Own.one (by assumption) | constructor))) (by simp only [setAll, List.set_cons_zero, List.set_cons_succ]; rfl)) ?_
          refine GW.storeS 16 rfl (by kernel_rfl) rfl ti34 rfl rfl rfl (by first | rfl | (simp only [List.all_cons, List.all_nil, Bool.and_true, Bool.true_and, Bool.and_eq_true, Value.oneCell']; repeat (first | assumption | constructor))) (h15) (by simp) ?_
          rintro w16 hb16 hm16
          refine ⟨below_mo hS hm16 hS.size (fun k hk => by simp at hk; omega), fun hS => ?_⟩
          have hc1 := hc1.mo hm16 (by simp; exact Ne.symm hne)
          refine GW.done (by kernel_rfl) ?_
          refine KW.meet2 xb w16 ⟨rfl, rfl, rfl, trivial⟩ rfl ?_
          exact ⟨hS, hxge, hc1, by rw [← hsl]; exact hb16, hne⟩
      · rintro xb wr ⟨x5, hxge, hc5, hb5, hne⟩
        generalize hn : nb ((s.drop 17).take 2) = n at a2 hb5
        have refuse : ¬ (s.length = 512 ∧ n ≤ 486 ∧ encodeR (decR s).kind (decR s).gen (decR s).index (decR s).data = (s, 0)) → ∀ w7, Bk w7 cb 34 R0.cells → Ext w w7 → (Value.tuple #[.agg R0.cells.toArray, .int .i64 ((200 : Nat) : Int)] = Value.tuple #[.agg (decodeR s).1.cells.toArray, .int .i64 (((decodeR s).2 : Nat) : Int)] ∧ Ext w w7) := fun h w7 _ hx => by
          rw [dec_none (by rw [hn]; exact h)]
          exact ⟨rfl, hx⟩
        have hdec : decR s = ⟨(s.getD 4 0).toNat, numI ((s.drop 5).take 8), numI ((s.drop 13).take 4), (s.drop 19).take n⟩ := by unfold decR; rw [hn]
        replace hb5 : Bk wr xb 34 (decR s).cells := by rw [hdec]; exact hb5
        have hk : (decR s).kind ≤ 255 := by rw [hdec]; have := (s.getD 4 0).toNat_lt; show (s.getD 4 0).toNat ≤ 255; omega
        have hdl : (decR s).data.length ≤ 140737488355328 := by rw [hdec]; show ((s.drop 19).take n).length ≤ _; rw [List.length_take]; omega
        refine KW.seq (KW.region ?_)
        refine OW.val rfl rfl (EX.fieldAddr (off := 0) Try.underlying34 rfl rfl ti5 rfl rfl) ?_
        refine OW.val rfl rfl (EX.load Try.underlying5 rfl rfl (hb5.cell_of rfl)) ?_
        refine OW.val rfl rfl (EX.fieldAddr (off := 1) Try.underlying34 rfl rfl ti3 rfl rfl) ?_
        refine OW.val rfl rfl (EX.load Try.underlying3 rfl rfl (hb5.cell_of rfl)) ?_
        refine OW.val rfl rfl (EX.fieldAddr (off := 2) Try.underlying34 rfl rfl ti3 rfl rfl) ?_
        refine OW.val rfl rfl (EX.load Try.underlying3 rfl rfl (hb5.cell_of rfl)) ?_
        refine OW.val rfl rfl (EX.fieldAddr (off := 3) Try.underlying34 rfl rfl ti9 rfl rfl) ?_
        refine OW.val rfl rfl (EX.load Try.underlying9 rfl rfl (hb5.cell_of rfl)) ?_
        refine OW.call rfl rfl rfl (rencode_s (decR s).kind hk (decR s).gen (decR s).index (decR s).data hdl wr) ?_
        rintro _ w9 ⟨rfl, hx9⟩
        refine OW.val rfl rfl (EX.move rfl) ?_
        refine OW.val rfl rfl (EX.extract rfl rfl) ?_
        refine OW.val rfl rfl (EX.extract rfl rfl) ?_
        refine OW.val rfl rfl (EX.assign rfl) ?_
        refine OW.val rfl rfl (EX.assign rfl) ?_
        refine OW.nil ?_
        refine KW.seq (KW.seq ?_)
        have hc9 := hc5.ext hx9
        have hb9 := hb5.ext hx9
        have x9 := x5.trans hx9
        rcases he : encodeR (decR s).kind (decR s).gen (decR s).index (decR s).data with ⟨t, e⟩
        rw [he] at refuse
        refine KW.region ?_
        refine OW.val rfl rfl (EX.move rfl) ?_
        refine OW.val rfl rfl (by first | exact EX.neqN (b := 0) rfl rfl | exact EX.neqZ rfl rfl) ?_
        refine OW.val rfl rfl (EX.move rfl) ?_
        refine OW.splitD 46 rfl (fun g1 => ?_) (fun g1 => ?_)
        · refine OW.pass rfl rfl ?_
          refine OW.pass rfl rfl ?_
          refine OW.pass rfl rfl ?_
          refine OW.val rfl rfl (EX.pickT rfl rfl) ?_
          refine OW.nil ?_
          refine KW.condT rfl (KW.seq (KW.region ?_))
          refine OW.val rfl rfl (EX.buildS (pl := [(0, 1), (1, 1), (2, 1), (3, 1)]) (ks := []) (is := []) (zs := [.int .u8 0, .int .i64 0, .int .i64 0, str []]) Try.underlying34 ti34 (by kernel_rfl) rfl rfl rfl (by first | rfl | (simp only [List.all_cons, List.all_nil, Bool.and_true, Bool.true_and, Bool.and_eq_true, Value.oneCell']; repeat (first | assumption | exact Own.one (by assumption) | constructor))) (by simp only [setAll, List.set_cons_zero, List.set_cons_succ]; rfl)) ?_
          refine OW.storeS rfl ti34 rfl rfl rfl (by first | rfl | (simp only [List.all_cons, List.all_nil, Bool.and_true, Bool.true_and, Bool.and_eq_true, Value.oneCell']; repeat (first | assumption | exact Own.one (by assumption) | constructor))) (hc9) (by decide) ?_
          rintro w10 hb10 hm10
          refine OW.val rfl rfl (EX.assign rfl) ?_
          refine OW.nil ?_
          refine KW.ret (retC2 rfl Try.underlying34 rfl ti34 rfl rfl (hb10) rfl ?_)
          exact refuse (fun h => by have := h.2.2; simp only [Prod.mk.injEq] at this; omega) _ hb10 (hset _ _ x9 hm10)
        · refine OW.val rfl rfl (EX.move rfl) ?_
          refine OW.val rfl rfl (EX.move rfl) ?_
          refine OW.val rfl rfl (EX.neqS rfl rfl) ?_
          refine OW.val rfl rfl (EX.pickF rfl rfl) ?_
          refine OW.nil ?_
          refine KW.condD rfl (fun g2 => ?_) (fun g2 => ?_)
          · refine KW.seq (KW.region ?_)
            refine OW.val rfl rfl (EX.buildS (pl := [(0, 1), (1, 1), (2, 1), (3, 1)]) (ks := []) (is := []) (zs := [.int .u8 0, .int .i64 0, .int .i64 0, str []]) Try.underlying34 ti34 (by kernel_rfl) rfl rfl rfl (by first | rfl | (simp only [List.all_cons, List.all_nil, Bool.and_true, Bool.true_and, Bool.and_eq_true, Value.oneCell']; repeat (first | assumption | exact Own.one (by assumption) | constructor))) (by simp only [setAll, List.set_cons_zero, List.set_cons_succ]; rfl)) ?_
            refine OW.storeS rfl ti34 rfl rfl rfl (by first | rfl | (simp only [List.all_cons, List.all_nil, Bool.and_true, Bool.true_and, Bool.and_eq_true, Value.oneCell']; repeat (first | assumption | exact Own.one (by assumption) | constructor))) (hc9) (by decide) ?_
            rintro w10 hb10 hm10
            refine OW.val rfl rfl (EX.assign rfl) ?_
            refine OW.nil ?_
            refine KW.ret (retC2 rfl Try.underlying34 rfl ti34 rfl rfl (hb10) rfl ?_)
            exact refuse (fun h => by have := h.2.2; simp only [Prod.mk.injEq] at this; exact g2 this.1) _ hb10 (hset _ _ x9 hm10)
          · refine KW.skip (KW.seq (KW.region ?_))
            refine OW.val rfl rfl (EX.loadBk Try.underlying34 rfl ti34 rfl (hb9) (rfl)) ?_
            refine OW.storeS rfl ti34 rfl rfl rfl (by first | rfl | (simp only [List.all_cons, List.all_nil, Bool.and_true, Bool.true_and, Bool.and_eq_true, Value.oneCell']; repeat (first | assumption | exact Own.one (by assumption) | constructor))) (hc9) (Nat.le_refl _) ?_
            rintro w10 hb10 hm10
            refine OW.val rfl rfl (EX.assign rfl) ?_
            refine OW.nil ?_
            refine KW.ret (retC2 rfl Try.underlying34 rfl ti34 rfl rfl (hb10) rfl ?_)
            rw [dec_some ⟨hl, by rw [hn]; omega, by rw [he]; simp only [Prod.mk.injEq]; exact ⟨by simpa using g2, by omega⟩⟩]
            exact ⟨rfl, hset _ _ x9 hm10⟩
end Go.Proofs.Ytfjaiokhpbddlaa
