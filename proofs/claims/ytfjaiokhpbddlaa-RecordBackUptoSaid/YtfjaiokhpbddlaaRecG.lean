/-
  record: members are laid; what the statements begin with.
-/
import Derived.Test.YtfjaiokhpbddlaaRecF
namespace Go.Proofs.Ytfjaiokhpbddlaa
open Go.RowKit Rec Pth
set_option linter.unusedVariables false
set_option linter.unusedSimpArgs false

theorem memberM_none {m : M} (h : ¬ mayM m) : memberM m = ([], 200) := by unfold memberM; rw [if_neg h]
theorem memberM_some {m : M} (h : mayM m) : memberM m = (memberT m, 0) := by unfold memberM; rw [if_pos h]
set_option maxRecDepth 20000 in
theorem member_s (m : M) (hm : m.Ok) (w : World) : Ret Try.prog 14 [.agg m.cells.toArray] w fun v w' => v = .tuple #[str (memberM m).1, .int .i64 (((memberM m).2 : Nat) : Int)] ∧ Ext w w' := by
  refine Ret.enter Try.func14 rfl Try.ntmps14 (by kernel_rfl) rfl ?_
  refine KW.seq (KW.region ?_)
  refine OW.boxS rfl rfl rfl ?_
  rintro mb w1 hge1 hm1 hx1
  refine OW.val rfl rfl (EX.assign rfl) ?_
  refine OW.val rfl rfl (EX.assign rfl) ?_
  refine OW.nil ?_
  refine KW.seq (KW.seq (KW.region ?_))
  replace hm1 : Bk w1 mb 40 m.cells := hm1
  refine OW.val rfl rfl (EX.loadBk Try.underlying40 rfl ti40 rfl (hm1) (rfl)) ?_
  refine OW.call rfl rfl rfl (checkM_s m hm w1) ?_
  rintro _ w2 ⟨rfl, hx2⟩
  refine OW.val rfl rfl (EX.assign rfl) ?_
  refine OW.nil ?_
  refine KW.seq (KW.region ?_)
  refine OW.val rfl rfl (EX.move rfl) ?_
  refine OW.val rfl rfl (by first | exact EX.neqN (b := 0) rfl rfl | exact EX.neqZ rfl rfl) ?_
  refine OW.nil ?_
  have hm2 := hm1.ext hx2
  have x2 := hx1.trans hx2
  by_cases h : mayM m
  · rw [checkM_some h]
    refine KW.condD rfl (fun c1 => ?_) (fun c1 => ?_)
    · omega
    · obtain ⟨hpl, _⟩ := may_path h
      have hh := h
      obtain ⟨_, h2, h3, h4, h5, h6, h7⟩ := h
      obtain ⟨st, est⟩ := Int.eq_ofNat_of_zero_le (show 0 ≤ m.start by omega)
      obtain ⟨se, ese⟩ := Int.eq_ofNat_of_zero_le (show 0 ≤ m.sectors by omega)
      obtain ⟨sz, esz⟩ := Int.eq_ofNat_of_zero_le (show 0 ≤ m.size by omega)
      have hsum := hm.sum
      have hcells : m.cells = [str m.path, .int .i64 (st : Int), .int .i64 (se : Int), .int .i64 (sz : Int), .int .u32 (m.sum : Int)] := by unfold M.cells; rw [est, ese, esz]
      have hmt : memberT m = be 1 m.path.length ++ m.path ++ be 2 st ++ be 2 se ++ be 2 sz ++ be 4 m.sum := by unfold memberT; rw [est, ese, esz]; rfl
      rw [hcells] at hm2
      have l1 := be_length 1 m.path.length
      have l2 := be_length 2 st
      have l3 := be_length 2 se
      have l4 := be_length 2 sz
      have l5 := be_length 4 m.sum
      rw [memberM_some hh, hmt]
      refine KW.skip (KW.seq ?_)
      refine KW.cut1 (fun (wr : World) => Ext w wr) (fun (wr : World) => [(2, str (be 1 m.path.length ++ m.path ++ be 2 st ++ be 2 se ++ be 2 sz ++ be 4 m.sum)), (3, .int .i64 ((0 : Nat) : Int))]) (fun (wr : World) => wr) ?_ ?_
      · skip
        refine KW.regionG (N := 30) (fun w' => Ext w w' ∧ Bk w' mb 40 [str m.path, .int .i64 (st : Int), .int .i64 (se : Int), .int .i64 (sz : Int), .int .u32 (m.sum : Int)]) (by kernel_rfl) rfl ?_
        have hS : (fun w' => Ext w w' ∧ Bk w' mb 40 [str m.path, .int .i64 (st : Int), .int .i64 (se : Int), .int .i64 (sz : Int), .int .u32 (m.sum : Int)]) w2.drew := ⟨x2.trans (Ext.drew w2), hm2.drew⟩
        refine GW.val 0 rfl (by kernel_rfl) (by kernel_rfl) (by kernel_rfl) rfl rfl hS (fun w' hS' => EX.fieldAddr (off := 0) Try.underlying40 rfl rfl ti9 rfl rfl) ?_
        refine GW.val 1 rfl (by kernel_rfl) (by kernel_rfl) (by kernel_rfl) rfl rfl hS (fun w' hS' => EX.load Try.underlying9 rfl rfl (hS'.2.cell_of rfl)) ?_
        refine GW.val 2 rfl (by kernel_rfl) (by kernel_rfl) (by kernel_rfl) rfl rfl hS (fun w' hS' => EX.lenS Try.underlying9 rfl) ?_
        refine GW.val 3 rfl (by kernel_rfl) (by kernel_rfl) (by kernel_rfl) rfl rfl hS (fun w' hS' => by first | exact EX.convN (m := 18446744073709551615) Try.underlying3 Try.underlying56 rfl rfl (by omega) | exact EX.convW (m := 18446744073709551616) Try.underlying3 Try.underlying56 rfl rfl (by decide) | exact EX.convZ Try.underlying3 Try.underlying56 rfl) ?_
        refine GW.val 5 rfl (by kernel_rfl) (by kernel_rfl) (by kernel_rfl) rfl rfl hS (fun w' hS' => EX.fieldAddr (off := 0) Try.underlying40 rfl rfl ti9 rfl rfl) ?_
        refine GW.val 6 rfl (by kernel_rfl) (by kernel_rfl) (by kernel_rfl) rfl rfl hS (fun w' hS' => EX.load Try.underlying9 rfl rfl (hS'.2.cell_of rfl)) ?_
        refine GW.val 8 rfl (by kernel_rfl) (by kernel_rfl) (by kernel_rfl) rfl rfl hS (fun w' hS' => EX.fieldAddr (off := 1) Try.underlying40 rfl rfl ti3 rfl rfl) ?_
        refine GW.val 9 rfl (by kernel_rfl) (by kernel_rfl) (by kernel_rfl) rfl rfl hS (fun w' hS' => EX.load Try.underlying3 rfl rfl (hS'.2.cell_of rfl)) ?_
        refine GW.val 10 rfl (by kernel_rfl) (by kernel_rfl) (by kernel_rfl) rfl rfl hS (fun w' hS' => by first | exact EX.convN (m := 18446744073709551615) Try.underlying3 Try.underlying56 rfl rfl (by omega) | exact EX.convW (m := 18446744073709551616) Try.underlying3 Try.underlying56 rfl rfl (by decide) | exact EX.convZ Try.underlying3 Try.underlying56 rfl) ?_
        refine GW.val 13 rfl (by kernel_rfl) (by kernel_rfl) (by kernel_rfl) rfl rfl hS (fun w' hS' => EX.fieldAddr (off := 2) Try.underlying40 rfl rfl ti3 rfl rfl) ?_
        refine GW.val 14 rfl (by kernel_rfl) (by kernel_rfl) (by kernel_rfl) rfl rfl hS (fun w' hS' => EX.load Try.underlying3 rfl rfl (hS'.2.cell_of rfl)) ?_
        refine GW.val 15 rfl (by kernel_rfl) (by kernel_rfl) (by kernel_rfl) rfl rfl hS (fun w' hS' => by first | exact EX.convN (m := 18446744073709551615) Try.underlying3 Try.underlying56 rfl rfl (by omega) | exact EX.convW (m := 18446744073709551616) Try.underlying3 Try.underlying56 rfl rfl (by decide) | exact EX.convZ Try.underlying3 Try.underlying56 rfl) ?_
        refine GW.val 18 rfl (by kernel_rfl) (by kernel_rfl) (by kernel_rfl) rfl rfl hS (fun w' hS' => EX.fieldAddr (off := 3) Try.underlying40 rfl rfl ti3 rfl rfl) ?_
        refine GW.val 19 rfl (by kernel_rfl) (by kernel_rfl) (by kernel_rfl) rfl rfl hS (fun w' hS' => EX.load Try.underlying3 rfl rfl (hS'.2.cell_of rfl)) ?_
        refine GW.val 20 rfl (by kernel_rfl) (by kernel_rfl) (by kernel_rfl) rfl rfl hS (fun w' hS' => by first | exact EX.convN (m := 18446744073709551615) Try.underlying3 Try.underlying56 rfl rfl (by omega) | exact EX.convW (m := 18446744073709551616) Try.underlying3 Try.underlying56 rfl rfl (by decide) | exact EX.convZ Try.underlying3 Try.underlying56 rfl) ?_
        refine GW.val 23 rfl (by kernel_rfl) (by kernel_rfl) (by kernel_rfl) rfl rfl hS (fun w' hS' => EX.fieldAddr (off := 4) Try.underlying40 rfl rfl ti38 rfl rfl) ?_
        refine GW.val 24 rfl (by kernel_rfl) (by kernel_rfl) (by kernel_rfl) rfl rfl hS (fun w' hS' => EX.load Try.underlying38 rfl rfl (hS'.2.cell_of rfl)) ?_
        refine GW.val 25 rfl (by kernel_rfl) (by kernel_rfl) (by kernel_rfl) rfl rfl hS (fun w' hS' => by first | exact EX.convN (m := 18446744073709551615) Try.underlying38 Try.underlying56 rfl rfl (by omega) | exact EX.convW (m := 18446744073709551616) Try.underlying38 Try.underlying56 rfl rfl (by decide) | exact EX.convZ Try.underlying38 Try.underlying56 rfl) ?_
        refine GW.call 4 rfl (by kernel_rfl) rfl rfl rfl (number_r m.path.length 1 (by omega) (by decide) w2.drew) ?_
        rintro _ w4 ⟨rfl, hx4⟩
        refine ⟨⟨hS.1.trans hx4, hS.2.ext hx4⟩, fun hS => ?_⟩
        refine GW.val 7 rfl (by kernel_rfl) (by kernel_rfl) (by kernel_rfl) rfl rfl hS (fun w' hS' => EX.addS rfl rfl (by first | omega | (simp only [List.length_append, List.length_cons, List.length_nil, List.length_take, List.length_drop, List.length_replicate]; omega))) ?_
        refine GW.call 11 rfl (by kernel_rfl) rfl rfl rfl (number_r st 2 (by omega) (by decide) w4) ?_
        rintro _ w11 ⟨rfl, hx11⟩
        refine ⟨⟨hS.1.trans hx11, hS.2.ext hx11⟩, fun hS => ?_⟩
        refine GW.val 12 rfl (by kernel_rfl) (by kernel_rfl) (by kernel_rfl) rfl rfl hS (fun w' hS' => EX.addS rfl rfl (by first | omega | (simp only [List.length_append, List.length_cons, List.length_nil, List.length_take, List.length_drop, List.length_replicate]; omega))) ?_
        refine GW.call 16 rfl (by kernel_rfl) rfl rfl rfl (number_r se 2 (by omega) (by decide) w11) ?_
        rintro _ w16 ⟨rfl, hx16⟩
        refine ⟨⟨hS.1.trans hx16, hS.2.ext hx16⟩, fun hS => ?_⟩
        refine GW.val 17 rfl (by kernel_rfl) (by kernel_rfl) (by kernel_rfl) rfl rfl hS (fun w' hS' => EX.addS rfl rfl (by first | omega | (simp only [List.length_append, List.length_cons, List.length_nil, List.length_take, List.length_drop, List.length_replicate]; omega))) ?_
        refine GW.call 21 rfl (by kernel_rfl) rfl rfl rfl (number_r sz 2 (by omega) (by decide) w16) ?_
        rintro _ w21 ⟨rfl, hx21⟩
        refine ⟨⟨hS.1.trans hx21, hS.2.ext hx21⟩, fun hS => ?_⟩
        refine GW.val 22 rfl (by kernel_rfl) (by kernel_rfl) (by kernel_rfl) rfl rfl hS (fun w' hS' => EX.addS rfl rfl (by first | omega | (simp only [List.length_append, List.length_cons, List.length_nil, List.length_take, List.length_drop, List.length_replicate]; omega))) ?_
        refine GW.call 26 rfl (by kernel_rfl) rfl rfl rfl (number_r m.sum 4 (by omega) (by decide) w21) ?_
        rintro _ w26 ⟨rfl, hx26⟩
        refine ⟨⟨hS.1.trans hx26, hS.2.ext hx26⟩, fun hS => ?_⟩
        refine GW.val 27 rfl (by kernel_rfl) (by kernel_rfl) (by kernel_rfl) rfl rfl hS (fun w' hS' => EX.addS rfl rfl (by first | omega | (simp only [List.length_append, List.length_cons, List.length_nil, List.length_take, List.length_drop, List.length_replicate]; omega))) ?_
        refine GW.val 28 rfl (by kernel_rfl) (by kernel_rfl) (by kernel_rfl) rfl rfl hS (fun w' hS' => EX.assign rfl) ?_
        refine GW.val 29 rfl (by kernel_rfl) (by kernel_rfl) (by kernel_rfl) rfl rfl hS (fun w' hS' => EX.assign rfl) ?_
        refine GW.done (by kernel_rfl) ?_
        refine KW.meet1 w26 ⟨rfl, rfl, trivial⟩ rfl ?_
        exact hS.1
      · rintro wr xr
        refine KW.ret (ret2 rfl rfl rfl ?_)
        exact ⟨rfl, xr⟩
  · rw [checkM_none h, memberM_none h]
    refine KW.condD rfl (fun c1 => ?_) (fun c1 => ?_)
    · refine KW.seq (KW.region ?_)
      refine OW.val rfl rfl (EX.move rfl) ?_
      refine OW.val rfl rfl (EX.assign rfl) ?_
      refine OW.val rfl rfl (EX.assign rfl) ?_
      refine OW.nil ?_
      refine KW.ret (ret2 rfl rfl rfl ?_)
      exact ⟨rfl, x2⟩
    · omega
set_option maxRecDepth 20000 in
theorem rmember_s (m : M) (hm : m.Ok) (w : World) : Ret Try.prog 15 [.agg m.cells.toArray] w fun v w' => v = .tuple #[str (memberM m).1, .int .i64 (((memberM m).2 : Nat) : Int)] ∧ Ext w w' := by
  refine Ret.enter Try.func15 rfl Try.ntmps15 (by kernel_rfl) rfl ?_
  refine KW.seq (KW.region ?_)
  refine OW.boxS rfl rfl rfl ?_
  rintro mb w1 hge1 hm1 hx1
  refine OW.val rfl rfl (EX.assign rfl) ?_
  refine OW.val rfl rfl (EX.assign rfl) ?_
  refine OW.nil ?_
  refine KW.seq (KW.seq (KW.region ?_))
  replace hm1 : Bk w1 mb 40 m.cells := hm1
  refine OW.val rfl rfl (EX.loadBk Try.underlying40 rfl ti40 rfl (hm1) (rfl)) ?_
  refine OW.call rfl rfl rfl (rcheckM_s m hm w1) ?_
  rintro _ w2 ⟨rfl, hx2⟩
  refine OW.val rfl rfl (by first | exact EX.neqN (b := 0) rfl rfl | exact EX.neqZ rfl rfl) ?_
  refine OW.nil ?_
  have hm2 := hm1.ext hx2
  have x2 := hx1.trans hx2
  by_cases h : mayM m
  · rw [checkM_some h]
    refine KW.condD rfl (fun c1 => ?_) (fun c1 => ?_)
    · omega
    · obtain ⟨hpl, _⟩ := may_path h
      have hh := h
      obtain ⟨_, h2, h3, h4, h5, h6, h7⟩ := h
      obtain ⟨st, est⟩ := Int.eq_ofNat_of_zero_le (show 0 ≤ m.start by omega)
      obtain ⟨se, ese⟩ := Int.eq_ofNat_of_zero_le (show 0 ≤ m.sectors by omega)
      obtain ⟨sz, esz⟩ := Int.eq_ofNat_of_zero_le (show 0 ≤ m.size by omega)
      have hsum := hm.sum
      have hpl2 : m.path.length ≤ 255 := by omega
      have hcells : m.cells = [str m.path, .int .i64 (st : Int), .int .i64 (se : Int), .int .i64 (sz : Int), .int .u32 (m.sum : Int)] := by unfold M.cells; rw [est, ese, esz]
      have hmt : memberT m = [UInt8.ofNat m.path.length] ++ m.path ++ be 2 st ++ be 2 se ++ be 2 sz ++ be 4 m.sum := by unfold memberT; rw [est, ese, esz, be_one _ hpl2]; rfl
      rw [hcells] at hm2
      have l2 := be_length 2 st
      have l3 := be_length 2 se
      have l4 := be_length 2 sz
      have l5 := be_length 4 m.sum
      rw [memberM_some hh, hmt]
      refine KW.skip (KW.seq ?_)
      refine KW.cut1 (fun (wr : World) => Ext w wr) (fun (wr : World) => [(2, str ([UInt8.ofNat m.path.length] ++ m.path ++ be 2 st ++ be 2 se ++ be 2 sz ++ be 4 m.sum)), (3, .int .i64 ((0 : Nat) : Int))]) (fun (wr : World) => wr) ?_ ?_
      · skip
        refine KW.regionG (N := 31) (fun w' => Ext w w' ∧ Bk w' mb 40 [str m.path, .int .i64 (st : Int), .int .i64 (se : Int), .int .i64 (sz : Int), .int .u32 (m.sum : Int)]) (by kernel_rfl) rfl ?_
        have hS : (fun w' => Ext w w' ∧ Bk w' mb 40 [str m.path, .int .i64 (st : Int), .int .i64 (se : Int), .int .i64 (sz : Int), .int .u32 (m.sum : Int)]) w2.drew := ⟨x2.trans (Ext.drew w2), hm2.drew⟩
        refine GW.val 0 rfl (by kernel_rfl) (by kernel_rfl) (by kernel_rfl) rfl rfl hS (fun w' hS' => EX.fieldAddr (off := 0) Try.underlying40 rfl rfl ti9 rfl rfl) ?_
        refine GW.val 1 rfl (by kernel_rfl) (by kernel_rfl) (by kernel_rfl) rfl rfl hS (fun w' hS' => EX.load Try.underlying9 rfl rfl (hS'.2.cell_of rfl)) ?_
        refine GW.val 2 rfl (by kernel_rfl) (by kernel_rfl) (by kernel_rfl) rfl rfl hS (fun w' hS' => EX.lenS Try.underlying9 rfl) ?_
        refine GW.val 3 rfl (by kernel_rfl) (by kernel_rfl) (by kernel_rfl) rfl rfl hS (fun w' hS' => by first | exact EX.convN (m := 255) Try.underlying3 Try.underlying5 rfl rfl (by omega) | exact EX.convW (m := 256) Try.underlying3 Try.underlying5 rfl rfl (by decide) | exact EX.convZ Try.underlying3 Try.underlying5 rfl) ?_
        refine GW.val 6 rfl (by kernel_rfl) (by kernel_rfl) (by kernel_rfl) rfl rfl hS (fun w' hS' => EX.fieldAddr (off := 0) Try.underlying40 rfl rfl ti9 rfl rfl) ?_
        refine GW.val 7 rfl (by kernel_rfl) (by kernel_rfl) (by kernel_rfl) rfl rfl hS (fun w' hS' => EX.load Try.underlying9 rfl rfl (hS'.2.cell_of rfl)) ?_
        refine GW.val 9 rfl (by kernel_rfl) (by kernel_rfl) (by kernel_rfl) rfl rfl hS (fun w' hS' => EX.fieldAddr (off := 1) Try.underlying40 rfl rfl ti3 rfl rfl) ?_
        refine GW.val 10 rfl (by kernel_rfl) (by kernel_rfl) (by kernel_rfl) rfl rfl hS (fun w' hS' => EX.load Try.underlying3 rfl rfl (hS'.2.cell_of rfl)) ?_
        refine GW.val 11 rfl (by kernel_rfl) (by kernel_rfl) (by kernel_rfl) rfl rfl hS (fun w' hS' => by first | exact EX.convN (m := 18446744073709551615) Try.underlying3 Try.underlying56 rfl rfl (by omega) | exact EX.convW (m := 18446744073709551616) Try.underlying3 Try.underlying56 rfl rfl (by decide) | exact EX.convZ Try.underlying3 Try.underlying56 rfl) ?_
        refine GW.val 14 rfl (by kernel_rfl) (by kernel_rfl) (by kernel_rfl) rfl rfl hS (fun w' hS' => EX.fieldAddr (off := 2) Try.underlying40 rfl rfl ti3 rfl rfl) ?_
        refine GW.val 15 rfl (by kernel_rfl) (by kernel_rfl) (by kernel_rfl) rfl rfl hS (fun w' hS' => EX.load Try.underlying3 rfl rfl (hS'.2.cell_of rfl)) ?_
        refine GW.val 16 rfl (by kernel_rfl) (by kernel_rfl) (by kernel_rfl) rfl rfl hS (fun w' hS' => by first | exact EX.convN (m := 18446744073709551615) Try.underlying3 Try.underlying56 rfl rfl (by omega) | exact EX.convW (m := 18446744073709551616) Try.underlying3 Try.underlying56 rfl rfl (by decide) | exact EX.convZ Try.underlying3 Try.underlying56 rfl) ?_
        refine GW.val 19 rfl (by kernel_rfl) (by kernel_rfl) (by kernel_rfl) rfl rfl hS (fun w' hS' => EX.fieldAddr (off := 3) Try.underlying40 rfl rfl ti3 rfl rfl) ?_
        refine GW.val 20 rfl (by kernel_rfl) (by kernel_rfl) (by kernel_rfl) rfl rfl hS (fun w' hS' => EX.load Try.underlying3 rfl rfl (hS'.2.cell_of rfl)) ?_
        refine GW.val 21 rfl (by kernel_rfl) (by kernel_rfl) (by kernel_rfl) rfl rfl hS (fun w' hS' => by first | exact EX.convN (m := 18446744073709551615) Try.underlying3 Try.underlying56 rfl rfl (by omega) | exact EX.convW (m := 18446744073709551616) Try.underlying3 Try.underlying56 rfl rfl (by decide) | exact EX.convZ Try.underlying3 Try.underlying56 rfl) ?_
        refine GW.val 24 rfl (by kernel_rfl) (by kernel_rfl) (by kernel_rfl) rfl rfl hS (fun w' hS' => EX.fieldAddr (off := 4) Try.underlying40 rfl rfl ti38 rfl rfl) ?_
        refine GW.val 25 rfl (by kernel_rfl) (by kernel_rfl) (by kernel_rfl) rfl rfl hS (fun w' hS' => EX.load Try.underlying38 rfl rfl (hS'.2.cell_of rfl)) ?_
        refine GW.val 26 rfl (by kernel_rfl) (by kernel_rfl) (by kernel_rfl) rfl rfl hS (fun w' hS' => by first | exact EX.convN (m := 18446744073709551615) Try.underlying38 Try.underlying56 rfl rfl (by omega) | exact EX.convW (m := 18446744073709551616) Try.underlying38 Try.underlying56 rfl rfl (by decide) | exact EX.convZ Try.underlying38 Try.underlying56 rfl) ?_
        refine GW.two 4 12 (by kernel_rfl) ?_ ?_
        · refine GO.buildB 4 1 rfl rfl rfl Try.underlying46 ti5 rfl rfl rfl rfl rfl (by decide) ?_
          rintro gb w4 hge4 h4 hx4
          refine ⟨⟨hS.1.trans hx4, hS.2.ext hx4⟩, fun hS => ?_⟩
          refine GW.strong (fun w' => Ext w w' ∧ Bk w' mb 40 [str m.path, .int .i64 (st : Int), .int .i64 (se : Int), .int .i64 (sz : Int), .int .u32 (m.sum : Int)] ∧ Bk w' gb 5 [.int .u8 ((m.path.length : Nat) : Int)]) (fun _ h => ⟨h.1, h.2.1⟩) ?_
          replace hS := (⟨hS.1, hS.2, h4⟩ : (fun w' => Ext w w' ∧ Bk w' mb 40 [str m.path, .int .i64 (st : Int), .int .i64 (se : Int), .int .i64 (sz : Int), .int .u32 (m.sum : Int)] ∧ Bk w' gb 5 [.int .u8 ((m.path.length : Nat) : Int)]) w4)
          refine GW.val 5 rfl (by kernel_rfl) (by kernel_rfl) (by kernel_rfl) rfl rfl hS (fun w' hS' => EX.strOf Try.underlying46 Try.underlying5 Try.underlying9 rfl (oneB hS'.2.2 hpl2) rfl) ?_
          refine GW.val 8 rfl (by kernel_rfl) (by kernel_rfl) (by kernel_rfl) rfl rfl hS (fun w' hS' => EX.addS rfl rfl (by first | omega | (simp only [List.length_append, List.length_cons, List.length_nil, List.length_take, List.length_drop, List.length_replicate]; omega))) ?_
          refine GW.call 12 rfl (by kernel_rfl) rfl rfl rfl (rNumber_r st 2 (by omega) (by decide) w4) ?_
          rintro _ w12 ⟨rfl, hx12⟩
          refine ⟨⟨hS.1.trans hx12, hS.2.1.ext hx12, hS.2.2.ext hx12⟩, fun hS => ?_⟩
          refine GW.val 13 rfl (by kernel_rfl) (by kernel_rfl) (by kernel_rfl) rfl rfl hS (fun w' hS' => EX.addS rfl rfl (by first | omega | (simp only [List.length_append, List.length_cons, List.length_nil, List.length_take, List.length_drop, List.length_replicate]; omega))) ?_
          refine GW.call 17 rfl (by kernel_rfl) rfl rfl rfl (rNumber_r se 2 (by omega) (by decide) w12) ?_
          rintro _ w17 ⟨rfl, hx17⟩
          refine ⟨⟨hS.1.trans hx17, hS.2.1.ext hx17, hS.2.2.ext hx17⟩, fun hS => ?_⟩
          refine GW.val 18 rfl (by kernel_rfl) (by kernel_rfl) (by kernel_rfl) rfl rfl hS (fun w' hS' => EX.addS rfl rfl (by first | omega | (simp only [List.length_append, List.length_cons, List.length_nil, List.length_take, List.length_drop, List.length_replicate]; omega))) ?_
          refine GW.call 22 rfl (by kernel_rfl) rfl rfl rfl (rNumber_r sz 2 (by omega) (by decide) w17) ?_
          rintro _ w22 ⟨rfl, hx22⟩
          refine ⟨⟨hS.1.trans hx22, hS.2.1.ext hx22, hS.2.2.ext hx22⟩, fun hS => ?_⟩
          refine GW.val 23 rfl (by kernel_rfl) (by kernel_rfl) (by kernel_rfl) rfl rfl hS (fun w' hS' => EX.addS rfl rfl (by first | omega | (simp only [List.length_append, List.length_cons, List.length_nil, List.length_take, List.length_drop, List.length_replicate]; omega))) ?_
          refine GW.call 27 rfl (by kernel_rfl) rfl rfl rfl (rNumber_r m.sum 4 (by omega) (by decide) w22) ?_
          rintro _ w27 ⟨rfl, hx27⟩
          refine ⟨⟨hS.1.trans hx27, hS.2.1.ext hx27, hS.2.2.ext hx27⟩, fun hS => ?_⟩
          refine GW.val 28 rfl (by kernel_rfl) (by kernel_rfl) (by kernel_rfl) rfl rfl hS (fun w' hS' => EX.addS rfl rfl (by first | omega | (simp only [List.length_append, List.length_cons, List.length_nil, List.length_take, List.length_drop, List.length_replicate]; omega))) ?_
          refine GW.val 29 rfl (by kernel_rfl) (by kernel_rfl) (by kernel_rfl) rfl rfl hS (fun w' hS' => EX.assign rfl) ?_
          refine GW.val 30 rfl (by kernel_rfl) (by kernel_rfl) (by kernel_rfl) rfl rfl hS (fun w' hS' => EX.assign rfl) ?_
          refine GW.done (by kernel_rfl) ?_
          refine KW.meet1 w27 ⟨rfl, rfl, trivial⟩ rfl ?_
          exact hS.1
        · refine GO.call 12 rfl rfl rfl rfl (rNumber_r st 2 (by omega) (by decide) w2.drew) ?_
          rintro _ w12 ⟨rfl, hx12⟩
          refine ⟨⟨hS.1.trans hx12, hS.2.ext hx12⟩, fun hS => ?_⟩
          refine GW.two 4 17 (by kernel_rfl) ?_ ?_
          · refine GO.buildB 4 1 rfl rfl rfl Try.underlying46 ti5 rfl rfl rfl rfl rfl (by decide) ?_
            rintro gb w4 hge4 h4 hx4
            refine ⟨⟨hS.1.trans hx4, hS.2.ext hx4⟩, fun hS => ?_⟩
            refine GW.strong (fun w' => Ext w w' ∧ Bk w' mb 40 [str m.path, .int .i64 (st : Int), .int .i64 (se : Int), .int .i64 (sz : Int), .int .u32 (m.sum : Int)] ∧ Bk w' gb 5 [.int .u8 ((m.path.length : Nat) : Int)]) (fun _ h => ⟨h.1, h.2.1⟩) ?_
            replace hS := (⟨hS.1, hS.2, h4⟩ : (fun w' => Ext w w' ∧ Bk w' mb 40 [str m.path, .int .i64 (st : Int), .int .i64 (se : Int), .int .i64 (sz : Int), .int .u32 (m.sum : Int)] ∧ Bk w' gb 5 [.int .u8 ((m.path.length : Nat) : Int)]) w4)
            refine GW.val 5 rfl (by kernel_rfl) (by kernel_rfl) (by kernel_rfl) rfl rfl hS (fun w' hS' => EX.strOf Try.underlying46 Try.underlying5 Try.underlying9 rfl (oneB hS'.2.2 hpl2) rfl) ?_
            refine GW.val 8 rfl (by kernel_rfl) (by kernel_rfl) (by kernel_rfl) rfl rfl hS (fun w' hS' => EX.addS rfl rfl (by first | omega | (simp only [List.length_append, List.length_cons, List.length_nil, List.length_take, List.length_drop, List.length_replicate]; omega))) ?_
            refine GW.val 13 rfl (by kernel_rfl) (by kernel_rfl) (by kernel_rfl) rfl rfl hS (fun w' hS' => EX.addS rfl rfl (by first | omega | (simp only [List.length_append, List.length_cons, List.length_nil, List.length_take, List.length_drop, List.length_replicate]; omega))) ?_
            refine GW.call 17 rfl (by kernel_rfl) rfl rfl rfl (rNumber_r se 2 (by omega) (by decide) w4) ?_
            rintro _ w17 ⟨rfl, hx17⟩
            refine ⟨⟨hS.1.trans hx17, hS.2.1.ext hx17, hS.2.2.ext hx17⟩, fun hS => ?_⟩
            refine GW.val 18 rfl (by kernel_rfl) (by kernel_rfl) (by kernel_rfl) rfl rfl hS (fun w' hS' => EX.addS rfl rfl (by first | omega | (simp only [List.length_append, List.length_cons, List.length_nil, List.length_take, List.length_drop, List.length_replicate]; omega))) ?_
            refine GW.call 22 rfl (by kernel_rfl) rfl rfl rfl (rNumber_r sz 2 (by omega) (by decide) w17) ?_
            rintro _ w22 ⟨rfl, hx22⟩
            refine ⟨⟨hS.1.trans hx22, hS.2.1.ext hx22, hS.2.2.ext hx22⟩, fun hS => ?_⟩
            refine GW.val 23 rfl (by kernel_rfl) (by kernel_rfl) (by kernel_rfl) rfl rfl hS (fun w' hS' => EX.addS rfl rfl (by first | omega | (simp only [List.length_append, List.length_cons, List.length_nil, List.length_take, List.length_drop, List.length_replicate]; omega))) ?_
            refine GW.call 27 rfl (by kernel_rfl) rfl rfl rfl (rNumber_r m.sum 4 (by omega) (by decide) w22) ?_
            rintro _ w27 ⟨rfl, hx27⟩
            refine ⟨⟨hS.1.trans hx27, hS.2.1.ext hx27, hS.2.2.ext hx27⟩, fun hS => ?_⟩
            refine GW.val 28 rfl (by kernel_rfl) (by kernel_rfl) (by kernel_rfl) rfl rfl hS (fun w' hS' => EX.addS rfl rfl (by first | omega | (simp only [List.length_append, List.length_cons, List.length_nil, List.length_take, List.length_drop, List.length_replicate]; omega))) ?_
            refine GW.val 29 rfl (by kernel_rfl) (by kernel_rfl) (by kernel_rfl) rfl rfl hS (fun w' hS' => EX.assign rfl) ?_
            refine GW.val 30 rfl (by kernel_rfl) (by kernel_rfl) (by kernel_rfl) rfl rfl hS (fun w' hS' => EX.assign rfl) ?_
            refine GW.done (by kernel_rfl) ?_
            refine KW.meet1 w27 ⟨rfl, rfl, trivial⟩ rfl ?_
            exact hS.1
          · refine GO.call 17 rfl rfl rfl rfl (rNumber_r se 2 (by omega) (by decide) w12) ?_
            rintro _ w17 ⟨rfl, hx17⟩
            refine ⟨⟨hS.1.trans hx17, hS.2.ext hx17⟩, fun hS => ?_⟩
            refine GW.two 4 22 (by kernel_rfl) ?_ ?_
            · refine GO.buildB 4 1 rfl rfl rfl Try.underlying46 ti5 rfl rfl rfl rfl rfl (by decide) ?_
              rintro gb w4 hge4 h4 hx4
              refine ⟨⟨hS.1.trans hx4, hS.2.ext hx4⟩, fun hS => ?_⟩
              refine GW.strong (fun w' => Ext w w' ∧ Bk w' mb 40 [str m.path, .int .i64 (st : Int), .int .i64 (se : Int), .int .i64 (sz : Int), .int .u32 (m.sum : Int)] ∧ Bk w' gb 5 [.int .u8 ((m.path.length : Nat) : Int)]) (fun _ h => ⟨h.1, h.2.1⟩) ?_
              replace hS := (⟨hS.1, hS.2, h4⟩ : (fun w' => Ext w w' ∧ Bk w' mb 40 [str m.path, .int .i64 (st : Int), .int .i64 (se : Int), .int .i64 (sz : Int), .int .u32 (m.sum : Int)] ∧ Bk w' gb 5 [.int .u8 ((m.path.length : Nat) : Int)]) w4)
              refine GW.val 5 rfl (by kernel_rfl) (by kernel_rfl) (by kernel_rfl) rfl rfl hS (fun w' hS' => EX.strOf Try.underlying46 Try.underlying5 Try.underlying9 rfl (oneB hS'.2.2 hpl2) rfl) ?_
              refine GW.val 8 rfl (by kernel_rfl) (by kernel_rfl) (by kernel_rfl) rfl rfl hS (fun w' hS' => EX.addS rfl rfl (by first | omega | (simp only [List.length_append, List.length_cons, List.length_nil, List.length_take, List.length_drop, List.length_replicate]; omega))) ?_
              refine GW.val 13 rfl (by kernel_rfl) (by kernel_rfl) (by kernel_rfl) rfl rfl hS (fun w' hS' => EX.addS rfl rfl (by first | omega | (simp only [List.length_append, List.length_cons, List.length_nil, List.length_take, List.length_drop, List.length_replicate]; omega))) ?_
              refine GW.val 18 rfl (by kernel_rfl) (by kernel_rfl) (by kernel_rfl) rfl rfl hS (fun w' hS' => EX.addS rfl rfl (by first | omega | (simp only [List.length_append, List.length_cons, List.length_nil, List.length_take, List.length_drop, List.length_replicate]; omega))) ?_
              refine GW.call 22 rfl (by kernel_rfl) rfl rfl rfl (rNumber_r sz 2 (by omega) (by decide) w4) ?_
              rintro _ w22 ⟨rfl, hx22⟩
              refine ⟨⟨hS.1.trans hx22, hS.2.1.ext hx22, hS.2.2.ext hx22⟩, fun hS => ?_⟩
              refine GW.val 23 rfl (by kernel_rfl) (by kernel_rfl) (by kernel_rfl) rfl rfl hS (fun w' hS' => EX.addS rfl rfl (by first | omega | (simp only [List.length_append, List.length_cons, List.length_nil, List.length_take, List.length_drop, List.length_replicate]; omega))) ?_
              refine GW.call 27 rfl (by kernel_rfl) rfl rfl rfl (rNumber_r m.sum 4 (by omega) (by decide) w22) ?_
              rintro _ w27 ⟨rfl, hx27⟩
              refine ⟨⟨hS.1.trans hx27, hS.2.1.ext hx27, hS.2.2.ext hx27⟩, fun hS => ?_⟩
              refine GW.val 28 rfl (by kernel_rfl) (by kernel_rfl) (by kernel_rfl) rfl rfl hS (fun w' hS' => EX.addS rfl rfl (by first | omega | (simp only [List.length_append, List.length_cons, List.length_nil, List.length_take, List.length_drop, List.length_replicate]; omega))) ?_
              refine GW.val 29 rfl (by kernel_rfl) (by kernel_rfl) (by kernel_rfl) rfl rfl hS (fun w' hS' => EX.assign rfl) ?_
              refine GW.val 30 rfl (by kernel_rfl) (by kernel_rfl) (by kernel_rfl) rfl rfl hS (fun w' hS' => EX.assign rfl) ?_
              refine GW.done (by kernel_rfl) ?_
              refine KW.meet1 w27 ⟨rfl, rfl, trivial⟩ rfl ?_
              exact hS.1
            · refine GO.call 22 rfl rfl rfl rfl (rNumber_r sz 2 (by omega) (by decide) w17) ?_
              rintro _ w22 ⟨rfl, hx22⟩
              refine ⟨⟨hS.1.trans hx22, hS.2.ext hx22⟩, fun hS => ?_⟩
              refine GW.two 4 27 (by kernel_rfl) ?_ ?_
              · refine GO.buildB 4 1 rfl rfl rfl Try.underlying46 ti5 rfl rfl rfl rfl rfl (by decide) ?_
                rintro gb w4 hge4 h4 hx4
                refine ⟨⟨hS.1.trans hx4, hS.2.ext hx4⟩, fun hS => ?_⟩
                refine GW.strong (fun w' => Ext w w' ∧ Bk w' mb 40 [str m.path, .int .i64 (st : Int), .int .i64 (se : Int), .int .i64 (sz : Int), .int .u32 (m.sum : Int)] ∧ Bk w' gb 5 [.int .u8 ((m.path.length : Nat) : Int)]) (fun _ h => ⟨h.1, h.2.1⟩) ?_
                replace hS := (⟨hS.1, hS.2, h4⟩ : (fun w' => Ext w w' ∧ Bk w' mb 40 [str m.path, .int .i64 (st : Int), .int .i64 (se : Int), .int .i64 (sz : Int), .int .u32 (m.sum : Int)] ∧ Bk w' gb 5 [.int .u8 ((m.path.length : Nat) : Int)]) w4)
                refine GW.val 5 rfl (by kernel_rfl) (by kernel_rfl) (by kernel_rfl) rfl rfl hS (fun w' hS' => EX.strOf Try.underlying46 Try.underlying5 Try.underlying9 rfl (oneB hS'.2.2 hpl2) rfl) ?_
                refine GW.val 8 rfl (by kernel_rfl) (by kernel_rfl) (by kernel_rfl) rfl rfl hS (fun w' hS' => EX.addS rfl rfl (by first | omega | (simp only [List.length_append, List.length_cons, List.length_nil, List.length_take, List.length_drop, List.length_replicate]; omega))) ?_
                refine GW.val 13 rfl (by kernel_rfl) (by kernel_rfl) (by kernel_rfl) rfl rfl hS (fun w' hS' => EX.addS rfl rfl (by first | omega | (simp only [List.length_append, List.length_cons, List.length_nil, List.length_take, List.length_drop, List.length_replicate]; omega))) ?_
                refine GW.val 18 rfl (by kernel_rfl) (by kernel_rfl) (by kernel_rfl) rfl rfl hS (fun w' hS' => EX.addS rfl rfl (by first | omega | (simp only [List.length_append, List.length_cons, List.length_nil, List.length_take, List.length_drop, List.length_replicate]; omega))) ?_
                refine GW.val 23 rfl (by kernel_rfl) (by kernel_rfl) (by kernel_rfl) rfl rfl hS (fun w' hS' => EX.addS rfl rfl (by first | omega | (simp only [List.length_append, List.length_cons, List.length_nil, List.length_take, List.length_drop, List.length_replicate]; omega))) ?_
                refine GW.call 27 rfl (by kernel_rfl) rfl rfl rfl (rNumber_r m.sum 4 (by omega) (by decide) w4) ?_
                rintro _ w27 ⟨rfl, hx27⟩
                refine ⟨⟨hS.1.trans hx27, hS.2.1.ext hx27, hS.2.2.ext hx27⟩, fun hS => ?_⟩
                refine GW.val 28 rfl (by kernel_rfl) (by kernel_rfl) (by kernel_rfl) rfl rfl hS (fun w' hS' => EX.addS rfl rfl (by first | omega | (simp only [List.length_append, List.length_cons, List.length_nil, List.length_take, List.length_drop, List.length_replicate]; omega))) ?_
                refine GW.val 29 rfl (by kernel_rfl) (by kernel_rfl) (by kernel_rfl) rfl rfl hS (fun w' hS' => EX.assign rfl) ?_
                refine GW.val 30 rfl (by kernel_rfl) (by kernel_rfl) (by kernel_rfl) rfl rfl hS (fun w' hS' => EX.assign rfl) ?_
                refine GW.done (by kernel_rfl) ?_
                refine KW.meet1 w27 ⟨rfl, rfl, trivial⟩ rfl ?_
                exact hS.1
              · refine GO.call 27 rfl rfl rfl rfl (rNumber_r m.sum 4 (by omega) (by decide) w22) ?_
                rintro _ w27 ⟨rfl, hx27⟩
                refine ⟨⟨hS.1.trans hx27, hS.2.ext hx27⟩, fun hS => ?_⟩
                refine GW.buildB 4 1 rfl (by kernel_rfl) rfl rfl Try.underlying46 ti5 rfl rfl rfl rfl rfl (by decide) ?_
                rintro gb w4 hge4 h4 hx4
                refine ⟨⟨hS.1.trans hx4, hS.2.ext hx4⟩, fun hS => ?_⟩
                refine GW.strong (fun w' => Ext w w' ∧ Bk w' mb 40 [str m.path, .int .i64 (st : Int), .int .i64 (se : Int), .int .i64 (sz : Int), .int .u32 (m.sum : Int)] ∧ Bk w' gb 5 [.int .u8 ((m.path.length : Nat) : Int)]) (fun _ h => ⟨h.1, h.2.1⟩) ?_
                replace hS := (⟨hS.1, hS.2, h4⟩ : (fun w' => Ext w w' ∧ Bk w' mb 40 [str m.path, .int .i64 (st : Int), .int .i64 (se : Int), .int .i64 (sz : Int), .int .u32 (m.sum : Int)] ∧ Bk w' gb 5 [.int .u8 ((m.path.length : Nat) : Int)]) w4)
                refine GW.val 5 rfl (by kernel_rfl) (by kernel_rfl) (by kernel_rfl) rfl rfl hS (fun w' hS' => EX.strOf Try.underlying46 Try.underlying5 Try.underlying9 rfl (oneB hS'.2.2 hpl2) rfl) ?_
                refine GW.val 8 rfl (by kernel_rfl) (by kernel_rfl) (by kernel_rfl) rfl rfl hS (fun w' hS' => EX.addS rfl rfl (by first | omega | (simp only [List.length_append, List.length_cons, List.length_nil, List.length_take, List.length_drop, List.length_replicate]; omega))) ?_
                refine GW.val 13 rfl (by kernel_rfl) (by kernel_rfl) (by kernel_rfl) rfl rfl hS (fun w' hS' => EX.addS rfl rfl (by first | omega | (simp only [List.length_append, List.length_cons, List.length_nil, List.length_take, List.length_drop, List.length_replicate]; omega))) ?_
                refine GW.val 18 rfl (by kernel_rfl) (by kernel_rfl) (by kernel_rfl) rfl rfl hS (fun w' hS' => EX.addS rfl rfl (by first | omega | (simp only [List.length_append, List.length_cons, List.length_nil, List.length_take, List.length_drop, List.length_replicate]; omega))) ?_
                refine GW.val 23 rfl (by kernel_rfl) (by kernel_rfl) (by kernel_rfl) rfl rfl hS (fun w' hS' => EX.addS rfl rfl (by first | omega | (simp only [List.length_append, List.length_cons, List.length_nil, List.length_take, List.length_drop, List.length_replicate]; omega))) ?_
                refine GW.val 28 rfl (by kernel_rfl) (by kernel_rfl) (by kernel_rfl) rfl rfl hS (fun w' hS' => EX.addS rfl rfl (by first | omega | (simp only [List.length_append, List.length_cons, List.length_nil, List.length_take, List.length_drop, List.length_replicate]; omega))) ?_
                refine GW.val 29 rfl (by kernel_rfl) (by kernel_rfl) (by kernel_rfl) rfl rfl hS (fun w' hS' => EX.assign rfl) ?_
                refine GW.val 30 rfl (by kernel_rfl) (by kernel_rfl) (by kernel_rfl) rfl rfl hS (fun w' hS' => EX.assign rfl) ?_
                refine GW.done (by kernel_rfl) ?_
                refine KW.meet1 w4 ⟨rfl, rfl, trivial⟩ rfl ?_
                exact hS.1
      · rintro wr xr
        refine KW.ret (ret2 rfl rfl rfl ?_)
        exact ⟨rfl, xr⟩
  · rw [checkM_none h, memberM_none h]
    refine KW.condD rfl (fun c1 => ?_) (fun c1 => ?_)
    · refine KW.seq (KW.region ?_)
      refine OW.val rfl rfl (EX.assign rfl) ?_
      refine OW.val rfl rfl (EX.assign rfl) ?_
      refine OW.nil ?_
      refine KW.ret (ret2 rfl rfl rfl ?_)
      exact ⟨rfl, x2⟩
    · omega
end Go.Proofs.Ytfjaiokhpbddlaa
