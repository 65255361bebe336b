/-
  ustar: what the statements begin with, and the statements.
-/
import Derived.Test.YtaoieiiggbpjeaaUstF
import Derived.Test.YtaoieiiggbpjeaaUstO
namespace Go.Proofs.Ytaoieiiggbpjeaa
open Go.RowKit Fld Ust
set_option linter.unusedVariables false
set_option linter.unusedSimpArgs false

theorem and_dec (p q : Prop) [Decidable p] [Decidable q] : (decide p && decide q) = decide (p ∧ q) := by simp
theorem hd_eq (a b : Hd) : ([decide (a.path = b.path), decide (a.size = b.size), decide ((a.kind : Int) = (b.kind : Int)), decide (a.mode = b.mode), decide (a.time = b.time), decide (a.link = b.link), (decide (a.n0 = b.n0) && decide (a.n1 = b.n1)), (decide (a.i0 = b.i0) && decide (a.i1 = b.i1))].all id) = decide (a = b) := by
  obtain ⟨a1, a2, a3, a4, a5, a6, a7, a8, a9, a10⟩ := a
  obtain ⟨b1, b2, b3, b4, b5, b6, b7, b8, b9, b10⟩ := b
  have e : ((a3 : Int) = (b3 : Int)) ↔ a3 = b3 := by omega
  rw [Bool.eq_iff_iff]
  simp only [e, List.all_cons, List.all_nil, id, Bool.and_true, Bool.and_eq_true, decide_eq_true_eq, Hd.mk.injEq]
  constructor
  · rintro ⟨h1, h2, h3, h4, h5, h6, ⟨h7, h8⟩, h9, h10⟩
    exact ⟨h1, h2, h3, h4, h5, h6, h7, h8, h9, h10⟩
  · rintro ⟨h1, h2, h3, h4, h5, h6, h7, h8, h9, h10⟩
    exact ⟨h1, h2, h3, h4, h5, h6, ⟨h7, h8⟩, h9, h10⟩
def aH : Hd := ⟨[97], 5, 48, 420, 0, [], [], [], 0, 0⟩
theorem aH_ok : aH.Ok := ⟨by decide, by decide, by decide, by decide, by decide, ⟨by decide, by decide⟩, ⟨by decide, by decide⟩, ⟨by decide, by decide⟩, ⟨by decide, by decide⟩, ⟨by decide, by decide⟩⟩
theorem aH_may : May aH := by decide
theorem aH_split : splitP aH.path = ([], [97], true) := by decide
theorem aH_enc : encH aH = (hdText aH, 0) := by
  unfold encH
  rw [aH_split, if_neg (by decide), if_pos aH_may]
theorem aH_len : (hdText aH).length = 512 := hdText_len aH_may (by rw [aH_split]) (by decide)
theorem aH_dec : decH (hdText aH) = (aH, 0) := dec_enc aH_may (by rw [aH_split]) (by decide)
theorem aH_mode : sl (hdText aH) 100 8 = [48, 48, 48, 48, 54, 52, 52, 0] := by
  obtain ⟨_, e, h⟩ := (fields_of (name := (splitP aH.path).2.1) (pre := (splitP aH.path).1) (s := sumF (hdSum aH)) aH_may (by rw [aH_split]; decide) (by rw [aH_split]; decide) (sumF_len _)).2 1 100 8 (by decide) rfl rfl
  cases e
  exact h.trans (by decide +kernel)
theorem zero_nul : zeroH (nul 512) = true := by
  unfold zeroH nul
  rw [decide_eq_true_eq]
  exact ⟨List.length_replicate, fun c hc => (List.mem_replicate.1 hc).2⟩
set_option maxRecDepth 20000 in
theorem awake_s (w : World) : Ret Try.prog 11 [] w fun v w' => v = .bool true ∧ Ext w w' := by
  have la := aH_len
  refine Ret.enter Try.func11 rfl Try.ntmps11 (by kernel_rfl) rfl ?_
  refine KW.seq (KW.region ?_)
  refine OW.val rfl rfl (EX.assign rfl) ?_
  refine OW.nil ?_
  refine KW.seq (KW.region ?_)
  refine OW.val rfl rfl (EX.buildS (pl := [(0, 1), (1, 1), (2, 1), (3, 1), (4, 1), (5, 1), (6, 2), (8, 2)]) (ks := [0, 1, 2, 3]) (is := [0, 1, 2, 3]) (zs := [str [], .int .i64 0, .int .u8 0, .int .i64 0, .int .i64 0, str [], str [], str [], .int .i64 0, .int .i64 0]) Try.underlying25 ti25 (by kernel_rfl) rfl rfl rfl (by first | rfl | (simp only [List.all_cons, List.all_nil, Bool.and_true, Bool.true_and, Bool.and_eq_true, Value.oneCell']; repeat (first | assumption | exact Own.one (by assumption) | constructor))) (by simp only [setAll, List.set_cons_zero, List.set_cons_succ]; rfl)) ?_
  refine OW.allocB (l := [str [], .int .i64 0, .int .u8 0, .int .i64 0, .int .i64 0, str [], str [], str [], .int .i64 0, .int .i64 0]) rfl rfl ti25 rfl ?_
  rintro hb w1 hge1 hh1 hx1
  refine OW.storeS rfl ti25 rfl rfl rfl (by first | rfl | (simp only [List.all_cons, List.all_nil, Bool.and_true, Bool.true_and, Bool.and_eq_true, Value.oneCell']; repeat (first | assumption | exact Own.one (by assumption) | constructor))) (hh1) (Nat.le_refl _) ?_
  rintro w2 hh2 hm2
  refine OW.nil ?_
  refine KW.seq (KW.region ?_)
  replace hh2 : Bk w2 hb 25 aH.cells := hh2
  have x2 : Ext w w2 := below_mo hx1 hm2 hx1.size (fun k hk => by simp at hk; omega)
  have c1 := encode_s aH aH_ok w2
  rw [aH_enc] at c1
  refine OW.val rfl rfl (EX.loadBk Try.underlying25 rfl ti25 rfl (hh2) (rfl)) ?_
  refine OW.call rfl rfl rfl (c1) ?_
  rintro _ w3 ⟨rfl, hx3⟩
  refine OW.val rfl rfl (EX.move rfl) ?_
  refine OW.val rfl rfl (EX.extract rfl rfl) ?_
  refine OW.val rfl rfl (EX.extract rfl rfl) ?_
  refine OW.val rfl rfl (EX.assign rfl) ?_
  refine OW.val rfl rfl (EX.assign rfl) ?_
  refine OW.nil ?_
  refine KW.seq (KW.region ?_)
  refine OW.val rfl rfl (EX.move rfl) ?_
  have c2 := decode_s (hdText aH) (by omega) w3
  rw [aH_dec] at c2
  have hh3 := hh2.ext hx3
  have x3 := x2.trans hx3
  refine OW.call rfl rfl rfl (c2) ?_
  rintro _ w4 ⟨rfl, hx4⟩
  refine OW.val rfl rfl (EX.move rfl) ?_
  refine OW.val rfl rfl (EX.extract rfl rfl) ?_
  refine OW.val rfl rfl (EX.extract rfl rfl) ?_
  have hh4 := hh3.ext hx4
  have x4 := x3.trans hx4
  refine OW.allocB (l := [str [], .int .i64 0, .int .u8 0, .int .i64 0, .int .i64 0, str [], str [], str [], .int .i64 0, .int .i64 0]) rfl rfl ti25 rfl ?_
  rintro gb w5 hge5 hg5 hx5
  refine OW.storeS rfl ti25 rfl rfl rfl (by first | rfl | (simp only [List.all_cons, List.all_nil, Bool.and_true, Bool.true_and, Bool.and_eq_true, Value.oneCell']; repeat (first | assumption | exact Own.one (by assumption) | constructor))) (hg5) (Nat.le_refl _) ?_
  rintro w6 hg6 hm6
  refine OW.val rfl rfl (EX.assign rfl) ?_
  refine OW.nil ?_
  refine KW.seq ?_
  replace hg6 : Bk w6 gb 25 aH.cells := hg6
  have x5 := x4.trans hx5
  have x6 : Ext w w6 := below_mo x5 hm6 x5.size (fun k hk => by simp at hk; have := x4.size; omega)
  have hne : hb ≠ gb := fun q => by have := hh4.lt; omega
  have hh6 := (hh4.ext hx5).mo hm6 (by simp; exact hne)
  have la2 : ((hdText aH, (0 : Nat)).1).length = 512 := la
  refine KW.region ?_
  refine OW.val rfl rfl (EX.move rfl) ?_
  refine OW.val rfl rfl (by first | exact EX.eqlN (b := 0) rfl rfl | exact EX.eqlZ rfl rfl) ?_
  refine OW.val rfl rfl (EX.move rfl) ?_
  refine OW.as 19 (.bool true) rfl (congrArg Value.bool (decide_eq_true (rfl))) ?_
  refine OW.val rfl rfl (EX.move rfl) ?_
  refine OW.val rfl rfl (EX.lenS Try.underlying9 rfl) ?_
  refine OW.val rfl rfl (by first | exact EX.eqlN (b := 512) rfl rfl | exact EX.eqlZ rfl rfl) ?_
  refine OW.val rfl rfl (EX.pickT rfl rfl) ?_
  refine OW.val rfl rfl (EX.move rfl) ?_
  refine OW.as 24 (.bool true) rfl (congrArg Value.bool (decide_eq_true (by omega))) ?_
  refine OW.val rfl rfl (EX.move rfl) ?_
  refine OW.val rfl rfl (EX.sliceLH (i := 100) (j := 108) Try.underlying9 rfl rfl rfl (by omega)) ?_
  refine OW.val rfl rfl (EX.eqlS (r := [48, 48, 48, 48, 54, 52, 52, 0]) rfl rfl) ?_
  refine OW.val rfl rfl (EX.pickT rfl rfl) ?_
  refine OW.val rfl rfl (EX.move rfl) ?_
  refine OW.as 29 (.bool true) rfl (congrArg Value.bool (decide_eq_true (aH_mode))) ?_
  refine OW.val rfl rfl (EX.move rfl) ?_
  refine OW.val rfl rfl (by first | exact EX.eqlN (b := 0) rfl rfl | exact EX.eqlZ rfl rfl) ?_
  refine OW.val rfl rfl (EX.pickT rfl rfl) ?_
  refine OW.val rfl rfl (EX.move rfl) ?_
  refine OW.as 33 (.bool true) rfl (congrArg Value.bool (decide_eq_true (rfl))) ?_
  refine OW.val rfl rfl (EX.loadBk Try.underlying25 rfl ti25 rfl (hg6) (rfl)) ?_
  refine OW.val rfl rfl (EX.loadBk Try.underlying25 rfl ti25 rfl (hh6) (rfl)) ?_
  refine OW.val rfl rfl (EX.eqlV Try.underlying25 (by kernel_rfl) (by kernel_rfl) rfl rfl (FE.one (by decide) Try.underlying9 rfl rfl rfl (eq_str Try.underlying9) (FE.one (by decide) Try.underlying3 rfl rfl rfl (eq_int Try.underlying3) (FE.one (by decide) Try.underlying5 rfl rfl rfl (eq_int Try.underlying5) (FE.one (by decide) Try.underlying3 rfl rfl rfl (eq_int Try.underlying3) (FE.one (by decide) Try.underlying3 rfl rfl rfl (eq_int Try.underlying3) (FE.one (by decide) Try.underlying9 rfl rfl rfl (eq_str Try.underlying9) (FE.two (by decide) Try.underlying22 ti22 Try.underlying9 rfl ti9 rfl rfl (eq_str Try.underlying9) (eq_str Try.underlying9) (FE.two (by decide) Try.underlying23 ti23 Try.underlying3 rfl ti3 rfl rfl (eq_int Try.underlying3) (eq_int Try.underlying3) FE.nil)))))))) rfl) ?_
  refine OW.val rfl rfl (EX.pickT rfl rfl) ?_
  refine OW.val rfl rfl (EX.move rfl) ?_
  refine OW.as 38 (.bool true) rfl (by simp) ?_
  refine OW.makeB (len := 512) rfl rfl Try.underlying38 ti5 rfl rfl rfl (by omega) (by omega) ?_
  rintro zb w7 hge7 hz7 hx7
  have hz8 : Bk w7 zb 5 (bytesV (nul 512)) := by rw [bytesV_nul]; exact hz7
  refine OW.val rfl rfl (EX.strOf Try.underlying38 Try.underlying5 Try.underlying9 rfl (hz8.sl) (nul_length 512)) ?_
  refine OW.call rfl rfl rfl (zero_s (nul 512) w7) ?_
  rintro _ _ ⟨rfl, rfl⟩
  refine OW.val rfl rfl (EX.pickT rfl rfl) ?_
  refine OW.val rfl rfl (EX.assign rfl) ?_
  refine OW.nil ?_
  refine KW.ret (ret1 rfl rfl ?_)
  exact ⟨congrArg Value.bool zero_nul, x6.trans hx7⟩
theorem ustarEncodes_s (h : Hd) (ho : h.Ok) (w : World) : Ret Try.prog 3 [.agg h.cells.toArray] w fun v w' => v = .bool true ∧ Ext w w' := by
  refine Ret.enter Try.func3 rfl Try.ntmps3 (by kernel_rfl) rfl ?_
  refine KW.seq (KW.region ?_)
  refine OW.boxS rfl rfl rfl ?_
  rintro hb w1 hge1 hh1 hx1
  refine OW.val rfl rfl (EX.assign rfl) ?_
  refine OW.nil ?_
  refine KW.seq (KW.region ?_)
  replace hh1 : Bk w1 hb 25 h.cells := hh1
  refine OW.val rfl rfl (EX.loadBk Try.underlying25 rfl ti25 rfl (hh1) (rfl)) ?_
  refine OW.call rfl rfl rfl (encode_s h ho w1) ?_
  rintro _ w2 ⟨rfl, hx2⟩
  refine OW.val rfl rfl (EX.move rfl) ?_
  refine OW.val rfl rfl (EX.extract rfl rfl) ?_
  refine OW.val rfl rfl (EX.extract rfl rfl) ?_
  refine OW.val rfl rfl (EX.assign rfl) ?_
  refine OW.val rfl rfl (EX.assign rfl) ?_
  refine OW.nil ?_
  refine KW.seq (KW.region ?_)
  have hh2 := hh1.ext hx2
  refine OW.val rfl rfl (EX.loadBk Try.underlying25 rfl ti25 rfl (hh2) (rfl)) ?_
  refine OW.call rfl rfl rfl (rencode_s h ho w2) ?_
  rintro _ w3 ⟨rfl, hx3⟩
  refine OW.val rfl rfl (EX.move rfl) ?_
  refine OW.val rfl rfl (EX.extract rfl rfl) ?_
  refine OW.val rfl rfl (EX.extract rfl rfl) ?_
  refine OW.val rfl rfl (EX.assign rfl) ?_
  refine OW.val rfl rfl (EX.assign rfl) ?_
  refine OW.nil ?_
  refine KW.seq ?_
  refine KW.region ?_
  refine OW.val rfl rfl (EX.move rfl) ?_
  refine OW.val rfl rfl (EX.move rfl) ?_
  refine OW.val rfl rfl (EX.eqlS rfl rfl) ?_
  refine OW.val rfl rfl (EX.move rfl) ?_
  refine OW.as 20 (.bool true) rfl (congrArg Value.bool (decide_eq_true (rfl))) ?_
  refine OW.val rfl rfl (EX.move rfl) ?_
  refine OW.val rfl rfl (EX.move rfl) ?_
  refine OW.val rfl rfl (by first | exact EX.eqlN rfl rfl | exact EX.eqlZ rfl rfl) ?_
  refine OW.val rfl rfl (EX.pickT rfl rfl) ?_
  refine OW.val rfl rfl (EX.move rfl) ?_
  refine OW.as 25 (.bool true) rfl (congrArg Value.bool (decide_eq_true (rfl))) ?_
  refine OW.call rfl rfl rfl (awake_s w3) ?_
  rintro _ w4 ⟨rfl, hx4⟩
  refine OW.val rfl rfl (EX.pickT rfl rfl) ?_
  refine OW.val rfl rfl (EX.assign rfl) ?_
  refine OW.nil ?_
  refine KW.ret (ret1 rfl rfl ?_)
  exact ⟨rfl, ((hx1.trans hx2).trans hx3).trans hx4⟩
theorem ustarDecodes_s (s : List UInt8) (hs : s.length ≤ 140737488355328) (w : World) : Ret Try.prog 4 [str s] w fun v w' => v = .bool true ∧ Ext w w' := by
  refine Ret.enter Try.func4 rfl Try.ntmps4 (by kernel_rfl) rfl ?_
  refine KW.seq (KW.region ?_)
  refine OW.val rfl rfl (EX.assign rfl) ?_
  refine OW.nil ?_
  refine KW.seq (KW.region ?_)
  refine OW.val rfl rfl (EX.move rfl) ?_
  refine OW.call rfl rfl rfl (decode_s s hs w) ?_
  rintro _ w1 ⟨rfl, hx1⟩
  refine OW.val rfl rfl (EX.move rfl) ?_
  refine OW.val rfl rfl (EX.extract rfl rfl) ?_
  refine OW.val rfl rfl (EX.extract rfl rfl) ?_
  refine OW.allocB (l := [str [], .int .i64 0, .int .u8 0, .int .i64 0, .int .i64 0, str [], str [], str [], .int .i64 0, .int .i64 0]) rfl rfl ti25 rfl ?_
  rintro hb w2 hge2 hh2 hx2
  refine OW.storeS rfl ti25 rfl rfl rfl (by first | rfl | (simp only [List.all_cons, List.all_nil, Bool.and_true, Bool.true_and, Bool.and_eq_true, Value.oneCell']; repeat (first | assumption | exact Own.one (by assumption) | constructor))) (hh2) (Nat.le_refl _) ?_
  rintro w3 hh3 hm3
  refine OW.val rfl rfl (EX.assign rfl) ?_
  refine OW.nil ?_
  refine KW.seq (KW.region ?_)
  refine OW.val rfl rfl (EX.move rfl) ?_
  replace hh3 : Bk w3 hb 25 (decH s).1.cells := hh3
  have x2 := hx1.trans hx2
  have x3 : Ext w w3 := below_mo x2 hm3 x2.size (fun k hk => by simp at hk; have := hx1.size; omega)
  refine OW.call rfl rfl rfl (rdecode_s s hs w3) ?_
  rintro _ w4 ⟨rfl, hx4⟩
  refine OW.val rfl rfl (EX.move rfl) ?_
  refine OW.val rfl rfl (EX.extract rfl rfl) ?_
  refine OW.val rfl rfl (EX.extract rfl rfl) ?_
  have hh4 := hh3.ext hx4
  have x4 := x3.trans hx4
  refine OW.allocB (l := [str [], .int .i64 0, .int .u8 0, .int .i64 0, .int .i64 0, str [], str [], str [], .int .i64 0, .int .i64 0]) rfl rfl ti25 rfl ?_
  rintro gb w5 hge5 hg5 hx5
  refine OW.storeS rfl ti25 rfl rfl rfl (by first | rfl | (simp only [List.all_cons, List.all_nil, Bool.and_true, Bool.true_and, Bool.and_eq_true, Value.oneCell']; repeat (first | assumption | exact Own.one (by assumption) | constructor))) (hg5) (Nat.le_refl _) ?_
  rintro w6 hg6 hm6
  refine OW.val rfl rfl (EX.assign rfl) ?_
  refine OW.nil ?_
  refine KW.seq ?_
  replace hg6 : Bk w6 gb 25 (decH s).1.cells := hg6
  have x5 := x4.trans hx5
  have x6 : Ext w w6 := below_mo x5 hm6 x5.size (fun k hk => by simp at hk; have := x4.size; omega)
  have hne : hb ≠ gb := fun q => by have := hh4.lt; omega
  have hh6 := (hh4.ext hx5).mo hm6 (by simp; exact hne)
  refine KW.region ?_
  refine OW.val rfl rfl (EX.loadBk Try.underlying25 rfl ti25 rfl (hh6) (rfl)) ?_
  refine OW.val rfl rfl (EX.loadBk Try.underlying25 rfl ti25 rfl (hg6) (rfl)) ?_
  refine OW.val rfl rfl (EX.eqlV Try.underlying25 (by kernel_rfl) (by kernel_rfl) rfl rfl (FE.one (by decide) Try.underlying9 rfl rfl rfl (eq_str Try.underlying9) (FE.one (by decide) Try.underlying3 rfl rfl rfl (eq_int Try.underlying3) (FE.one (by decide) Try.underlying5 rfl rfl rfl (eq_int Try.underlying5) (FE.one (by decide) Try.underlying3 rfl rfl rfl (eq_int Try.underlying3) (FE.one (by decide) Try.underlying3 rfl rfl rfl (eq_int Try.underlying3) (FE.one (by decide) Try.underlying9 rfl rfl rfl (eq_str Try.underlying9) (FE.two (by decide) Try.underlying22 ti22 Try.underlying9 rfl ti9 rfl rfl (eq_str Try.underlying9) (eq_str Try.underlying9) (FE.two (by decide) Try.underlying23 ti23 Try.underlying3 rfl ti3 rfl rfl (eq_int Try.underlying3) (eq_int Try.underlying3) FE.nil)))))))) rfl) ?_
  refine OW.val rfl rfl (EX.move rfl) ?_
  refine OW.as 20 (.bool true) rfl (by simp) ?_
  refine OW.val rfl rfl (EX.move rfl) ?_
  refine OW.val rfl rfl (EX.move rfl) ?_
  refine OW.val rfl rfl (by first | exact EX.eqlN rfl rfl | exact EX.eqlZ rfl rfl) ?_
  refine OW.val rfl rfl (EX.pickT rfl rfl) ?_
  refine OW.val rfl rfl (EX.move rfl) ?_
  refine OW.as 25 (.bool true) rfl (congrArg Value.bool (decide_eq_true (rfl))) ?_
  refine OW.call rfl rfl rfl (awake_s w6) ?_
  rintro _ w7 ⟨rfl, hx7⟩
  refine OW.val rfl rfl (EX.pickT rfl rfl) ?_
  refine OW.val rfl rfl (EX.assign rfl) ?_
  refine OW.nil ?_
  refine KW.ret (ret1 rfl rfl ?_)
  exact ⟨rfl, x6.trans hx7⟩
theorem ustarZeros_s (s : List UInt8) (hs : s.length ≤ 140737488355328) (w : World) : Ret Try.prog 5 [str s] w fun v w' => v = .bool true ∧ Ext w w' := by
  refine Ret.enter Try.func5 rfl Try.ntmps5 (by kernel_rfl) rfl ?_
  refine KW.seq (KW.region ?_)
  refine OW.val rfl rfl (EX.assign rfl) ?_
  refine OW.nil ?_
  refine KW.seq ?_
  refine KW.region ?_
  refine OW.val rfl rfl (EX.move rfl) ?_
  refine OW.call rfl rfl rfl (zero_s s w) ?_
  rintro _ _ ⟨rfl, rfl⟩
  refine OW.val rfl rfl (EX.move rfl) ?_
  refine OW.call rfl rfl rfl (rzero_s s hs w) ?_
  rintro _ _ ⟨rfl, rfl⟩
  refine OW.val rfl rfl (EX.eqlB Try.underlying4 rfl rfl) ?_
  refine OW.val rfl rfl (EX.move rfl) ?_
  refine OW.as 8 (.bool true) rfl (by simp) ?_
  refine OW.call rfl rfl rfl (awake_s w) ?_
  rintro _ w1 ⟨rfl, hx1⟩
  refine OW.val rfl rfl (EX.pickT rfl rfl) ?_
  refine OW.val rfl rfl (EX.assign rfl) ?_
  refine OW.nil ?_
  refine KW.ret (ret1 rfl rfl ?_)
  exact ⟨rfl, hx1⟩
theorem ustarBack_s (h : Hd) (ho : h.Ok) (w : World) : Ret Try.prog 6 [.agg h.cells.toArray] w fun v w' => v = .bool true ∧ Ext w w' := by
  refine Ret.enter Try.func6 rfl Try.ntmps6 (by kernel_rfl) rfl ?_
  refine KW.seq (KW.region ?_)
  refine OW.boxS rfl rfl rfl ?_
  rintro hb w1 hge1 hh1 hx1
  refine OW.val rfl rfl (EX.assign rfl) ?_
  refine OW.nil ?_
  refine KW.seq (KW.region ?_)
  replace hh1 : Bk w1 hb 25 h.cells := hh1
  refine OW.val rfl rfl (EX.loadBk Try.underlying25 rfl ti25 rfl (hh1) (rfl)) ?_
  refine OW.call rfl rfl rfl (encode_s h ho w1) ?_
  rintro _ w2 ⟨rfl, hx2⟩
  refine OW.val rfl rfl (EX.move rfl) ?_
  refine OW.val rfl rfl (EX.extract rfl rfl) ?_
  refine OW.val rfl rfl (EX.extract rfl rfl) ?_
  refine OW.val rfl rfl (EX.assign rfl) ?_
  refine OW.val rfl rfl (EX.assign rfl) ?_
  refine OW.nil ?_
  refine KW.seq (KW.seq (KW.region ?_))
  refine OW.val rfl rfl (EX.move rfl) ?_
  refine OW.val rfl rfl (by first | exact EX.neqN (b := 0) rfl rfl | exact EX.neqZ rfl rfl) ?_
  refine OW.nil ?_
  have hh2 := hh1.ext hx2
  have x2 := hx1.trans hx2
  refine KW.condD rfl (fun he => ?_) (fun he => ?_)
  · have hne : (encH h).2 ≠ 0 := by omega
    rw [enc_no hne]
    refine KW.seq ?_
    refine KW.region ?_
    refine OW.val rfl rfl (EX.move rfl) ?_
    refine OW.val rfl rfl (EX.eqlS (r := []) rfl rfl) ?_
    refine OW.val rfl rfl (EX.move rfl) ?_
    refine OW.as 16 (.bool true) rfl (congrArg Value.bool (decide_eq_true (rfl))) ?_
    refine OW.call rfl rfl rfl (awake_s w2) ?_
    rintro _ w3 ⟨rfl, hx3⟩
    refine OW.val rfl rfl (EX.pickT rfl rfl) ?_
    refine OW.val rfl rfl (EX.assign rfl) ?_
    refine OW.nil ?_
    refine KW.ret (ret1 rfl rfl ?_)
    exact ⟨rfl, x2.trans hx3⟩
  · obtain ⟨e1, e2, hm, e4⟩ := enc_ok (h := h) (by omega)
    have la := hdText_len hm e1 e2
    have c2 := decode_s (hdText h) (by omega) w2
    rw [dec_enc hm e1 e2] at c2
    rw [e4]
    have la2 : ((hdText h, (0 : Nat)).1).length = 512 := la
    refine KW.skip (KW.seq (KW.region ?_))
    refine OW.val rfl rfl (EX.move rfl) ?_
    refine OW.call rfl rfl rfl (c2) ?_
    rintro _ w4 ⟨rfl, hx4⟩
    refine OW.val rfl rfl (EX.move rfl) ?_
    refine OW.val rfl rfl (EX.extract rfl rfl) ?_
    refine OW.val rfl rfl (EX.extract rfl rfl) ?_
    have hh4 := hh2.ext hx4
    have x4 := x2.trans hx4
    refine OW.allocB (l := [str [], .int .i64 0, .int .u8 0, .int .i64 0, .int .i64 0, str [], str [], str [], .int .i64 0, .int .i64 0]) rfl rfl ti25 rfl ?_
    rintro gb w5 hge5 hg5 hx5
    refine OW.storeS rfl ti25 rfl rfl rfl (by first | rfl | (simp only [List.all_cons, List.all_nil, Bool.and_true, Bool.true_and, Bool.and_eq_true, Value.oneCell']; repeat (first | assumption | exact Own.one (by assumption) | constructor))) (hg5) (Nat.le_refl _) ?_
    rintro w6 hg6 hm6
    refine OW.val rfl rfl (EX.assign rfl) ?_
    refine OW.nil ?_
    refine KW.seq ?_
    replace hg6 : Bk w6 gb 25 h.cells := hg6
    have x5 := x4.trans hx5
    have x6 : Ext w w6 := below_mo x5 hm6 x5.size (fun k hk => by simp at hk; have := x4.size; omega)
    have hne : hb ≠ gb := fun q => by have := hh4.lt; omega
    have hh6 := (hh4.ext hx5).mo hm6 (by simp; exact hne)
    refine KW.region ?_
    refine OW.val rfl rfl (EX.move rfl) ?_
    refine OW.val rfl rfl (by first | exact EX.eqlN (b := 0) rfl rfl | exact EX.eqlZ rfl rfl) ?_
    refine OW.val rfl rfl (EX.move rfl) ?_
    refine OW.as 26 (.bool true) rfl (congrArg Value.bool (decide_eq_true (rfl))) ?_
    refine OW.val rfl rfl (EX.loadBk Try.underlying25 rfl ti25 rfl (hg6) (rfl)) ?_
    refine OW.val rfl rfl (EX.loadBk Try.underlying25 rfl ti25 rfl (hh6) (rfl)) ?_
    refine OW.val rfl rfl (EX.eqlV Try.underlying25 (by kernel_rfl) (by kernel_rfl) rfl rfl (FE.one (by decide) Try.underlying9 rfl rfl rfl (eq_str Try.underlying9) (FE.one (by decide) Try.underlying3 rfl rfl rfl (eq_int Try.underlying3) (FE.one (by decide) Try.underlying5 rfl rfl rfl (eq_int Try.underlying5) (FE.one (by decide) Try.underlying3 rfl rfl rfl (eq_int Try.underlying3) (FE.one (by decide) Try.underlying3 rfl rfl rfl (eq_int Try.underlying3) (FE.one (by decide) Try.underlying9 rfl rfl rfl (eq_str Try.underlying9) (FE.two (by decide) Try.underlying22 ti22 Try.underlying9 rfl ti9 rfl rfl (eq_str Try.underlying9) (eq_str Try.underlying9) (FE.two (by decide) Try.underlying23 ti23 Try.underlying3 rfl ti3 rfl rfl (eq_int Try.underlying3) (eq_int Try.underlying3) FE.nil)))))))) rfl) ?_
    refine OW.val rfl rfl (EX.pickT rfl rfl) ?_
    refine OW.val rfl rfl (EX.move rfl) ?_
    refine OW.as 31 (.bool true) rfl (by simp) ?_
    refine OW.val rfl rfl (EX.move rfl) ?_
    refine OW.val rfl rfl (EX.lenS Try.underlying9 rfl) ?_
    refine OW.val rfl rfl (by first | exact EX.eqlN (b := 512) rfl rfl | exact EX.eqlZ rfl rfl) ?_
    refine OW.val rfl rfl (EX.pickT rfl rfl) ?_
    refine OW.val rfl rfl (EX.move rfl) ?_
    refine OW.as 36 (.bool true) rfl (congrArg Value.bool (decide_eq_true (by omega))) ?_
    refine OW.val rfl rfl (EX.move rfl) ?_
    refine OW.call rfl rfl rfl (zero_s (hdText h) w6) ?_
    rintro _ _ ⟨rfl, rfl⟩
    refine OW.val rfl rfl (by first | exact EX.notD rfl | exact EX.notB rfl) ?_
    refine OW.val rfl rfl (EX.pickT rfl rfl) ?_
    refine OW.val rfl rfl (EX.move rfl) ?_
    refine OW.as 41 (.bool true) rfl (congrArg Value.bool (decide_eq_true fun q => by have := not_zero hm e1 e2; unfold zeroH at this; exact absurd q (of_decide_eq_false this))) ?_
    refine OW.call rfl rfl rfl (awake_s w6) ?_
    rintro _ w7 ⟨rfl, hx7⟩
    refine OW.val rfl rfl (EX.pickT rfl rfl) ?_
    refine OW.val rfl rfl (EX.assign rfl) ?_
    refine OW.nil ?_
    refine KW.ret (ret1 rfl rfl ?_)
    exact ⟨rfl, x6.trans hx7⟩
end Go.Proofs.Ytaoieiiggbpjeaa
