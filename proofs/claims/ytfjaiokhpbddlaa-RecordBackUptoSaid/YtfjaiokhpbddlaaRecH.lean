/-
  record: some answers that the document fixes; the statements on single records.
-/
import Derived.Test.YtfjaiokhpbddlaaRecG
namespace Go.Proofs.Ytfjaiokhpbddlaa
open Go.RowKit Rec Pth
set_option linter.unusedVariables false
set_option linter.unusedSimpArgs false

def aT : List UInt8 := text 1 2 3 [97, 98]
theorem aw_e : encodeR 1 2 3 [97, 98] = (aT, 0) := by
  unfold encodeR
  rw [if_neg (by decide)]
  rfl
theorem aw_l : aT.length = 512 := text_length _ _ _ _ (by decide)
theorem aw_21 : aT.take 21 = [75, 73, 83, 84, 1, 0, 0, 0, 0, 0, 0, 0, 2, 0, 0, 0, 3, 0, 2, 97, 98] := by
  unfold aT
  rw [text_eq]
  decide +kernel
def aM : M := ⟨[97], 30, 2, 5, 1⟩
theorem aw_m : memberM aM = ([1, 97, 0, 30, 0, 2, 0, 5, 0, 0, 0, 1], 0) := by decide +kernel
set_option maxRecDepth 20000 in
theorem awake_s (w : World) : Ret Try.prog 11 [] w fun v w' => v = .bool true ∧ Ext w w' := by
  have he := encode_s 1 (by decide) 2 3 [97, 98] (by decide) w
  rw [aw_e] at he
  have hl : ((aT, (0 : Nat)).1).length = 512 := aw_l
  refine Ret.enter Try.func11 rfl Try.ntmps11 (by kernel_rfl) rfl ?_
  refine KW.seq (KW.region ?_)
  refine OW.val rfl rfl (EX.assign rfl) ?_
  refine OW.nil ?_
  refine KW.seq (KW.region ?_)
  refine OW.call rfl rfl rfl (he) ?_
  rintro _ w1 ⟨rfl, hx1⟩
  refine OW.val rfl rfl (EX.move rfl) ?_
  refine OW.val rfl rfl (EX.extract rfl rfl) ?_
  refine OW.val rfl rfl (EX.extract rfl rfl) ?_
  refine OW.val rfl rfl (EX.assign rfl) ?_
  refine OW.val rfl rfl (EX.assign rfl) ?_
  refine OW.nil ?_
  refine KW.seq (KW.region ?_)
  refine OW.val rfl rfl (EX.move rfl) ?_
  have hd := decode_s aT w1
  rw [dec_enc (by decide) aw_e] at hd
  refine OW.call rfl rfl rfl (hd) ?_
  rintro _ w2 ⟨rfl, hx2⟩
  refine OW.val rfl rfl (EX.move rfl) ?_
  refine OW.val rfl rfl (EX.extract rfl rfl) ?_
  refine OW.val rfl rfl (EX.extract rfl rfl) ?_
  refine OW.allocB (l := [.int .u8 0, .int .i64 0, .int .i64 0, str []]) rfl rfl ti31 rfl ?_
  rintro xb w3 hge3 hb3 hx3
  refine OW.storeS rfl ti31 rfl rfl rfl (by first | rfl | (simp only [List.all_cons, List.all_nil, Bool.and_true, Bool.true_and, Bool.and_eq_true, Value.oneCell']; repeat (first | assumption | exact Own.one (by assumption) | constructor))) (hb3) (by decide) ?_
  rintro w4 hb4 hm4
  refine OW.val rfl rfl (EX.assign rfl) ?_
  refine OW.nil ?_
  refine KW.seq (KW.region ?_)
  refine OW.val rfl rfl (EX.buildS (pl := [(0, 1), (1, 1), (2, 1), (3, 1), (4, 1)]) (ks := [0, 1, 2, 3, 4]) (is := [0, 1, 2, 3, 4]) (zs := [str [], .int .i64 0, .int .i64 0, .int .i64 0, .int .u32 0]) Try.underlying40 ti40 (by kernel_rfl) rfl rfl rfl (by first | rfl | (simp only [List.all_cons, List.all_nil, Bool.and_true, Bool.true_and, Bool.and_eq_true, Value.oneCell']; repeat (first | assumption | exact Own.one (by assumption) | constructor))) (by simp only [setAll, List.set_cons_zero, List.set_cons_succ]; rfl)) ?_
  have x3 : Ext w w3 := (hx1.trans hx2).trans hx3
  have x4 : Ext w w4 := below_mo x3 hm4 x3.size (fun k hk => by simp at hk; have := (hx1.trans hx2).size; omega)
  have hmb := member_s aM ⟨by decide, by decide⟩ w4
  rw [aw_m] at hmb
  refine OW.call rfl rfl rfl (hmb) ?_
  rintro _ w5 ⟨rfl, hx5⟩
  refine OW.val rfl rfl (EX.move rfl) ?_
  refine OW.val rfl rfl (EX.extract rfl rfl) ?_
  refine OW.val rfl rfl (EX.extract rfl rfl) ?_
  refine OW.val rfl rfl (EX.assign rfl) ?_
  refine OW.val rfl rfl (EX.assign rfl) ?_
  refine OW.nil ?_
  refine KW.seq ?_
  have hb5 := hb4.ext hx5
  refine KW.region ?_
  refine OW.val rfl rfl (EX.move rfl) ?_
  refine OW.val rfl rfl (by first | exact EX.eqlN (b := 0) rfl rfl | exact EX.eqlZ rfl rfl) ?_
  refine OW.val rfl rfl (EX.move rfl) ?_
  refine OW.as 23 (.bool true) rfl (congrArg Value.bool (decide_eq_true (by decide))) ?_
  refine OW.val rfl rfl (EX.move rfl) ?_
  refine OW.val rfl rfl (EX.lenS Try.underlying9 rfl) ?_
  refine OW.val rfl rfl (by first | exact EX.eqlN (b := 512) rfl rfl | exact EX.eqlZ rfl rfl) ?_
  refine OW.val rfl rfl (EX.pickT rfl rfl) ?_
  refine OW.val rfl rfl (EX.move rfl) ?_
  refine OW.as 28 (.bool true) rfl (congrArg Value.bool (decide_eq_true (by omega))) ?_
  refine OW.val rfl rfl (EX.move rfl) ?_
  refine OW.val rfl rfl (EX.sliceFH (j := 21) Try.underlying9 rfl rfl (by omega)) ?_
  refine OW.val rfl rfl (EX.eqlS (r := [75, 73, 83, 84, 1, 0, 0, 0, 0, 0, 0, 0, 2, 0, 0, 0, 3, 0, 2, 97, 98]) rfl rfl) ?_
  refine OW.val rfl rfl (EX.pickT rfl rfl) ?_
  refine OW.val rfl rfl (EX.move rfl) ?_
  refine OW.as 33 (.bool true) rfl (congrArg Value.bool (decide_eq_true (aw_21))) ?_
  refine OW.val rfl rfl (EX.move rfl) ?_
  refine OW.val rfl rfl (by first | exact EX.eqlN (b := 0) rfl rfl | exact EX.eqlZ rfl rfl) ?_
  refine OW.val rfl rfl (EX.pickT rfl rfl) ?_
  refine OW.val rfl rfl (EX.move rfl) ?_
  refine OW.as 37 (.bool true) rfl (congrArg Value.bool (decide_eq_true (by decide))) ?_
  refine OW.val rfl rfl (EX.loadBk Try.underlying31 rfl ti31 rfl (hb5) (rfl)) ?_
  refine OW.val rfl rfl (EX.buildS (pl := [(0, 1), (1, 1), (2, 1), (3, 1)]) (ks := [0, 1, 2, 3]) (is := [0, 1, 2, 3]) (zs := [.int .u8 0, .int .i64 0, .int .i64 0, str []]) Try.underlying31 ti31 (by kernel_rfl) rfl rfl rfl (by first | rfl | (simp only [List.all_cons, List.all_nil, Bool.and_true, Bool.true_and, Bool.and_eq_true, Value.oneCell']; repeat (first | assumption | exact Own.one (by assumption) | constructor))) (by simp only [setAll, List.set_cons_zero, List.set_cons_succ]; rfl)) ?_
  refine OW.val rfl rfl (EX.eqlG Try.underlying31 (by kernel_rfl) (by kernel_rfl) rfl rfl (.cons (by decide) Try.underlying5 rfl rfl rfl (eq_int Try.underlying5) (.cons (by decide) Try.underlying3 rfl rfl rfl (eq_int Try.underlying3) (.cons (by decide) Try.underlying3 rfl rfl rfl (eq_int Try.underlying3) (.cons (by decide) Try.underlying9 rfl rfl rfl (eq_str Try.underlying9) .nil)))) rfl) ?_
  refine OW.val rfl rfl (EX.pickT rfl rfl) ?_
  refine OW.val rfl rfl (EX.move rfl) ?_
  refine OW.as 42 (.bool true) rfl (by simp) ?_
  refine OW.val rfl rfl (EX.move rfl) ?_
  refine OW.val rfl rfl (EX.eqlS (r := [1, 97, 0, 30, 0, 2, 0, 5, 0, 0, 0, 1]) rfl rfl) ?_
  refine OW.val rfl rfl (EX.pickT rfl rfl) ?_
  refine OW.val rfl rfl (EX.move rfl) ?_
  refine OW.as 46 (.bool true) rfl (congrArg Value.bool (decide_eq_true (by decide))) ?_
  refine OW.val rfl rfl (EX.move rfl) ?_
  refine OW.val rfl rfl (by first | exact EX.eqlN (b := 0) rfl rfl | exact EX.eqlZ rfl rfl) ?_
  refine OW.val rfl rfl (EX.pickT rfl rfl) ?_
  refine OW.val rfl rfl (EX.move rfl) ?_
  refine OW.as 50 (.bool true) rfl (congrArg Value.bool (decide_eq_true (by decide))) ?_
  refine OW.val rfl rfl (EX.pickT rfl rfl) ?_
  refine OW.val rfl rfl (EX.assign rfl) ?_
  refine OW.nil ?_
  refine KW.ret (ret1 rfl rfl ?_)
  exact ⟨rfl, x4.trans hx5⟩
theorem recordEncodes_s (kind : Nat) (hk : kind ≤ 255) (a0 a1 : Int) (data : List UInt8) (hd : data.length ≤ 140737488355328) (w : World) :
    Ret Try.prog 3 [.int .u8 (kind : Int), .agg [.int .i64 a0, .int .i64 a1].toArray, str data] w fun v w' => v = .bool true ∧ Ext w w' := by
  refine Ret.enter Try.func3 rfl Try.ntmps3 (by kernel_rfl) rfl ?_
  refine KW.seq (KW.region ?_)
  refine OW.boxS rfl rfl rfl ?_
  rintro ab w1 hge1 ha1 hx1
  refine OW.val rfl rfl (EX.assign rfl) ?_
  refine OW.nil ?_
  refine KW.seq (KW.region ?_)
  refine OW.val rfl rfl (EX.move rfl) ?_
  refine OW.val rfl rfl (by first | exact EX.indexAddrA0 (i := 0) Try.underlying22 ti3 rfl rfl (by omega) | exact EX.indexAddrA1 (i := 0) Try.underlying22 ti3 rfl rfl (by omega)) ?_
  refine OW.val rfl rfl (EX.load Try.underlying3 rfl rfl (ha1.cell_of rfl)) ?_
  refine OW.val rfl rfl (by first | exact EX.indexAddrA0 (i := 1) Try.underlying22 ti3 rfl rfl (by omega) | exact EX.indexAddrA1 (i := 1) Try.underlying22 ti3 rfl rfl (by omega)) ?_
  refine OW.val rfl rfl (EX.load Try.underlying3 rfl rfl (ha1.cell_of rfl)) ?_
  refine OW.val rfl rfl (EX.move rfl) ?_
  refine OW.call rfl rfl rfl (encode_s kind hk a0 a1 data hd w1) ?_
  rintro _ w2 ⟨rfl, hx2⟩
  refine OW.val rfl rfl (EX.move rfl) ?_
  refine OW.val rfl rfl (EX.extract rfl rfl) ?_
  refine OW.val rfl rfl (EX.extract rfl rfl) ?_
  refine OW.val rfl rfl (EX.assign rfl) ?_
  refine OW.val rfl rfl (EX.assign rfl) ?_
  refine OW.nil ?_
  refine KW.seq (KW.region ?_)
  refine OW.val rfl rfl (EX.move rfl) ?_
  refine OW.val rfl rfl (by first | exact EX.indexAddrA0 (i := 0) Try.underlying22 ti3 rfl rfl (by omega) | exact EX.indexAddrA1 (i := 0) Try.underlying22 ti3 rfl rfl (by omega)) ?_
  have ha2 := ha1.ext hx2
  refine OW.val rfl rfl (EX.load Try.underlying3 rfl rfl (ha2.cell_of rfl)) ?_
  refine OW.val rfl rfl (by first | exact EX.indexAddrA0 (i := 1) Try.underlying22 ti3 rfl rfl (by omega) | exact EX.indexAddrA1 (i := 1) Try.underlying22 ti3 rfl rfl (by omega)) ?_
  refine OW.val rfl rfl (EX.load Try.underlying3 rfl rfl (ha2.cell_of rfl)) ?_
  refine OW.val rfl rfl (EX.move rfl) ?_
  refine OW.call rfl rfl rfl (rencode_s kind hk a0 a1 data hd w2) ?_
  rintro _ w3 ⟨rfl, hx3⟩
  refine OW.val rfl rfl (EX.move rfl) ?_
  refine OW.val rfl rfl (EX.extract rfl rfl) ?_
  refine OW.val rfl rfl (EX.extract rfl rfl) ?_
  refine OW.val rfl rfl (EX.assign rfl) ?_
  refine OW.val rfl rfl (EX.assign rfl) ?_
  refine OW.nil ?_
  refine KW.seq ?_
  refine KW.region ?_
  refine OW.val rfl rfl (EX.move rfl) ?_
  refine OW.val rfl rfl (EX.move rfl) ?_
  refine OW.val rfl rfl (EX.eqlS rfl rfl) ?_
  refine OW.val rfl rfl (EX.move rfl) ?_
  refine OW.as 34 (.bool true) rfl (congrArg Value.bool (decide_eq_true (rfl))) ?_
  refine OW.val rfl rfl (EX.move rfl) ?_
  refine OW.val rfl rfl (EX.move rfl) ?_
  refine OW.val rfl rfl (by first | exact EX.eqlN rfl rfl | exact EX.eqlZ rfl rfl) ?_
  refine OW.val rfl rfl (EX.pickT rfl rfl) ?_
  refine OW.val rfl rfl (EX.move rfl) ?_
  refine OW.as 39 (.bool true) rfl (congrArg Value.bool (decide_eq_true (rfl))) ?_
  refine OW.call rfl rfl rfl (awake_s w3) ?_
  rintro _ w4 ⟨rfl, hx4⟩
  refine OW.val rfl rfl (EX.pickT rfl rfl) ?_
  refine OW.val rfl rfl (EX.assign rfl) ?_
  refine OW.nil ?_
  refine KW.ret (ret1 rfl rfl ?_)
  exact ⟨rfl, ((hx1.trans hx2).trans hx3).trans hx4⟩
set_option maxRecDepth 20000 in
theorem recordDecodes_s (s : List UInt8) (hs : s.length ≤ 140737488355328) (w : World) :
    Ret Try.prog 4 [str s] w fun v w' => v = .bool true ∧ Ext w w' := by
  refine Ret.enter Try.func4 rfl Try.ntmps4 (by kernel_rfl) rfl ?_
  refine KW.seq (KW.region ?_)
  refine OW.val rfl rfl (EX.assign rfl) ?_
  refine OW.nil ?_
  refine KW.seq (KW.region ?_)
  refine OW.val rfl rfl (EX.move rfl) ?_
  refine OW.call rfl rfl rfl (decode_s s w) ?_
  rintro _ w1 ⟨rfl, hx1⟩
  refine OW.val rfl rfl (EX.move rfl) ?_
  refine OW.val rfl rfl (EX.extract rfl rfl) ?_
  refine OW.val rfl rfl (EX.extract rfl rfl) ?_
  refine OW.allocB (l := [.int .u8 0, .int .i64 0, .int .i64 0, str []]) rfl rfl ti31 rfl ?_
  rintro xb w2 hge2 hb2 hx2
  refine OW.storeS rfl ti31 rfl rfl rfl (by first | rfl | (simp only [List.all_cons, List.all_nil, Bool.and_true, Bool.true_and, Bool.and_eq_true, Value.oneCell']; repeat (first | assumption | exact Own.one (by assumption) | constructor))) (hb2) (Nat.le_refl _) ?_
  rintro w3 hb3 hm3
  refine OW.val rfl rfl (EX.assign rfl) ?_
  refine OW.nil ?_
  refine KW.seq (KW.region ?_)
  refine OW.val rfl rfl (EX.move rfl) ?_
  have x2 : Ext w w2 := hx1.trans hx2
  have x3 : Ext w w3 := below_mo x2 hm3 x2.size (fun k hk => by simp at hk; have := hx1.size; omega)
  refine OW.call rfl rfl rfl (rdecode_s s w3) ?_
  rintro _ w4 ⟨rfl, hx4⟩
  refine OW.val rfl rfl (EX.move rfl) ?_
  refine OW.val rfl rfl (EX.extract rfl rfl) ?_
  refine OW.val rfl rfl (EX.extract rfl rfl) ?_
  refine OW.allocB (l := [.int .u8 0, .int .i64 0, .int .i64 0, str []]) rfl rfl ti34 rfl ?_
  rintro yb w5 hge5 hy5 hx5
  refine OW.storeS rfl ti34 rfl rfl rfl (by first | rfl | (simp only [List.all_cons, List.all_nil, Bool.and_true, Bool.true_and, Bool.and_eq_true, Value.oneCell']; repeat (first | assumption | exact Own.one (by assumption) | constructor))) (hy5) (Nat.le_refl _) ?_
  rintro w6 hy6 hm6
  refine OW.val rfl rfl (EX.assign rfl) ?_
  refine OW.nil ?_
  refine KW.seq ?_
  have x5 : Ext w w5 := (x3.trans hx4).trans hx5
  have x6 : Ext w w6 := below_mo x5 hm6 x5.size (fun k hk => by simp at hk; have := (x3.trans hx4).size; omega)
  have hb6 := ((hb3.ext hx4).ext hx5).mo hm6 (by simp; exact ((hb3.ext hx4).ext hx5).ne hy5 (by decide))
  refine KW.region ?_
  refine OW.val rfl rfl (EX.loadBk Try.underlying31 rfl ti31 rfl (hb6) (rfl)) ?_
  refine OW.val rfl rfl (EX.loadBk Try.underlying34 rfl ti34 rfl (hy6) (rfl)) ?_
  refine OW.val rfl rfl (EX.eqlG Try.underlying31 (by kernel_rfl) (by kernel_rfl) rfl rfl (.cons (by decide) Try.underlying5 rfl rfl rfl (eq_int Try.underlying5) (.cons (by decide) Try.underlying3 rfl rfl rfl (eq_int Try.underlying3) (.cons (by decide) Try.underlying3 rfl rfl rfl (eq_int Try.underlying3) (.cons (by decide) Try.underlying9 rfl rfl rfl (eq_str Try.underlying9) .nil)))) rfl) ?_
  refine OW.val rfl rfl (EX.move rfl) ?_
  refine OW.as 20 (.bool true) rfl (by simp) ?_
  refine OW.val rfl rfl (EX.move rfl) ?_
  refine OW.val rfl rfl (EX.move rfl) ?_
  refine OW.val rfl rfl (by first | exact EX.eqlN rfl rfl | exact EX.eqlZ rfl rfl) ?_
  refine OW.val rfl rfl (EX.pickT rfl rfl) ?_
  refine OW.val rfl rfl (EX.move rfl) ?_
  refine OW.as 25 (.bool true) rfl (congrArg Value.bool (decide_eq_true (rfl))) ?_
  refine OW.call rfl rfl rfl (awake_s w6) ?_
  rintro _ w7 ⟨rfl, hx7⟩
  refine OW.val rfl rfl (EX.pickT rfl rfl) ?_
  refine OW.val rfl rfl (EX.assign rfl) ?_
  refine OW.nil ?_
  refine KW.ret (ret1 rfl rfl ?_)
  exact ⟨rfl, x6.trans hx7⟩
end Go.Proofs.Ytfjaiokhpbddlaa
