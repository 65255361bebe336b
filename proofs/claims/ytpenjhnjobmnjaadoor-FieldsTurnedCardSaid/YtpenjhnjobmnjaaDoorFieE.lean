/-
  fields: the statements' functions.
-/
import Derived.Test.YtpenjhnjobmnjaaDoorFieC
import Derived.Test.YtpenjhnjobmnjaaDoorFieF
import Derived.Test.YtpenjhnjobmnjaaDoorRows
import Derived.Lib.LaidTab
import Derived.Stop.LaidErr
namespace Go.Proofs.YtpenjhnjobmnjaaDoor
open Go.RowKit Fld
set_option linter.unusedVariables false

/-! ### What the document fixes -/
theorem octal_420 : octal 420 8 = ([48, 48, 48, 48, 54, 52, 52, 0], 0) := by decide +kernel
theorem num_17 : num [32, 32, 49, 55, 32, 0] = (15, 0) := by decide +kernel
theorem dec_007 : dec [48, 48, 55] = (0, 150) := by decide +kernel
theorem text_ab : text [97, 98] 3 = ([97, 98, 0], 0) := by decide +kernel
theorem digits_120 : digits 120 = [49, 50, 48] := by
  show Lib.decDigits 120 = _
  rw [dec_step (by decide), dec_step (by decide), dec_small (by decide)]
  decide +kernel
theorem awake_s (w : World) (ht : Tab w) : Ret Tryd.prog 12 [] w fun v w' => v = .bool true ∧ Ext w w' := by
  refine Ret.enter Tryd.func12 rfl Tryd.ntmps12 (by kernel_rfl) rfl ?_
  refine KW.seq (KW.region ?_)
  refine OW.val rfl rfl (EX.assign rfl) ?_
  refine OW.nil ?_
  refine KW.seq (KW.region ?_)
  refine OW.call rfl rfl rfl (octal_s 420 (by decide) (by decide) 8 (by decide) (by decide) w) ?_
  rintro _ w1 ⟨rfl, hx1⟩
  refine OW.val rfl rfl (EX.move rfl) ?_
  refine OW.val rfl rfl (EX.extract rfl rfl) ?_
  refine OW.val rfl rfl (EX.extract rfl rfl) ?_
  refine OW.val rfl rfl (EX.assign rfl) ?_
  refine OW.val rfl rfl (EX.assign rfl) ?_
  refine OW.nil ?_
  refine KW.seq (KW.region ?_)
  rw [octal_420]
  refine OW.call rfl rfl rfl (number_s [32, 32, 49, 55, 32, 0] (by decide) w1) ?_
  rintro _ w2 ⟨rfl, hx2⟩
  refine OW.val rfl rfl (EX.move rfl) ?_
  refine OW.val rfl rfl (EX.extract rfl rfl) ?_
  refine OW.val rfl rfl (EX.extract rfl rfl) ?_
  refine OW.val rfl rfl (EX.assign rfl) ?_
  refine OW.val rfl rfl (EX.assign rfl) ?_
  refine OW.nil ?_
  refine KW.seq (KW.region ?_)
  rw [num_17]
  refine OW.call rfl rfl rfl (decimal_s [48, 48, 55] (by decide) w2) ?_
  rintro _ _ ⟨rfl, rfl⟩
  refine OW.val rfl rfl (EX.move rfl) ?_
  refine OW.val rfl rfl (EX.extract rfl rfl) ?_
  refine OW.val rfl rfl (EX.extract rfl rfl) ?_
  refine OW.val rfl rfl (EX.assign rfl) ?_
  refine OW.val rfl rfl (EX.assign rfl) ?_
  refine OW.nil ?_
  refine KW.seq (KW.region ?_)
  rw [dec_007]
  refine OW.call rfl rfl rfl (text_s [97, 98] (by decide) 3 (by decide) (by decide) w2) ?_
  rintro _ w3 ⟨rfl, hx3⟩
  refine OW.val rfl rfl (EX.move rfl) ?_
  refine OW.val rfl rfl (EX.extract rfl rfl) ?_
  refine OW.val rfl rfl (EX.extract rfl rfl) ?_
  refine OW.val rfl rfl (EX.assign rfl) ?_
  refine OW.val rfl rfl (EX.assign rfl) ?_
  refine OW.nil ?_
  refine KW.seq ?_
  rw [text_ab]
  refine KW.region ?_
  refine OW.val rfl rfl (EX.move rfl) ?_
  refine OW.val rfl rfl (EX.eqlS (r := [48, 48, 48, 48, 54, 52, 52, 0]) rfl rfl) ?_
  refine OW.val rfl rfl (EX.move rfl) ?_
  refine OW.as 27 (.bool true) rfl (congrArg Value.bool (decide_eq_true (rfl))) ?_
  refine OW.val rfl rfl (EX.move rfl) ?_
  refine OW.val rfl rfl (by first | exact EX.eqlN (b := 0) rfl rfl | exact EX.eqlZ rfl rfl) ?_
  refine OW.val rfl rfl (EX.pickT rfl rfl) ?_
  refine OW.val rfl rfl (EX.move rfl) ?_
  refine OW.as 31 (.bool true) rfl (congrArg Value.bool (decide_eq_true (rfl))) ?_
  refine OW.val rfl rfl (EX.move rfl) ?_
  refine OW.val rfl rfl (by first | exact EX.eqlN (b := 15) rfl rfl | exact EX.eqlZ rfl rfl) ?_
  refine OW.val rfl rfl (EX.pickT rfl rfl) ?_
  refine OW.val rfl rfl (EX.move rfl) ?_
  refine OW.as 35 (.bool true) rfl (congrArg Value.bool (decide_eq_true (rfl))) ?_
  refine OW.val rfl rfl (EX.move rfl) ?_
  refine OW.val rfl rfl (by first | exact EX.eqlN (b := 0) rfl rfl | exact EX.eqlZ rfl rfl) ?_
  refine OW.val rfl rfl (EX.pickT rfl rfl) ?_
  refine OW.val rfl rfl (EX.move rfl) ?_
  refine OW.as 39 (.bool true) rfl (congrArg Value.bool (decide_eq_true (rfl))) ?_
  refine OW.val rfl rfl (EX.move rfl) ?_
  refine OW.val rfl rfl (by first | exact EX.eqlN (b := 150) rfl rfl | exact EX.eqlZ rfl rfl) ?_
  refine OW.val rfl rfl (EX.pickT rfl rfl) ?_
  refine OW.val rfl rfl (EX.move rfl) ?_
  refine OW.as 43 (.bool true) rfl (congrArg Value.bool (decide_eq_true (rfl))) ?_
  refine OW.val rfl rfl (EX.move rfl) ?_
  refine OW.val rfl rfl (EX.eqlS (r := [97, 98, 0]) rfl rfl) ?_
  refine OW.val rfl rfl (EX.pickT rfl rfl) ?_
  refine OW.val rfl rfl (EX.move rfl) ?_
  refine OW.as 47 (.bool true) rfl (congrArg Value.bool (decide_eq_true (rfl))) ?_
  refine OW.val rfl rfl (EX.move rfl) ?_
  refine OW.val rfl rfl (by first | exact EX.eqlN (b := 0) rfl rfl | exact EX.eqlZ rfl rfl) ?_
  refine OW.val rfl rfl (EX.pickT rfl rfl) ?_
  refine OW.val rfl rfl (EX.move rfl) ?_
  refine OW.as 51 (.bool true) rfl (congrArg Value.bool (decide_eq_true (rfl))) ?_
  refine OW.call rfl rfl rfl (digits_s 120 (by decide) (by decide) w3 ((ht.ext hx1).ext (hx2.trans hx3))) ?_
  rintro _ w4 ⟨rfl, hx4⟩
  refine OW.val rfl rfl (EX.eqlS (r := [49, 50, 48]) rfl rfl) ?_
  refine OW.val rfl rfl (EX.pickT rfl rfl) ?_
  refine OW.val rfl rfl (EX.assign rfl) ?_
  refine OW.nil ?_
  rw [digits_120]
  refine KW.as 0 (.bool true) rfl (congrArg Value.bool (decide_eq_true (rfl))) ?_
  refine KW.ret (ret1 rfl rfl ?_)
  exact ⟨rfl, ((hx1.trans hx2).trans hx3).trans hx4⟩

theorem fieldsOctals_s (n : Int) (h0 : -9223372036854775808 ≤ n) (h1 : n ≤ 9223372036854775807) (m : Int) (g0 : -9223372036854775808 ≤ m) (g1 : m ≤ 9223372036854775807) (w : World) (ht : Tab w) :
    Ret Tryd.prog 3 [.int .i64 n, .int .i64 m] w fun v w' => v = .bool true ∧ Ext w w' := by
  refine Ret.enter Tryd.func3 rfl Tryd.ntmps3 (by kernel_rfl) rfl ?_
  refine KW.seq (KW.region ?_)
  refine OW.val rfl rfl (EX.assign rfl) ?_
  refine OW.nil ?_
  refine KW.seq (KW.region ?_)
  refine OW.val rfl rfl (EX.move rfl) ?_
  refine OW.val rfl rfl (EX.move rfl) ?_
  refine OW.call rfl rfl rfl (octal_s n h0 h1 m g0 g1 w) ?_
  rintro _ w1 ⟨rfl, hx1⟩
  refine OW.val rfl rfl (EX.move rfl) ?_
  refine OW.val rfl rfl (EX.extract rfl rfl) ?_
  refine OW.val rfl rfl (EX.extract rfl rfl) ?_
  refine OW.val rfl rfl (EX.assign rfl) ?_
  refine OW.val rfl rfl (EX.assign rfl) ?_
  refine OW.nil ?_
  refine KW.seq (KW.region ?_)
  refine OW.val rfl rfl (EX.move rfl) ?_
  refine OW.val rfl rfl (EX.move rfl) ?_
  refine OW.call rfl rfl rfl (refOctal_s n h0 h1 m g0 g1 w1) ?_
  rintro _ _ ⟨rfl, rfl⟩
  refine OW.val rfl rfl (EX.move rfl) ?_
  refine OW.val rfl rfl (EX.extract rfl rfl) ?_
  refine OW.val rfl rfl (EX.extract rfl rfl) ?_
  refine OW.val rfl rfl (EX.assign rfl) ?_
  refine OW.val rfl rfl (EX.assign rfl) ?_
  refine OW.nil ?_
  refine KW.seq ?_
  refine KW.region ?_
  refine OW.val rfl rfl (EX.move rfl) ?_
  refine OW.val rfl rfl (EX.move rfl) ?_
  refine OW.val rfl rfl (EX.eqlS rfl rfl) ?_
  refine OW.val rfl rfl (EX.move rfl) ?_
  refine OW.as 24 (.bool true) rfl (congrArg Value.bool (decide_eq_true (rfl))) ?_
  refine OW.val rfl rfl (EX.move rfl) ?_
  refine OW.val rfl rfl (EX.move rfl) ?_
  refine OW.val rfl rfl (by first | exact EX.eqlN rfl rfl | exact EX.eqlZ rfl rfl) ?_
  refine OW.val rfl rfl (EX.pickT rfl rfl) ?_
  refine OW.val rfl rfl (EX.move rfl) ?_
  refine OW.as 29 (.bool true) rfl (congrArg Value.bool (decide_eq_true (rfl))) ?_
  refine OW.call rfl rfl rfl (awake_s w1 (ht.ext hx1)) ?_
  rintro _ w2 ⟨rfl, hx2⟩
  refine OW.val rfl rfl (EX.pickT rfl rfl) ?_
  refine OW.val rfl rfl (EX.assign rfl) ?_
  refine OW.nil ?_
  refine KW.ret (ret1 rfl rfl ?_)
  exact ⟨rfl, hx1.trans hx2⟩
theorem fieldsNumbers_s (s : List UInt8) (hs : s.length ≤ 140737488355328) (w : World) (ht : Tab w) :
    Ret Tryd.prog 4 [str s] w fun v w' => v = .bool true ∧ Ext w w' := by
  refine Ret.enter Tryd.func4 rfl Tryd.ntmps4 (by kernel_rfl) rfl ?_
  refine KW.seq (KW.region ?_)
  refine OW.val rfl rfl (EX.assign rfl) ?_
  refine OW.nil ?_
  refine KW.seq (KW.region ?_)
  refine OW.val rfl rfl (EX.move rfl) ?_
  refine OW.call rfl rfl rfl (number_s s hs w) ?_
  rintro _ w1 ⟨rfl, hx1⟩
  refine OW.val rfl rfl (EX.move rfl) ?_
  refine OW.val rfl rfl (EX.extract rfl rfl) ?_
  refine OW.val rfl rfl (EX.extract rfl rfl) ?_
  refine OW.val rfl rfl (EX.assign rfl) ?_
  refine OW.val rfl rfl (EX.assign rfl) ?_
  refine OW.nil ?_
  refine KW.seq (KW.region ?_)
  refine OW.val rfl rfl (EX.move rfl) ?_
  refine OW.call rfl rfl rfl (refNumber_s s hs w1) ?_
  rintro _ _ ⟨rfl, rfl⟩
  refine OW.val rfl rfl (EX.move rfl) ?_
  refine OW.val rfl rfl (EX.extract rfl rfl) ?_
  refine OW.val rfl rfl (EX.extract rfl rfl) ?_
  refine OW.val rfl rfl (EX.assign rfl) ?_
  refine OW.val rfl rfl (EX.assign rfl) ?_
  refine OW.nil ?_
  refine KW.seq ?_
  refine KW.region ?_
  refine OW.val rfl rfl (EX.move rfl) ?_
  refine OW.val rfl rfl (EX.move rfl) ?_
  refine OW.val rfl rfl (by first | exact EX.eqlN rfl rfl | exact EX.eqlZ rfl rfl) ?_
  refine OW.val rfl rfl (EX.move rfl) ?_
  refine OW.as 20 (.bool true) rfl (congrArg Value.bool (decide_eq_true (rfl))) ?_
  refine OW.val rfl rfl (EX.move rfl) ?_
  refine OW.val rfl rfl (EX.move rfl) ?_
  refine OW.val rfl rfl (by first | exact EX.eqlN rfl rfl | exact EX.eqlZ rfl rfl) ?_
  refine OW.val rfl rfl (EX.pickT rfl rfl) ?_
  refine OW.val rfl rfl (EX.move rfl) ?_
  refine OW.as 25 (.bool true) rfl (congrArg Value.bool (decide_eq_true (rfl))) ?_
  refine OW.call rfl rfl rfl (awake_s w1 (ht.ext hx1)) ?_
  rintro _ w2 ⟨rfl, hx2⟩
  refine OW.val rfl rfl (EX.pickT rfl rfl) ?_
  refine OW.val rfl rfl (EX.assign rfl) ?_
  refine OW.nil ?_
  refine KW.ret (ret1 rfl rfl ?_)
  exact ⟨rfl, hx1.trans hx2⟩
theorem fieldsDecimals_s (n : Int) (h0 : -9223372036854775808 ≤ n) (h1 : n ≤ 9223372036854775807) (s : List UInt8) (hs : s.length ≤ 140737488355328) (w : World) (ht : Tab w) :
    Ret Tryd.prog 5 [.int .i64 n, str s] w fun v w' => v = .bool true ∧ Ext w w' := by
  refine Ret.enter Tryd.func5 rfl Tryd.ntmps5 (by kernel_rfl) rfl ?_
  refine KW.seq (KW.region ?_)
  refine OW.val rfl rfl (EX.assign rfl) ?_
  refine OW.nil ?_
  refine KW.seq (KW.region ?_)
  refine OW.val rfl rfl (EX.move rfl) ?_
  refine OW.call rfl rfl rfl (decimal_s s hs w) ?_
  rintro _ _ ⟨rfl, rfl⟩
  refine OW.val rfl rfl (EX.move rfl) ?_
  refine OW.val rfl rfl (EX.extract rfl rfl) ?_
  refine OW.val rfl rfl (EX.extract rfl rfl) ?_
  refine OW.val rfl rfl (EX.assign rfl) ?_
  refine OW.val rfl rfl (EX.assign rfl) ?_
  refine OW.nil ?_
  refine KW.seq (KW.region ?_)
  refine OW.val rfl rfl (EX.move rfl) ?_
  refine OW.call rfl rfl rfl (refDecimal_s s hs w) ?_
  rintro _ _ ⟨rfl, rfl⟩
  refine OW.val rfl rfl (EX.move rfl) ?_
  refine OW.val rfl rfl (EX.extract rfl rfl) ?_
  refine OW.val rfl rfl (EX.extract rfl rfl) ?_
  refine OW.val rfl rfl (EX.assign rfl) ?_
  refine OW.val rfl rfl (EX.assign rfl) ?_
  refine OW.nil ?_
  refine KW.seq ?_
  refine KW.region ?_
  refine OW.val rfl rfl (EX.move rfl) ?_
  refine OW.call rfl rfl rfl (digits_s n h0 h1 w ht) ?_
  rintro _ w1 ⟨rfl, hx1⟩
  refine OW.val rfl rfl (EX.move rfl) ?_
  refine OW.call rfl rfl rfl (refDigits_s n h0 h1 w1) ?_
  rintro _ _ ⟨rfl, rfl⟩
  refine OW.val rfl rfl (EX.eqlS rfl rfl) ?_
  refine OW.val rfl rfl (EX.move rfl) ?_
  refine OW.as 24 (.bool true) rfl (congrArg Value.bool (decide_eq_true (rfl))) ?_
  refine OW.val rfl rfl (EX.move rfl) ?_
  refine OW.val rfl rfl (EX.move rfl) ?_
  refine OW.val rfl rfl (by first | exact EX.eqlN rfl rfl | exact EX.eqlZ rfl rfl) ?_
  refine OW.val rfl rfl (EX.pickT rfl rfl) ?_
  refine OW.val rfl rfl (EX.move rfl) ?_
  refine OW.as 29 (.bool true) rfl (congrArg Value.bool (decide_eq_true (rfl))) ?_
  refine OW.val rfl rfl (EX.move rfl) ?_
  refine OW.val rfl rfl (EX.move rfl) ?_
  refine OW.val rfl rfl (by first | exact EX.eqlN rfl rfl | exact EX.eqlZ rfl rfl) ?_
  refine OW.val rfl rfl (EX.pickT rfl rfl) ?_
  refine OW.val rfl rfl (EX.move rfl) ?_
  refine OW.as 34 (.bool true) rfl (congrArg Value.bool (decide_eq_true (rfl))) ?_
  refine OW.call rfl rfl rfl (awake_s w1 (ht.ext hx1)) ?_
  rintro _ w2 ⟨rfl, hx2⟩
  refine OW.val rfl rfl (EX.pickT rfl rfl) ?_
  refine OW.val rfl rfl (EX.assign rfl) ?_
  refine OW.nil ?_
  refine KW.ret (ret1 rfl rfl ?_)
  exact ⟨rfl, hx1.trans hx2⟩
theorem fieldsTexts_s (s : List UInt8) (hs : s.length ≤ 140737488355328) (n : Int) (h0 : -9223372036854775808 ≤ n) (h1 : n ≤ 9223372036854775807) (w : World) (ht : Tab w) :
    Ret Tryd.prog 6 [str s, .int .i64 n] w fun v w' => v = .bool true ∧ Ext w w' := by
  refine Ret.enter Tryd.func6 rfl Tryd.ntmps6 (by kernel_rfl) rfl ?_
  refine KW.seq (KW.region ?_)
  refine OW.val rfl rfl (EX.assign rfl) ?_
  refine OW.nil ?_
  refine KW.seq (KW.region ?_)
  refine OW.val rfl rfl (EX.move rfl) ?_
  refine OW.val rfl rfl (EX.move rfl) ?_
  refine OW.call rfl rfl rfl (text_s s hs n h0 h1 w) ?_
  rintro _ w1 ⟨rfl, hx1⟩
  refine OW.val rfl rfl (EX.move rfl) ?_
  refine OW.val rfl rfl (EX.extract rfl rfl) ?_
  refine OW.val rfl rfl (EX.extract rfl rfl) ?_
  refine OW.val rfl rfl (EX.assign rfl) ?_
  refine OW.val rfl rfl (EX.assign rfl) ?_
  refine OW.nil ?_
  refine KW.seq (KW.region ?_)
  refine OW.val rfl rfl (EX.move rfl) ?_
  refine OW.val rfl rfl (EX.move rfl) ?_
  refine OW.call rfl rfl rfl (refText_s s hs n h0 h1 w1) ?_
  rintro _ _ ⟨rfl, rfl⟩
  refine OW.val rfl rfl (EX.move rfl) ?_
  refine OW.val rfl rfl (EX.extract rfl rfl) ?_
  refine OW.val rfl rfl (EX.extract rfl rfl) ?_
  refine OW.val rfl rfl (EX.assign rfl) ?_
  refine OW.val rfl rfl (EX.assign rfl) ?_
  refine OW.nil ?_
  refine KW.seq ?_
  refine KW.region ?_
  refine OW.val rfl rfl (EX.move rfl) ?_
  refine OW.val rfl rfl (EX.move rfl) ?_
  refine OW.val rfl rfl (EX.eqlS rfl rfl) ?_
  refine OW.val rfl rfl (EX.move rfl) ?_
  refine OW.as 24 (.bool true) rfl (congrArg Value.bool (decide_eq_true (rfl))) ?_
  refine OW.val rfl rfl (EX.move rfl) ?_
  refine OW.val rfl rfl (EX.move rfl) ?_
  refine OW.val rfl rfl (by first | exact EX.eqlN rfl rfl | exact EX.eqlZ rfl rfl) ?_
  refine OW.val rfl rfl (EX.pickT rfl rfl) ?_
  refine OW.val rfl rfl (EX.move rfl) ?_
  refine OW.as 29 (.bool true) rfl (congrArg Value.bool (decide_eq_true (rfl))) ?_
  refine OW.val rfl rfl (EX.move rfl) ?_
  refine OW.call rfl rfl rfl (cut_s s hs w1) ?_
  rintro _ _ ⟨rfl, rfl⟩
  refine OW.val rfl rfl (EX.move rfl) ?_
  refine OW.call rfl rfl rfl (refCut_s s hs w1) ?_
  rintro _ _ ⟨rfl, rfl⟩
  refine OW.val rfl rfl (EX.eqlS rfl rfl) ?_
  refine OW.val rfl rfl (EX.pickT rfl rfl) ?_
  refine OW.val rfl rfl (EX.move rfl) ?_
  refine OW.as 36 (.bool true) rfl (congrArg Value.bool (decide_eq_true (rfl))) ?_
  refine OW.call rfl rfl rfl (awake_s w1 (ht.ext hx1)) ?_
  rintro _ w2 ⟨rfl, hx2⟩
  refine OW.val rfl rfl (EX.pickT rfl rfl) ?_
  refine OW.val rfl rfl (EX.assign rfl) ?_
  refine OW.nil ?_
  refine KW.ret (ret1 rfl rfl ?_)
  exact ⟨rfl, hx1.trans hx2⟩
theorem fieldsSums_s (s : List UInt8) (hs : s.length ≤ 140737488355328) (w : World) (ht : Tab w) :
    Ret Tryd.prog 8 [str s] w fun v w' => v = .bool true ∧ Ext w w' := by
  refine Ret.enter Tryd.func8 rfl Tryd.ntmps8 (by kernel_rfl) rfl ?_
  refine KW.seq (KW.region ?_)
  refine OW.val rfl rfl (EX.assign rfl) ?_
  refine OW.nil ?_
  refine KW.seq (KW.region ?_)
  refine OW.val rfl rfl (EX.move rfl) ?_
  refine OW.call rfl rfl rfl (sum_s s hs w) ?_
  rintro _ _ ⟨rfl, rfl⟩
  refine OW.val rfl rfl (EX.move rfl) ?_
  refine OW.val rfl rfl (EX.extract rfl rfl) ?_
  refine OW.val rfl rfl (EX.extract rfl rfl) ?_
  refine OW.val rfl rfl (EX.assign rfl) ?_
  refine OW.val rfl rfl (EX.assign rfl) ?_
  refine OW.nil ?_
  refine KW.seq (KW.region ?_)
  refine OW.val rfl rfl (EX.move rfl) ?_
  refine OW.call rfl rfl rfl (refSum_s s hs w) ?_
  rintro _ _ ⟨rfl, rfl⟩
  refine OW.val rfl rfl (EX.move rfl) ?_
  refine OW.val rfl rfl (EX.extract rfl rfl) ?_
  refine OW.val rfl rfl (EX.extract rfl rfl) ?_
  refine OW.val rfl rfl (EX.assign rfl) ?_
  refine OW.val rfl rfl (EX.assign rfl) ?_
  refine OW.nil ?_
  refine KW.seq ?_
  refine KW.region ?_
  refine OW.val rfl rfl (EX.move rfl) ?_
  refine OW.val rfl rfl (EX.move rfl) ?_
  refine OW.val rfl rfl (by first | exact EX.eqlN rfl rfl | exact EX.eqlZ rfl rfl) ?_
  refine OW.val rfl rfl (EX.move rfl) ?_
  refine OW.as 20 (.bool true) rfl (congrArg Value.bool (decide_eq_true (rfl))) ?_
  refine OW.val rfl rfl (EX.move rfl) ?_
  refine OW.val rfl rfl (EX.move rfl) ?_
  refine OW.val rfl rfl (by first | exact EX.eqlN rfl rfl | exact EX.eqlZ rfl rfl) ?_
  refine OW.val rfl rfl (EX.pickT rfl rfl) ?_
  refine OW.val rfl rfl (EX.move rfl) ?_
  refine OW.as 25 (.bool true) rfl (congrArg Value.bool (decide_eq_true (rfl))) ?_
  refine OW.call rfl rfl rfl (awake_s w ht) ?_
  rintro _ w2 ⟨rfl, hx2⟩
  refine OW.val rfl rfl (EX.pickT rfl rfl) ?_
  refine OW.val rfl rfl (EX.assign rfl) ?_
  refine OW.nil ?_
  refine KW.ret (ret1 rfl rfl ?_)
  exact ⟨rfl, hx2⟩
/-! ### Read as they were laid -/
theorem octal_ok {n m : Int} (h : (octal n m).2 = 0) (hm : n ≤ 9007199254740992) : num (octal n m).1 = (n.toNat, 0) ∧ ((octal n m).1.length : Int) = m ∧ 0 ≤ n := by
  unfold octal at h ⊢
  split at h
  · simp at h
  · rename_i h1
    rw [if_neg h1]
    split at h
    · simp at h
    · rename_i h2
      rw [if_neg h2]
      have hn : 0 ≤ n := by omega
      obtain ⟨a, rfl⟩ := Int.eq_ofNat_of_zero_le hn
      have hz : a / 8 ^ (m.toNat - 1) = 0 := by
        have : ((a : Int) / 8 ^ (m.toNat - 1)) = 0 := Classical.byContradiction fun q => h2 (.inr q)
        exact_mod_cast this
      refine ⟨num_octs (by omega) hz (by omega), ?_, hn⟩
      simp [octs_length]
      omega
theorem octal_len (n m : Int) : (octal n m).1.length ≤ 20 := by
  unfold octal
  split
  · simp
  · split
    · simp
    · simp [octs_length]; omega
theorem text_len (s : List UInt8) (m : Int) : (text s m).1.length ≤ 512 := by
  unfold text
  split
  · simp
  · split
    · simp
    · simp [nul]; omega
theorem text_ok {s : List UInt8} {m : Int} (h : (text s m).2 = 0) : cut (text s m).1 = s ∧ ((text s m).1.length : Int) = m := by
  unfold text at h ⊢
  split at h
  · simp at h
  · rename_i h1
    rw [if_neg h1]
    split at h
    · simp at h
    · rename_i h2
      rw [if_neg h2]
      refine ⟨cut_nul (Classical.byContradiction fun q => h2 (.inr q)) _, ?_⟩
      simp [nul]; omega
theorem digits_len (n : Int) (h1 : n ≤ 9223372036854775807) : (digits n).length ≤ 20 := by
  unfold digits
  split
  · simp
  · exact nDigits_len _ (by omega)
theorem dec_le (s : List UInt8) : (dec s).1 ≤ 9007199254740992 ∧ (dec s).2 ≤ 150 := by
  unfold dec
  split
  · simp
  · split
    · split <;> simp <;> omega
    · simp
theorem fieldsBack_s (n : Int) (h0 : -9223372036854775808 ≤ n) (h1 : n ≤ 9223372036854775807) (m : Int) (g0 : -9223372036854775808 ≤ m) (g1 : m ≤ 9223372036854775807) (s : List UInt8) (hs : s.length ≤ 140737488355328) (w : World) (ht : Tab w) :
    Ret Tryd.prog 7 [.int .i64 n, .int .i64 m, str s] w fun v w' => v = .bool true ∧ Ext w w' := by
  have ol := octal_len n m
  have dl := digits_len n h1
  have tl := text_len s m
  have de := dec_le s
  refine Ret.enter Tryd.func7 rfl Tryd.ntmps7 (by kernel_rfl) rfl ?_
  refine KW.seq (KW.region ?_)
  refine OW.val rfl rfl (EX.assign rfl) ?_
  refine OW.nil ?_
  refine KW.seq (KW.region ?_)
  refine OW.val rfl rfl (EX.move rfl) ?_
  refine OW.val rfl rfl (EX.move rfl) ?_
  refine OW.call rfl rfl rfl (octal_s n h0 h1 m g0 g1 w) ?_
  rintro _ w1 ⟨rfl, hx1⟩
  refine OW.val rfl rfl (EX.move rfl) ?_
  refine OW.val rfl rfl (EX.extract rfl rfl) ?_
  refine OW.val rfl rfl (EX.extract rfl rfl) ?_
  refine OW.val rfl rfl (EX.assign rfl) ?_
  refine OW.val rfl rfl (EX.assign rfl) ?_
  refine OW.nil ?_
  refine KW.seq (KW.region ?_)
  refine OW.val rfl rfl (EX.move rfl) ?_
  refine OW.call rfl rfl rfl (number_s _ (by omega) w1) ?_
  rintro _ w2 ⟨rfl, hx2⟩
  refine OW.val rfl rfl (EX.move rfl) ?_
  refine OW.val rfl rfl (EX.extract rfl rfl) ?_
  refine OW.val rfl rfl (EX.extract rfl rfl) ?_
  refine OW.val rfl rfl (EX.assign rfl) ?_
  refine OW.val rfl rfl (EX.assign rfl) ?_
  refine OW.nil ?_
  refine KW.seq (KW.seq ?_)
  refine KW.cutd1 (fun (_u : Unit) => True) (fun (_u : Unit) => [(0, .int .i64 (n : Int)), (1, .int .i64 (m : Int)), (2, str (s))]) (fun (_u : Unit) => w2) ?_ ?_
  · refine KW.region ?_
    refine OW.val rfl rfl (EX.move rfl) ?_
    refine OW.val rfl rfl (by first | exact EX.eqlN (b := 0) rfl rfl | exact EX.eqlZ rfl rfl) ?_
    refine OW.val rfl rfl (EX.move rfl) ?_
    refine OW.splitD 30 rfl (fun a1 => ?_) (fun a1 => ?_)
    · refine OW.val rfl rfl (EX.move rfl) ?_
      refine OW.val rfl rfl (by first | exact EX.leqN (b := 9007199254740992) rfl rfl | exact EX.leqZ rfl rfl) ?_
      refine OW.val rfl rfl (EX.pickT rfl rfl) ?_
      refine OW.val rfl rfl (EX.move rfl) ?_
      refine OW.splitD 34 rfl (fun a2 => ?_) (fun a2 => ?_)
      · obtain ⟨q1, q2, q3⟩ := octal_ok (n := n) (m := m) (by omega) a2
        rw [q1]
        refine OW.val rfl rfl (EX.move rfl) ?_
        refine OW.val rfl rfl (EX.move rfl) ?_
        refine OW.val rfl rfl (by first | exact EX.neqN rfl rfl | exact EX.neqZ rfl rfl) ?_
        refine OW.val rfl rfl (EX.move rfl) ?_
        refine OW.as 38 (.bool false) rfl (congrArg Value.bool (decide_eq_false (by omega))) ?_
        refine OW.val rfl rfl (EX.move rfl) ?_
        refine OW.val rfl rfl (by first | exact EX.neqN (b := 0) rfl rfl | exact EX.neqZ rfl rfl) ?_
        refine OW.val rfl rfl (EX.pickF rfl rfl) ?_
        refine OW.val rfl rfl (EX.move rfl) ?_
        refine OW.as 42 (.bool false) rfl (congrArg Value.bool (decide_eq_false (by simp))) ?_
        refine OW.val rfl rfl (EX.move rfl) ?_
        refine OW.val rfl rfl (EX.lenS Tryd.underlying9 rfl) ?_
        refine OW.val rfl rfl (EX.move rfl) ?_
        refine OW.val rfl rfl (by first | exact EX.neqN rfl rfl | exact EX.neqZ rfl rfl) ?_
        refine OW.val rfl rfl (EX.pickF rfl rfl) ?_
        refine OW.val rfl rfl (EX.pickT rfl rfl) ?_
        refine OW.nil ?_
        refine KW.as 48 (.bool false) rfl (congrArg Value.bool (decide_eq_false (by omega))) ?_
        refine KW.condF rfl (KW.skip ?_)
        refine KW.meet1 (()) ⟨rfl, rfl, rfl, trivial⟩ rfl ?_
        trivial
      · refine OW.pass rfl rfl ?_
        refine OW.pass rfl rfl ?_
        refine OW.pass rfl rfl ?_
        refine OW.pass rfl rfl ?_
        refine OW.pass rfl rfl ?_
        refine OW.pass rfl rfl ?_
        refine OW.pass rfl rfl ?_
        refine OW.pass rfl rfl ?_
        refine OW.pass rfl rfl ?_
        refine OW.pass rfl rfl ?_
        refine OW.pass rfl rfl ?_
        refine OW.pass rfl rfl ?_
        refine OW.pass rfl rfl ?_
        refine OW.val rfl rfl (EX.pickF rfl rfl) ?_
        refine OW.nil ?_
        refine KW.condF rfl (KW.skip ?_)
        refine KW.meet1 (()) ⟨rfl, rfl, rfl, trivial⟩ rfl ?_
        trivial
    · refine OW.pass rfl rfl ?_
      refine OW.pass rfl rfl ?_
      refine OW.val rfl rfl (EX.pickF rfl rfl) ?_
      refine OW.val rfl rfl (EX.move rfl) ?_
      refine OW.pass rfl rfl ?_
      refine OW.pass rfl rfl ?_
      refine OW.pass rfl rfl ?_
      refine OW.pass rfl rfl ?_
      refine OW.pass rfl rfl ?_
      refine OW.pass rfl rfl ?_
      refine OW.pass rfl rfl ?_
      refine OW.pass rfl rfl ?_
      refine OW.pass rfl rfl ?_
      refine OW.pass rfl rfl ?_
      refine OW.pass rfl rfl ?_
      refine OW.pass rfl rfl ?_
      refine OW.pass rfl rfl ?_
      refine OW.val rfl rfl (EX.pickF rfl rfl) ?_
      refine OW.nil ?_
      refine KW.condF rfl (KW.skip ?_)
      refine KW.meet1 (()) ⟨rfl, rfl, rfl, trivial⟩ rfl ?_
      trivial
  · rintro _ _
    refine KW.seq (KW.region ?_)
    refine OW.val rfl rfl (EX.move rfl) ?_
    refine OW.call rfl rfl rfl (digits_s n h0 h1 w2 (ht.ext (hx1.trans hx2))) ?_
    rintro _ w3 ⟨rfl, hx3⟩
    refine OW.call rfl rfl rfl (decimal_s _ (by omega) w3) ?_
    rintro _ _ ⟨rfl, rfl⟩
    refine OW.val rfl rfl (EX.move rfl) ?_
    refine OW.val rfl rfl (EX.extract rfl rfl) ?_
    refine OW.val rfl rfl (EX.extract rfl rfl) ?_
    refine OW.val rfl rfl (EX.assign rfl) ?_
    refine OW.val rfl rfl (EX.assign rfl) ?_
    refine OW.nil ?_
    refine KW.seq (KW.seq ?_)
    refine KW.cutd1 (fun (_u : Unit) => True) (fun (_u : Unit) => [(0, .int .i64 (n : Int)), (1, .int .i64 (m : Int)), (2, str (s))]) (fun (_u : Unit) => w3) ?_ ?_
    · refine KW.region ?_
      refine OW.val rfl rfl (EX.move rfl) ?_
      refine OW.val rfl rfl (by first | exact EX.geqN (b := 0) rfl rfl | exact EX.geqZ rfl rfl) ?_
      refine OW.val rfl rfl (EX.move rfl) ?_
      refine OW.splitD 57 rfl (fun a1 => ?_) (fun a1 => ?_)
      · refine OW.val rfl rfl (EX.move rfl) ?_
        refine OW.val rfl rfl (by first | exact EX.leqN (b := 9007199254740992) rfl rfl | exact EX.leqZ rfl rfl) ?_
        refine OW.val rfl rfl (EX.pickT rfl rfl) ?_
        refine OW.val rfl rfl (EX.move rfl) ?_
        refine OW.splitD 61 rfl (fun a2 => ?_) (fun a2 => ?_)
        · obtain ⟨a, rfl⟩ := Int.eq_ofNat_of_zero_le (show 0 ≤ n by omega)
          have q1 : dec (digits (a : Int)) = (a, 0) := by
            unfold digits
            rw [if_neg (by omega)]
            exact dec_dec a (by omega)
          rw [q1]
          refine OW.val rfl rfl (EX.move rfl) ?_
          refine OW.val rfl rfl (EX.move rfl) ?_
          refine OW.val rfl rfl (by first | exact EX.neqN rfl rfl | exact EX.neqZ rfl rfl) ?_
          refine OW.val rfl rfl (EX.move rfl) ?_
          refine OW.as 65 (.bool false) rfl (congrArg Value.bool (decide_eq_false (by simp))) ?_
          refine OW.val rfl rfl (EX.move rfl) ?_
          refine OW.val rfl rfl (by first | exact EX.neqN (b := 0) rfl rfl | exact EX.neqZ rfl rfl) ?_
          refine OW.val rfl rfl (EX.pickF rfl rfl) ?_
          refine OW.val rfl rfl (EX.pickT rfl rfl) ?_
          refine OW.nil ?_
          refine KW.as 69 (.bool false) rfl (congrArg Value.bool (decide_eq_false (by simp))) ?_
          refine KW.condF rfl (KW.skip ?_)
          refine KW.meet1 (()) ⟨rfl, rfl, rfl, trivial⟩ rfl ?_
          trivial
        · refine OW.pass rfl rfl ?_
          refine OW.pass rfl rfl ?_
          refine OW.pass rfl rfl ?_
          refine OW.pass rfl rfl ?_
          refine OW.pass rfl rfl ?_
          refine OW.pass rfl rfl ?_
          refine OW.pass rfl rfl ?_
          refine OW.val rfl rfl (EX.pickF rfl rfl) ?_
          refine OW.nil ?_
          refine KW.condF rfl (KW.skip ?_)
          refine KW.meet1 (()) ⟨rfl, rfl, rfl, trivial⟩ rfl ?_
          trivial
      · refine OW.pass rfl rfl ?_
        refine OW.pass rfl rfl ?_
        refine OW.val rfl rfl (EX.pickF rfl rfl) ?_
        refine OW.val rfl rfl (EX.move rfl) ?_
        refine OW.pass rfl rfl ?_
        refine OW.pass rfl rfl ?_
        refine OW.pass rfl rfl ?_
        refine OW.pass rfl rfl ?_
        refine OW.pass rfl rfl ?_
        refine OW.pass rfl rfl ?_
        refine OW.pass rfl rfl ?_
        refine OW.val rfl rfl (EX.pickF rfl rfl) ?_
        refine OW.nil ?_
        refine KW.condF rfl (KW.skip ?_)
        refine KW.meet1 (()) ⟨rfl, rfl, rfl, trivial⟩ rfl ?_
        trivial
    · rintro _ _
      refine KW.seq (KW.region ?_)
      refine OW.val rfl rfl (EX.move rfl) ?_
      refine OW.val rfl rfl (EX.move rfl) ?_
      refine OW.call rfl rfl rfl (text_s s hs m g0 g1 w3) ?_
      rintro _ w4 ⟨rfl, hx4⟩
      refine OW.val rfl rfl (EX.move rfl) ?_
      refine OW.val rfl rfl (EX.extract rfl rfl) ?_
      refine OW.val rfl rfl (EX.extract rfl rfl) ?_
      refine OW.val rfl rfl (EX.assign rfl) ?_
      refine OW.val rfl rfl (EX.assign rfl) ?_
      refine OW.nil ?_
      refine KW.seq (KW.seq ?_)
      refine KW.cutd1 (fun (_u : Unit) => True) (fun (_u : Unit) => [(0, .int .i64 (n : Int)), (1, .int .i64 (m : Int)), (2, str (s))]) (fun (_u : Unit) => w4) ?_ ?_
      · refine KW.region ?_
        refine OW.val rfl rfl (EX.move rfl) ?_
        refine OW.val rfl rfl (by first | exact EX.eqlN (b := 0) rfl rfl | exact EX.eqlZ rfl rfl) ?_
        refine OW.val rfl rfl (EX.move rfl) ?_
        refine OW.splitD 78 rfl (fun a1 => ?_) (fun a1 => ?_)
        · obtain ⟨q1, q2⟩ := text_ok (s := s) (m := m) a1
          refine OW.val rfl rfl (EX.move rfl) ?_
          refine OW.call rfl rfl rfl (cut_s _ (by omega) w4) ?_
          rintro _ _ ⟨rfl, rfl⟩
          refine OW.val rfl rfl (EX.move rfl) ?_
          refine OW.val rfl rfl (EX.neqS rfl rfl) ?_
          refine OW.val rfl rfl (EX.move rfl) ?_
          refine OW.as 83 (.bool false) rfl (congrArg Value.bool (decide_eq_false (by simp [q1]))) ?_
          refine OW.val rfl rfl (EX.move rfl) ?_
          refine OW.val rfl rfl (EX.lenS Tryd.underlying9 rfl) ?_
          refine OW.val rfl rfl (EX.move rfl) ?_
          refine OW.val rfl rfl (by first | exact EX.neqN rfl rfl | exact EX.neqZ rfl rfl) ?_
          refine OW.val rfl rfl (EX.pickF rfl rfl) ?_
          refine OW.val rfl rfl (EX.pickT rfl rfl) ?_
          refine OW.nil ?_
          refine KW.as 89 (.bool false) rfl (congrArg Value.bool (decide_eq_false (by simp [q2]))) ?_
          refine KW.condF rfl (KW.skip ?_)
          refine KW.meet1 (()) ⟨rfl, rfl, rfl, trivial⟩ rfl ?_
          trivial
        · refine OW.pass rfl rfl ?_
          refine OW.pass rfl rfl ?_
          refine OW.pass rfl rfl ?_
          refine OW.pass rfl rfl ?_
          refine OW.pass rfl rfl ?_
          refine OW.pass rfl rfl ?_
          refine OW.pass rfl rfl ?_
          refine OW.pass rfl rfl ?_
          refine OW.pass rfl rfl ?_
          refine OW.pass rfl rfl ?_
          refine OW.val rfl rfl (EX.pickF rfl rfl) ?_
          refine OW.nil ?_
          refine KW.condF rfl (KW.skip ?_)
          refine KW.meet1 (()) ⟨rfl, rfl, rfl, trivial⟩ rfl ?_
          trivial
      · rintro _ _
        have ht4 : Tab w4 := ht.ext (((hx1.trans hx2).trans hx3).trans hx4)
        refine KW.seq (KW.region ?_)
        refine OW.val rfl rfl (EX.move rfl) ?_
        refine OW.call rfl rfl rfl (decimal_s s hs w4) ?_
        rintro _ _ ⟨rfl, rfl⟩
        refine OW.val rfl rfl (EX.move rfl) ?_
        refine OW.val rfl rfl (EX.extract rfl rfl) ?_
        refine OW.val rfl rfl (EX.extract rfl rfl) ?_
        refine OW.val rfl rfl (EX.assign rfl) ?_
        refine OW.val rfl rfl (EX.assign rfl) ?_
        refine OW.nil ?_
        refine KW.seq ?_
        refine KW.region ?_
        refine OW.val rfl rfl (EX.move rfl) ?_
        refine OW.val rfl rfl (by first | exact EX.neqN (b := 0) rfl rfl | exact EX.neqZ rfl rfl) ?_
        refine OW.val rfl rfl (EX.move rfl) ?_
        refine OW.splitD 97 rfl (fun a1 => ?_) (fun a1 => ?_)
        · refine OW.pass rfl rfl ?_
          refine OW.pass rfl rfl ?_
          refine OW.pass rfl rfl ?_
          refine OW.pass rfl rfl ?_
          refine OW.val rfl rfl (EX.pickT rfl rfl) ?_
          refine OW.val rfl rfl (EX.move rfl) ?_
          refine OW.call rfl rfl rfl (awake_s w4 ht4) ?_
          rintro _ w6 ⟨rfl, hx6⟩
          refine OW.val rfl rfl (EX.pickT rfl rfl) ?_
          refine OW.val rfl rfl (EX.assign rfl) ?_
          refine OW.nil ?_
          refine KW.ret (ret1 rfl rfl ?_)
          exact ⟨rfl, (((hx1.trans hx2).trans hx3).trans hx4).trans hx6⟩
        · have q0 : (dec s).2 = 0 := by simpa using a1
          refine OW.val rfl rfl (EX.move rfl) ?_
          refine OW.call rfl rfl rfl (digits_s _ (by omega) (by omega) w4 ht4) ?_
          rintro _ w5 ⟨rfl, hx5⟩
          refine OW.val rfl rfl (EX.move rfl) ?_
          refine OW.val rfl rfl (EX.eqlS rfl rfl) ?_
          refine OW.val rfl rfl (EX.pickF rfl rfl) ?_
          refine OW.val rfl rfl (EX.move rfl) ?_
          refine OW.as 103 (.bool true) rfl (congrArg Value.bool (decide_eq_true (digits_dec q0))) ?_
          refine OW.call rfl rfl rfl (awake_s w5 (ht4.ext hx5)) ?_
          rintro _ w6 ⟨rfl, hx6⟩
          refine OW.val rfl rfl (EX.pickT rfl rfl) ?_
          refine OW.val rfl rfl (EX.assign rfl) ?_
          refine OW.nil ?_
          refine KW.ret (ret1 rfl rfl ?_)
          exact ⟨rfl, ((((hx1.trans hx2).trans hx3).trans hx4).trans hx5).trans hx6⟩
theorem sum_iff (s : List UInt8) : ((sum s).2 = 0) ↔ s.length = 512 := by
  unfold sum
  split
  · rename_i h; simp; omega
  · rename_i h; simp; omega
theorem bytes_set (s : List UInt8) (rs : List Value) (k : Nat) (v : UInt8) (h : k < s.length) : (bytesV s ++ rs).set k (.int .u8 (v.toNat : Int)) = bytesV (s.set k v) ++ rs := by
  rw [List.set_append_left _ _ (by simpa [bytesV] using h)]
  congr 1
  simp [bytesV, List.map_set]
theorem bytes_get (s : List UInt8) (rs : List Value) (k : Nat) (h : k < s.length) : (bytesV s ++ rs)[k]? = some (.int .u8 ((s[k]).toNat : Int)) := by
  rw [List.getElem?_append_left (by simpa [bytesV] using h)]
  simp [bytesV, h]
theorem xor_byte {a b : Nat} (ha : a < 256) (hb : b ≤ 255) : (UInt8.ofNat (a ^^^ b)).toNat = a ^^^ b := by
  have : a ^^^ b < 2 ^ 8 := Nat.xor_lt_two_pow (by omega) (by omega)
  rw [UInt8.toNat_ofNat']
  exact Nat.mod_eq_of_lt this
theorem xor_ne {a b : Nat} (hb : b ≠ 0) : a ^^^ b ≠ a := by
  intro h
  have h1 : a ^^^ (a ^^^ b) = b := by rw [← Nat.xor_assoc, Nat.xor_self, Nat.zero_xor]
  rw [h, Nat.xor_self] at h1
  exact hb h1.symm
theorem fieldsTurned_s (s : List UInt8) (hs : s.length ≤ 140737488355328) (n : Int) (h0 : -9223372036854775808 ≤ n) (h1 : n ≤ 9223372036854775807) (y : Nat) (hb : y ≤ 255) (w : World) (ht : Tab w) :
    Ret Tryd.prog 9 [str s, .int .i64 n, .int .u8 y] w fun v w' => v = .bool true ∧ Ext w w' := by
  refine Ret.enter Tryd.func9 rfl Tryd.ntmps9 (by kernel_rfl) rfl ?_
  refine KW.seq (KW.region ?_)
  refine OW.val rfl rfl (EX.assign rfl) ?_
  refine OW.nil ?_
  refine KW.seq (KW.seq ?_)
  refine KW.cut1 (fun (_u : Unit) => True) (fun (_u : Unit) => [(0, str (s)), (1, .int .i64 (n : Int)), (2, .int .u8 ((y : Nat) : Int)), (28, .bool (decide (s.length ≠ 512 ∨ n < 0 ∨ 512 ≤ n ∨ y = 0)))]) (fun (_u : Unit) => w) ?_ ?_
  · refine KW.region ?_
    refine OW.val rfl rfl (EX.move rfl) ?_
    refine OW.val rfl rfl (EX.lenS Tryd.underlying9 rfl) ?_
    refine OW.val rfl rfl (by first | exact EX.neqN (b := 512) rfl rfl | exact EX.neqZ rfl rfl) ?_
    refine OW.val rfl rfl (EX.move rfl) ?_
    refine OW.splitD 17 rfl (fun a1 => ?_) (fun a1 => ?_)
    · refine OW.pass rfl rfl ?_
      refine OW.pass rfl rfl ?_
      refine OW.val rfl rfl (EX.pickT rfl rfl) ?_
      refine OW.val rfl rfl (EX.move rfl) ?_
      refine OW.pass rfl rfl ?_
      refine OW.pass rfl rfl ?_
      refine OW.val rfl rfl (EX.pickT rfl rfl) ?_
      refine OW.val rfl rfl (EX.move rfl) ?_
      refine OW.pass rfl rfl ?_
      refine OW.pass rfl rfl ?_
      refine OW.val rfl rfl (EX.pickT rfl rfl) ?_
      refine OW.nil ?_
      refine KW.as 28 (.bool (decide (s.length ≠ 512 ∨ n < 0 ∨ 512 ≤ n ∨ y = 0))) rfl (by simp [a1]) ?_
      refine KW.meet1 (()) ⟨rfl, rfl, rfl, rfl, trivial⟩ rfl ?_
      trivial
    · refine OW.val rfl rfl (EX.move rfl) ?_
      refine OW.val rfl rfl (by first | exact EX.lssN (b := 0) rfl rfl | exact EX.lssZ rfl rfl) ?_
      refine OW.val rfl rfl (EX.pickF rfl rfl) ?_
      refine OW.val rfl rfl (EX.move rfl) ?_
      refine OW.splitD 21 rfl (fun a2 => ?_) (fun a2 => ?_)
      · refine OW.pass rfl rfl ?_
        refine OW.pass rfl rfl ?_
        refine OW.val rfl rfl (EX.pickT rfl rfl) ?_
        refine OW.val rfl rfl (EX.move rfl) ?_
        refine OW.pass rfl rfl ?_
        refine OW.pass rfl rfl ?_
        refine OW.val rfl rfl (EX.pickT rfl rfl) ?_
        refine OW.nil ?_
        refine KW.as 28 (.bool (decide (s.length ≠ 512 ∨ n < 0 ∨ 512 ≤ n ∨ y = 0))) rfl (by simp [a2]) ?_
        refine KW.meet1 (()) ⟨rfl, rfl, rfl, rfl, trivial⟩ rfl ?_
        trivial
      · refine OW.val rfl rfl (EX.move rfl) ?_
        refine OW.val rfl rfl (by first | exact EX.geqN (b := 512) rfl rfl | exact EX.geqZ rfl rfl) ?_
        refine OW.val rfl rfl (EX.pickF rfl rfl) ?_
        refine OW.val rfl rfl (EX.move rfl) ?_
        refine OW.splitD 25 rfl (fun a3 => ?_) (fun a3 => ?_)
        · refine OW.pass rfl rfl ?_
          refine OW.pass rfl rfl ?_
          refine OW.val rfl rfl (EX.pickT rfl rfl) ?_
          refine OW.nil ?_
          refine KW.as 28 (.bool (decide (s.length ≠ 512 ∨ n < 0 ∨ 512 ≤ n ∨ y = 0))) rfl (by simp [a3]) ?_
          refine KW.meet1 (()) ⟨rfl, rfl, rfl, rfl, trivial⟩ rfl ?_
          trivial
        · refine OW.val rfl rfl (EX.move rfl) ?_
          refine OW.val rfl rfl (by first | exact EX.eqlN (b := 0) rfl rfl | exact EX.eqlZ rfl rfl) ?_
          refine OW.val rfl rfl (EX.pickF rfl rfl) ?_
          refine OW.nil ?_
          refine KW.as 28 (.bool (decide (s.length ≠ 512 ∨ n < 0 ∨ 512 ≤ n ∨ y = 0))) rfl (by simp [a1, a2, a3]) ?_
          refine KW.meet1 (()) ⟨rfl, rfl, rfl, rfl, trivial⟩ rfl ?_
          trivial
  · rintro _ _
    refine KW.condD rfl (fun a => ?_) (fun a => ?_)
    · refine KW.seq (KW.region ?_)
      refine OW.val rfl rfl (EX.move rfl) ?_
      refine OW.call rfl rfl rfl (sum_s s hs w) ?_
      rintro _ _ ⟨rfl, rfl⟩
      refine OW.val rfl rfl (EX.move rfl) ?_
      refine OW.val rfl rfl (EX.extract rfl rfl) ?_
      refine OW.val rfl rfl (EX.extract rfl rfl) ?_
      refine OW.val rfl rfl (EX.assign rfl) ?_
      refine OW.val rfl rfl (EX.assign rfl) ?_
      refine OW.nil ?_
      refine KW.seq ?_
      refine KW.region ?_
      refine OW.val rfl rfl (EX.move rfl) ?_
      refine OW.val rfl rfl (by first | exact EX.eqlN (b := 0) rfl rfl | exact EX.eqlZ rfl rfl) ?_
      refine OW.val rfl rfl (EX.move rfl) ?_
      refine OW.val rfl rfl (EX.lenS Tryd.underlying9 rfl) ?_
      refine OW.val rfl rfl (by first | exact EX.eqlN (b := 512) rfl rfl | exact EX.eqlZ rfl rfl) ?_
      refine OW.val rfl rfl (EX.eqlB Tryd.underlying4 rfl rfl) ?_
      refine OW.val rfl rfl (EX.move rfl) ?_
      refine OW.as 40 (.bool true) rfl (by simp [sum_iff]) ?_
      refine OW.call rfl rfl rfl (awake_s w ht) ?_
      rintro _ w1 ⟨rfl, hx1⟩
      refine OW.val rfl rfl (EX.pickT rfl rfl) ?_
      refine OW.val rfl rfl (EX.assign rfl) ?_
      refine OW.nil ?_
      refine KW.ret (ret1 rfl rfl ?_)
      exact ⟨rfl, hx1⟩
    · obtain ⟨k, rfl⟩ := Int.eq_ofNat_of_zero_le (show 0 ≤ n by omega)
      have hl : s.length = 512 := by omega
      have hk : k < s.length := by omega
      have hc : (s[k]).toNat < 256 := (s[k]).toNat_lt
      refine KW.skip (KW.seq (KW.region ?_))
      refine OW.val rfl rfl (EX.move rfl) ?_
      refine OW.bytesOf rfl rfl Tryd.underlying9 Tryd.underlying41 Tryd.underlying5 rfl (by omega) ?_
      rintro cap rs w1 hb1 hc1 hm1 hl1 hx1
      refine OW.val rfl rfl (EX.assign rfl) ?_
      refine OW.nil ?_
      refine KW.seq (KW.region ?_)
      refine OW.val rfl rfl (EX.move rfl) ?_
      refine OW.val rfl rfl (EX.move rfl) ?_
      refine OW.val rfl rfl (by first | exact EX.indexAddrS0 Tryd.underlying41 ti5 rfl rfl (by omega) | exact EX.indexAddrS1 Tryd.underlying41 ti5 rfl rfl (by omega)) ?_
      refine OW.val rfl rfl (EX.load Tryd.underlying5 rfl rfl (hb1.cell_of (bytes_get s rs k hk))) ?_
      refine OW.val rfl rfl (EX.move rfl) ?_
      refine OW.val rfl rfl (EX.xorN (m := 255) rfl rfl rfl (by omega)) ?_
      refine OW.val rfl rfl (by first | exact EX.indexAddrS0 Tryd.underlying41 ti5 rfl rfl (by omega) | exact EX.indexAddrS1 Tryd.underlying41 ti5 rfl rfl (by omega)) ?_
      refine OW.storeB rfl ti5 rfl rfl rfl (hb1) (by simp [bytesV]; omega) ?_
      rintro w2 hb2 hm2
      refine OW.nil ?_
      refine KW.seq (KW.region ?_)
      refine OW.val rfl rfl (EX.move rfl) ?_
      rw [← xor_byte hc hb, bytes_set _ _ _ _ hk] at hb2
      refine OW.call rfl rfl rfl (sum_s s hs w2) ?_
      rintro _ _ ⟨rfl, rfl⟩
      refine OW.val rfl rfl (EX.move rfl) ?_
      refine OW.val rfl rfl (EX.extract rfl rfl) ?_
      refine OW.val rfl rfl (EX.extract rfl rfl) ?_
      refine OW.val rfl rfl (EX.assign rfl) ?_
      refine OW.val rfl rfl (EX.assign rfl) ?_
      refine OW.nil ?_
      refine KW.seq (KW.region ?_)
      refine OW.val rfl rfl (EX.move rfl) ?_
      refine OW.val rfl rfl (EX.strOf Tryd.underlying41 Tryd.underlying5 Tryd.underlying9 rfl (hb2.slp) (List.length_set)) ?_
      refine OW.call rfl rfl rfl (sum_s _ (by rw [List.length_set]; omega) w2) ?_
      rintro _ _ ⟨rfl, rfl⟩
      refine OW.val rfl rfl (EX.move rfl) ?_
      refine OW.val rfl rfl (EX.extract rfl rfl) ?_
      refine OW.val rfl rfl (EX.extract rfl rfl) ?_
      refine OW.val rfl rfl (EX.assign rfl) ?_
      refine OW.val rfl rfl (EX.assign rfl) ?_
      refine OW.nil ?_
      refine KW.seq ?_
      have hx2 : Ext w w2 := below_mo hx1 hm2 hx1.size (by simp)
      have q1 : sum s = (sumTo s 512, 0) := by unfold sum; rw [if_neg (by omega)]
      have q2 : sum (s.set k (UInt8.ofNat ((s[k]).toNat ^^^ y))) = (sumTo (s.set k (UInt8.ofNat ((s[k]).toNat ^^^ y))) 512, 0) := by unfold sum; rw [if_neg (by rw [List.length_set]; omega)]
      have q3 := sum_set hl (k := k) (by omega) (UInt8.ofNat ((s[k]).toNat ^^^ y)) (by
        rw [xor_byte hc hb]
        have : s.getD k 0 = s[k] := by simp [List.getD, List.getElem?_eq_getElem hk]
        rw [this]
        exact xor_ne (by omega))
      rw [q1, q2]
      refine KW.region ?_
      refine OW.val rfl rfl (EX.move rfl) ?_
      refine OW.val rfl rfl (by first | exact EX.eqlN (b := 0) rfl rfl | exact EX.eqlZ rfl rfl) ?_
      refine OW.val rfl rfl (EX.move rfl) ?_
      refine OW.as 65 (.bool true) rfl (congrArg Value.bool (decide_eq_true (rfl))) ?_
      refine OW.val rfl rfl (EX.move rfl) ?_
      refine OW.val rfl rfl (by first | exact EX.eqlN (b := 0) rfl rfl | exact EX.eqlZ rfl rfl) ?_
      refine OW.val rfl rfl (EX.pickT rfl rfl) ?_
      refine OW.val rfl rfl (EX.move rfl) ?_
      refine OW.as 69 (.bool true) rfl (congrArg Value.bool (decide_eq_true (rfl))) ?_
      refine OW.val rfl rfl (EX.move rfl) ?_
      refine OW.val rfl rfl (EX.move rfl) ?_
      refine OW.val rfl rfl (by first | exact EX.eqlN rfl rfl | exact EX.eqlZ rfl rfl) ?_
      refine OW.val rfl rfl (EX.move rfl) ?_
      refine OW.val rfl rfl (by first | exact EX.geqN (b := 148) rfl rfl | exact EX.geqZ rfl rfl) ?_
      refine OW.val rfl rfl (EX.move rfl) ?_
      refine OW.splitD 75 rfl (fun a4 => ?_) (fun a4 => ?_)
      · refine OW.val rfl rfl (EX.move rfl) ?_
        refine OW.val rfl rfl (by first | exact EX.lssN (b := 156) rfl rfl | exact EX.lssZ rfl rfl) ?_
        refine OW.val rfl rfl (EX.pickT rfl rfl) ?_
        refine OW.val rfl rfl (EX.eqlB Tryd.underlying4 rfl rfl) ?_
        refine OW.val rfl rfl (EX.pickT rfl rfl) ?_
        refine OW.val rfl rfl (EX.move rfl) ?_
        have q4 : (sumTo s 512 = sumTo (s.set k (UInt8.ofNat ((s[k]).toNat ^^^ y))) 512) ↔ k < 156 := by rw [q3]; omega
        refine OW.as 81 (.bool true) rfl (by simp only [q4, BEq.rfl]) ?_
        refine OW.call rfl rfl rfl (awake_s w2 (ht.ext hx2)) ?_
        rintro _ w3 ⟨rfl, hx3⟩
        refine OW.val rfl rfl (EX.pickT rfl rfl) ?_
        refine OW.val rfl rfl (EX.assign rfl) ?_
        refine OW.nil ?_
        refine KW.ret (ret1 rfl rfl ?_)
        exact ⟨rfl, hx2.trans hx3⟩
      · refine OW.pass rfl rfl ?_
        refine OW.pass rfl rfl ?_
        refine OW.val rfl rfl (EX.pickF rfl rfl) ?_
        refine OW.val rfl rfl (EX.eqlB Tryd.underlying4 rfl rfl) ?_
        refine OW.val rfl rfl (EX.pickT rfl rfl) ?_
        refine OW.val rfl rfl (EX.move rfl) ?_
        have q4 : ¬ (sumTo s 512 = sumTo (s.set k (UInt8.ofNat ((s[k]).toNat ^^^ y))) 512) := by rw [q3]; omega
        refine OW.as 81 (.bool true) rfl (by rw [decide_eq_false q4]; rfl) ?_
        refine OW.call rfl rfl rfl (awake_s w2 (ht.ext hx2)) ?_
        rintro _ w3 ⟨rfl, hx3⟩
        refine OW.val rfl rfl (EX.pickT rfl rfl) ?_
        refine OW.val rfl rfl (EX.assign rfl) ?_
        refine OW.nil ?_
        refine KW.ret (ret1 rfl rfl ?_)
        exact ⟨rfl, hx2.trans hx3⟩
/-- what the row's list gives: the table of powers of ten -/
theorem tab_of {W : World} (h : laidMetH Tryd.prog Rows.fieldsOctalsRow.laid W) : Tab W := by
  have h2 : laidMet Tryd.prog [("internal/strconv.uint64pow10", Lib.tabData .u64 Lib.pow10Tab)] W := laidMet.tail (laidMet.tail h)
  exact Lib.tabBelow_of_tabIs (Lib.tabIs_of_head (rest := []) (g := 1) (by kernel_rfl) (by kernel_rfl) Tryd.underlying57 Tryd.underlying50 (by kernel_rfl) (by kernel_rfl) h2)
end Go.Proofs.YtpenjhnjobmnjaaDoor
