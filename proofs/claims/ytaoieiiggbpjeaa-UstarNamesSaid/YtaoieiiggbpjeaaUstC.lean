/-
  ustar: headers are read, by the program; sectors of noughts.
-/
import Derived.Test.YtaoieiiggbpjeaaUstB
namespace Go.Proofs.Ytaoieiiggbpjeaa
open Go.RowKit Fld Ust
set_option linter.unusedVariables false
set_option linter.unusedSimpArgs false

theorem craw_c (cb k n : Nat) (s : List UInt8) (bad : Bool) (w : World) (hs : s.length ≤ 140737488355328) (hk : k + n ≤ s.length) (hc : Bk w cb 60 [str (s.drop k), .bool bad]) :
    Ret Try.prog 30 [.pointer (some ⟨cb, 0, none⟩), .int .i64 ((n : Nat) : Int)] w fun v w' => v = str (sl s k n) ∧ Bk w' cb 60 [str (s.drop (k + n)), .bool bad] ∧ Mo w w' [cb] := by
  have hl : (s.drop k).length = s.length - k := List.length_drop
  refine Ret.enter Try.func30 rfl Try.ntmps30 (by kernel_rfl) rfl ?_
  refine KW.seq (KW.region ?_)
  refine OW.val rfl rfl (EX.assign rfl) ?_
  refine OW.nil ?_
  refine KW.seq (KW.region ?_)
  refine OW.val rfl rfl (EX.move rfl) ?_
  refine OW.val rfl rfl (EX.nilCheck rfl) ?_
  refine OW.val rfl rfl (EX.fieldAddr (off := 0) Try.underlying60 rfl rfl ti9 rfl rfl) ?_
  refine OW.val rfl rfl (EX.load Try.underlying9 rfl rfl (hc.cell_of rfl)) ?_
  refine OW.val rfl rfl (EX.move rfl) ?_
  refine OW.val rfl rfl (EX.sliceFH Try.underlying9 rfl rfl (by omega)) ?_
  refine OW.val rfl rfl (EX.assign rfl) ?_
  refine OW.nil ?_
  refine KW.seq (KW.region ?_)
  refine OW.val rfl rfl (EX.move rfl) ?_
  refine OW.val rfl rfl (EX.move rfl) ?_
  refine OW.val rfl rfl (EX.nilCheck rfl) ?_
  refine OW.val rfl rfl (EX.fieldAddr (off := 0) Try.underlying60 rfl rfl ti9 rfl rfl) ?_
  refine OW.val rfl rfl (EX.load Try.underlying9 rfl rfl (hc.cell_of rfl)) ?_
  refine OW.val rfl rfl (EX.move rfl) ?_
  refine OW.val rfl rfl (EX.sliceLE Try.underlying9 rfl rfl (by omega)) ?_
  refine OW.val rfl rfl (EX.nilCheck rfl) ?_
  refine OW.val rfl rfl (EX.fieldAddr (off := 0) Try.underlying60 rfl rfl ti9 rfl rfl) ?_
  refine OW.storeB rfl ti9 rfl rfl (by first | rfl | assumption | exact Own.one (by assumption)) (hc) (by simp) ?_
  rintro w2 hc2 hm2
  refine OW.nil ?_
  refine KW.seq (KW.region ?_)
  refine OW.val rfl rfl (EX.move rfl) ?_
  refine OW.val rfl rfl (EX.assign rfl) ?_
  refine OW.nil ?_
  refine KW.ret (ret1 rfl rfl ?_)
  refine ⟨rfl, ?_, hm2⟩
  rw [← List.drop_drop]
  exact hc2
theorem cnumber_c (cb k n : Nat) (s : List UInt8) (bad : Bool) (w : World) (hs : s.length ≤ 140737488355328) (hk : k + n ≤ s.length) (hc : Bk w cb 60 [str (s.drop k), .bool bad]) :
    Ret Try.prog 29 [.pointer (some ⟨cb, 0, none⟩), .int .i64 ((n : Nat) : Int)] w fun v w' => v = .int .i64 (((num (sl s k n)).1 : Nat) : Int) ∧ Bk w' cb 60 [str (s.drop (k + n)), .bool (bad || decide ((num (sl s k n)).2 ≠ 0))] ∧ Mo w w' [cb] := by
  have hl : (sl s k n).length ≤ 140737488355328 := by unfold sl; rw [List.length_take, List.length_drop]; omega
  refine Ret.enter Try.func29 rfl Try.ntmps29 (by kernel_rfl) rfl ?_
  refine KW.seq (KW.region ?_)
  refine OW.val rfl rfl (EX.assign rfl) ?_
  refine OW.nil ?_
  refine KW.seq (KW.region ?_)
  refine OW.val rfl rfl (EX.move rfl) ?_
  refine OW.val rfl rfl (EX.move rfl) ?_
  refine OW.call rfl rfl rfl (craw_c cb k n s bad w hs hk hc) ?_
  rintro _ w1 ⟨rfl, hc1, hm1⟩
  refine OW.call rfl rfl rfl (number_s (sl s k n) hl w1) ?_
  rintro _ w2 ⟨rfl, hx2⟩
  refine OW.val rfl rfl (EX.move rfl) ?_
  refine OW.val rfl rfl (EX.extract rfl rfl) ?_
  refine OW.val rfl rfl (EX.extract rfl rfl) ?_
  refine OW.val rfl rfl (EX.assign rfl) ?_
  refine OW.val rfl rfl (EX.assign rfl) ?_
  refine OW.nil ?_
  refine KW.seq ?_
  have hc2 := hc1.ext hx2
  have m2 : Mo w w2 [cb] := hm1.trans (Mo.of_ext hx2 _)
  rcases bad with _ | _
  · refine KW.region ?_
    refine OW.val rfl rfl (EX.move rfl) ?_
    refine OW.val rfl rfl (EX.move rfl) ?_
    refine OW.val rfl rfl (EX.nilCheck rfl) ?_
    refine OW.val rfl rfl (EX.fieldAddr (off := 1) Try.underlying60 rfl rfl ti4 rfl rfl) ?_
    refine OW.val rfl rfl (EX.load Try.underlying4 rfl rfl (hc2.cell_of rfl)) ?_
    refine OW.val rfl rfl (EX.move rfl) ?_
    refine OW.val rfl rfl (EX.move rfl) ?_
    refine OW.val rfl rfl (by first | exact EX.neqN (b := 0) rfl rfl | exact EX.neqZ rfl rfl) ?_
    refine OW.val rfl rfl (EX.pickF rfl rfl) ?_
    refine OW.val rfl rfl (EX.nilCheck rfl) ?_
    refine OW.val rfl rfl (EX.fieldAddr (off := 1) Try.underlying60 rfl rfl ti4 rfl rfl) ?_
    refine OW.storeB rfl ti4 rfl rfl (by first | rfl | assumption | exact Own.one (by assumption)) (hc2) (by simp) ?_
    rintro w3 hc3 hm3
    refine OW.nil ?_
    refine KW.seq (KW.region ?_)
    refine OW.val rfl rfl (EX.move rfl) ?_
    refine OW.val rfl rfl (EX.assign rfl) ?_
    refine OW.nil ?_
    refine KW.ret (ret1 rfl rfl ?_)
    refine ⟨rfl, ?_, m2.trans hm3⟩
    simp only [Bool.false_or]
    have e : decide (¬ (num (sl s k n)).2 = 0) = decide ((num (sl s k n)).2 ≠ 0) := rfl
    simpa using hc3
  · refine KW.region ?_
    refine OW.val rfl rfl (EX.move rfl) ?_
    refine OW.val rfl rfl (EX.move rfl) ?_
    refine OW.val rfl rfl (EX.nilCheck rfl) ?_
    refine OW.val rfl rfl (EX.fieldAddr (off := 1) Try.underlying60 rfl rfl ti4 rfl rfl) ?_
    refine OW.val rfl rfl (EX.load Try.underlying4 rfl rfl (hc2.cell_of rfl)) ?_
    refine OW.val rfl rfl (EX.move rfl) ?_
    refine OW.pass rfl rfl ?_
    refine OW.pass rfl rfl ?_
    refine OW.val rfl rfl (EX.pickT rfl rfl) ?_
    refine OW.val rfl rfl (EX.nilCheck rfl) ?_
    refine OW.val rfl rfl (EX.fieldAddr (off := 1) Try.underlying60 rfl rfl ti4 rfl rfl) ?_
    refine OW.storeB rfl ti4 rfl rfl (by first | rfl | assumption | exact Own.one (by assumption)) (hc2) (by simp) ?_
    rintro w3 hc3 hm3
    refine OW.nil ?_
    refine KW.seq (KW.region ?_)
    refine OW.val rfl rfl (EX.move rfl) ?_
    refine OW.val rfl rfl (EX.assign rfl) ?_
    refine OW.nil ?_
    refine KW.ret (ret1 rfl rfl ?_)
    exact ⟨rfl, hc3, m2.trans hm3⟩
/-- a sector is being read -/
structure Dc (w0 w : World) (rb cb hb : Nat) (rest : List UInt8) (bad : Bool) (h : List Value) : Prop where
  x : Ext w0 w
  r : Bk w rb 25 hd0.cells
  c : Bk w cb 60 [str rest, .bool bad]
  h : Bk w hb 25 h
  rlo : w0.heap.size ≤ rb
  clo : w0.heap.size ≤ cb
  hlo : w0.heap.size ≤ hb
  ne : rb ≠ hb
section
variable {w0 w : World} {rb cb hb : Nat} {s rest : List UInt8} {bad : Bool} {h : List Value} {k : Nat}
theorem Dc.step {w' : World} {rest' : List UInt8} {bad' : Bool} (d : Dc w0 w rb cb hb rest bad h) (hc : Bk w' cb 60 [str rest', .bool bad']) (hm : Mo w w' [cb]) : Dc w0 w' rb cb hb rest' bad' h :=
  ⟨below_mo d.x hm d.x.size (fun k hk => by simp at hk; subst hk; exact d.clo), d.r.mo hm (by simp; exact d.r.ne d.c (by decide)), hc, d.h.mo hm (by simp; exact d.h.ne d.c (by decide)), d.rlo, d.clo, d.hlo, d.ne⟩
theorem Dc.put {w' : World} {h' : List Value} (d : Dc w0 w rb cb hb rest bad h) (hh : Bk w' hb 25 h') (hm : Mo w w' [hb]) : Dc w0 w' rb cb hb rest bad h' :=
  ⟨below_mo d.x hm d.x.size (fun k hk => by simp at hk; subst hk; exact d.hlo), d.r.mo hm (by simp; exact d.ne), d.c.mo hm (by simp; exact fun z => d.h.ne d.c (by decide) z.symm), hh, d.rlo, d.clo, d.hlo, d.ne⟩
theorem Dc.raw (d : Dc w0 w rb cb hb (s.drop k) bad h) (n : Nat) (hs : s.length = 512) (hk : k + n ≤ 512) :
    Ret Try.prog 30 [.pointer (some ⟨cb, 0, none⟩), .int .i64 ((n : Nat) : Int)] w fun v w' => v = str (sl s k n) ∧ Dc w0 w' rb cb hb (s.drop (k + n)) bad h :=
  (craw_c cb k n s bad w (by omega) (by omega) d.c).mono fun v w' ⟨h1, h2, h3⟩ => ⟨h1, d.step h2 h3⟩
theorem Dc.num (d : Dc w0 w rb cb hb (s.drop k) bad h) (n : Nat) (hs : s.length = 512) (hk : k + n ≤ 512) :
    Ret Try.prog 29 [.pointer (some ⟨cb, 0, none⟩), .int .i64 ((n : Nat) : Int)] w fun v w' => v = .int .i64 (((num (sl s k n)).1 : Nat) : Int) ∧ Dc w0 w' rb cb hb (s.drop (k + n)) (bad || decide ((num (sl s k n)).2 ≠ 0)) h :=
  (cnumber_c cb k n s bad w (by omega) (by omega) d.c).mono fun v w' ⟨h1, h2, h3⟩ => ⟨h1, d.step h2 h3⟩
end
theorem sl_len {s : List UInt8} (hs : s.length = 512) (k n : Nat) : (sl s k n).length ≤ 512 := by unfold sl; rw [List.length_take, List.length_drop]; omega
theorem dec_no {s : List UInt8} (h : ¬ OkD s) : decH s = (hd0, 160) := by unfold decH; rw [if_neg h]
theorem dec_yes {s : List UInt8} (h : OkD s) : decH s = (hdD s, 0) := by unfold decH; rw [if_pos h]
set_option maxRecDepth 20000 in
theorem decode_s (s : List UInt8) (hs : s.length ≤ 140737488355328) (w : World) : Ret Try.prog 12 [str s] w fun v w' => v = .tuple #[.agg (decH s).1.cells.toArray, .int .i64 (((decH s).2 : Nat) : Int)] ∧ Ext w w' := by
  refine Ret.enter Try.func12 rfl Try.ntmps12 (by kernel_rfl) rfl ?_
  refine KW.seq (KW.region ?_)
  refine OW.allocB (l := [str [], .int .i64 0, .int .u8 0, .int .i64 0, .int .i64 0, str [], str [], str [], .int .i64 0, .int .i64 0]) rfl rfl ti25 rfl ?_
  rintro rb w1 hge1 hr1 hx1
  refine OW.val rfl rfl (EX.assign rfl) ?_
  refine OW.nil ?_
  refine KW.seq (KW.seq (KW.region ?_))
  refine OW.val rfl rfl (EX.move rfl) ?_
  refine OW.val rfl rfl (EX.lenS Try.underlying9 rfl) ?_
  refine OW.val rfl rfl (by first | exact EX.neqN (b := 512) rfl rfl | exact EX.neqZ rfl rfl) ?_
  refine OW.nil ?_
  refine KW.condD rfl (fun hl => ?_) (fun hl => ?_)
  · refine KW.seq (KW.region ?_)
    refine OW.val rfl rfl (EX.buildS (pl := [(0, 1), (1, 1), (2, 1), (3, 1), (4, 1), (5, 1), (6, 2), (8, 2)]) (ks := []) (is := []) (zs := [str [], .int .i64 0, .int .u8 0, .int .i64 0, .int .i64 0, str [], str [], str [], .int .i64 0, .int .i64 0]) Try.underlying25 ti25 (by kernel_rfl) rfl rfl rfl (by first | rfl | (simp only [List.all_cons, List.all_nil, Bool.and_true, Bool.true_and, Bool.and_eq_true, Value.oneCell']; repeat (first | assumption | exact Own.one (by assumption) | constructor))) (by simp only [setAll, List.set_cons_zero, List.set_cons_succ]; rfl)) ?_
    refine OW.storeS rfl ti25 rfl rfl rfl (by first | rfl | (simp only [List.all_cons, List.all_nil, Bool.and_true, Bool.true_and, Bool.and_eq_true, Value.oneCell']; repeat (first | assumption | exact Own.one (by assumption) | constructor))) (hr1) (Nat.le_refl _) ?_
    rintro w2 hr2 hm2
    refine OW.val rfl rfl (EX.assign rfl) ?_
    refine OW.nil ?_
    refine KW.ret (retC2 rfl Try.underlying25 rfl ti25 rfl rfl (hr2) rfl ?_)
    rw [dec_no fun h => hl (by have := h.len; omega)]
    exact ⟨rfl, below_mo hx1 hm2 hx1.size (fun k hk => by simp at hk; omega)⟩
  · have h512 : s.length = 512 := by omega
    refine KW.skip (KW.seq (KW.region ?_))
    refine OW.val rfl rfl (EX.move rfl) ?_
    refine OW.val rfl rfl (EX.buildS (pl := [(0, 1), (1, 1)]) (ks := [0]) (is := [0]) (zs := [str [], .bool false]) Try.underlying60 ti60 (by kernel_rfl) rfl rfl rfl (by first | rfl | (simp only [List.all_cons, List.all_nil, Bool.and_true, Bool.true_and, Bool.and_eq_true, Value.oneCell']; repeat (first | assumption | exact Own.one (by assumption) | constructor))) (by simp only [setAll, List.set_cons_zero, List.set_cons_succ]; rfl)) ?_
    refine OW.boxS rfl rfl rfl ?_
    rintro cb w2 hge2 hc2 hx2
    refine OW.val rfl rfl (EX.assign rfl) ?_
    refine OW.nil ?_
    refine KW.seq (KW.region ?_)
    refine OW.val rfl rfl (EX.move rfl) ?_
    refine OW.val rfl rfl (EX.makeFunc rfl rfl) ?_
    refine OW.val rfl rfl (EX.move rfl) ?_
    refine OW.val rfl rfl (EX.makeFunc rfl rfl) ?_
    refine OW.val rfl rfl (EX.assign rfl) ?_
    refine OW.val rfl rfl (EX.assign rfl) ?_
    refine OW.nil ?_
    refine KW.seq (KW.region ?_)
    refine OW.allocB (l := [str [], .int .i64 0, .int .u8 0, .int .i64 0, .int .i64 0, str [], str [], str [], .int .i64 0, .int .i64 0]) rfl rfl ti25 rfl ?_
    rintro hb w3 hge3 hh3 hx3
    refine OW.nil ?_
    refine KW.seq (KW.region ?_)
    refine OW.val rfl rfl (EX.move rfl) ?_
    have hlt1 := hr1.lt
    have d0 : Dc w w3 rb cb hb (s.drop 0) false hd0.cells := ⟨(hx1.trans hx2).trans hx3, (hr1.ext hx2).ext hx3, hc2.ext hx3, hh3, hge1, by have := hx1.size; omega, by have := hx1.size; have := hx2.size; omega, by have := hx2.size; omega⟩
    refine OW.callV rfl rfl rfl rfl rfl (d0.raw 100 h512 (by decide)) ?_
    rintro _ w4 ⟨rfl, d1⟩
    refine OW.call rfl rfl rfl (cut_s (sl s 0 100) (by have := sl_len h512 0 100; omega) w4) ?_
    rintro _ _ ⟨rfl, rfl⟩
    refine OW.val rfl rfl (EX.assign rfl) ?_
    refine OW.nil ?_
    refine KW.seq (KW.region ?_)
    refine OW.val rfl rfl (EX.move rfl) ?_
    refine OW.callV rfl rfl rfl rfl rfl (d1.num 8 h512 (by decide)) ?_
    rintro _ w5 ⟨rfl, d2⟩
    refine OW.val rfl rfl (EX.move rfl) ?_
    refine OW.callV rfl rfl rfl rfl rfl (d2.num 8 h512 (by decide)) ?_
    rintro _ w6 ⟨rfl, d3⟩
    refine OW.val rfl rfl (EX.move rfl) ?_
    refine OW.callV rfl rfl rfl rfl rfl (d3.num 8 h512 (by decide)) ?_
    rintro _ w7 ⟨rfl, d4⟩
    refine OW.val rfl rfl (EX.fieldAddr (off := 3) Try.underlying25 rfl rfl ti3 rfl rfl) ?_
    refine OW.storeB rfl ti3 rfl rfl (by first | rfl | assumption | exact Own.one (by assumption)) (d4.h) (of_decide_eq_true rfl) ?_
    rintro w8 hh8 hm8
    refine OW.val rfl rfl (EX.fieldAddr (off := 8) Try.underlying25 rfl rfl ti23 rfl rfl) ?_
    refine OW.val rfl rfl (by first | exact EX.indexAddrA0 (i := 0) Try.underlying23 ti3 rfl rfl (by omega) | exact EX.indexAddrA1 (i := 0) Try.underlying23 ti3 rfl rfl (by omega)) ?_
    have d5 := d4.put hh8 hm8
    refine OW.storeB rfl ti3 rfl rfl (by first | rfl | assumption | exact Own.one (by assumption)) (d5.h) (of_decide_eq_true rfl) ?_
    rintro w9 hh9 hm9
    refine OW.val rfl rfl (EX.fieldAddr (off := 8) Try.underlying25 rfl rfl ti23 rfl rfl) ?_
    refine OW.val rfl rfl (by first | exact EX.indexAddrA0 (i := 1) Try.underlying23 ti3 rfl rfl (by omega) | exact EX.indexAddrA1 (i := 1) Try.underlying23 ti3 rfl rfl (by omega)) ?_
    have d6 := d5.put hh9 hm9
    refine OW.storeB rfl ti3 rfl rfl (by first | rfl | assumption | exact Own.one (by assumption)) (d6.h) (of_decide_eq_true rfl) ?_
    rintro w10 hh10 hm10
    refine OW.nil ?_
    refine KW.seq (KW.region ?_)
    refine OW.val rfl rfl (EX.move rfl) ?_
    have d7 := d6.put hh10 hm10
    refine OW.callV rfl rfl rfl rfl rfl (d7.num 12 h512 (by decide)) ?_
    rintro _ w11 ⟨rfl, d8⟩
    refine OW.val rfl rfl (EX.move rfl) ?_
    refine OW.callV rfl rfl rfl rfl rfl (d8.num 12 h512 (by decide)) ?_
    rintro _ w12 ⟨rfl, d9⟩
    refine OW.val rfl rfl (EX.fieldAddr (off := 1) Try.underlying25 rfl rfl ti3 rfl rfl) ?_
    refine OW.storeB rfl ti3 rfl rfl (by first | rfl | assumption | exact Own.one (by assumption)) (d9.h) (of_decide_eq_true rfl) ?_
    rintro w13 hh13 hm13
    refine OW.val rfl rfl (EX.fieldAddr (off := 4) Try.underlying25 rfl rfl ti3 rfl rfl) ?_
    have d10 := d9.put hh13 hm13
    refine OW.storeB rfl ti3 rfl rfl (by first | rfl | assumption | exact Own.one (by assumption)) (d10.h) (of_decide_eq_true rfl) ?_
    rintro w14 hh14 hm14
    refine OW.nil ?_
    refine KW.seq (KW.region ?_)
    refine OW.val rfl rfl (EX.move rfl) ?_
    have d11 := d10.put hh14 hm14
    refine OW.callV rfl rfl rfl rfl rfl (d11.num 8 h512 (by decide)) ?_
    rintro _ w15 ⟨rfl, d12⟩
    refine OW.val rfl rfl (EX.assign rfl) ?_
    refine OW.nil ?_
    refine KW.seq (KW.region ?_)
    refine OW.val rfl rfl (EX.move rfl) ?_
    have hl1 : (sl s (0 + 100 + 8 + 8 + 8 + 12 + 12 + 8) 1).length = 1 := by unfold sl; rw [List.length_take, List.length_drop]; omega
    have hl1' : (sl s 156 1).length = 1 := hl1
    refine OW.callV rfl rfl rfl rfl rfl (d12.raw 1 h512 (by decide)) ?_
    rintro _ w16 ⟨rfl, d13⟩
    refine OW.val rfl rfl (EX.indexS (i := 0) Try.underlying9 rfl rfl (List.getElem?_eq_getElem (by omega))) ?_
    refine OW.val rfl rfl (EX.fieldAddr (off := 2) Try.underlying25 rfl rfl ti5 rfl rfl) ?_
    refine OW.storeB rfl ti5 rfl rfl (by first | rfl | assumption | exact Own.one (by assumption)) (d13.h) (of_decide_eq_true rfl) ?_
    rintro w17 hh17 hm17
    refine OW.nil ?_
    refine KW.seq (KW.region ?_)
    refine OW.val rfl rfl (EX.move rfl) ?_
    have d14 := d13.put hh17 hm17
    refine OW.callV rfl rfl rfl rfl rfl (d14.raw 100 h512 (by decide)) ?_
    rintro _ w18 ⟨rfl, d15⟩
    refine OW.call rfl rfl rfl (cut_s (sl s 157 100) (by have := sl_len h512 157 100; omega) w18) ?_
    rintro _ _ ⟨rfl, rfl⟩
    refine OW.val rfl rfl (EX.fieldAddr (off := 5) Try.underlying25 rfl rfl ti9 rfl rfl) ?_
    refine OW.storeB rfl ti9 rfl rfl (by first | rfl | assumption | exact Own.one (by assumption)) (d15.h) (of_decide_eq_true rfl) ?_
    rintro w19 hh19 hm19
    refine OW.nil ?_
    refine KW.seq (KW.region ?_)
    refine OW.val rfl rfl (EX.move rfl) ?_
    have d16 := d15.put hh19 hm19
    refine OW.callV rfl rfl rfl rfl rfl (d16.raw 8 h512 (by decide)) ?_
    rintro _ w20 ⟨rfl, d17⟩
    refine OW.val rfl rfl (EX.assign rfl) ?_
    refine OW.nil ?_
    refine KW.seq (KW.region ?_)
    refine OW.val rfl rfl (EX.move rfl) ?_
    refine OW.callV rfl rfl rfl rfl rfl (d17.raw 32 h512 (by decide)) ?_
    rintro _ w21 ⟨rfl, d18⟩
    refine OW.call rfl rfl rfl (cut_s (sl s 265 32) (by have := sl_len h512 265 32; omega) w21) ?_
    rintro _ _ ⟨rfl, rfl⟩
    refine OW.val rfl rfl (EX.move rfl) ?_
    refine OW.callV rfl rfl rfl rfl rfl (d18.raw 32 h512 (by decide)) ?_
    rintro _ w22 ⟨rfl, d19⟩
    refine OW.call rfl rfl rfl (cut_s (sl s 297 32) (by have := sl_len h512 297 32; omega) w22) ?_
    rintro _ _ ⟨rfl, rfl⟩
    refine OW.val rfl rfl (EX.fieldAddr (off := 6) Try.underlying25 rfl rfl ti22 rfl rfl) ?_
    refine OW.val rfl rfl (by first | exact EX.indexAddrA0 (i := 0) Try.underlying22 ti9 rfl rfl (by omega) | exact EX.indexAddrA1 (i := 0) Try.underlying22 ti9 rfl rfl (by omega)) ?_
    refine OW.storeB rfl ti9 rfl rfl (by first | rfl | assumption | exact Own.one (by assumption)) (d19.h) (of_decide_eq_true rfl) ?_
    rintro w23 hh23 hm23
    refine OW.val rfl rfl (EX.fieldAddr (off := 6) Try.underlying25 rfl rfl ti22 rfl rfl) ?_
    refine OW.val rfl rfl (by first | exact EX.indexAddrA0 (i := 1) Try.underlying22 ti9 rfl rfl (by omega) | exact EX.indexAddrA1 (i := 1) Try.underlying22 ti9 rfl rfl (by omega)) ?_
    have d20 := d19.put hh23 hm23
    refine OW.storeB rfl ti9 rfl rfl (by first | rfl | assumption | exact Own.one (by assumption)) (d20.h) (of_decide_eq_true rfl) ?_
    rintro w24 hh24 hm24
    refine OW.nil ?_
    refine KW.seq (KW.region ?_)
    refine OW.val rfl rfl (EX.move rfl) ?_
    have d21 := d20.put hh24 hm24
    refine OW.callV rfl rfl rfl rfl rfl (d21.raw 16 h512 (by decide)) ?_
    rintro _ w25 ⟨rfl, d22⟩
    refine OW.nil ?_
    refine KW.seq (KW.region ?_)
    refine OW.val rfl rfl (EX.move rfl) ?_
    refine OW.callV rfl rfl rfl rfl rfl (d22.raw 155 h512 (by decide)) ?_
    rintro _ w26 ⟨rfl, d23⟩
    refine OW.call rfl rfl rfl (cut_s (sl s 345 155) (by have := sl_len h512 345 155; omega) w26) ?_
    rintro _ _ ⟨rfl, rfl⟩
    refine OW.val rfl rfl (EX.assign rfl) ?_
    refine OW.nil ?_
    refine KW.seq (KW.region ?_)
    refine OW.val rfl rfl (EX.move rfl) ?_
    refine OW.val rfl rfl (EX.fieldAddr (off := 0) Try.underlying25 rfl rfl ti9 rfl rfl) ?_
    refine OW.storeB rfl ti9 rfl rfl (by first | rfl | assumption | exact Own.one (by assumption)) (d23.h) (of_decide_eq_true rfl) ?_
    rintro w27 hh27 hm27
    refine OW.nil ?_
    refine KW.seq (KW.seq (KW.region ?_))
    refine OW.val rfl rfl (EX.move rfl) ?_
    refine OW.val rfl rfl (EX.neqS (r := []) rfl rfl) ?_
    refine OW.nil ?_
    have d24 := d23.put hh27 hm27
    have hx0 : (sl s 156 1)[0] = s.getD 156 0 := by
      unfold sl
      simp [List.getD_eq_getElem?_getD, h512]
    obtain ⟨bad, hbad, d25⟩ : ∃ bad, (bad = false ↔ (num (sl s 100 8)).2 = 0 ∧ (num (sl s 108 8)).2 = 0 ∧ (num (sl s 116 8)).2 = 0 ∧ (num (sl s 124 12)).2 = 0 ∧ (num (sl s 136 12)).2 = 0 ∧ (num (sl s 148 8)).2 = 0) ∧ Dc w w27 rb cb hb (s.drop 500) bad (Hd.cells ⟨cut (sl s 0 100), (num (sl s 124 12)).1, ((sl s 156 1)[0]).toNat, (num (sl s 100 8)).1, (num (sl s 136 12)).1, cut (sl s 157 100), cut (sl s 265 32), cut (sl s 297 32), (num (sl s 108 8)).1, (num (sl s 116 8)).1⟩) := ⟨_, by simp [and_assoc], d24⟩
    rw [hx0] at d25
    have hpn := cut_le (sl s 0 100)
    have hpp := cut_le (sl s 345 155)
    have hsl1 := sl_len h512 0 100
    have hsl2 := sl_len h512 345 155
    refine KW.cut1 (fun (wr : World) => Dc w wr rb cb hb (s.drop 500) bad (Hd.cells ⟨pathD s, (num (sl s 124 12)).1, (s.getD 156 0).toNat, (num (sl s 100 8)).1, (num (sl s 136 12)).1, cut (sl s 157 100), cut (sl s 265 32), cut (sl s 297 32), (num (sl s 108 8)).1, (num (sl s 116 8)).1⟩)) (fun (wr : World) => [(0, str (s)), (2, .pointer (some ⟨rb, 0, none⟩)), (4, .pointer (some ⟨cb, 0, none⟩)), (7, .pointer (some ⟨hb, 0, none⟩)), (9, .int .i64 (((num (sl s 148 8)).1 : Nat) : Int)), (10, str ((sl s 257 8)))]) (fun (wr : World) => wr) ?_ ?_
    · refine KW.condD rfl (fun hpre => ?_) (fun hpre => ?_)
      · refine KW.region ?_
        refine OW.val rfl rfl (EX.move rfl) ?_
        refine OW.val rfl rfl (EX.addS (r := [47]) rfl rfl (by first | omega | (simp only [List.length_append, List.length_cons, List.length_nil, List.length_take, List.length_drop, List.length_replicate]; omega))) ?_
        refine OW.val rfl rfl (EX.move rfl) ?_
        refine OW.val rfl rfl (EX.addS rfl rfl (by first | omega | (simp only [List.length_append, List.length_cons, List.length_nil, List.length_take, List.length_drop, List.length_replicate]; omega))) ?_
        refine OW.val rfl rfl (EX.fieldAddr (off := 0) Try.underlying25 rfl rfl ti9 rfl rfl) ?_
        refine OW.storeB rfl ti9 rfl rfl (by first | rfl | assumption | exact Own.one (by assumption)) (d25.h) (of_decide_eq_true rfl) ?_
        rintro w28 hh28 hm28
        refine OW.nil ?_
        refine KW.meet1 (w28) ⟨rfl, rfl, rfl, rfl, rfl, rfl, trivial⟩ rfl ?_
        have e : pathD s = cut (sl s 345 155) ++ [47] ++ cut (sl s 0 100) := by unfold pathD; rw [if_pos hpre]
        rw [e]
        exact d25.put hh28 hm28
      · refine KW.skip ?_
        refine KW.meet1 (w27) ⟨rfl, rfl, rfl, rfl, rfl, rfl, trivial⟩ rfl ?_
        have e : pathD s = cut (sl s 0 100) := by unfold pathD; rw [if_neg hpre]
        rw [e]
        exact d25
    · rintro wr e0
      refine KW.seq (KW.seq (KW.region ?_))
      refine OW.val rfl rfl (EX.fieldAddr (off := 2) Try.underlying25 rfl rfl ti5 rfl rfl) ?_
      refine OW.val rfl rfl (EX.load Try.underlying5 rfl rfl (e0.h.cell_of rfl)) ?_
      refine OW.val rfl rfl (by first | exact EX.eqlN (b := 0) rfl rfl | exact EX.eqlZ rfl rfl) ?_
      refine OW.nil ?_
      refine KW.cut1 (fun (wq : World) => Dc w wq rb cb hb (s.drop 500) bad (hdD s).cells) (fun (wq : World) => [(0, str (s)), (2, .pointer (some ⟨rb, 0, none⟩)), (4, .pointer (some ⟨cb, 0, none⟩)), (7, .pointer (some ⟨hb, 0, none⟩)), (9, .int .i64 (((num (sl s 148 8)).1 : Nat) : Int)), (10, str ((sl s 257 8)))]) (fun (wq : World) => wq) ?_ ?_
      · refine KW.condD rfl (fun hk0 => ?_) (fun hk0 => ?_)
        · refine KW.region ?_
          refine OW.val rfl rfl (EX.fieldAddr (off := 2) Try.underlying25 rfl rfl ti5 rfl rfl) ?_
          refine OW.storeB rfl ti5 rfl rfl (by first | rfl | assumption | exact Own.one (by assumption)) (e0.h) (of_decide_eq_true rfl) ?_
          rintro w29 hh29 hm29
          refine OW.nil ?_
          refine KW.meet1 (w29) ⟨rfl, rfl, rfl, rfl, rfl, rfl, trivial⟩ rfl ?_
          have e : kindD s = 48 := by unfold kindD; rw [if_pos (by omega)]
          unfold hdD
          rw [e]
          exact e0.put hh29 hm29
        · refine KW.skip ?_
          refine KW.meet1 (wr) ⟨rfl, rfl, rfl, rfl, rfl, rfl, trivial⟩ rfl ?_
          have e : kindD s = (s.getD 156 0).toNat := by unfold kindD; rw [if_neg (by omega)]
          unfold hdD
          rw [e]
          exact e0
      · rintro wq f0
        have hsum : sum s = (sumTo s 512, 0) := by unfold sum; rw [if_neg (by omega)]
        have cs := sum_s s hs wq
        rw [hsum] at cs
        have bye : ∀ (w' : World), Bk w' rb 25 hd0.cells → Mo wq w' [rb] → Ext w w' := fun w' _ hm => below_mo f0.x hm f0.x.size (fun k hk => by simp at hk; subst hk; exact f0.rlo)
        refine KW.seq (KW.seq (KW.region ?_))
        refine OW.val rfl rfl (EX.move rfl) ?_
        refine OW.call rfl rfl rfl (cs) ?_
        rintro _ _ ⟨rfl, rfl⟩
        refine OW.val rfl rfl (EX.move rfl) ?_
        refine OW.val rfl rfl (EX.extract rfl rfl) ?_
        refine OW.val rfl rfl (EX.extract rfl rfl) ?_
        refine OW.val rfl rfl (EX.assign rfl) ?_
        refine OW.val rfl rfl (EX.assign rfl) ?_
        refine OW.nil ?_
        refine KW.seq ?_
        rcases bad with _ | _
        · obtain ⟨b1, b2, b3, b4, b5, b6⟩ := hbad.1 rfl
          refine KW.region ?_
          refine OW.val rfl rfl (EX.move rfl) ?_
          refine OW.val rfl rfl (EX.nilCheck rfl) ?_
          refine OW.val rfl rfl (EX.fieldAddr (off := 1) Try.underlying60 rfl rfl ti4 rfl rfl) ?_
          refine OW.val rfl rfl (EX.load Try.underlying4 rfl rfl (f0.c.cell_of rfl)) ?_
          refine OW.val rfl rfl (EX.move rfl) ?_
          refine OW.val rfl rfl (EX.move rfl) ?_
          refine OW.val rfl rfl (EX.move rfl) ?_
          refine OW.val rfl rfl (by first | exact EX.neqN rfl rfl | exact EX.neqZ rfl rfl) ?_
          refine OW.val rfl rfl (EX.pickF rfl rfl) ?_
          refine OW.val rfl rfl (EX.move rfl) ?_
          refine OW.splitD 99 rfl (fun c1 => ?_) (fun c1 => ?_)
          · refine OW.pass rfl rfl ?_
            refine OW.pass rfl rfl ?_
            refine OW.val rfl rfl (EX.pickT rfl rfl) ?_
            refine OW.val rfl rfl (EX.move rfl) ?_
            refine OW.pass rfl rfl ?_
            refine OW.pass rfl rfl ?_
            refine OW.pass rfl rfl ?_
            refine OW.val rfl rfl (EX.pickT rfl rfl) ?_
            refine OW.nil ?_
            refine KW.condT rfl (KW.seq (KW.region ?_))
            refine OW.val rfl rfl (EX.buildS (pl := [(0, 1), (1, 1), (2, 1), (3, 1), (4, 1), (5, 1), (6, 2), (8, 2)]) (ks := []) (is := []) (zs := [str [], .int .i64 0, .int .u8 0, .int .i64 0, .int .i64 0, str [], str [], str [], .int .i64 0, .int .i64 0]) Try.underlying25 ti25 (by kernel_rfl) rfl rfl rfl (by first | rfl | (simp only [List.all_cons, List.all_nil, Bool.and_true, Bool.true_and, Bool.and_eq_true, Value.oneCell']; repeat (first | assumption | exact Own.one (by assumption) | constructor))) (by simp only [setAll, List.set_cons_zero, List.set_cons_succ]; rfl)) ?_
            refine OW.storeS rfl ti25 rfl rfl rfl (by first | rfl | (simp only [List.all_cons, List.all_nil, Bool.and_true, Bool.true_and, Bool.and_eq_true, Value.oneCell']; repeat (first | assumption | exact Own.one (by assumption) | constructor))) (f0.r) (Nat.le_refl _) ?_
            rintro w30 hr30 hm30
            refine OW.val rfl rfl (EX.assign rfl) ?_
            refine OW.nil ?_
            refine KW.ret (retC2 rfl Try.underlying25 rfl ti25 rfl rfl (hr30) rfl ?_)
            rw [dec_no fun h => c1 (by have := h.sums; omega)]
            exact ⟨rfl, bye _ hr30 hm30⟩
          · refine OW.val rfl rfl (EX.move rfl) ?_
            refine OW.val rfl rfl (EX.neqS (r := [117, 115, 116, 97, 114, 0, 48, 48]) rfl rfl) ?_
            refine OW.val rfl rfl (EX.pickF rfl rfl) ?_
            refine OW.val rfl rfl (EX.move rfl) ?_
            refine OW.splitD 103 rfl (fun c2 => ?_) (fun c2 => ?_)
            · refine OW.pass rfl rfl ?_
              refine OW.pass rfl rfl ?_
              refine OW.pass rfl rfl ?_
              refine OW.val rfl rfl (EX.pickT rfl rfl) ?_
              refine OW.nil ?_
              refine KW.condT rfl (KW.seq (KW.region ?_))
              refine OW.val rfl rfl (EX.buildS (pl := [(0, 1), (1, 1), (2, 1), (3, 1), (4, 1), (5, 1), (6, 2), (8, 2)]) (ks := []) (is := []) (zs := [str [], .int .i64 0, .int .u8 0, .int .i64 0, .int .i64 0, str [], str [], str [], .int .i64 0, .int .i64 0]) Try.underlying25 ti25 (by kernel_rfl) rfl rfl rfl (by first | rfl | (simp only [List.all_cons, List.all_nil, Bool.and_true, Bool.true_and, Bool.and_eq_true, Value.oneCell']; repeat (first | assumption | exact Own.one (by assumption) | constructor))) (by simp only [setAll, List.set_cons_zero, List.set_cons_succ]; rfl)) ?_
              refine OW.storeS rfl ti25 rfl rfl rfl (by first | rfl | (simp only [List.all_cons, List.all_nil, Bool.and_true, Bool.true_and, Bool.and_eq_true, Value.oneCell']; repeat (first | assumption | exact Own.one (by assumption) | constructor))) (f0.r) (Nat.le_refl _) ?_
              rintro w30 hr30 hm30
              refine OW.val rfl rfl (EX.assign rfl) ?_
              refine OW.nil ?_
              refine KW.ret (retC2 rfl Try.underlying25 rfl ti25 rfl rfl (hr30) rfl ?_)
              rw [dec_no fun h => c2 h.magic]
              exact ⟨rfl, bye _ hr30 hm30⟩
            · refine OW.val rfl rfl (EX.fieldAddr (off := 0) Try.underlying25 rfl rfl ti9 rfl rfl) ?_
              refine OW.val rfl rfl (EX.load Try.underlying9 rfl rfl (f0.h.cell_of rfl)) ?_
              refine OW.val rfl rfl (EX.eqlS (r := []) rfl rfl) ?_
              refine OW.val rfl rfl (EX.pickF rfl rfl) ?_
              refine OW.nil ?_
              refine KW.condD rfl (fun c3 => ?_) (fun c3 => ?_)
              · refine KW.seq (KW.region ?_)
                refine OW.val rfl rfl (EX.buildS (pl := [(0, 1), (1, 1), (2, 1), (3, 1), (4, 1), (5, 1), (6, 2), (8, 2)]) (ks := []) (is := []) (zs := [str [], .int .i64 0, .int .u8 0, .int .i64 0, .int .i64 0, str [], str [], str [], .int .i64 0, .int .i64 0]) Try.underlying25 ti25 (by kernel_rfl) rfl rfl rfl (by first | rfl | (simp only [List.all_cons, List.all_nil, Bool.and_true, Bool.true_and, Bool.and_eq_true, Value.oneCell']; repeat (first | assumption | exact Own.one (by assumption) | constructor))) (by simp only [setAll, List.set_cons_zero, List.set_cons_succ]; rfl)) ?_
                refine OW.storeS rfl ti25 rfl rfl rfl (by first | rfl | (simp only [List.all_cons, List.all_nil, Bool.and_true, Bool.true_and, Bool.and_eq_true, Value.oneCell']; repeat (first | assumption | exact Own.one (by assumption) | constructor))) (f0.r) (Nat.le_refl _) ?_
                rintro w30 hr30 hm30
                refine OW.val rfl rfl (EX.assign rfl) ?_
                refine OW.nil ?_
                refine KW.ret (retC2 rfl Try.underlying25 rfl ti25 rfl rfl (hr30) rfl ?_)
                rw [dec_no fun h => h.path c3]
                exact ⟨rfl, bye _ hr30 hm30⟩
              · have ok : OkD s := ⟨h512, Classical.not_not.1 c2, b1, b2, b3, b4, b5, b6, by omega, c3⟩
                refine KW.skip (KW.seq (KW.region ?_))
                refine OW.val rfl rfl (EX.loadBk Try.underlying25 rfl ti25 rfl (f0.h) (rfl)) ?_
                refine OW.storeS rfl ti25 rfl rfl rfl (by first | rfl | (simp only [List.all_cons, List.all_nil, Bool.and_true, Bool.true_and, Bool.and_eq_true, Value.oneCell']; repeat (first | assumption | exact Own.one (by assumption) | constructor))) (f0.r) (Nat.le_refl _) ?_
                rintro w30 hr30 hm30
                refine OW.val rfl rfl (EX.assign rfl) ?_
                refine OW.nil ?_
                refine KW.ret (retC2 rfl Try.underlying25 rfl ti25 rfl rfl (hr30) rfl ?_)
                rw [dec_yes ok]
                exact ⟨rfl, below_mo f0.x hm30 f0.x.size (fun k hk => by simp at hk; subst hk; exact f0.rlo)⟩
        · refine KW.region ?_
          refine OW.val rfl rfl (EX.move rfl) ?_
          refine OW.val rfl rfl (EX.nilCheck rfl) ?_
          refine OW.val rfl rfl (EX.fieldAddr (off := 1) Try.underlying60 rfl rfl ti4 rfl rfl) ?_
          refine OW.val rfl rfl (EX.load Try.underlying4 rfl rfl (f0.c.cell_of rfl)) ?_
          refine OW.val rfl rfl (EX.move rfl) ?_
          refine OW.pass rfl rfl ?_
          refine OW.pass rfl rfl ?_
          refine OW.pass rfl rfl ?_
          refine OW.val rfl rfl (EX.pickT rfl rfl) ?_
          refine OW.val rfl rfl (EX.move rfl) ?_
          refine OW.pass rfl rfl ?_
          refine OW.pass rfl rfl ?_
          refine OW.val rfl rfl (EX.pickT rfl rfl) ?_
          refine OW.val rfl rfl (EX.move rfl) ?_
          refine OW.pass rfl rfl ?_
          refine OW.pass rfl rfl ?_
          refine OW.pass rfl rfl ?_
          refine OW.val rfl rfl (EX.pickT rfl rfl) ?_
          refine OW.nil ?_
          refine KW.condT rfl (KW.seq (KW.region ?_))
          refine OW.val rfl rfl (EX.buildS (pl := [(0, 1), (1, 1), (2, 1), (3, 1), (4, 1), (5, 1), (6, 2), (8, 2)]) (ks := []) (is := []) (zs := [str [], .int .i64 0, .int .u8 0, .int .i64 0, .int .i64 0, str [], str [], str [], .int .i64 0, .int .i64 0]) Try.underlying25 ti25 (by kernel_rfl) rfl rfl rfl (by first | rfl | (simp only [List.all_cons, List.all_nil, Bool.and_true, Bool.true_and, Bool.and_eq_true, Value.oneCell']; repeat (first | assumption | exact Own.one (by assumption) | constructor))) (by simp only [setAll, List.set_cons_zero, List.set_cons_succ]; rfl)) ?_
          refine OW.storeS rfl ti25 rfl rfl rfl (by first | rfl | (simp only [List.all_cons, List.all_nil, Bool.and_true, Bool.true_and, Bool.and_eq_true, Value.oneCell']; repeat (first | assumption | exact Own.one (by assumption) | constructor))) (f0.r) (Nat.le_refl _) ?_
          rintro w30 hr30 hm30
          refine OW.val rfl rfl (EX.assign rfl) ?_
          refine OW.nil ?_
          refine KW.ret (retC2 rfl Try.underlying25 rfl ti25 rfl rfl (hr30) rfl ?_)
          rw [dec_no fun h => by
            have := hbad.2 ⟨h.mode, h.i0, h.i1, h.size, h.time, h.sum⟩
            cases this]
          exact ⟨rfl, bye _ hr30 hm30⟩
theorem zero_c (s : List UInt8) (w : World) : Ret Try.prog 34 [str s, str [0]] w fun v w' => v = .int .i64 ((Lib.countByte s 0 : Nat) : Int) ∧ w' = w :=
  Ret.of_calls Try.func34 (by kernel_rfl) (Try.strings_Count_one ⟨⟨s⟩⟩ 0 w)
theorem zero_s (s : List UInt8) (w : World) : Ret Try.prog 14 [str s] w fun v w' => v = .bool (zeroH s) ∧ w = w' := by
  refine Ret.enter Try.func14 rfl Try.ntmps14 (by kernel_rfl) rfl ?_
  refine KW.seq (KW.region ?_)
  refine OW.val rfl rfl (EX.assign rfl) ?_
  refine OW.nil ?_
  refine KW.seq ?_
  refine KW.region ?_
  refine OW.val rfl rfl (EX.move rfl) ?_
  refine OW.val rfl rfl (EX.lenS Try.underlying9 rfl) ?_
  refine OW.val rfl rfl (by first | exact EX.eqlN (b := 512) rfl rfl | exact EX.eqlZ rfl rfl) ?_
  refine OW.val rfl rfl (EX.move rfl) ?_
  refine OW.splitD 6 rfl (fun h1 => ?_) (fun h1 => ?_)
  · refine OW.val rfl rfl (EX.move rfl) ?_
    refine OW.call rfl rfl rfl (zero_c s w) ?_
    rintro _ w ⟨rfl, rfl⟩
    refine OW.val rfl rfl (by first | exact EX.eqlN (b := 512) rfl rfl | exact EX.eqlZ rfl rfl) ?_
    refine OW.val rfl rfl (EX.pickT rfl rfl) ?_
    refine OW.val rfl rfl (EX.assign rfl) ?_
    refine OW.nil ?_
    refine KW.ret (ret1 rfl rfl ?_)
    refine ⟨congrArg Value.bool (decide_eq_decide.2 ?_), rfl⟩
    have h512 : s.length = 512 := by omega
    rw [show (Lib.countByte s 0 = 512) ↔ s.count 0 = s.length by unfold Lib.countByte; omega, List.count_eq_length]
    exact ⟨fun h => ⟨h512, fun c hc => (h c hc).symm⟩, fun h c hc => (h.2 c hc).symm⟩
  · refine OW.pass rfl rfl ?_
    refine OW.pass rfl rfl ?_
    refine OW.pass rfl rfl ?_
    refine OW.val rfl rfl (EX.pickF rfl rfl) ?_
    refine OW.val rfl rfl (EX.assign rfl) ?_
    refine OW.nil ?_
    refine KW.ret (ret1 rfl rfl ?_)
    exact ⟨congrArg Value.bool (decide_eq_false (fun h => h1 (by omega))).symm, rfl⟩
theorem rzero_s (s : List UInt8) (hs : s.length ≤ 140737488355328) (w : World) : Ret Try.prog 15 [str s] w fun v w' => v = .bool (zeroH s) ∧ w = w' := by
  refine Ret.enter Try.func15 rfl Try.ntmps15 (by kernel_rfl) rfl ?_
  refine KW.seq (KW.region ?_)
  refine OW.val rfl rfl (EX.assign rfl) ?_
  refine OW.nil ?_
  refine KW.seq (KW.seq (KW.region ?_))
  refine OW.val rfl rfl (EX.assign rfl) ?_
  refine OW.nil ?_
  refine KW.block ?_
  refine KW.loop1 (fun (i : Nat) => i ≤ s.length ∧ ∀ j, j < i → s[j]? = some 0) (fun (i : Nat) => [(0, str (s)), (3, .int .i64 ((i : Nat) : Int))]) (fun (i : Nat) => w) (fun (i : Nat) => s.length - i) (0) ⟨rfl, rfl, trivial⟩ rfl ?_ ?_
  · exact ⟨by omega, fun j hj => by omega⟩
  · rintro i ⟨hi, hz⟩
    refine KW.seq (KW.seq (KW.region ?_))
    refine OW.val rfl rfl (EX.move rfl) ?_
    refine OW.val rfl rfl (EX.move rfl) ?_
    refine OW.val rfl rfl (EX.lenS Try.underlying9 rfl) ?_
    refine OW.val rfl rfl (by first | exact EX.lssN rfl rfl | exact EX.lssZ rfl rfl) ?_
    refine OW.nil ?_
    refine KW.condD rfl (fun hlt => ?_) (fun hlt => ?_)
    · refine KW.skip (KW.seq (KW.block (KW.seq (KW.region ?_))))
      refine OW.val rfl rfl (EX.move rfl) ?_
      refine OW.val rfl rfl (EX.move rfl) ?_
      refine OW.val rfl rfl (EX.indexS Try.underlying9 rfl rfl (List.getElem?_eq_getElem (by omega))) ?_
      refine OW.val rfl rfl (by first | exact EX.neqN (b := 0) rfl rfl | exact EX.neqZ rfl rfl) ?_
      refine OW.nil ?_
      refine KW.condD rfl (fun hne => ?_) (fun hne => ?_)
      · refine KW.seq (KW.region ?_)
        refine OW.val rfl rfl (EX.assign rfl) ?_
        refine OW.nil ?_
        refine KW.ret (ret1 rfl rfl ?_)
        refine ⟨congrArg Value.bool (decide_eq_false (fun h => hne ?_)).symm, rfl⟩
        rw [h.2 _ (List.getElem_mem hlt)]
        rfl
      · refine KW.skip (KW.leave (KW.region ?_))
        refine OW.val rfl rfl (EX.move rfl) ?_
        refine OW.val rfl rfl (by first | exact EX.addN (b := 1) (m := 9223372036854775807) rfl rfl rfl (by omega) | exact EX.addZ (m := 9223372036854775807) rfl rfl rfl rfl (by omega)) ?_
        refine OW.val rfl rfl (EX.assign rfl) ?_
        refine OW.nil ?_
        refine KW.back1 (i + 1) ⟨rfl, rfl, trivial⟩ rfl ?_ (by omega)
        refine ⟨by omega, fun j hj => ?_⟩
        by_cases e : j = i
        · subst e
          rw [List.getElem?_eq_getElem hlt]
          exact congrArg some (UInt8.toNat_inj.1 (by simpa using hne))
        · exact hz j (by omega)
    · obtain rfl : i = s.length := by omega
      refine KW.exit rfl (KW.seq (KW.region ?_))
      refine OW.val rfl rfl (EX.move rfl) ?_
      refine OW.val rfl rfl (EX.lenS Try.underlying9 rfl) ?_
      refine OW.val rfl rfl (by first | exact EX.eqlN (b := 512) rfl rfl | exact EX.eqlZ rfl rfl) ?_
      refine OW.val rfl rfl (EX.assign rfl) ?_
      refine OW.nil ?_
      refine KW.ret (ret1 rfl rfl ?_)
      refine ⟨congrArg Value.bool (decide_eq_decide.2 ⟨fun h => ⟨by omega, fun c hc => ?_⟩, fun h => by have := h.1; omega⟩), rfl⟩
      obtain ⟨j, hj, rfl⟩ := List.getElem_of_mem hc
      have := hz j hj
      rw [List.getElem?_eq_getElem hj] at this
      exact Option.some.inj this
end Go.Proofs.Ytaoieiiggbpjeaa
