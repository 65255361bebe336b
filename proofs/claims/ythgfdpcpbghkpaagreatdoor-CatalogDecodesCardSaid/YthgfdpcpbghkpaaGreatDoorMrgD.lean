/-
  What the statements rest on, part 4 of 6: many small texts, one behind the other.
-/
import Derived.Test.YthgfdpcpbghkpaaGreatDoorMrgC
import Derived.Scope
import Derived.Maps.RangeRun
import Derived.Carry
import Derived.MapKept
import Derived.ChangeMaps4
import Derived.Shelf.SlSortCmp.NoneTotal
import Derived.Test.YthgfdpcpbghkpaaGreatDoorProg
import Derived.Shelf.SlGeneric
import Derived.Ground.SlsfProg
/- record: members, by the program and by the document; what the statements begin with. -/
namespace Go.Proofs.YthgfdpcpbghkpaaGreatDoor
set_option linter.unnecessarySimpa false
open Go.RowKit Rec Pth
set_option linter.unusedVariables false
set_option linter.unusedSimpArgs false

def _root_.Go.Proofs.YthgfdpcpbghkpaaGreatDoor.Rec.M.cells (m : M) : List Value := [str m.path, .int .i64 m.start, .int .i64 m.sectors, .int .i64 m.size, .int .u32 (m.sum : Int)]
structure _root_.Go.Proofs.YthgfdpcpbghkpaaGreatDoor.Rec.M.Ok (m : M) : Prop where
  path : m.path.length ≤ 1000000000000
  sum : m.sum ≤ 4294967295
theorem checkM_none {m : M} (h : ¬ mayM m) : checkM m = 200 := by unfold checkM; rw [if_neg h]
theorem checkM_some {m : M} (h : mayM m) : checkM m = 0 := by unfold checkM; rw [if_pos h]
theorem checkP_or (s : List UInt8) : checkP s = 0 ∨ checkP s = 140 := by unfold checkP; split <;> simp
theorem checkM_s (m : M) (hm : m.Ok) (w : World) : Ret Tryz.prog 37 [.agg m.cells.toArray] w fun v w' => v = .int .i64 ((checkM m : Nat) : Int) ∧ Ext w w' := by
  have hp := checkP_or m.path
  refine Ret.enter Tryz.func37 rfl Tryz.ntmps37 (by kernel_rfl) rfl ?_
  refine KW.seq (KW.region ?_)
  refine OW.boxS rfl rfl rfl ?_
  rintro mb w1 hge1 hm1 hx1
  refine OW.val rfl rfl (EX.assign rfl) ?_
  refine OW.nil ?_
  refine KW.seq (KW.seq ?_)
  replace hm1 : Bk w1 mb 70 m.cells := hm1
  refine KW.region ?_
  refine OW.val rfl rfl (EX.fieldAddr (off := 0) Tryz.underlying70 rfl rfl ti9 rfl rfl) ?_
  refine OW.val rfl rfl (EX.load Tryz.underlying9 rfl rfl (hm1.cell_of rfl)) ?_
  refine OW.call rfl rfl rfl (check_s m.path hm.path w1) ?_
  rintro _ w2 ⟨rfl, hx2⟩
  refine OW.val rfl rfl (by first | exact EX.neqN (b := 0) rfl rfl | exact EX.neqZ rfl rfl) ?_
  refine OW.val rfl rfl (EX.move rfl) ?_
  have hm2 := hm1.ext hx2
  refine OW.splitD 7 rfl (fun a0 => ?_) (fun a0 => ?_)
  · refine OW.pass rfl rfl ?_
    refine OW.pass rfl rfl ?_
    refine OW.pass rfl rfl ?_
    refine OW.val rfl rfl (EX.pickT rfl rfl) ?_
    refine OW.val rfl rfl (EX.move rfl) ?_
    refine OW.pass rfl rfl ?_
    refine OW.pass rfl rfl ?_
    refine OW.pass rfl rfl ?_
    refine OW.val rfl rfl (EX.pickT rfl rfl) ?_
    refine OW.val rfl rfl (EX.move rfl) ?_
    refine OW.pass rfl rfl ?_
    refine OW.pass rfl rfl ?_
    refine OW.pass rfl rfl ?_
    refine OW.val rfl rfl (EX.pickT rfl rfl) ?_
    refine OW.val rfl rfl (EX.move rfl) ?_
    refine OW.pass rfl rfl ?_
    refine OW.pass rfl rfl ?_
    refine OW.pass rfl rfl ?_
    refine OW.pass rfl rfl ?_
    refine OW.pass rfl rfl ?_
    refine OW.pass rfl rfl ?_
    refine OW.val rfl rfl (EX.pickT rfl rfl) ?_
    refine OW.val rfl rfl (EX.move rfl) ?_
    refine OW.pass rfl rfl ?_
    refine OW.pass rfl rfl ?_
    refine OW.pass rfl rfl ?_
    refine OW.val rfl rfl (EX.pickT rfl rfl) ?_
    refine OW.val rfl rfl (EX.move rfl) ?_
    refine OW.pass rfl rfl ?_
    refine OW.pass rfl rfl ?_
    refine OW.pass rfl rfl ?_
    refine OW.val rfl rfl (EX.pickT rfl rfl) ?_
    refine OW.nil ?_
    refine KW.condT rfl (KW.seq (KW.region ?_))
    refine OW.val rfl rfl (EX.assign rfl) ?_
    refine OW.nil ?_
    refine KW.ret (ret1 rfl rfl ?_)
    rw [checkM_none (fun h => by obtain ⟨h1, h2, h3, h4, h5, h6, h7⟩ := h; omega)]
    exact ⟨rfl, hx1.trans hx2⟩
  · refine OW.val rfl rfl (EX.fieldAddr (off := 1) Tryz.underlying70 rfl rfl ti3 rfl rfl) ?_
    refine OW.val rfl rfl (EX.load Tryz.underlying3 rfl rfl (hm2.cell_of rfl)) ?_
    refine OW.val rfl rfl (by first | exact EX.lssN (b := 30) rfl rfl | exact EX.lssZ rfl rfl) ?_
    refine OW.val rfl rfl (EX.pickF rfl rfl) ?_
    refine OW.val rfl rfl (EX.move rfl) ?_
    refine OW.splitD 12 rfl (fun a1 => ?_) (fun a1 => ?_)
    · refine OW.pass rfl rfl ?_
      refine OW.pass rfl rfl ?_
      refine OW.pass rfl rfl ?_
      refine OW.val rfl rfl (EX.pickT rfl rfl) ?_
      refine OW.val rfl rfl (EX.move rfl) ?_
      refine OW.pass rfl rfl ?_
      refine OW.pass rfl rfl ?_
      refine OW.pass rfl rfl ?_
      refine OW.val rfl rfl (EX.pickT rfl rfl) ?_
      refine OW.val rfl rfl (EX.move rfl) ?_
      refine OW.pass rfl rfl ?_
      refine OW.pass rfl rfl ?_
      refine OW.pass rfl rfl ?_
      refine OW.pass rfl rfl ?_
      refine OW.pass rfl rfl ?_
      refine OW.pass rfl rfl ?_
      refine OW.val rfl rfl (EX.pickT rfl rfl) ?_
      refine OW.val rfl rfl (EX.move rfl) ?_
      refine OW.pass rfl rfl ?_
      refine OW.pass rfl rfl ?_
      refine OW.pass rfl rfl ?_
      refine OW.val rfl rfl (EX.pickT rfl rfl) ?_
      refine OW.val rfl rfl (EX.move rfl) ?_
      refine OW.pass rfl rfl ?_
      refine OW.pass rfl rfl ?_
      refine OW.pass rfl rfl ?_
      refine OW.val rfl rfl (EX.pickT rfl rfl) ?_
      refine OW.nil ?_
      refine KW.condT rfl (KW.seq (KW.region ?_))
      refine OW.val rfl rfl (EX.assign rfl) ?_
      refine OW.nil ?_
      refine KW.ret (ret1 rfl rfl ?_)
      rw [checkM_none (fun h => by obtain ⟨h1, h2, h3, h4, h5, h6, h7⟩ := h; omega)]
      exact ⟨rfl, hx1.trans hx2⟩
    · refine OW.val rfl rfl (EX.fieldAddr (off := 2) Tryz.underlying70 rfl rfl ti3 rfl rfl) ?_
      refine OW.val rfl rfl (EX.load Tryz.underlying3 rfl rfl (hm2.cell_of rfl)) ?_
      refine OW.val rfl rfl (by first | exact EX.lssN (b := 1) rfl rfl | exact EX.lssZ rfl rfl) ?_
      refine OW.val rfl rfl (EX.pickF rfl rfl) ?_
      refine OW.val rfl rfl (EX.move rfl) ?_
      refine OW.splitD 17 rfl (fun a2 => ?_) (fun a2 => ?_)
      · refine OW.pass rfl rfl ?_
        refine OW.pass rfl rfl ?_
        refine OW.pass rfl rfl ?_
        refine OW.val rfl rfl (EX.pickT rfl rfl) ?_
        refine OW.val rfl rfl (EX.move rfl) ?_
        refine OW.pass rfl rfl ?_
        refine OW.pass rfl rfl ?_
        refine OW.pass rfl rfl ?_
        refine OW.pass rfl rfl ?_
        refine OW.pass rfl rfl ?_
        refine OW.pass rfl rfl ?_
        refine OW.val rfl rfl (EX.pickT rfl rfl) ?_
        refine OW.val rfl rfl (EX.move rfl) ?_
        refine OW.pass rfl rfl ?_
        refine OW.pass rfl rfl ?_
        refine OW.pass rfl rfl ?_
        refine OW.val rfl rfl (EX.pickT rfl rfl) ?_
        refine OW.val rfl rfl (EX.move rfl) ?_
        refine OW.pass rfl rfl ?_
        refine OW.pass rfl rfl ?_
        refine OW.pass rfl rfl ?_
        refine OW.val rfl rfl (EX.pickT rfl rfl) ?_
        refine OW.nil ?_
        refine KW.condT rfl (KW.seq (KW.region ?_))
        refine OW.val rfl rfl (EX.assign rfl) ?_
        refine OW.nil ?_
        refine KW.ret (ret1 rfl rfl ?_)
        rw [checkM_none (fun h => by obtain ⟨h1, h2, h3, h4, h5, h6, h7⟩ := h; omega)]
        exact ⟨rfl, hx1.trans hx2⟩
      · refine OW.val rfl rfl (EX.fieldAddr (off := 2) Tryz.underlying70 rfl rfl ti3 rfl rfl) ?_
        refine OW.val rfl rfl (EX.load Tryz.underlying3 rfl rfl (hm2.cell_of rfl)) ?_
        refine OW.val rfl rfl (by first | exact EX.gtrN (b := 4096) rfl rfl | exact EX.gtrZ rfl rfl) ?_
        refine OW.val rfl rfl (EX.pickF rfl rfl) ?_
        refine OW.val rfl rfl (EX.move rfl) ?_
        refine OW.splitD 22 rfl (fun a3 => ?_) (fun a3 => ?_)
        · refine OW.pass rfl rfl ?_
          refine OW.pass rfl rfl ?_
          refine OW.pass rfl rfl ?_
          refine OW.pass rfl rfl ?_
          refine OW.pass rfl rfl ?_
          refine OW.pass rfl rfl ?_
          refine OW.val rfl rfl (EX.pickT rfl rfl) ?_
          refine OW.val rfl rfl (EX.move rfl) ?_
          refine OW.pass rfl rfl ?_
          refine OW.pass rfl rfl ?_
          refine OW.pass rfl rfl ?_
          refine OW.val rfl rfl (EX.pickT rfl rfl) ?_
          refine OW.val rfl rfl (EX.move rfl) ?_
          refine OW.pass rfl rfl ?_
          refine OW.pass rfl rfl ?_
          refine OW.pass rfl rfl ?_
          refine OW.val rfl rfl (EX.pickT rfl rfl) ?_
          refine OW.nil ?_
          refine KW.condT rfl (KW.seq (KW.region ?_))
          refine OW.val rfl rfl (EX.assign rfl) ?_
          refine OW.nil ?_
          refine KW.ret (ret1 rfl rfl ?_)
          rw [checkM_none (fun h => by obtain ⟨h1, h2, h3, h4, h5, h6, h7⟩ := h; omega)]
          exact ⟨rfl, hx1.trans hx2⟩
        · refine OW.val rfl rfl (EX.fieldAddr (off := 1) Tryz.underlying70 rfl rfl ti3 rfl rfl) ?_
          refine OW.val rfl rfl (EX.load Tryz.underlying3 rfl rfl (hm2.cell_of rfl)) ?_
          refine OW.val rfl rfl (EX.fieldAddr (off := 2) Tryz.underlying70 rfl rfl ti3 rfl rfl) ?_
          refine OW.val rfl rfl (EX.load Tryz.underlying3 rfl rfl (hm2.cell_of rfl)) ?_
          refine OW.val rfl rfl (by first | exact EX.subN (a := 4096) (m := 9223372036854775807) rfl rfl rfl (by omega) | exact EX.subZ (m := 9223372036854775807) rfl rfl rfl rfl (by omega)) ?_
          refine OW.val rfl rfl (by first | exact EX.gtrN rfl rfl | exact EX.gtrZ rfl rfl) ?_
          refine OW.val rfl rfl (EX.pickF rfl rfl) ?_
          refine OW.val rfl rfl (EX.move rfl) ?_
          refine OW.splitD 30 rfl (fun a4 => ?_) (fun a4 => ?_)
          · refine OW.pass rfl rfl ?_
            refine OW.pass rfl rfl ?_
            refine OW.pass rfl rfl ?_
            refine OW.val rfl rfl (EX.pickT rfl rfl) ?_
            refine OW.val rfl rfl (EX.move rfl) ?_
            refine OW.pass rfl rfl ?_
            refine OW.pass rfl rfl ?_
            refine OW.pass rfl rfl ?_
            refine OW.val rfl rfl (EX.pickT rfl rfl) ?_
            refine OW.nil ?_
            refine KW.condT rfl (KW.seq (KW.region ?_))
            refine OW.val rfl rfl (EX.assign rfl) ?_
            refine OW.nil ?_
            refine KW.ret (ret1 rfl rfl ?_)
            rw [checkM_none (fun h => by obtain ⟨h1, h2, h3, h4, h5, h6, h7⟩ := h; omega)]
            exact ⟨rfl, hx1.trans hx2⟩
          · refine OW.val rfl rfl (EX.fieldAddr (off := 3) Tryz.underlying70 rfl rfl ti3 rfl rfl) ?_
            refine OW.val rfl rfl (EX.load Tryz.underlying3 rfl rfl (hm2.cell_of rfl)) ?_
            refine OW.val rfl rfl (by first | exact EX.lssN (b := 0) rfl rfl | exact EX.lssZ rfl rfl) ?_
            refine OW.val rfl rfl (EX.pickF rfl rfl) ?_
            refine OW.val rfl rfl (EX.move rfl) ?_
            refine OW.splitD 35 rfl (fun a5 => ?_) (fun a5 => ?_)
            · refine OW.pass rfl rfl ?_
              refine OW.pass rfl rfl ?_
              refine OW.pass rfl rfl ?_
              refine OW.val rfl rfl (EX.pickT rfl rfl) ?_
              refine OW.nil ?_
              refine KW.condT rfl (KW.seq (KW.region ?_))
              refine OW.val rfl rfl (EX.assign rfl) ?_
              refine OW.nil ?_
              refine KW.ret (ret1 rfl rfl ?_)
              rw [checkM_none (fun h => by obtain ⟨h1, h2, h3, h4, h5, h6, h7⟩ := h; omega)]
              exact ⟨rfl, hx1.trans hx2⟩
            · refine OW.val rfl rfl (EX.fieldAddr (off := 3) Tryz.underlying70 rfl rfl ti3 rfl rfl) ?_
              refine OW.val rfl rfl (EX.load Tryz.underlying3 rfl rfl (hm2.cell_of rfl)) ?_
              refine OW.val rfl rfl (by first | exact EX.gtrN (b := 8192) rfl rfl | exact EX.gtrZ rfl rfl) ?_
              refine OW.val rfl rfl (EX.pickF rfl rfl) ?_
              refine OW.nil ?_
              refine KW.condD rfl (fun a6 => ?_) (fun a6 => ?_)
              · refine KW.seq (KW.region ?_)
                refine OW.val rfl rfl (EX.assign rfl) ?_
                refine OW.nil ?_
                refine KW.ret (ret1 rfl rfl ?_)
                rw [checkM_none (fun h => by obtain ⟨h1, h2, h3, h4, h5, h6, h7⟩ := h; omega)]
                exact ⟨rfl, hx1.trans hx2⟩
              · refine KW.skip (KW.seq (KW.region ?_))
                refine OW.val rfl rfl (EX.assign rfl) ?_
                refine OW.nil ?_
                refine KW.ret (ret1 rfl rfl ?_)
                rw [checkM_some ⟨by omega, by omega, by omega, by omega, by omega, by omega, by omega⟩]
                exact ⟨rfl, hx1.trans hx2⟩
theorem rcheckM_s (m : M) (hm : m.Ok) (w : World) : Ret Tryz.prog 40 [.agg m.cells.toArray] w fun v w' => v = .int .i64 ((checkM m : Nat) : Int) ∧ Ext w w' := by
  have hp := checkP_or m.path
  refine Ret.enter Tryz.func40 rfl Tryz.ntmps40 (by kernel_rfl) rfl ?_
  refine KW.seq (KW.region ?_)
  refine OW.boxS rfl rfl rfl ?_
  rintro mb w1 hge1 hm1 hx1
  refine OW.val rfl rfl (EX.assign rfl) ?_
  refine OW.nil ?_
  refine KW.seq ?_
  replace hm1 : Bk w1 mb 70 m.cells := hm1
  refine KW.region ?_
  refine OW.val rfl rfl (EX.fieldAddr (off := 0) Tryz.underlying70 rfl rfl ti9 rfl rfl) ?_
  refine OW.val rfl rfl (EX.load Tryz.underlying9 rfl rfl (hm1.cell_of rfl)) ?_
  refine OW.call rfl rfl rfl (rcheck_s m.path hm.path w1) ?_
  rintro _ w2 ⟨rfl, hx2⟩
  refine OW.val rfl rfl (by first | exact EX.eqlN (b := 0) rfl rfl | exact EX.eqlZ rfl rfl) ?_
  refine OW.val rfl rfl (EX.move rfl) ?_
  have hm2 := hm1.ext hx2
  refine OW.splitD 8 rfl (fun a0 => ?_) (fun a0 => ?_)
  · refine OW.val rfl rfl (EX.fieldAddr (off := 1) Tryz.underlying70 rfl rfl ti3 rfl rfl) ?_
    refine OW.val rfl rfl (EX.load Tryz.underlying3 rfl rfl (hm2.cell_of rfl)) ?_
    refine OW.val rfl rfl (by first | exact EX.geqN (b := 30) rfl rfl | exact EX.geqZ rfl rfl) ?_
    refine OW.val rfl rfl (EX.pickT rfl rfl) ?_
    refine OW.val rfl rfl (EX.move rfl) ?_
    refine OW.splitD 13 rfl (fun a1 => ?_) (fun a1 => ?_)
    · refine OW.val rfl rfl (EX.fieldAddr (off := 1) Tryz.underlying70 rfl rfl ti3 rfl rfl) ?_
      refine OW.val rfl rfl (EX.load Tryz.underlying3 rfl rfl (hm2.cell_of rfl)) ?_
      refine OW.val rfl rfl (by first | exact EX.leqN (b := 4096) rfl rfl | exact EX.leqZ rfl rfl) ?_
      refine OW.val rfl rfl (EX.pickT rfl rfl) ?_
      refine OW.val rfl rfl (EX.move rfl) ?_
      refine OW.splitD 18 rfl (fun a2 => ?_) (fun a2 => ?_)
      · refine OW.val rfl rfl (EX.fieldAddr (off := 2) Tryz.underlying70 rfl rfl ti3 rfl rfl) ?_
        refine OW.val rfl rfl (EX.load Tryz.underlying3 rfl rfl (hm2.cell_of rfl)) ?_
        refine OW.val rfl rfl (by first | exact EX.geqN (b := 1) rfl rfl | exact EX.geqZ rfl rfl) ?_
        refine OW.val rfl rfl (EX.pickT rfl rfl) ?_
        refine OW.val rfl rfl (EX.move rfl) ?_
        refine OW.splitD 23 rfl (fun a3 => ?_) (fun a3 => ?_)
        · refine OW.val rfl rfl (EX.fieldAddr (off := 2) Tryz.underlying70 rfl rfl ti3 rfl rfl) ?_
          refine OW.val rfl rfl (EX.load Tryz.underlying3 rfl rfl (hm2.cell_of rfl)) ?_
          refine OW.val rfl rfl (by first | exact EX.leqN (b := 4096) rfl rfl | exact EX.leqZ rfl rfl) ?_
          refine OW.val rfl rfl (EX.pickT rfl rfl) ?_
          refine OW.val rfl rfl (EX.move rfl) ?_
          refine OW.splitD 28 rfl (fun a4 => ?_) (fun a4 => ?_)
          · refine OW.val rfl rfl (EX.fieldAddr (off := 3) Tryz.underlying70 rfl rfl ti3 rfl rfl) ?_
            refine OW.val rfl rfl (EX.load Tryz.underlying3 rfl rfl (hm2.cell_of rfl)) ?_
            refine OW.val rfl rfl (by first | exact EX.geqN (b := 0) rfl rfl | exact EX.geqZ rfl rfl) ?_
            refine OW.val rfl rfl (EX.pickT rfl rfl) ?_
            refine OW.val rfl rfl (EX.move rfl) ?_
            refine OW.splitD 33 rfl (fun a5 => ?_) (fun a5 => ?_)
            · refine OW.val rfl rfl (EX.fieldAddr (off := 3) Tryz.underlying70 rfl rfl ti3 rfl rfl) ?_
              refine OW.val rfl rfl (EX.load Tryz.underlying3 rfl rfl (hm2.cell_of rfl)) ?_
              refine OW.val rfl rfl (by first | exact EX.leqN (b := 8192) rfl rfl | exact EX.leqZ rfl rfl) ?_
              refine OW.val rfl rfl (EX.pickT rfl rfl) ?_
              refine OW.val rfl rfl (EX.assign rfl) ?_
              refine OW.nil ?_
              refine KW.seq (KW.seq ?_)
              by_cases a6 : m.size ≤ 8192
              · refine KW.as 3 (.bool true) rfl (congrArg Value.bool (decide_eq_true (a6))) ?_
                refine KW.region ?_
                refine OW.val rfl rfl (EX.move rfl) ?_
                refine OW.val rfl rfl (by first | exact EX.notD rfl | exact EX.notB rfl) ?_
                refine OW.val rfl rfl (EX.move rfl) ?_
                refine OW.val rfl rfl (EX.fieldAddr (off := 1) Tryz.underlying70 rfl rfl ti3 rfl rfl) ?_
                refine OW.val rfl rfl (EX.load Tryz.underlying3 rfl rfl (hm2.cell_of rfl)) ?_
                refine OW.val rfl rfl (EX.fieldAddr (off := 2) Tryz.underlying70 rfl rfl ti3 rfl rfl) ?_
                refine OW.val rfl rfl (EX.load Tryz.underlying3 rfl rfl (hm2.cell_of rfl)) ?_
                refine OW.val rfl rfl (by first | exact EX.addN (m := 9223372036854775807) rfl rfl rfl (by omega) | exact EX.addZ (m := 9223372036854775807) rfl rfl rfl rfl (by omega)) ?_
                refine OW.val rfl rfl (by first | exact EX.gtrN (b := 4096) rfl rfl | exact EX.gtrZ rfl rfl) ?_
                refine OW.val rfl rfl (EX.pickF rfl rfl) ?_
                refine OW.nil ?_
                refine KW.condD rfl (fun a7 => ?_) (fun a7 => ?_)
                · refine KW.seq (KW.region ?_)
                  refine OW.val rfl rfl (EX.assign rfl) ?_
                  refine OW.nil ?_
                  refine KW.ret (ret1 rfl rfl ?_)
                  rw [checkM_none (fun h => by obtain ⟨h1, h2, h3, h4, h5, h6, h7⟩ := h; omega)]
                  exact ⟨rfl, hx1.trans hx2⟩
                · refine KW.skip (KW.seq (KW.region ?_))
                  refine OW.val rfl rfl (EX.assign rfl) ?_
                  refine OW.nil ?_
                  refine KW.ret (ret1 rfl rfl ?_)
                  rw [checkM_some ⟨by omega, by omega, by omega, by omega, by omega, by omega, by omega⟩]
                  exact ⟨rfl, hx1.trans hx2⟩
              · refine KW.as 3 (.bool false) rfl (congrArg Value.bool (decide_eq_false (a6))) ?_
                refine KW.region ?_
                refine OW.val rfl rfl (EX.move rfl) ?_
                refine OW.val rfl rfl (by first | exact EX.notD rfl | exact EX.notB rfl) ?_
                refine OW.val rfl rfl (EX.move rfl) ?_
                refine OW.pass rfl rfl ?_
                refine OW.pass rfl rfl ?_
                refine OW.pass rfl rfl ?_
                refine OW.pass rfl rfl ?_
                refine OW.pass rfl rfl ?_
                refine OW.pass rfl rfl ?_
                refine OW.val rfl rfl (EX.pickT rfl rfl) ?_
                refine OW.nil ?_
                refine KW.condT rfl (KW.seq (KW.region ?_))
                refine OW.val rfl rfl (EX.assign rfl) ?_
                refine OW.nil ?_
                refine KW.ret (ret1 rfl rfl ?_)
                rw [checkM_none (fun h => by obtain ⟨h1, h2, h3, h4, h5, h6, h7⟩ := h; omega)]
                exact ⟨rfl, hx1.trans hx2⟩
            · refine OW.pass rfl rfl ?_
              refine OW.pass rfl rfl ?_
              refine OW.pass rfl rfl ?_
              refine OW.val rfl rfl (EX.pickF rfl rfl) ?_
              refine OW.val rfl rfl (EX.assign rfl) ?_
              refine OW.nil ?_
              refine KW.seq (KW.seq ?_)
              refine KW.region ?_
              refine OW.val rfl rfl (EX.move rfl) ?_
              refine OW.val rfl rfl (by first | exact EX.notD rfl | exact EX.notB rfl) ?_
              refine OW.val rfl rfl (EX.move rfl) ?_
              refine OW.pass rfl rfl ?_
              refine OW.pass rfl rfl ?_
              refine OW.pass rfl rfl ?_
              refine OW.pass rfl rfl ?_
              refine OW.pass rfl rfl ?_
              refine OW.pass rfl rfl ?_
              refine OW.val rfl rfl (EX.pickT rfl rfl) ?_
              refine OW.nil ?_
              refine KW.condT rfl (KW.seq (KW.region ?_))
              refine OW.val rfl rfl (EX.assign rfl) ?_
              refine OW.nil ?_
              refine KW.ret (ret1 rfl rfl ?_)
              rw [checkM_none (fun h => by obtain ⟨h1, h2, h3, h4, h5, h6, h7⟩ := h; omega)]
              exact ⟨rfl, hx1.trans hx2⟩
          · refine OW.pass rfl rfl ?_
            refine OW.pass rfl rfl ?_
            refine OW.pass rfl rfl ?_
            refine OW.val rfl rfl (EX.pickF rfl rfl) ?_
            refine OW.val rfl rfl (EX.move rfl) ?_
            refine OW.pass rfl rfl ?_
            refine OW.pass rfl rfl ?_
            refine OW.pass rfl rfl ?_
            refine OW.val rfl rfl (EX.pickF rfl rfl) ?_
            refine OW.val rfl rfl (EX.assign rfl) ?_
            refine OW.nil ?_
            refine KW.seq (KW.seq ?_)
            refine KW.region ?_
            refine OW.val rfl rfl (EX.move rfl) ?_
            refine OW.val rfl rfl (by first | exact EX.notD rfl | exact EX.notB rfl) ?_
            refine OW.val rfl rfl (EX.move rfl) ?_
            refine OW.pass rfl rfl ?_
            refine OW.pass rfl rfl ?_
            refine OW.pass rfl rfl ?_
            refine OW.pass rfl rfl ?_
            refine OW.pass rfl rfl ?_
            refine OW.pass rfl rfl ?_
            refine OW.val rfl rfl (EX.pickT rfl rfl) ?_
            refine OW.nil ?_
            refine KW.condT rfl (KW.seq (KW.region ?_))
            refine OW.val rfl rfl (EX.assign rfl) ?_
            refine OW.nil ?_
            refine KW.ret (ret1 rfl rfl ?_)
            rw [checkM_none (fun h => by obtain ⟨h1, h2, h3, h4, h5, h6, h7⟩ := h; omega)]
            exact ⟨rfl, hx1.trans hx2⟩
        · refine OW.pass rfl rfl ?_
          refine OW.pass rfl rfl ?_
          refine OW.pass rfl rfl ?_
          refine OW.val rfl rfl (EX.pickF rfl rfl) ?_
          refine OW.val rfl rfl (EX.move rfl) ?_
          refine OW.pass rfl rfl ?_
          refine OW.pass rfl rfl ?_
          refine OW.pass rfl rfl ?_
          refine OW.val rfl rfl (EX.pickF rfl rfl) ?_
          refine OW.val rfl rfl (EX.move rfl) ?_
          refine OW.pass rfl rfl ?_
          refine OW.pass rfl rfl ?_
          refine OW.pass rfl rfl ?_
          refine OW.val rfl rfl (EX.pickF rfl rfl) ?_
          refine OW.val rfl rfl (EX.assign rfl) ?_
          refine OW.nil ?_
          refine KW.seq (KW.seq ?_)
          refine KW.region ?_
          refine OW.val rfl rfl (EX.move rfl) ?_
          refine OW.val rfl rfl (by first | exact EX.notD rfl | exact EX.notB rfl) ?_
          refine OW.val rfl rfl (EX.move rfl) ?_
          refine OW.pass rfl rfl ?_
          refine OW.pass rfl rfl ?_
          refine OW.pass rfl rfl ?_
          refine OW.pass rfl rfl ?_
          refine OW.pass rfl rfl ?_
          refine OW.pass rfl rfl ?_
          refine OW.val rfl rfl (EX.pickT rfl rfl) ?_
          refine OW.nil ?_
          refine KW.condT rfl (KW.seq (KW.region ?_))
          refine OW.val rfl rfl (EX.assign rfl) ?_
          refine OW.nil ?_
          refine KW.ret (ret1 rfl rfl ?_)
          rw [checkM_none (fun h => by obtain ⟨h1, h2, h3, h4, h5, h6, h7⟩ := h; omega)]
          exact ⟨rfl, hx1.trans hx2⟩
      · refine OW.pass rfl rfl ?_
        refine OW.pass rfl rfl ?_
        refine OW.pass rfl rfl ?_
        refine OW.val rfl rfl (EX.pickF rfl rfl) ?_
        refine OW.val rfl rfl (EX.move rfl) ?_
        refine OW.pass rfl rfl ?_
        refine OW.pass rfl rfl ?_
        refine OW.pass rfl rfl ?_
        refine OW.val rfl rfl (EX.pickF rfl rfl) ?_
        refine OW.val rfl rfl (EX.move rfl) ?_
        refine OW.pass rfl rfl ?_
        refine OW.pass rfl rfl ?_
        refine OW.pass rfl rfl ?_
        refine OW.val rfl rfl (EX.pickF rfl rfl) ?_
        refine OW.val rfl rfl (EX.move rfl) ?_
        refine OW.pass rfl rfl ?_
        refine OW.pass rfl rfl ?_
        refine OW.pass rfl rfl ?_
        refine OW.val rfl rfl (EX.pickF rfl rfl) ?_
        refine OW.val rfl rfl (EX.assign rfl) ?_
        refine OW.nil ?_
        refine KW.seq (KW.seq ?_)
        refine KW.region ?_
        refine OW.val rfl rfl (EX.move rfl) ?_
        refine OW.val rfl rfl (by first | exact EX.notD rfl | exact EX.notB rfl) ?_
        refine OW.val rfl rfl (EX.move rfl) ?_
        refine OW.pass rfl rfl ?_
        refine OW.pass rfl rfl ?_
        refine OW.pass rfl rfl ?_
        refine OW.pass rfl rfl ?_
        refine OW.pass rfl rfl ?_
        refine OW.pass rfl rfl ?_
        refine OW.val rfl rfl (EX.pickT rfl rfl) ?_
        refine OW.nil ?_
        refine KW.condT rfl (KW.seq (KW.region ?_))
        refine OW.val rfl rfl (EX.assign rfl) ?_
        refine OW.nil ?_
        refine KW.ret (ret1 rfl rfl ?_)
        rw [checkM_none (fun h => by obtain ⟨h1, h2, h3, h4, h5, h6, h7⟩ := h; omega)]
        exact ⟨rfl, hx1.trans hx2⟩
    · refine OW.pass rfl rfl ?_
      refine OW.pass rfl rfl ?_
      refine OW.pass rfl rfl ?_
      refine OW.val rfl rfl (EX.pickF rfl rfl) ?_
      refine OW.val rfl rfl (EX.move rfl) ?_
      refine OW.pass rfl rfl ?_
      refine OW.pass rfl rfl ?_
      refine OW.pass rfl rfl ?_
      refine OW.val rfl rfl (EX.pickF rfl rfl) ?_
      refine OW.val rfl rfl (EX.move rfl) ?_
      refine OW.pass rfl rfl ?_
      refine OW.pass rfl rfl ?_
      refine OW.pass rfl rfl ?_
      refine OW.val rfl rfl (EX.pickF rfl rfl) ?_
      refine OW.val rfl rfl (EX.move rfl) ?_
      refine OW.pass rfl rfl ?_
      refine OW.pass rfl rfl ?_
      refine OW.pass rfl rfl ?_
      refine OW.val rfl rfl (EX.pickF rfl rfl) ?_
      refine OW.val rfl rfl (EX.move rfl) ?_
      refine OW.pass rfl rfl ?_
      refine OW.pass rfl rfl ?_
      refine OW.pass rfl rfl ?_
      refine OW.val rfl rfl (EX.pickF rfl rfl) ?_
      refine OW.val rfl rfl (EX.assign rfl) ?_
      refine OW.nil ?_
      refine KW.seq (KW.seq ?_)
      refine KW.region ?_
      refine OW.val rfl rfl (EX.move rfl) ?_
      refine OW.val rfl rfl (by first | exact EX.notD rfl | exact EX.notB rfl) ?_
      refine OW.val rfl rfl (EX.move rfl) ?_
      refine OW.pass rfl rfl ?_
      refine OW.pass rfl rfl ?_
      refine OW.pass rfl rfl ?_
      refine OW.pass rfl rfl ?_
      refine OW.pass rfl rfl ?_
      refine OW.pass rfl rfl ?_
      refine OW.val rfl rfl (EX.pickT rfl rfl) ?_
      refine OW.nil ?_
      refine KW.condT rfl (KW.seq (KW.region ?_))
      refine OW.val rfl rfl (EX.assign rfl) ?_
      refine OW.nil ?_
      refine KW.ret (ret1 rfl rfl ?_)
      rw [checkM_none (fun h => by obtain ⟨h1, h2, h3, h4, h5, h6, h7⟩ := h; omega)]
      exact ⟨rfl, hx1.trans hx2⟩
  · refine OW.pass rfl rfl ?_
    refine OW.pass rfl rfl ?_
    refine OW.pass rfl rfl ?_
    refine OW.val rfl rfl (EX.pickF rfl rfl) ?_
    refine OW.val rfl rfl (EX.move rfl) ?_
    refine OW.pass rfl rfl ?_
    refine OW.pass rfl rfl ?_
    refine OW.pass rfl rfl ?_
    refine OW.val rfl rfl (EX.pickF rfl rfl) ?_
    refine OW.val rfl rfl (EX.move rfl) ?_
    refine OW.pass rfl rfl ?_
    refine OW.pass rfl rfl ?_
    refine OW.pass rfl rfl ?_
    refine OW.val rfl rfl (EX.pickF rfl rfl) ?_
    refine OW.val rfl rfl (EX.move rfl) ?_
    refine OW.pass rfl rfl ?_
    refine OW.pass rfl rfl ?_
    refine OW.pass rfl rfl ?_
    refine OW.val rfl rfl (EX.pickF rfl rfl) ?_
    refine OW.val rfl rfl (EX.move rfl) ?_
    refine OW.pass rfl rfl ?_
    refine OW.pass rfl rfl ?_
    refine OW.pass rfl rfl ?_
    refine OW.val rfl rfl (EX.pickF rfl rfl) ?_
    refine OW.val rfl rfl (EX.move rfl) ?_
    refine OW.pass rfl rfl ?_
    refine OW.pass rfl rfl ?_
    refine OW.pass rfl rfl ?_
    refine OW.val rfl rfl (EX.pickF rfl rfl) ?_
    refine OW.val rfl rfl (EX.assign rfl) ?_
    refine OW.nil ?_
    refine KW.seq (KW.seq ?_)
    refine KW.region ?_
    refine OW.val rfl rfl (EX.move rfl) ?_
    refine OW.val rfl rfl (by first | exact EX.notD rfl | exact EX.notB rfl) ?_
    refine OW.val rfl rfl (EX.move rfl) ?_
    refine OW.pass rfl rfl ?_
    refine OW.pass rfl rfl ?_
    refine OW.pass rfl rfl ?_
    refine OW.pass rfl rfl ?_
    refine OW.pass rfl rfl ?_
    refine OW.pass rfl rfl ?_
    refine OW.val rfl rfl (EX.pickT rfl rfl) ?_
    refine OW.nil ?_
    refine KW.condT rfl (KW.seq (KW.region ?_))
    refine OW.val rfl rfl (EX.assign rfl) ?_
    refine OW.nil ?_
    refine KW.ret (ret1 rfl rfl ?_)
    rw [checkM_none (fun h => by obtain ⟨h1, h2, h3, h4, h5, h6, h7⟩ := h; omega)]
    exact ⟨rfl, hx1.trans hx2⟩
end Go.Proofs.YthgfdpcpbghkpaaGreatDoor
/- record: members are laid; what the statements begin with. -/
namespace Go.Proofs.YthgfdpcpbghkpaaGreatDoor
set_option linter.unnecessarySimpa false
open Go.RowKit Rec Pth
set_option linter.unusedVariables false
set_option linter.unusedSimpArgs false

theorem memberM_none {m : M} (h : ¬ mayM m) : memberM m = ([], 200) := by unfold memberM; rw [if_neg h]
theorem memberM_some {m : M} (h : mayM m) : memberM m = (memberT m, 0) := by unfold memberM; rw [if_pos h]
set_option maxRecDepth 20000 in
theorem member_s (m : M) (hm : m.Ok) (w : World) : Ret Tryz.prog 31 [.agg m.cells.toArray] w fun v w' => v = .tuple #[str (memberM m).1, .int .i64 (((memberM m).2 : Nat) : Int)] ∧ Ext w w' := by
  refine Ret.enter Tryz.func31 rfl Tryz.ntmps31 (by kernel_rfl) rfl ?_
  refine KW.seq (KW.region ?_)
  refine OW.boxS rfl rfl rfl ?_
  rintro mb w1 hge1 hm1 hx1
  refine OW.val rfl rfl (EX.assign rfl) ?_
  refine OW.val rfl rfl (EX.assign rfl) ?_
  refine OW.nil ?_
  refine KW.seq (KW.seq (KW.region ?_))
  replace hm1 : Bk w1 mb 70 m.cells := hm1
  refine OW.val rfl rfl (EX.loadBk Tryz.underlying70 rfl ti70 rfl (hm1) (rfl)) ?_
  refine OW.call rfl rfl rfl (checkM_s m hm w1) ?_
  rintro _ w2 ⟨rfl, hx2⟩
  refine OW.val rfl rfl (EX.assign rfl) ?_
  refine OW.nil ?_
  refine KW.seq (KW.region ?_)
  refine OW.val rfl rfl (EX.move rfl) ?_
  refine OW.val rfl rfl (by first | exact EX.neqN (b := 0) rfl rfl | exact EX.neqZ rfl rfl) ?_
  refine OW.nil ?_
  have hm2 := hm1.ext hx2
  have x2 := hx1.trans hx2
  by_cases h : mayM m
  · rw [checkM_some h]
    refine KW.condD rfl (fun c1 => ?_) (fun c1 => ?_)
    · omega
    · obtain ⟨hpl, _⟩ := may_path h
      have hh := h
      obtain ⟨_, h2, h3, h4, h5, h6, h7⟩ := h
      obtain ⟨st, est⟩ := Int.eq_ofNat_of_zero_le (show 0 ≤ m.start by omega)
      obtain ⟨se, ese⟩ := Int.eq_ofNat_of_zero_le (show 0 ≤ m.sectors by omega)
      obtain ⟨sz, esz⟩ := Int.eq_ofNat_of_zero_le (show 0 ≤ m.size by omega)
      have hsum := hm.sum
      have hcells : m.cells = [str m.path, .int .i64 (st : Int), .int .i64 (se : Int), .int .i64 (sz : Int), .int .u32 (m.sum : Int)] := by unfold M.cells; rw [est, ese, esz]
      have hmt : memberT m = be 1 m.path.length ++ m.path ++ be 2 st ++ be 2 se ++ be 2 sz ++ be 4 m.sum := by unfold memberT; rw [est, ese, esz]; rfl
      rw [hcells] at hm2
      have l1 := be_length 1 m.path.length
      have l2 := be_length 2 st
      have l3 := be_length 2 se
      have l4 := be_length 2 sz
      have l5 := be_length 4 m.sum
      rw [memberM_some hh, hmt]
      refine KW.skip (KW.seq ?_)
      refine KW.cut1 (fun (wr : World) => Ext w wr) (fun (wr : World) => [(2, str (be 1 m.path.length ++ m.path ++ be 2 st ++ be 2 se ++ be 2 sz ++ be 4 m.sum)), (3, .int .i64 ((0 : Nat) : Int))]) (fun (wr : World) => wr) ?_ ?_
      · skip
        refine KW.regionG (N := 30) (fun w' => Ext w w' ∧ Bk w' mb 70 [str m.path, .int .i64 (st : Int), .int .i64 (se : Int), .int .i64 (sz : Int), .int .u32 (m.sum : Int)]) (by kernel_rfl) rfl ?_
        have hS : (fun w' => Ext w w' ∧ Bk w' mb 70 [str m.path, .int .i64 (st : Int), .int .i64 (se : Int), .int .i64 (sz : Int), .int .u32 (m.sum : Int)]) w2.drew := ⟨x2.trans (Ext.drew w2), hm2.drew⟩
        refine GW.val 0 rfl (by kernel_rfl) (by kernel_rfl) (by kernel_rfl) rfl rfl hS (fun w' hS' => EX.fieldAddr (off := 0) Tryz.underlying70 rfl rfl ti9 rfl rfl) ?_
        refine GW.val 1 rfl (by kernel_rfl) (by kernel_rfl) (by kernel_rfl) rfl rfl hS (fun w' hS' => EX.load Tryz.underlying9 rfl rfl (hS'.2.cell_of rfl)) ?_
        refine GW.val 2 rfl (by kernel_rfl) (by kernel_rfl) (by kernel_rfl) rfl rfl hS (fun w' hS' => EX.lenS Tryz.underlying9 rfl) ?_
        refine GW.val 3 rfl (by kernel_rfl) (by kernel_rfl) (by kernel_rfl) rfl rfl hS (fun w' hS' => by first | exact EX.convN (m := 18446744073709551615) Tryz.underlying3 Tryz.underlying122 rfl rfl (by omega) | exact EX.convW (m := 18446744073709551616) Tryz.underlying3 Tryz.underlying122 rfl rfl (by decide) | exact EX.convZ Tryz.underlying3 Tryz.underlying122 rfl) ?_
        refine GW.val 5 rfl (by kernel_rfl) (by kernel_rfl) (by kernel_rfl) rfl rfl hS (fun w' hS' => EX.fieldAddr (off := 0) Tryz.underlying70 rfl rfl ti9 rfl rfl) ?_
        refine GW.val 6 rfl (by kernel_rfl) (by kernel_rfl) (by kernel_rfl) rfl rfl hS (fun w' hS' => EX.load Tryz.underlying9 rfl rfl (hS'.2.cell_of rfl)) ?_
        refine GW.val 8 rfl (by kernel_rfl) (by kernel_rfl) (by kernel_rfl) rfl rfl hS (fun w' hS' => EX.fieldAddr (off := 1) Tryz.underlying70 rfl rfl ti3 rfl rfl) ?_
        refine GW.val 9 rfl (by kernel_rfl) (by kernel_rfl) (by kernel_rfl) rfl rfl hS (fun w' hS' => EX.load Tryz.underlying3 rfl rfl (hS'.2.cell_of rfl)) ?_
        refine GW.val 10 rfl (by kernel_rfl) (by kernel_rfl) (by kernel_rfl) rfl rfl hS (fun w' hS' => by first | exact EX.convN (m := 18446744073709551615) Tryz.underlying3 Tryz.underlying122 rfl rfl (by omega) | exact EX.convW (m := 18446744073709551616) Tryz.underlying3 Tryz.underlying122 rfl rfl (by decide) | exact EX.convZ Tryz.underlying3 Tryz.underlying122 rfl) ?_
        refine GW.val 13 rfl (by kernel_rfl) (by kernel_rfl) (by kernel_rfl) rfl rfl hS (fun w' hS' => EX.fieldAddr (off := 2) Tryz.underlying70 rfl rfl ti3 rfl rfl) ?_
        refine GW.val 14 rfl (by kernel_rfl) (by kernel_rfl) (by kernel_rfl) rfl rfl hS (fun w' hS' => EX.load Tryz.underlying3 rfl rfl (hS'.2.cell_of rfl)) ?_
        refine GW.val 15 rfl (by kernel_rfl) (by kernel_rfl) (by kernel_rfl) rfl rfl hS (fun w' hS' => by first | exact EX.convN (m := 18446744073709551615) Tryz.underlying3 Tryz.underlying122 rfl rfl (by omega) | exact EX.convW (m := 18446744073709551616) Tryz.underlying3 Tryz.underlying122 rfl rfl (by decide) | exact EX.convZ Tryz.underlying3 Tryz.underlying122 rfl) ?_
        refine GW.val 18 rfl (by kernel_rfl) (by kernel_rfl) (by kernel_rfl) rfl rfl hS (fun w' hS' => EX.fieldAddr (off := 3) Tryz.underlying70 rfl rfl ti3 rfl rfl) ?_
        refine GW.val 19 rfl (by kernel_rfl) (by kernel_rfl) (by kernel_rfl) rfl rfl hS (fun w' hS' => EX.load Tryz.underlying3 rfl rfl (hS'.2.cell_of rfl)) ?_
        refine GW.val 20 rfl (by kernel_rfl) (by kernel_rfl) (by kernel_rfl) rfl rfl hS (fun w' hS' => by first | exact EX.convN (m := 18446744073709551615) Tryz.underlying3 Tryz.underlying122 rfl rfl (by omega) | exact EX.convW (m := 18446744073709551616) Tryz.underlying3 Tryz.underlying122 rfl rfl (by decide) | exact EX.convZ Tryz.underlying3 Tryz.underlying122 rfl) ?_
        refine GW.val 23 rfl (by kernel_rfl) (by kernel_rfl) (by kernel_rfl) rfl rfl hS (fun w' hS' => EX.fieldAddr (off := 4) Tryz.underlying70 rfl rfl ti68 rfl rfl) ?_
        refine GW.val 24 rfl (by kernel_rfl) (by kernel_rfl) (by kernel_rfl) rfl rfl hS (fun w' hS' => EX.load Tryz.underlying68 rfl rfl (hS'.2.cell_of rfl)) ?_
        refine GW.val 25 rfl (by kernel_rfl) (by kernel_rfl) (by kernel_rfl) rfl rfl hS (fun w' hS' => by first | exact EX.convN (m := 18446744073709551615) Tryz.underlying68 Tryz.underlying122 rfl rfl (by omega) | exact EX.convW (m := 18446744073709551616) Tryz.underlying68 Tryz.underlying122 rfl rfl (by decide) | exact EX.convZ Tryz.underlying68 Tryz.underlying122 rfl) ?_
        refine GW.call 4 rfl (by kernel_rfl) rfl rfl rfl (number_r m.path.length 1 (by omega) (by decide) w2.drew) ?_
        rintro _ w4 ⟨rfl, hx4⟩
        refine ⟨⟨hS.1.trans hx4, hS.2.ext hx4⟩, fun hS => ?_⟩
        refine GW.val 7 rfl (by kernel_rfl) (by kernel_rfl) (by kernel_rfl) rfl rfl hS (fun w' hS' => EX.addS rfl rfl (by first | omega | (simp only [List.length_append, List.length_cons, List.length_nil, List.length_take, List.length_drop, List.length_replicate]; omega))) ?_
        refine GW.call 11 rfl (by kernel_rfl) rfl rfl rfl (number_r st 2 (by omega) (by decide) w4) ?_
        rintro _ w11 ⟨rfl, hx11⟩
        refine ⟨⟨hS.1.trans hx11, hS.2.ext hx11⟩, fun hS => ?_⟩
        refine GW.val 12 rfl (by kernel_rfl) (by kernel_rfl) (by kernel_rfl) rfl rfl hS (fun w' hS' => EX.addS rfl rfl (by first | omega | (simp only [List.length_append, List.length_cons, List.length_nil, List.length_take, List.length_drop, List.length_replicate]; omega))) ?_
        refine GW.call 16 rfl (by kernel_rfl) rfl rfl rfl (number_r se 2 (by omega) (by decide) w11) ?_
        rintro _ w16 ⟨rfl, hx16⟩
        refine ⟨⟨hS.1.trans hx16, hS.2.ext hx16⟩, fun hS => ?_⟩
        refine GW.val 17 rfl (by kernel_rfl) (by kernel_rfl) (by kernel_rfl) rfl rfl hS (fun w' hS' => EX.addS rfl rfl (by first | omega | (simp only [List.length_append, List.length_cons, List.length_nil, List.length_take, List.length_drop, List.length_replicate]; omega))) ?_
        refine GW.call 21 rfl (by kernel_rfl) rfl rfl rfl (number_r sz 2 (by omega) (by decide) w16) ?_
        rintro _ w21 ⟨rfl, hx21⟩
        refine ⟨⟨hS.1.trans hx21, hS.2.ext hx21⟩, fun hS => ?_⟩
        refine GW.val 22 rfl (by kernel_rfl) (by kernel_rfl) (by kernel_rfl) rfl rfl hS (fun w' hS' => EX.addS rfl rfl (by first | omega | (simp only [List.length_append, List.length_cons, List.length_nil, List.length_take, List.length_drop, List.length_replicate]; omega))) ?_
        refine GW.call 26 rfl (by kernel_rfl) rfl rfl rfl (number_r m.sum 4 (by omega) (by decide) w21) ?_
        rintro _ w26 ⟨rfl, hx26⟩
        refine ⟨⟨hS.1.trans hx26, hS.2.ext hx26⟩, fun hS => ?_⟩
        refine GW.val 27 rfl (by kernel_rfl) (by kernel_rfl) (by kernel_rfl) rfl rfl hS (fun w' hS' => EX.addS rfl rfl (by first | omega | (simp only [List.length_append, List.length_cons, List.length_nil, List.length_take, List.length_drop, List.length_replicate]; omega))) ?_
        refine GW.val 28 rfl (by kernel_rfl) (by kernel_rfl) (by kernel_rfl) rfl rfl hS (fun w' hS' => EX.assign rfl) ?_
        refine GW.val 29 rfl (by kernel_rfl) (by kernel_rfl) (by kernel_rfl) rfl rfl hS (fun w' hS' => EX.assign rfl) ?_
        refine GW.done (by kernel_rfl) ?_
        refine KW.meet1 w26 ⟨rfl, rfl, trivial⟩ rfl ?_
        exact hS.1
      · rintro wr xr
        refine KW.ret (ret2 rfl rfl rfl ?_)
        exact ⟨rfl, xr⟩
  · rw [checkM_none h, memberM_none h]
    refine KW.condD rfl (fun c1 => ?_) (fun c1 => ?_)
    · refine KW.seq (KW.region ?_)
      refine OW.val rfl rfl (EX.move rfl) ?_
      refine OW.val rfl rfl (EX.assign rfl) ?_
      refine OW.val rfl rfl (EX.assign rfl) ?_
      refine OW.nil ?_
      refine KW.ret (ret2 rfl rfl rfl ?_)
      exact ⟨rfl, x2⟩
    · omega
set_option maxRecDepth 20000 in
theorem rmember_s (m : M) (hm : m.Ok) (w : World) : Ret Tryz.prog 35 [.agg m.cells.toArray] w fun v w' => v = .tuple #[str (memberM m).1, .int .i64 (((memberM m).2 : Nat) : Int)] ∧ Ext w w' := by
  refine Ret.enter Tryz.func35 rfl Tryz.ntmps35 (by kernel_rfl) rfl ?_
  refine KW.seq (KW.region ?_)
  refine OW.boxS rfl rfl rfl ?_
  rintro mb w1 hge1 hm1 hx1
  refine OW.val rfl rfl (EX.assign rfl) ?_
  refine OW.val rfl rfl (EX.assign rfl) ?_
  refine OW.nil ?_
  refine KW.seq (KW.seq (KW.region ?_))
  replace hm1 : Bk w1 mb 70 m.cells := hm1
  refine OW.val rfl rfl (EX.loadBk Tryz.underlying70 rfl ti70 rfl (hm1) (rfl)) ?_
  refine OW.call rfl rfl rfl (rcheckM_s m hm w1) ?_
  rintro _ w2 ⟨rfl, hx2⟩
  refine OW.val rfl rfl (by first | exact EX.neqN (b := 0) rfl rfl | exact EX.neqZ rfl rfl) ?_
  refine OW.nil ?_
  have hm2 := hm1.ext hx2
  have x2 := hx1.trans hx2
  by_cases h : mayM m
  · rw [checkM_some h]
    refine KW.condD rfl (fun c1 => ?_) (fun c1 => ?_)
    · omega
    · obtain ⟨hpl, _⟩ := may_path h
      have hh := h
      obtain ⟨_, h2, h3, h4, h5, h6, h7⟩ := h
      obtain ⟨st, est⟩ := Int.eq_ofNat_of_zero_le (show 0 ≤ m.start by omega)
      obtain ⟨se, ese⟩ := Int.eq_ofNat_of_zero_le (show 0 ≤ m.sectors by omega)
      obtain ⟨sz, esz⟩ := Int.eq_ofNat_of_zero_le (show 0 ≤ m.size by omega)
      have hsum := hm.sum
      have hpl2 : m.path.length ≤ 255 := by omega
      have hcells : m.cells = [str m.path, .int .i64 (st : Int), .int .i64 (se : Int), .int .i64 (sz : Int), .int .u32 (m.sum : Int)] := by unfold M.cells; rw [est, ese, esz]
      have hmt : memberT m = [UInt8.ofNat m.path.length] ++ m.path ++ be 2 st ++ be 2 se ++ be 2 sz ++ be 4 m.sum := by unfold memberT; rw [est, ese, esz, be_one _ hpl2]; rfl
      rw [hcells] at hm2
      have l2 := be_length 2 st
      have l3 := be_length 2 se
      have l4 := be_length 2 sz
      have l5 := be_length 4 m.sum
      rw [memberM_some hh, hmt]
      refine KW.skip (KW.seq ?_)
      refine KW.cut1 (fun (wr : World) => Ext w wr) (fun (wr : World) => [(2, str ([UInt8.ofNat m.path.length] ++ m.path ++ be 2 st ++ be 2 se ++ be 2 sz ++ be 4 m.sum)), (3, .int .i64 ((0 : Nat) : Int))]) (fun (wr : World) => wr) ?_ ?_
      · skip
        refine KW.regionG (N := 31) (fun w' => Ext w w' ∧ Bk w' mb 70 [str m.path, .int .i64 (st : Int), .int .i64 (se : Int), .int .i64 (sz : Int), .int .u32 (m.sum : Int)]) (by kernel_rfl) rfl ?_
        have hS : (fun w' => Ext w w' ∧ Bk w' mb 70 [str m.path, .int .i64 (st : Int), .int .i64 (se : Int), .int .i64 (sz : Int), .int .u32 (m.sum : Int)]) w2.drew := ⟨x2.trans (Ext.drew w2), hm2.drew⟩
        refine GW.val 0 rfl (by kernel_rfl) (by kernel_rfl) (by kernel_rfl) rfl rfl hS (fun w' hS' => EX.fieldAddr (off := 0) Tryz.underlying70 rfl rfl ti9 rfl rfl) ?_
        refine GW.val 1 rfl (by kernel_rfl) (by kernel_rfl) (by kernel_rfl) rfl rfl hS (fun w' hS' => EX.load Tryz.underlying9 rfl rfl (hS'.2.cell_of rfl)) ?_
        refine GW.val 2 rfl (by kernel_rfl) (by kernel_rfl) (by kernel_rfl) rfl rfl hS (fun w' hS' => EX.lenS Tryz.underlying9 rfl) ?_
        refine GW.val 3 rfl (by kernel_rfl) (by kernel_rfl) (by kernel_rfl) rfl rfl hS (fun w' hS' => by first | exact EX.convN (m := 255) Tryz.underlying3 Tryz.underlying5 rfl rfl (by omega) | exact EX.convW (m := 256) Tryz.underlying3 Tryz.underlying5 rfl rfl (by decide) | exact EX.convZ Tryz.underlying3 Tryz.underlying5 rfl) ?_
        refine GW.val 6 rfl (by kernel_rfl) (by kernel_rfl) (by kernel_rfl) rfl rfl hS (fun w' hS' => EX.fieldAddr (off := 0) Tryz.underlying70 rfl rfl ti9 rfl rfl) ?_
        refine GW.val 7 rfl (by kernel_rfl) (by kernel_rfl) (by kernel_rfl) rfl rfl hS (fun w' hS' => EX.load Tryz.underlying9 rfl rfl (hS'.2.cell_of rfl)) ?_
        refine GW.val 9 rfl (by kernel_rfl) (by kernel_rfl) (by kernel_rfl) rfl rfl hS (fun w' hS' => EX.fieldAddr (off := 1) Tryz.underlying70 rfl rfl ti3 rfl rfl) ?_
        refine GW.val 10 rfl (by kernel_rfl) (by kernel_rfl) (by kernel_rfl) rfl rfl hS (fun w' hS' => EX.load Tryz.underlying3 rfl rfl (hS'.2.cell_of rfl)) ?_
        refine GW.val 11 rfl (by kernel_rfl) (by kernel_rfl) (by kernel_rfl) rfl rfl hS (fun w' hS' => by first | exact EX.convN (m := 18446744073709551615) Tryz.underlying3 Tryz.underlying122 rfl rfl (by omega) | exact EX.convW (m := 18446744073709551616) Tryz.underlying3 Tryz.underlying122 rfl rfl (by decide) | exact EX.convZ Tryz.underlying3 Tryz.underlying122 rfl) ?_
        refine GW.val 14 rfl (by kernel_rfl) (by kernel_rfl) (by kernel_rfl) rfl rfl hS (fun w' hS' => EX.fieldAddr (off := 2) Tryz.underlying70 rfl rfl ti3 rfl rfl) ?_
        refine GW.val 15 rfl (by kernel_rfl) (by kernel_rfl) (by kernel_rfl) rfl rfl hS (fun w' hS' => EX.load Tryz.underlying3 rfl rfl (hS'.2.cell_of rfl)) ?_
        refine GW.val 16 rfl (by kernel_rfl) (by kernel_rfl) (by kernel_rfl) rfl rfl hS (fun w' hS' => by first | exact EX.convN (m := 18446744073709551615) Tryz.underlying3 Tryz.underlying122 rfl rfl (by omega) | exact EX.convW (m := 18446744073709551616) Tryz.underlying3 Tryz.underlying122 rfl rfl (by decide) | exact EX.convZ Tryz.underlying3 Tryz.underlying122 rfl) ?_
        refine GW.val 19 rfl (by kernel_rfl) (by kernel_rfl) (by kernel_rfl) rfl rfl hS (fun w' hS' => EX.fieldAddr (off := 3) Tryz.underlying70 rfl rfl ti3 rfl rfl) ?_
        refine GW.val 20 rfl (by kernel_rfl) (by kernel_rfl) (by kernel_rfl) rfl rfl hS (fun w' hS' => EX.load Tryz.underlying3 rfl rfl (hS'.2.cell_of rfl)) ?_
        refine GW.val 21 rfl (by kernel_rfl) (by kernel_rfl) (by kernel_rfl) rfl rfl hS (fun w' hS' => by first | exact EX.convN (m := 18446744073709551615) Tryz.underlying3 Tryz.underlying122 rfl rfl (by omega) | exact EX.convW (m := 18446744073709551616) Tryz.underlying3 Tryz.underlying122 rfl rfl (by decide) | exact EX.convZ Tryz.underlying3 Tryz.underlying122 rfl) ?_
        refine GW.val 24 rfl (by kernel_rfl) (by kernel_rfl) (by kernel_rfl) rfl rfl hS (fun w' hS' => EX.fieldAddr (off := 4) Tryz.underlying70 rfl rfl ti68 rfl rfl) ?_
        refine GW.val 25 rfl (by kernel_rfl) (by kernel_rfl) (by kernel_rfl) rfl rfl hS (fun w' hS' => EX.load Tryz.underlying68 rfl rfl (hS'.2.cell_of rfl)) ?_
        refine GW.val 26 rfl (by kernel_rfl) (by kernel_rfl) (by kernel_rfl) rfl rfl hS (fun w' hS' => by first | exact EX.convN (m := 18446744073709551615) Tryz.underlying68 Tryz.underlying122 rfl rfl (by omega) | exact EX.convW (m := 18446744073709551616) Tryz.underlying68 Tryz.underlying122 rfl rfl (by decide) | exact EX.convZ Tryz.underlying68 Tryz.underlying122 rfl) ?_
        refine GW.two 4 12 (by kernel_rfl) ?_ ?_
        · refine GO.buildB 4 1 rfl rfl rfl Tryz.underlying54 ti5 rfl rfl rfl rfl rfl (by decide) ?_
          rintro gb w4 hge4 h4 hx4
          refine ⟨⟨hS.1.trans hx4, hS.2.ext hx4⟩, fun hS => ?_⟩
          refine GW.strong (fun w' => Ext w w' ∧ Bk w' mb 70 [str m.path, .int .i64 (st : Int), .int .i64 (se : Int), .int .i64 (sz : Int), .int .u32 (m.sum : Int)] ∧ Bk w' gb 5 [.int .u8 ((m.path.length : Nat) : Int)]) (fun _ h => ⟨h.1, h.2.1⟩) ?_
          replace hS := (⟨hS.1, hS.2, h4⟩ : (fun w' => Ext w w' ∧ Bk w' mb 70 [str m.path, .int .i64 (st : Int), .int .i64 (se : Int), .int .i64 (sz : Int), .int .u32 (m.sum : Int)] ∧ Bk w' gb 5 [.int .u8 ((m.path.length : Nat) : Int)]) w4)
          refine GW.val 5 rfl (by kernel_rfl) (by kernel_rfl) (by kernel_rfl) rfl rfl hS (fun w' hS' => EX.strOf Tryz.underlying54 Tryz.underlying5 Tryz.underlying9 rfl (oneB hS'.2.2 hpl2) rfl) ?_
          refine GW.val 8 rfl (by kernel_rfl) (by kernel_rfl) (by kernel_rfl) rfl rfl hS (fun w' hS' => EX.addS rfl rfl (by first | omega | (simp only [List.length_append, List.length_cons, List.length_nil, List.length_take, List.length_drop, List.length_replicate]; omega))) ?_
          refine GW.call 12 rfl (by kernel_rfl) rfl rfl rfl (rNumber_r st 2 (by omega) (by decide) w4) ?_
          rintro _ w12 ⟨rfl, hx12⟩
          refine ⟨⟨hS.1.trans hx12, hS.2.1.ext hx12, hS.2.2.ext hx12⟩, fun hS => ?_⟩
          refine GW.val 13 rfl (by kernel_rfl) (by kernel_rfl) (by kernel_rfl) rfl rfl hS (fun w' hS' => EX.addS rfl rfl (by first | omega | (simp only [List.length_append, List.length_cons, List.length_nil, List.length_take, List.length_drop, List.length_replicate]; omega))) ?_
          refine GW.call 17 rfl (by kernel_rfl) rfl rfl rfl (rNumber_r se 2 (by omega) (by decide) w12) ?_
          rintro _ w17 ⟨rfl, hx17⟩
          refine ⟨⟨hS.1.trans hx17, hS.2.1.ext hx17, hS.2.2.ext hx17⟩, fun hS => ?_⟩
          refine GW.val 18 rfl (by kernel_rfl) (by kernel_rfl) (by kernel_rfl) rfl rfl hS (fun w' hS' => EX.addS rfl rfl (by first | omega | (simp only [List.length_append, List.length_cons, List.length_nil, List.length_take, List.length_drop, List.length_replicate]; omega))) ?_
          refine GW.call 22 rfl (by kernel_rfl) rfl rfl rfl (rNumber_r sz 2 (by omega) (by decide) w17) ?_
          rintro _ w22 ⟨rfl, hx22⟩
          refine ⟨⟨hS.1.trans hx22, hS.2.1.ext hx22, hS.2.2.ext hx22⟩, fun hS => ?_⟩
          refine GW.val 23 rfl (by kernel_rfl) (by kernel_rfl) (by kernel_rfl) rfl rfl hS (fun w' hS' => EX.addS rfl rfl (by first | omega | (simp only [List.length_append, List.length_cons, List.length_nil, List.length_take, List.length_drop, List.length_replicate]; omega))) ?_
          refine GW.call 27 rfl (by kernel_rfl) rfl rfl rfl (rNumber_r m.sum 4 (by omega) (by decide) w22) ?_
          rintro _ w27 ⟨rfl, hx27⟩
          refine ⟨⟨hS.1.trans hx27, hS.2.1.ext hx27, hS.2.2.ext hx27⟩, fun hS => ?_⟩
          refine GW.val 28 rfl (by kernel_rfl) (by kernel_rfl) (by kernel_rfl) rfl rfl hS (fun w' hS' => EX.addS rfl rfl (by first | omega | (simp only [List.length_append, List.length_cons, List.length_nil, List.length_take, List.length_drop, List.length_replicate]; omega))) ?_
          refine GW.val 29 rfl (by kernel_rfl) (by kernel_rfl) (by kernel_rfl) rfl rfl hS (fun w' hS' => EX.assign rfl) ?_
          refine GW.val 30 rfl (by kernel_rfl) (by kernel_rfl) (by kernel_rfl) rfl rfl hS (fun w' hS' => EX.assign rfl) ?_
          refine GW.done (by kernel_rfl) ?_
          refine KW.meet1 w27 ⟨rfl, rfl, trivial⟩ rfl ?_
          exact hS.1
        · refine GO.call 12 rfl rfl rfl rfl (rNumber_r st 2 (by omega) (by decide) w2.drew) ?_
          rintro _ w12 ⟨rfl, hx12⟩
          refine ⟨⟨hS.1.trans hx12, hS.2.ext hx12⟩, fun hS => ?_⟩
          refine GW.two 4 17 (by kernel_rfl) ?_ ?_
          · refine GO.buildB 4 1 rfl rfl rfl Tryz.underlying54 ti5 rfl rfl rfl rfl rfl (by decide) ?_
            rintro gb w4 hge4 h4 hx4
            refine ⟨⟨hS.1.trans hx4, hS.2.ext hx4⟩, fun hS => ?_⟩
            refine GW.strong (fun w' => Ext w w' ∧ Bk w' mb 70 [str m.path, .int .i64 (st : Int), .int .i64 (se : Int), .int .i64 (sz : Int), .int .u32 (m.sum : Int)] ∧ Bk w' gb 5 [.int .u8 ((m.path.length : Nat) : Int)]) (fun _ h => ⟨h.1, h.2.1⟩) ?_
            replace hS := (⟨hS.1, hS.2, h4⟩ : (fun w' => Ext w w' ∧ Bk w' mb 70 [str m.path, .int .i64 (st : Int), .int .i64 (se : Int), .int .i64 (sz : Int), .int .u32 (m.sum : Int)] ∧ Bk w' gb 5 [.int .u8 ((m.path.length : Nat) : Int)]) w4)
            refine GW.val 5 rfl (by kernel_rfl) (by kernel_rfl) (by kernel_rfl) rfl rfl hS (fun w' hS' => EX.strOf Tryz.underlying54 Tryz.underlying5 Tryz.underlying9 rfl (oneB hS'.2.2 hpl2) rfl) ?_
            refine GW.val 8 rfl (by kernel_rfl) (by kernel_rfl) (by kernel_rfl) rfl rfl hS (fun w' hS' => EX.addS rfl rfl (by first | omega | (simp only [List.length_append, List.length_cons, List.length_nil, List.length_take, List.length_drop, List.length_replicate]; omega))) ?_
            refine GW.val 13 rfl (by kernel_rfl) (by kernel_rfl) (by kernel_rfl) rfl rfl hS (fun w' hS' => EX.addS rfl rfl (by first | omega | (simp only [List.length_append, List.length_cons, List.length_nil, List.length_take, List.length_drop, List.length_replicate]; omega))) ?_
            refine GW.call 17 rfl (by kernel_rfl) rfl rfl rfl (rNumber_r se 2 (by omega) (by decide) w4) ?_
            rintro _ w17 ⟨rfl, hx17⟩
            refine ⟨⟨hS.1.trans hx17, hS.2.1.ext hx17, hS.2.2.ext hx17⟩, fun hS => ?_⟩
            refine GW.val 18 rfl (by kernel_rfl) (by kernel_rfl) (by kernel_rfl) rfl rfl hS (fun w' hS' => EX.addS rfl rfl (by first | omega | (simp only [List.length_append, List.length_cons, List.length_nil, List.length_take, List.length_drop, List.length_replicate]; omega))) ?_
            refine GW.call 22 rfl (by kernel_rfl) rfl rfl rfl (rNumber_r sz 2 (by omega) (by decide) w17) ?_
            rintro _ w22 ⟨rfl, hx22⟩
            refine ⟨⟨hS.1.trans hx22, hS.2.1.ext hx22, hS.2.2.ext hx22⟩, fun hS => ?_⟩
            refine GW.val 23 rfl (by kernel_rfl) (by kernel_rfl) (by kernel_rfl) rfl rfl hS (fun w' hS' => EX.addS rfl rfl (by first | omega | (simp only [List.length_append, List.length_cons, List.length_nil, List.length_take, List.length_drop, List.length_replicate]; omega))) ?_
            refine GW.call 27 rfl (by kernel_rfl) rfl rfl rfl (rNumber_r m.sum 4 (by omega) (by decide) w22) ?_
            rintro _ w27 ⟨rfl, hx27⟩
            refine ⟨⟨hS.1.trans hx27, hS.2.1.ext hx27, hS.2.2.ext hx27⟩, fun hS => ?_⟩
            refine GW.val 28 rfl (by kernel_rfl) (by kernel_rfl) (by kernel_rfl) rfl rfl hS (fun w' hS' => EX.addS rfl rfl (by first | omega | (simp only [List.length_append, List.length_cons, List.length_nil, List.length_take, List.length_drop, List.length_replicate]; omega))) ?_
            refine GW.val 29 rfl (by kernel_rfl) (by kernel_rfl) (by kernel_rfl) rfl rfl hS (fun w' hS' => EX.assign rfl) ?_
            refine GW.val 30 rfl (by kernel_rfl) (by kernel_rfl) (by kernel_rfl) rfl rfl hS (fun w' hS' => EX.assign rfl) ?_
            refine GW.done (by kernel_rfl) ?_
            refine KW.meet1 w27 ⟨rfl, rfl, trivial⟩ rfl ?_
            exact hS.1
          · refine GO.call 17 rfl rfl rfl rfl (rNumber_r se 2 (by omega) (by decide) w12) ?_
            rintro _ w17 ⟨rfl, hx17⟩
            refine ⟨⟨hS.1.trans hx17, hS.2.ext hx17⟩, fun hS => ?_⟩
            refine GW.two 4 22 (by kernel_rfl) ?_ ?_
            · refine GO.buildB 4 1 rfl rfl rfl Tryz.underlying54 ti5 rfl rfl rfl rfl rfl (by decide) ?_
              rintro gb w4 hge4 h4 hx4
              refine ⟨⟨hS.1.trans hx4, hS.2.ext hx4⟩, fun hS => ?_⟩
              refine GW.strong (fun w' => Ext w w' ∧ Bk w' mb 70 [str m.path, .int .i64 (st : Int), .int .i64 (se : Int), .int .i64 (sz : Int), .int .u32 (m.sum : Int)] ∧ Bk w' gb 5 [.int .u8 ((m.path.length : Nat) : Int)]) (fun _ h => ⟨h.1, h.2.1⟩) ?_
              replace hS := (⟨hS.1, hS.2, h4⟩ : (fun w' => Ext w w' ∧ Bk w' mb 70 [str m.path, .int .i64 (st : Int), .int .i64 (se : Int), .int .i64 (sz : Int), .int .u32 (m.sum : Int)] ∧ Bk w' gb 5 [.int .u8 ((m.path.length : Nat) : Int)]) w4)
              refine GW.val 5 rfl (by kernel_rfl) (by kernel_rfl) (by kernel_rfl) rfl rfl hS (fun w' hS' => EX.strOf Tryz.underlying54 Tryz.underlying5 Tryz.underlying9 rfl (oneB hS'.2.2 hpl2) rfl) ?_
              refine GW.val 8 rfl (by kernel_rfl) (by kernel_rfl) (by kernel_rfl) rfl rfl hS (fun w' hS' => EX.addS rfl rfl (by first | omega | (simp only [List.length_append, List.length_cons, List.length_nil, List.length_take, List.length_drop, List.length_replicate]; omega))) ?_
              refine GW.val 13 rfl (by kernel_rfl) (by kernel_rfl) (by kernel_rfl) rfl rfl hS (fun w' hS' => EX.addS rfl rfl (by first | omega | (simp only [List.length_append, List.length_cons, List.length_nil, List.length_take, List.length_drop, List.length_replicate]; omega))) ?_
              refine GW.val 18 rfl (by kernel_rfl) (by kernel_rfl) (by kernel_rfl) rfl rfl hS (fun w' hS' => EX.addS rfl rfl (by first | omega | (simp only [List.length_append, List.length_cons, List.length_nil, List.length_take, List.length_drop, List.length_replicate]; omega))) ?_
              refine GW.call 22 rfl (by kernel_rfl) rfl rfl rfl (rNumber_r sz 2 (by omega) (by decide) w4) ?_
              rintro _ w22 ⟨rfl, hx22⟩
              refine ⟨⟨hS.1.trans hx22, hS.2.1.ext hx22, hS.2.2.ext hx22⟩, fun hS => ?_⟩
              refine GW.val 23 rfl (by kernel_rfl) (by kernel_rfl) (by kernel_rfl) rfl rfl hS (fun w' hS' => EX.addS rfl rfl (by first | omega | (simp only [List.length_append, List.length_cons, List.length_nil, List.length_take, List.length_drop, List.length_replicate]; omega))) ?_
              refine GW.call 27 rfl (by kernel_rfl) rfl rfl rfl (rNumber_r m.sum 4 (by omega) (by decide) w22) ?_
              rintro _ w27 ⟨rfl, hx27⟩
              refine ⟨⟨hS.1.trans hx27, hS.2.1.ext hx27, hS.2.2.ext hx27⟩, fun hS => ?_⟩
              refine GW.val 28 rfl (by kernel_rfl) (by kernel_rfl) (by kernel_rfl) rfl rfl hS (fun w' hS' => EX.addS rfl rfl (by first | omega | (simp only [List.length_append, List.length_cons, List.length_nil, List.length_take, List.length_drop, List.length_replicate]; omega))) ?_
              refine GW.val 29 rfl (by kernel_rfl) (by kernel_rfl) (by kernel_rfl) rfl rfl hS (fun w' hS' => EX.assign rfl) ?_
              refine GW.val 30 rfl (by kernel_rfl) (by kernel_rfl) (by kernel_rfl) rfl rfl hS (fun w' hS' => EX.assign rfl) ?_
              refine GW.done (by kernel_rfl) ?_
              refine KW.meet1 w27 ⟨rfl, rfl, trivial⟩ rfl ?_
              exact hS.1
            · refine GO.call 22 rfl rfl rfl rfl (rNumber_r sz 2 (by omega) (by decide) w17) ?_
              rintro _ w22 ⟨rfl, hx22⟩
              refine ⟨⟨hS.1.trans hx22, hS.2.ext hx22⟩, fun hS => ?_⟩
              refine GW.two 4 27 (by kernel_rfl) ?_ ?_
              · refine GO.buildB 4 1 rfl rfl rfl Tryz.underlying54 ti5 rfl rfl rfl rfl rfl (by decide) ?_
                rintro gb w4 hge4 h4 hx4
                refine ⟨⟨hS.1.trans hx4, hS.2.ext hx4⟩, fun hS => ?_⟩
                refine GW.strong (fun w' => Ext w w' ∧ Bk w' mb 70 [str m.path, .int .i64 (st : Int), .int .i64 (se : Int), .int .i64 (sz : Int), .int .u32 (m.sum : Int)] ∧ Bk w' gb 5 [.int .u8 ((m.path.length : Nat) : Int)]) (fun _ h => ⟨h.1, h.2.1⟩) ?_
                replace hS := (⟨hS.1, hS.2, h4⟩ : (fun w' => Ext w w' ∧ Bk w' mb 70 [str m.path, .int .i64 (st : Int), .int .i64 (se : Int), .int .i64 (sz : Int), .int .u32 (m.sum : Int)] ∧ Bk w' gb 5 [.int .u8 ((m.path.length : Nat) : Int)]) w4)
                refine GW.val 5 rfl (by kernel_rfl) (by kernel_rfl) (by kernel_rfl) rfl rfl hS (fun w' hS' => EX.strOf Tryz.underlying54 Tryz.underlying5 Tryz.underlying9 rfl (oneB hS'.2.2 hpl2) rfl) ?_
                refine GW.val 8 rfl (by kernel_rfl) (by kernel_rfl) (by kernel_rfl) rfl rfl hS (fun w' hS' => EX.addS rfl rfl (by first | omega | (simp only [List.length_append, List.length_cons, List.length_nil, List.length_take, List.length_drop, List.length_replicate]; omega))) ?_
                refine GW.val 13 rfl (by kernel_rfl) (by kernel_rfl) (by kernel_rfl) rfl rfl hS (fun w' hS' => EX.addS rfl rfl (by first | omega | (simp only [List.length_append, List.length_cons, List.length_nil, List.length_take, List.length_drop, List.length_replicate]; omega))) ?_
                refine GW.val 18 rfl (by kernel_rfl) (by kernel_rfl) (by kernel_rfl) rfl rfl hS (fun w' hS' => EX.addS rfl rfl (by first | omega | (simp only [List.length_append, List.length_cons, List.length_nil, List.length_take, List.length_drop, List.length_replicate]; omega))) ?_
                refine GW.val 23 rfl (by kernel_rfl) (by kernel_rfl) (by kernel_rfl) rfl rfl hS (fun w' hS' => EX.addS rfl rfl (by first | omega | (simp only [List.length_append, List.length_cons, List.length_nil, List.length_take, List.length_drop, List.length_replicate]; omega))) ?_
                refine GW.call 27 rfl (by kernel_rfl) rfl rfl rfl (rNumber_r m.sum 4 (by omega) (by decide) w4) ?_
                rintro _ w27 ⟨rfl, hx27⟩
                refine ⟨⟨hS.1.trans hx27, hS.2.1.ext hx27, hS.2.2.ext hx27⟩, fun hS => ?_⟩
                refine GW.val 28 rfl (by kernel_rfl) (by kernel_rfl) (by kernel_rfl) rfl rfl hS (fun w' hS' => EX.addS rfl rfl (by first | omega | (simp only [List.length_append, List.length_cons, List.length_nil, List.length_take, List.length_drop, List.length_replicate]; omega))) ?_
                refine GW.val 29 rfl (by kernel_rfl) (by kernel_rfl) (by kernel_rfl) rfl rfl hS (fun w' hS' => EX.assign rfl) ?_
                refine GW.val 30 rfl (by kernel_rfl) (by kernel_rfl) (by kernel_rfl) rfl rfl hS (fun w' hS' => EX.assign rfl) ?_
                refine GW.done (by kernel_rfl) ?_
                refine KW.meet1 w27 ⟨rfl, rfl, trivial⟩ rfl ?_
                exact hS.1
              · refine GO.call 27 rfl rfl rfl rfl (rNumber_r m.sum 4 (by omega) (by decide) w22) ?_
                rintro _ w27 ⟨rfl, hx27⟩
                refine ⟨⟨hS.1.trans hx27, hS.2.ext hx27⟩, fun hS => ?_⟩
                refine GW.buildB 4 1 rfl (by kernel_rfl) rfl rfl Tryz.underlying54 ti5 rfl rfl rfl rfl rfl (by decide) ?_
                rintro gb w4 hge4 h4 hx4
                refine ⟨⟨hS.1.trans hx4, hS.2.ext hx4⟩, fun hS => ?_⟩
                refine GW.strong (fun w' => Ext w w' ∧ Bk w' mb 70 [str m.path, .int .i64 (st : Int), .int .i64 (se : Int), .int .i64 (sz : Int), .int .u32 (m.sum : Int)] ∧ Bk w' gb 5 [.int .u8 ((m.path.length : Nat) : Int)]) (fun _ h => ⟨h.1, h.2.1⟩) ?_
                replace hS := (⟨hS.1, hS.2, h4⟩ : (fun w' => Ext w w' ∧ Bk w' mb 70 [str m.path, .int .i64 (st : Int), .int .i64 (se : Int), .int .i64 (sz : Int), .int .u32 (m.sum : Int)] ∧ Bk w' gb 5 [.int .u8 ((m.path.length : Nat) : Int)]) w4)
                refine GW.val 5 rfl (by kernel_rfl) (by kernel_rfl) (by kernel_rfl) rfl rfl hS (fun w' hS' => EX.strOf Tryz.underlying54 Tryz.underlying5 Tryz.underlying9 rfl (oneB hS'.2.2 hpl2) rfl) ?_
                refine GW.val 8 rfl (by kernel_rfl) (by kernel_rfl) (by kernel_rfl) rfl rfl hS (fun w' hS' => EX.addS rfl rfl (by first | omega | (simp only [List.length_append, List.length_cons, List.length_nil, List.length_take, List.length_drop, List.length_replicate]; omega))) ?_
                refine GW.val 13 rfl (by kernel_rfl) (by kernel_rfl) (by kernel_rfl) rfl rfl hS (fun w' hS' => EX.addS rfl rfl (by first | omega | (simp only [List.length_append, List.length_cons, List.length_nil, List.length_take, List.length_drop, List.length_replicate]; omega))) ?_
                refine GW.val 18 rfl (by kernel_rfl) (by kernel_rfl) (by kernel_rfl) rfl rfl hS (fun w' hS' => EX.addS rfl rfl (by first | omega | (simp only [List.length_append, List.length_cons, List.length_nil, List.length_take, List.length_drop, List.length_replicate]; omega))) ?_
                refine GW.val 23 rfl (by kernel_rfl) (by kernel_rfl) (by kernel_rfl) rfl rfl hS (fun w' hS' => EX.addS rfl rfl (by first | omega | (simp only [List.length_append, List.length_cons, List.length_nil, List.length_take, List.length_drop, List.length_replicate]; omega))) ?_
                refine GW.val 28 rfl (by kernel_rfl) (by kernel_rfl) (by kernel_rfl) rfl rfl hS (fun w' hS' => EX.addS rfl rfl (by first | omega | (simp only [List.length_append, List.length_cons, List.length_nil, List.length_take, List.length_drop, List.length_replicate]; omega))) ?_
                refine GW.val 29 rfl (by kernel_rfl) (by kernel_rfl) (by kernel_rfl) rfl rfl hS (fun w' hS' => EX.assign rfl) ?_
                refine GW.val 30 rfl (by kernel_rfl) (by kernel_rfl) (by kernel_rfl) rfl rfl hS (fun w' hS' => EX.assign rfl) ?_
                refine GW.done (by kernel_rfl) ?_
                refine KW.meet1 w4 ⟨rfl, rfl, trivial⟩ rfl ?_
                exact hS.1
      · rintro wr xr
        refine KW.ret (ret2 rfl rfl rfl ?_)
        exact ⟨rfl, xr⟩
  · rw [checkM_none h, memberM_none h]
    refine KW.condD rfl (fun c1 => ?_) (fun c1 => ?_)
    · refine KW.seq (KW.region ?_)
      refine OW.val rfl rfl (EX.assign rfl) ?_
      refine OW.val rfl rfl (EX.assign rfl) ?_
      refine OW.nil ?_
      refine KW.ret (ret2 rfl rfl rfl ?_)
      exact ⟨rfl, x2⟩
    · omega
end Go.Proofs.YthgfdpcpbghkpaaGreatDoor
/- record: lists of members are read. -/
namespace Go.Proofs.YthgfdpcpbghkpaaGreatDoor
set_option linter.unnecessarySimpa false
open Go.RowKit Rec
set_option linter.unusedVariables false
set_option linter.unusedSimpArgs false

/-! ### In plain words -/
def first (s : List UInt8) : Nat := (s.getD 0 0).toNat
def memAt (s : List UInt8) : M :=
  ⟨(s.drop 1).take (first s), nb ((s.drop (1 + first s)).take 2), nb ((s.drop (3 + first s)).take 2), nb ((s.drop (5 + first s)).take 2), nb ((s.drop (7 + first s)).take 4)⟩
def memL : Nat → List UInt8 → List M → List M × Nat
  | 0, _, out => (out, 0)
  | f + 1, s, out => if s = [] then (out, 0) else if s.length < first s + 11 then ([], 200) else if mayM (memAt s) then memL f (s.drop (11 + first s)) (out ++ [memAt s]) else ([], 200)
def memsV (l : List M) : List Value := l.flatMap M.cells
theorem memsV_snoc (l : List M) (m : M) : memsV (l ++ [m]) = memsV l ++ m.cells := by simp [memsV]
theorem memsV_length (l : List M) : (memsV l).length = l.length * 5 := by
  induction l with
  | nil => rfl
  | cons m l ih => simp only [memsV, List.flatMap_cons, List.length_append] at ih ⊢; rw [ih]; simp [M.cells]; omega
theorem nb_le (s : List UInt8) (k : Nat) (h : k ≤ 4) : nb (s.take k) ≤ 4294967295 := by
  have h1 : nb (s.take k) < 256 ^ 4 := Nat.lt_of_lt_of_le (nb_lt _ _ rfl) (Nat.pow_le_pow_right (by decide) (by rw [List.length_take]; omega))
  have : (256 : Nat) ^ 4 = 4294967296 := rfl
  omega
theorem memAt_ok (s : List UInt8) (h : s.length ≤ 1000000000) : (memAt s).Ok := ⟨by show ((s.drop 1).take (first s)).length ≤ _; rw [List.length_take, List.length_drop]; omega, nb_le _ 4 (by omega)⟩
theorem first_nb {s : List UInt8} (h : s ≠ []) : numI (s.take 1) = ((first s : Nat) : Int) := by
  rw [numI_small _ (by rw [List.length_take]; omega)]
  match s, h with
  | c :: s, _ => simp [nb, first]
theorem first_lt (s : List UInt8) : first s < 256 := (s.getD 0 0).toNat_lt
/-! ### The program -/
set_option maxRecDepth 20000 in
theorem members_s (s : List UInt8) (hs : s.length ≤ 1000000000) (w : World) :
    Ret Tryz.prog 45 [str s] w fun v w' => ∃ vs, v = .tuple #[vs, .int .i64 (((memL (s.length + 1) s []).2 : Nat) : Int)] ∧ Own w' w.heap.size 70 5 vs (memL (s.length + 1) s []).1.length (memsV (memL (s.length + 1) s []).1) ∧ Ext w w' := by
  generalize hres : memL (s.length + 1) s [] = res
  refine Ret.enter Tryz.func45 rfl Tryz.ntmps45 (by kernel_rfl) rfl ?_
  refine KW.seq (KW.region ?_)
  refine OW.val rfl rfl (EX.assign rfl) ?_
  refine OW.val rfl rfl (EX.assign rfl) ?_
  refine OW.nil ?_
  refine KW.seq (KW.region ?_)
  refine OW.val rfl rfl (EX.assign rfl) ?_
  refine OW.nil ?_
  refine KW.seq (KW.region ?_)
  refine OW.val rfl rfl (EX.move rfl) ?_
  refine OW.val rfl rfl (EX.buildS (pl := [(0, 1)]) (ks := [0]) (is := [0]) (zs := [str []]) Tryz.underlying134 ti134 (by kernel_rfl) rfl rfl rfl (by first | rfl | (simp only [List.all_cons, List.all_nil, Bool.and_true, Bool.true_and, Bool.and_eq_true, Value.oneCell']; repeat (first | assumption | exact Own.one (by assumption) | constructor))) (by simp only [setAll, List.set_cons_zero, List.set_cons_succ]; rfl)) ?_
  refine OW.val rfl rfl (EX.buildG (pl := [(0, 1)]) (ks := [0]) (zs := [str []]) Tryz.underlying136 ti136 (by kernel_rfl) rfl rfl rfl) ?_
  refine OW.boxS rfl rfl rfl ?_
  rintro rb w1 hge1 hr1 hx1
  refine OW.val rfl rfl (EX.assign rfl) ?_
  refine OW.nil ?_
  refine KW.seq (KW.block ?_)
  have hrw : w.heap.size ≤ rb := hge1
  refine KW.loop5 (fun (f : Nat) (q : (List UInt8)) (out : (List M)) (v : Value) (wr : World) => q.length < f ∧ q.length ≤ 1000000000 ∧ out.length + f ≤ s.length + 1 ∧ memL f q out = res ∧ Bk wr rb 136 [str q] ∧ Own wr w.heap.size 70 5 v out.length (memsV out) ∧ Ext w wr) (fun (f : Nat) (q : (List UInt8)) (out : (List M)) (v : Value) (wr : World) => [(4, v), (5, .pointer (some ⟨rb, 0, none⟩))]) (fun (f : Nat) (q : (List UInt8)) (out : (List M)) (v : Value) (wr : World) => wr) (fun (f : Nat) (q : (List UInt8)) (out : (List M)) (v : Value) (wr : World) => q.length) (s.length + 1) (s) ([]) (.slice none 0 0) (w1) ⟨rfl, rfl, trivial⟩ rfl ?_ ?_
  · exact ⟨by omega, hs, by simp, hres, hr1, Own.nil _ _ _ _, hx1⟩
  · rintro f q out v wr ⟨hqf, hql, hof, hm, hr, hown, hx⟩
    refine KW.seq (KW.seq (KW.region ?_))
    refine OW.val rfl rfl (EX.move rfl) ?_
    refine OW.val rfl rfl (EX.nilCheck rfl) ?_
    refine OW.val rfl rfl (EX.fieldAddr (off := 0) Tryz.underlying136 rfl rfl ti134 rfl rfl) ?_
    refine OW.val rfl rfl (EX.fieldAddr (off := 0) Tryz.underlying134 rfl rfl ti9 rfl rfl) ?_
    refine OW.val rfl rfl (EX.load Tryz.underlying9 rfl rfl (hr.cell_of rfl)) ?_
    refine OW.val rfl rfl (EX.neqS (r := []) rfl rfl) ?_
    refine OW.nil ?_
    refine KW.condD rfl (fun hne => ?_) (fun hne => ?_)
    · obtain ⟨f, rfl⟩ : ∃ g, f = g + 1 := ⟨f - 1, by omega⟩
      have hne' : q ≠ [] := by simpa using hne
      have hql0 : 0 < q.length := List.length_pos_iff.2 hne'
      have hfl := first_lt q
      rw [memL, if_neg hne'] at hm
      generalize hn : first q = n at hm hfl
      have d1 : (q.drop 1).drop n = q.drop (1 + n) := List.drop_drop ..
      have d3 : (q.drop (1 + n)).drop 2 = q.drop (3 + n) := by rw [List.drop_drop]; congr 1; omega
      have d5 : (q.drop (3 + n)).drop 2 = q.drop (5 + n) := by rw [List.drop_drop]; congr 1; omega
      have d7 : (q.drop (5 + n)).drop 2 = q.drop (7 + n) := by rw [List.drop_drop]; congr 1; omega
      have d11 : (q.drop (7 + n)).drop 4 = q.drop (11 + n) := by rw [List.drop_drop]; congr 1; omega
      have ld : ∀ j, (q.drop j).length ≤ 1000000000000 := fun j => by rw [List.length_drop]; omega
      have hd1 : (q.drop 1).length = q.length - 1 := List.length_drop
      have b2 := fun t : List UInt8 => nb_le t 2 (by omega)
      have b4 := fun t : List UInt8 => nb_le t 4 (by omega)
      have i2 := fun t : List UInt8 => numI_small (t.take 2) (by rw [List.length_take]; omega)
      have i4 := fun t : List UInt8 => numI_small (t.take 4) (by rw [List.length_take]; omega)
      refine KW.skip (KW.block (KW.seq (KW.region ?_)))
      refine OW.val rfl rfl (EX.move rfl) ?_
      refine OW.call rfl rfl rfl (num_s rb 1 q _ wr hr (by omega) (by omega)) ?_
      rintro _ w2 ⟨rfl, hr2, hm2⟩
      refine OW.val rfl rfl (EX.assign rfl) ?_
      refine OW.nil ?_
      refine KW.seq (KW.seq (KW.region ?_))
      refine OW.val rfl rfl (EX.move rfl) ?_
      refine OW.val rfl rfl (EX.nilCheck rfl) ?_
      refine OW.val rfl rfl (EX.fieldAddr (off := 0) Tryz.underlying136 rfl rfl ti134 rfl rfl) ?_
      refine OW.val rfl rfl (EX.fieldAddr (off := 0) Tryz.underlying134 rfl rfl ti9 rfl rfl) ?_
      rw [first_nb hne', hn]
      have x2 : Ext w w2 := below_mo hx hm2 hx.size (fun k hk => by simp at hk; omega)
      have hown2 := hown.mo hm2 (fun k hk => by simp; exact fun z => hown.ne hr (by decide) k hk z.symm)
      refine OW.val rfl rfl (EX.load Tryz.underlying9 rfl rfl (hr2.cell_of rfl)) ?_
      refine OW.val rfl rfl (EX.lenS Tryz.underlying9 rfl) ?_
      refine OW.val rfl rfl (EX.move rfl) ?_
      refine OW.val rfl rfl (by first | exact EX.addN (b := 10) (m := 9223372036854775807) rfl rfl rfl (by omega) | exact EX.addZ (m := 9223372036854775807) rfl rfl rfl rfl (by omega)) ?_
      refine OW.val rfl rfl (by first | exact EX.lssN rfl rfl | exact EX.lssZ rfl rfl) ?_
      refine OW.nil ?_
      refine KW.condD rfl (fun hshort => ?_) (fun hshort => ?_)
      · rw [if_pos (by omega)] at hm
        subst hm
        refine KW.seq (KW.region ?_)
        refine OW.val rfl rfl (EX.assign rfl) ?_
        refine OW.val rfl rfl (EX.assign rfl) ?_
        refine OW.nil ?_
        refine KW.ret (ret2 rfl rfl rfl ?_)
        exact ⟨_, rfl, Own.nil _ _ _ _, x2⟩
      · rw [if_neg (by omega)] at hm
        refine KW.skip (KW.seq (KW.region ?_))
        refine OW.val rfl rfl (EX.move rfl) ?_
        refine OW.val rfl rfl (EX.nilCheck rfl) ?_
        refine OW.val rfl rfl (EX.fieldAddr (off := 0) Tryz.underlying136 rfl rfl ti134 rfl rfl) ?_
        refine OW.val rfl rfl (EX.move rfl) ?_
        refine OW.call rfl rfl rfl (take_s rb n (q.drop 1) _ w2 hr2 (by omega) (ld 1)) ?_
        rintro _ w3 ⟨rfl, hr3, hm3⟩
        refine OW.val rfl rfl (EX.buildS (pl := [(0, 1), (1, 1), (2, 1), (3, 1), (4, 1)]) (ks := [0]) (is := [0]) (zs := [str [], .int .i64 0, .int .i64 0, .int .i64 0, .int .u32 0]) Tryz.underlying70 ti70 (by kernel_rfl) rfl rfl rfl (by first | rfl | (simp only [List.all_cons, List.all_nil, Bool.and_true, Bool.true_and, Bool.and_eq_true, Value.oneCell']; repeat (first | assumption | exact Own.one (by assumption) | constructor))) (by simp only [setAll, List.set_cons_zero, List.set_cons_succ]; rfl)) ?_
        rw [d1] at hr3
        have x3 : Ext w w3 := below_mo x2 hm3 x2.size (fun k hk => by simp at hk; omega)
        have hown3 := hown2.mo hm3 (fun k hk => by simp; exact fun z => hown2.ne hr2 (by decide) k hk z.symm)
        refine OW.allocB (l := [str [], .int .i64 0, .int .i64 0, .int .i64 0, .int .u32 0]) rfl rfl ti70 rfl ?_
        rintro mb w4 hge4 hmb4 hx4
        refine OW.storeS rfl ti70 rfl rfl rfl (by first | rfl | (simp only [List.all_cons, List.all_nil, Bool.and_true, Bool.true_and, Bool.and_eq_true, Value.oneCell']; repeat (first | assumption | exact Own.one (by assumption) | constructor))) (hmb4) (Nat.le_refl _) ?_
        rintro w5 hmb5 hm5
        refine OW.nil ?_
        refine KW.seq (KW.region ?_)
        refine OW.val rfl rfl (EX.move rfl) ?_
        have x4 := x3.trans hx4
        have x5 : Ext w w5 := below_mo x4 hm5 x4.size (fun k hk => by simp at hk; have := x3.size; omega)
        have hmbw : w.heap.size ≤ mb := by have := x3.size; omega
        have hr5 := (hr3.ext hx4).mo hm5 (by simp; exact (hr3.ext hx4).ne hmb4 (by decide))
        have hown5 := (hown3.ext hx4).mo hm5 (fun k hk => by
          have hlt := (hown3.lt k hk).2
          simp
          omega)
        have hnm : ∀ k, v.ownBlock = some k → k ≠ mb := fun k hk => by have hlt := (hown3.lt k hk).2; omega
        have hrm : mb ≠ rb := fun z => (hr5.ne hmb5 (by decide)) z.symm
        refine OW.call rfl rfl rfl (num_s rb 2 (q.drop (1 + n)) _ w5 hr5 (by omega) (ld _)) ?_
        rintro _ w6 ⟨rfl, hr6, hm6⟩
        refine OW.val rfl rfl (EX.move rfl) ?_
        rw [d3] at hr6
        refine OW.call rfl rfl rfl (num_s rb 2 (q.drop (3 + n)) _ w6 hr6 (by omega) (ld _)) ?_
        rintro _ w7 ⟨rfl, hr7, hm7⟩
        refine OW.val rfl rfl (EX.move rfl) ?_
        rw [d5] at hr7
        refine OW.call rfl rfl rfl (num_s rb 2 (q.drop (5 + n)) _ w7 hr7 (by omega) (ld _)) ?_
        rintro _ w8 ⟨rfl, hr8, hm8⟩
        refine OW.val rfl rfl (EX.move rfl) ?_
        rw [d7] at hr8
        have b47 := b4 (q.drop (7 + n))
        have c9 := num_s rb 4 (q.drop (7 + n)) _ w8 hr8 (by omega) (ld _)
        rw [i4] at c9
        refine OW.call rfl rfl rfl (c9) ?_
        rintro _ w9 ⟨rfl, hr9, hm9⟩
        refine OW.val rfl rfl (by first | exact EX.convN (m := 4294967295) Tryz.underlying3 Tryz.underlying68 rfl rfl (by omega) | exact EX.convW (m := 4294967296) Tryz.underlying3 Tryz.underlying68 rfl rfl (by decide) | exact EX.convZ Tryz.underlying3 Tryz.underlying68 rfl) ?_
        refine OW.val rfl rfl (EX.fieldAddr (off := 1) Tryz.underlying70 rfl rfl ti3 rfl rfl) ?_
        rw [d11] at hr9
        rw [i2, i2, i2]
        have hm59 : Mo w5 w9 [rb] := ((hm6.trans hm7).trans hm8).trans hm9
        have hmb9 := hmb5.mo hm59 (by simpa using hrm)
        have hown9 := hown5.mo hm59 (fun k hk => by simp; exact fun z => hown5.ne hr5 (by decide) k hk z.symm)
        have x9 : Ext w w9 := below_mo x5 hm59 x5.size (fun k hk => by simp at hk; omega)
        have hM : memAt q = ⟨(q.drop 1).take n, nb ((q.drop (1 + n)).take 2), nb ((q.drop (3 + n)).take 2), nb ((q.drop (5 + n)).take 2), nb ((q.drop (7 + n)).take 4)⟩ := by unfold memAt; rw [hn]
        refine OW.storeB rfl ti3 rfl rfl (by first | rfl | assumption | exact Own.one (by assumption)) (hmb9) (by simp) ?_
        rintro wa hba hma
        refine OW.val rfl rfl (EX.fieldAddr (off := 2) Tryz.underlying70 rfl rfl ti3 rfl rfl) ?_
        refine OW.storeB rfl ti3 rfl rfl (by first | rfl | assumption | exact Own.one (by assumption)) (hba) (by simp) ?_
        rintro wb hbb hmb'
        refine OW.val rfl rfl (EX.fieldAddr (off := 3) Tryz.underlying70 rfl rfl ti3 rfl rfl) ?_
        refine OW.storeB rfl ti3 rfl rfl (by first | rfl | assumption | exact Own.one (by assumption)) (hbb) (by simp) ?_
        rintro wc hbc hmc
        refine OW.val rfl rfl (EX.fieldAddr (off := 4) Tryz.underlying70 rfl rfl ti68 rfl rfl) ?_
        refine OW.storeB rfl ti68 rfl rfl (by first | rfl | assumption | exact Own.one (by assumption)) (hbc) (by simp) ?_
        rintro wd hbd hmd
        refine OW.nil ?_
        refine KW.seq (KW.seq (KW.region ?_))
        have hmad : Mo w9 wd [mb] := ((hma.trans hmb').trans hmc).trans hmd
        replace hbd : Bk wd mb 70 (memAt q).cells := by rw [hM]; exact hbd
        have xd : Ext w wd := below_mo x9 hmad x9.size (fun k hk => by simp at hk; omega)
        have hrd := hr9.mo hmad (by simpa using Ne.symm hrm)
        have hownd := hown9.mo hmad (fun k hk => by simpa using hnm k hk)
        refine OW.val rfl rfl (EX.loadBk Tryz.underlying70 rfl ti70 rfl (hbd) (rfl)) ?_
        refine OW.call rfl rfl rfl (checkM_s (memAt q) (memAt_ok q hql) wd) ?_
        rintro _ we ⟨rfl, hxe⟩
        refine OW.val rfl rfl (EX.assign rfl) ?_
        refine OW.nil ?_
        refine KW.seq (KW.region ?_)
        refine OW.val rfl rfl (EX.move rfl) ?_
        refine OW.val rfl rfl (by first | exact EX.neqN (b := 0) rfl rfl | exact EX.neqZ rfl rfl) ?_
        refine OW.nil ?_
        have hbe := hbd.ext hxe
        have hre := hrd.ext hxe
        have howne := hownd.ext hxe
        have xe := xd.trans hxe
        by_cases hmay : mayM (memAt q)
        · rw [checkM_some hmay]
          rw [if_pos hmay] at hm
          refine KW.condD rfl (fun hz => ?_) (fun hz => ?_)
          · omega
          · refine KW.skip (KW.region ?_)
            refine OW.val rfl rfl (EX.move rfl) ?_
            refine OW.val rfl rfl (EX.loadBk Tryz.underlying70 rfl ti70 rfl (hbe) (rfl)) ?_
            refine OW.pushS rfl rfl (fun _ => rfl) rfl Tryz.underlying22 ti70 rfl (by decide) (by decide) rfl rfl (fun _ => rfl) (by first | rfl | assumption | (simp only [List.all_cons, List.all_nil, Bool.and_true, Bool.true_and, Bool.and_eq_true, Value.oneCell']; repeat (first | assumption | constructor))) (xe) (howne) (by simp only [maxLen]; omega) (by omega) ?_
            rintro _ v2 wf hownf xf hgf
            refine OW.val rfl rfl (EX.assign rfl) ?_
            refine OW.nil ?_
            refine KW.leave ?_
            have hdl11 : (q.drop (11 + n)).length = q.length - (11 + n) := List.length_drop ..
            refine KW.back5 (f) (q.drop (11 + n)) (out ++ [memAt q]) (v2) (wf) ⟨rfl, rfl, trivial⟩ rfl ?_ (by omega)
            have hgr : Mo we wf v.ownBlock.toList := Mo.grown hgf (fun k e => by rw [e]; simp)
            refine ⟨by rw [List.length_drop]; omega, by rw [List.length_drop]; omega, by rw [List.length_append, List.length_singleton]; omega, hm, hre.mo hgr (fun z => howne.ne hre (by decide) rb (by simpa using z) rfl), ?_, xf⟩
            rw [List.length_append, memsV_snoc]
            exact hownf
        · rw [checkM_none hmay]
          rw [if_neg hmay] at hm
          subst hm
          refine KW.condD rfl (fun hz => ?_) (fun hz => ?_)
          · refine KW.seq (KW.region ?_)
            refine OW.val rfl rfl (EX.move rfl) ?_
            refine OW.val rfl rfl (EX.assign rfl) ?_
            refine OW.val rfl rfl (EX.assign rfl) ?_
            refine OW.nil ?_
            refine KW.ret (ret2 rfl rfl rfl ?_)
            exact ⟨_, rfl, Own.nil _ _ _ _, xe⟩
          · omega
    · have hq0 : q = [] := by simpa using hne
      obtain ⟨f, rfl⟩ : ∃ g, f = g + 1 := ⟨f - 1, by omega⟩
      rw [memL, if_pos hq0] at hm
      subst hm
      refine KW.exit rfl (KW.seq (KW.region ?_))
      refine OW.val rfl rfl (EX.move rfl) ?_
      refine OW.val rfl rfl (EX.assign rfl) ?_
      refine OW.val rfl rfl (EX.assign rfl) ?_
      refine OW.nil ?_
      refine KW.ret (ret2 rfl rfl rfl ?_)
      exact ⟨_, rfl, hown, hx⟩
/-! ### The document's -/
theorem numN_c (t : List UInt8) (ht : t.length ≤ 4) (m : Nat) (he : nb t = m) (w : World) : Ret Tryz.prog 77 [str t] w fun v w' => v = .int .i64 ((m : Nat) : Int) ∧ w = w' := by
  have h := rnumber_s t (by omega) w
  rwa [numI_small t ht, he] at h
theorem getD0 {q : List UInt8} (h : q ≠ []) : q[0]? = some (q.getD 0 0) := by
  match q, h with
  | c :: q, _ => rfl
set_option maxRecDepth 20000 in
theorem rmembers_s (s : List UInt8) (hs : s.length ≤ 1000000000) (w : World) :
    Ret Tryz.prog 47 [str s] w fun v w' => ∃ vs, v = .tuple #[vs, .int .i64 (((memL (s.length + 1) s []).2 : Nat) : Int)] ∧ Own w' w.heap.size 70 5 vs (memL (s.length + 1) s []).1.length (memsV (memL (s.length + 1) s []).1) ∧ Ext w w' := by
  generalize hres : memL (s.length + 1) s [] = res
  refine Ret.enter Tryz.func47 rfl Tryz.ntmps47 (by kernel_rfl) rfl ?_
  refine KW.seq (KW.region ?_)
  refine OW.val rfl rfl (EX.assign rfl) ?_
  refine OW.val rfl rfl (EX.assign rfl) ?_
  refine OW.nil ?_
  refine KW.seq (KW.region ?_)
  refine OW.val rfl rfl (EX.assign rfl) ?_
  refine OW.nil ?_
  refine KW.seq (KW.block ?_)
  refine KW.loop5 (fun (f : Nat) (q : (List UInt8)) (out : (List M)) (v : Value) (wr : World) => q.length < f ∧ q.length ≤ 1000000000 ∧ out.length + f ≤ s.length + 1 ∧ memL f q out = res ∧ Own wr w.heap.size 70 5 v out.length (memsV out) ∧ Ext w wr) (fun (f : Nat) (q : (List UInt8)) (out : (List M)) (v : Value) (wr : World) => [(0, str (q)), (4, v)]) (fun (f : Nat) (q : (List UInt8)) (out : (List M)) (v : Value) (wr : World) => wr) (fun (f : Nat) (q : (List UInt8)) (out : (List M)) (v : Value) (wr : World) => q.length) (s.length + 1) (s) ([]) (.slice none 0 0) (w) ⟨rfl, rfl, trivial⟩ rfl ?_ ?_
  · exact ⟨by omega, hs, by simp, hres, Own.nil _ _ _ _, Ext.refl _⟩
  · rintro f q out v wr ⟨hqf, hql, hof, hm, hown, hx⟩
    refine KW.seq (KW.seq (KW.region ?_))
    refine OW.val rfl rfl (EX.move rfl) ?_
    refine OW.val rfl rfl (EX.neqS (r := []) rfl rfl) ?_
    refine OW.nil ?_
    refine KW.condD rfl (fun hne => ?_) (fun hne => ?_)
    · obtain ⟨f, rfl⟩ : ∃ g, f = g + 1 := ⟨f - 1, by omega⟩
      have hne' : q ≠ [] := by simpa using hne
      have hql0 : 0 < q.length := List.length_pos_iff.2 hne'
      have hfl := first_lt q
      have hg0 := getD0 hne'
      rw [memL, if_neg hne'] at hm
      have hfe : ∀ h : 0 < q.length, (q[0]'h).toNat = first q := fun h => by
        match q, h with
        | c :: q, _ => rfl
      have hc0 := (q[0]'hql0).toNat_lt
      generalize hn : first q = n at hm hfl hfe
      have b2 := fun t : List UInt8 => nb_le t 2 (by omega)
      have b4 := nb_le (q.drop (7 + n)) 4 (by omega)
      have i2 := fun t : List UInt8 => numI_small (t.take 2) (by rw [List.length_take]; omega)
      have i4 := fun t : List UInt8 => numI_small (t.take 4) (by rw [List.length_take]; omega)
      refine KW.skip (KW.block (KW.seq (KW.region ?_)))
      refine OW.val rfl rfl (EX.move rfl) ?_
      refine OW.val rfl rfl (EX.indexS (i := 0) Tryz.underlying9 rfl rfl (List.getElem?_eq_getElem (by omega))) ?_
      refine OW.val rfl rfl (by first | exact EX.convN (m := 9223372036854775807) Tryz.underlying5 Tryz.underlying3 rfl rfl (by omega) | exact EX.convZ Tryz.underlying5 Tryz.underlying3 rfl) ?_
      refine OW.val rfl rfl (EX.assign rfl) ?_
      refine OW.nil ?_
      refine KW.seq (KW.seq (KW.region ?_))
      refine OW.val rfl rfl (EX.move rfl) ?_
      refine OW.val rfl rfl (EX.lenS Tryz.underlying9 rfl) ?_
      refine OW.val rfl rfl (EX.move rfl) ?_
      refine OW.val rfl rfl (by first | exact EX.addN (b := 11) (m := 9223372036854775807) rfl rfl rfl (by omega) | exact EX.addZ (m := 9223372036854775807) rfl rfl rfl rfl (by omega)) ?_
      refine OW.val rfl rfl (by first | exact EX.lssN rfl rfl | exact EX.lssZ rfl rfl) ?_
      refine OW.nil ?_
      simp only [hfe]
      refine KW.condD rfl (fun hshort => ?_) (fun hshort => ?_)
      · rw [if_pos (by omega)] at hm
        subst hm
        refine KW.seq (KW.region ?_)
        refine OW.val rfl rfl (EX.assign rfl) ?_
        refine OW.val rfl rfl (EX.assign rfl) ?_
        refine OW.nil ?_
        refine KW.ret (ret2 rfl rfl rfl ?_)
        exact ⟨_, rfl, Own.nil _ _ _ _, hx⟩
      · rw [if_neg (by omega)] at hm
        refine KW.skip (KW.seq (KW.region ?_))
        refine OW.val rfl rfl (EX.move rfl) ?_
        refine OW.val rfl rfl (EX.move rfl) ?_
        refine OW.val rfl rfl (by first | exact EX.addN (a := 1) (m := 9223372036854775807) rfl rfl rfl (by omega) | exact EX.addZ (m := 9223372036854775807) rfl rfl rfl rfl (by omega)) ?_
        refine OW.val rfl rfl (EX.move rfl) ?_
        refine OW.val rfl rfl (by first | exact EX.addN (a := 11) (m := 9223372036854775807) rfl rfl rfl (by omega) | exact EX.addZ (m := 9223372036854775807) rfl rfl rfl rfl (by omega)) ?_
        refine OW.val rfl rfl (EX.sliceLH Tryz.underlying9 rfl rfl rfl (by omega)) ?_
        refine OW.val rfl rfl (EX.assign rfl) ?_
        refine OW.nil ?_
        refine KW.seq ?_
        have hM : memAt q = ⟨(q.drop 1).take n, nb ((q.drop (1 + n)).take 2), nb ((q.drop (3 + n)).take 2), nb ((q.drop (5 + n)).take 2), nb ((q.drop (7 + n)).take 4)⟩ := by unfold memAt; rw [hn]
        generalize hp : (q.drop (1 + n)).take (11 + n - (1 + n)) = p6
        have hpl : p6.length = 10 := by rw [← hp, List.length_take, List.length_drop]; omega
        have p0 : p6.take 2 = (q.drop (1 + n)).take 2 := by rw [← hp, List.take_take]; congr 1; omega
        have p2 : (p6.drop 2).take (4 - 2) = (q.drop (3 + n)).take 2 := by rw [← hp, List.drop_take, List.take_take, List.drop_drop, show 1 + n + 2 = 3 + n by omega]; congr 1; omega
        have p4 : (p6.drop 4).take (6 - 4) = (q.drop (5 + n)).take 2 := by rw [← hp, List.drop_take, List.take_take, List.drop_drop, show 1 + n + 4 = 5 + n by omega]; congr 1; omega
        have p66 : p6.drop 6 = (q.drop (7 + n)).take 4 := by rw [← hp, List.drop_take, List.drop_drop, show 1 + n + 6 = 7 + n by omega]; congr 1; omega
        have pn : (q.drop 1).take (1 + n - 1) = (q.drop 1).take n := by congr 1; omega
        have c0 : ∀ w, _ := fun w => numN_c (p6.take 2) (by rw [List.length_take]; omega) (nb ((q.drop (1 + n)).take 2)) (by rw [p0]) w
        have c2 : ∀ w, _ := fun w => numN_c ((p6.drop 2).take (4 - 2)) (by rw [List.length_take]; omega) (nb ((q.drop (3 + n)).take 2)) (by rw [p2]) w
        have c4 : ∀ w, _ := fun w => numN_c ((p6.drop 4).take (6 - 4)) (by rw [List.length_take]; omega) (nb ((q.drop (5 + n)).take 2)) (by rw [p4]) w
        have c6 : ∀ w, _ := fun w => numN_c (p6.drop 6) (by rw [List.length_drop]; omega) (nb ((q.drop (7 + n)).take 4)) (by rw [p66]) w
        refine KW.cut2 (fun (xb : Nat) (w2 : World) => Ext w w2 ∧ w.heap.size ≤ xb ∧ Bk w2 xb 70 (memAt q).cells ∧ Own w2 w.heap.size 70 5 v out.length (memsV out)) (fun (xb : Nat) (w2 : World) => [(0, str (q)), (4, v), (5, .int .i64 ((n : Nat) : Int)), (7, .pointer (some ⟨xb, 0, none⟩))]) (fun (xb : Nat) (w2 : World) => w2) ?_ ?_
        · skip
          refine KW.regionG (N := 20) (fun w' => Ext w w') (by kernel_rfl) rfl ?_
          have hS : (fun w' => Ext w w') wr.drew := hx.trans (Ext.drew wr)
          have hown := hown.ext (Ext.drew _)
          refine GW.val 0 rfl (by kernel_rfl) (by kernel_rfl) (by kernel_rfl) rfl rfl hS (fun w' hS' => EX.move rfl) ?_
          refine GW.val 1 rfl (by kernel_rfl) (by kernel_rfl) (by kernel_rfl) rfl rfl hS (fun w' hS' => EX.move rfl) ?_
          refine GW.val 2 rfl (by kernel_rfl) (by kernel_rfl) (by kernel_rfl) rfl rfl hS (fun w' hS' => by first | exact EX.addN (a := 1) (m := 9223372036854775807) rfl rfl rfl (by omega) | exact EX.addZ (m := 9223372036854775807) rfl rfl rfl rfl (by omega)) ?_
          refine GW.val 3 rfl (by kernel_rfl) (by kernel_rfl) (by kernel_rfl) rfl rfl hS (fun w' hS' => EX.sliceLH (i := 1) Tryz.underlying9 rfl rfl rfl (by omega)) ?_
          refine GW.val 4 rfl (by kernel_rfl) (by kernel_rfl) (by kernel_rfl) rfl rfl hS (fun w' hS' => EX.move rfl) ?_
          refine GW.val 5 rfl (by kernel_rfl) (by kernel_rfl) (by kernel_rfl) rfl rfl hS (fun w' hS' => EX.sliceFH (j := 2) Tryz.underlying9 rfl rfl (by omega)) ?_
          refine GW.val 7 rfl (by kernel_rfl) (by kernel_rfl) (by kernel_rfl) rfl rfl hS (fun w' hS' => EX.move rfl) ?_
          refine GW.val 8 rfl (by kernel_rfl) (by kernel_rfl) (by kernel_rfl) rfl rfl hS (fun w' hS' => EX.sliceLH (i := 2) (j := 4) Tryz.underlying9 rfl rfl rfl (by omega)) ?_
          refine GW.val 10 rfl (by kernel_rfl) (by kernel_rfl) (by kernel_rfl) rfl rfl hS (fun w' hS' => EX.move rfl) ?_
          refine GW.val 11 rfl (by kernel_rfl) (by kernel_rfl) (by kernel_rfl) rfl rfl hS (fun w' hS' => EX.sliceLH (i := 4) (j := 6) Tryz.underlying9 rfl rfl rfl (by omega)) ?_
          refine GW.val 13 rfl (by kernel_rfl) (by kernel_rfl) (by kernel_rfl) rfl rfl hS (fun w' hS' => EX.move rfl) ?_
          refine GW.val 14 rfl (by kernel_rfl) (by kernel_rfl) (by kernel_rfl) rfl rfl hS (fun w' hS' => EX.sliceLE (i := 6) Tryz.underlying9 rfl rfl (by omega)) ?_
          refine GW.two 6 18 (by kernel_rfl) ?_ ?_
          · refine GO.call 6 rfl rfl rfl rfl (c0 wr.drew) ?_
            rintro _ _ ⟨rfl, rfl⟩
            refine ⟨hS, fun hS => ?_⟩
            refine GW.two 9 18 (by kernel_rfl) ?_ ?_
            · refine GO.call 9 rfl rfl rfl rfl (c2 wr.drew) ?_
              rintro _ _ ⟨rfl, rfl⟩
              refine ⟨hS, fun hS => ?_⟩
              refine GW.two 12 18 (by kernel_rfl) ?_ ?_
              · refine GO.call 12 rfl rfl rfl rfl (c4 wr.drew) ?_
                rintro _ _ ⟨rfl, rfl⟩
                refine ⟨hS, fun hS => ?_⟩
                refine GW.two 15 18 (by kernel_rfl) ?_ ?_
                · refine GO.call 15 rfl rfl rfl rfl (c6 wr.drew) ?_
                  rintro _ _ ⟨rfl, rfl⟩
                  refine ⟨hS, fun hS => ?_⟩
                  refine GW.val 16 rfl (by kernel_rfl) (by kernel_rfl) (by kernel_rfl) rfl rfl hS (fun w' hS' => by first | exact EX.convN (m := 4294967295) Tryz.underlying3 Tryz.underlying68 rfl rfl (by omega) | exact EX.convW (m := 4294967296) Tryz.underlying3 Tryz.underlying68 rfl rfl (by decide) | exact EX.convZ Tryz.underlying3 Tryz.underlying68 rfl) ?_
                  refine GW.val 17 rfl (by kernel_rfl) (by kernel_rfl) (by kernel_rfl) rfl rfl hS (fun w' hS' => EX.buildS (pl := [(0, 1), (1, 1), (2, 1), (3, 1), (4, 1)]) (ks := [0, 1, 2, 3, 4]) (is := [0, 1, 2, 3, 4]) (zs := [str [], .int .i64 0, .int .i64 0, .int .i64 0, .int .u32 0]) Tryz.underlying70 ti70 (by kernel_rfl) rfl rfl rfl (by first | rfl | (simp only [List.all_cons, List.all_nil, Bool.and_true, Bool.true_and, Bool.and_eq_true, Value.oneCell']; repeat (first | assumption | exact Own.one (by assumption) | constructor))) (by simp only [setAll, List.set_cons_zero, List.set_cons_succ]; rfl)) ?_
                  refine GW.allocB (l := [str [], .int .i64 0, .int .i64 0, .int .i64 0, .int .u32 0]) 18 rfl (by kernel_rfl) rfl rfl ti70 rfl ?_
                  rintro xb w18 hge18 h18 hx18
                  have hne : ∀ k, v.ownBlock = some k → k ≠ xb := fun k hk => (by have := (hown.lt k hk).2; omega)
                  have hxge : w.heap.size ≤ xb := (by have := hS.size; omega)
                  refine ⟨hS.trans hx18, fun hS => ?_⟩
                  have hown := hown.ext hx18
                  refine GW.storeS 19 rfl (by kernel_rfl) rfl ti70 rfl rfl rfl (by first | rfl | (simp only [List.all_cons, List.all_nil, Bool.and_true, Bool.true_and, Bool.and_eq_true, Value.oneCell']; repeat (first | assumption | constructor))) (h18) (by simp) ?_
                  rintro w19 hb19 hm19
                  refine ⟨below_mo hS hm19 hS.size (fun k hk => by simp at hk; omega), fun hS => ?_⟩
                  have hown := hown.mo hm19 (fun k hk => by simpa using hne k hk)
                  refine GW.done (by kernel_rfl) ?_
                  refine KW.meet2 xb w19 ⟨rfl, rfl, rfl, rfl, trivial⟩ rfl ?_
                  exact ⟨hS, hxge, by rw [hM, ← pn]; exact hb19, hown⟩
                · refine GO.allocB (l := [str [], .int .i64 0, .int .i64 0, .int .i64 0, .int .u32 0]) 18 rfl rfl rfl ti70 rfl ?_
                  rintro xb w18 hge18 h18 hx18
                  have hne : ∀ k, v.ownBlock = some k → k ≠ xb := fun k hk => (by have := (hown.lt k hk).2; omega)
                  have hxge : w.heap.size ≤ xb := (by have := hS.size; omega)
                  refine ⟨hS.trans hx18, fun hS => ?_⟩
                  have hown := hown.ext hx18
                  refine GW.call 15 rfl (by kernel_rfl) rfl rfl rfl (c6 w18) ?_
                  rintro _ _ ⟨rfl, rfl⟩
                  refine ⟨hS, fun hS => ?_⟩
                  refine GW.val 16 rfl (by kernel_rfl) (by kernel_rfl) (by kernel_rfl) rfl rfl hS (fun w' hS' => by first | exact EX.convN (m := 4294967295) Tryz.underlying3 Tryz.underlying68 rfl rfl (by omega) | exact EX.convW (m := 4294967296) Tryz.underlying3 Tryz.underlying68 rfl rfl (by decide) | exact EX.convZ Tryz.underlying3 Tryz.underlying68 rfl) ?_
                  refine GW.val 17 rfl (by kernel_rfl) (by kernel_rfl) (by kernel_rfl) rfl rfl hS (fun w' hS' => EX.buildS (pl := [(0, 1), (1, 1), (2, 1), (3, 1), (4, 1)]) (ks := [0, 1, 2, 3, 4]) (is := [0, 1, 2, 3, 4]) (zs := [str [], .int .i64 0, .int .i64 0, .int .i64 0, .int .u32 0]) Tryz.underlying70 ti70 (by kernel_rfl) rfl rfl rfl (by first | rfl | (simp only [List.all_cons, List.all_nil, Bool.and_true, Bool.true_and, Bool.and_eq_true, Value.oneCell']; repeat (first | assumption | exact Own.one (by assumption) | constructor))) (by simp only [setAll, List.set_cons_zero, List.set_cons_succ]; rfl)) ?_
                  refine GW.storeS 19 rfl (by kernel_rfl) rfl ti70 rfl rfl rfl (by first | rfl | (simp only [List.all_cons, List.all_nil, Bool.and_true, Bool.true_and, Bool.and_eq_true, Value.oneCell']; repeat (first | assumption | constructor))) (h18) (by simp) ?_
                  rintro w19 hb19 hm19
                  refine ⟨below_mo hS hm19 hS.size (fun k hk => by simp at hk; omega), fun hS => ?_⟩
                  have hown := hown.mo hm19 (fun k hk => by simpa using hne k hk)
                  refine GW.done (by kernel_rfl) ?_
                  refine KW.meet2 xb w19 ⟨rfl, rfl, rfl, rfl, trivial⟩ rfl ?_
                  exact ⟨hS, hxge, by rw [hM, ← pn]; exact hb19, hown⟩
              · refine GO.allocB (l := [str [], .int .i64 0, .int .i64 0, .int .i64 0, .int .u32 0]) 18 rfl rfl rfl ti70 rfl ?_
                rintro xb w18 hge18 h18 hx18
                have hne : ∀ k, v.ownBlock = some k → k ≠ xb := fun k hk => (by have := (hown.lt k hk).2; omega)
                have hxge : w.heap.size ≤ xb := (by have := hS.size; omega)
                refine ⟨hS.trans hx18, fun hS => ?_⟩
                have hown := hown.ext hx18
                refine GW.call 12 rfl (by kernel_rfl) rfl rfl rfl (c4 w18) ?_
                rintro _ _ ⟨rfl, rfl⟩
                refine ⟨hS, fun hS => ?_⟩
                refine GW.call 15 rfl (by kernel_rfl) rfl rfl rfl (c6 w18) ?_
                rintro _ _ ⟨rfl, rfl⟩
                refine ⟨hS, fun hS => ?_⟩
                refine GW.val 16 rfl (by kernel_rfl) (by kernel_rfl) (by kernel_rfl) rfl rfl hS (fun w' hS' => by first | exact EX.convN (m := 4294967295) Tryz.underlying3 Tryz.underlying68 rfl rfl (by omega) | exact EX.convW (m := 4294967296) Tryz.underlying3 Tryz.underlying68 rfl rfl (by decide) | exact EX.convZ Tryz.underlying3 Tryz.underlying68 rfl) ?_
                refine GW.val 17 rfl (by kernel_rfl) (by kernel_rfl) (by kernel_rfl) rfl rfl hS (fun w' hS' => EX.buildS (pl := [(0, 1), (1, 1), (2, 1), (3, 1), (4, 1)]) (ks := [0, 1, 2, 3, 4]) (is := [0, 1, 2, 3, 4]) (zs := [str [], .int .i64 0, .int .i64 0, .int .i64 0, .int .u32 0]) Tryz.underlying70 ti70 (by kernel_rfl) rfl rfl rfl (by first | rfl | (simp only [List.all_cons, List.all_nil, Bool.and_true, Bool.true_and, Bool.and_eq_true, Value.oneCell']; repeat (first | assumption | exact Own.one (by assumption) | constructor))) (by simp only [setAll, List.set_cons_zero, List.set_cons_succ]; rfl)) ?_
                refine GW.storeS 19 rfl (by kernel_rfl) rfl ti70 rfl rfl rfl (by first | rfl | (simp only [List.all_cons, List.all_nil, Bool.and_true, Bool.true_and, Bool.and_eq_true, Value.oneCell']; repeat (first | assumption | constructor))) (h18) (by simp) ?_
                rintro w19 hb19 hm19
                refine ⟨below_mo hS hm19 hS.size (fun k hk => by simp at hk; omega), fun hS => ?_⟩
                have hown := hown.mo hm19 (fun k hk => by simpa using hne k hk)
                refine GW.done (by kernel_rfl) ?_
                refine KW.meet2 xb w19 ⟨rfl, rfl, rfl, rfl, trivial⟩ rfl ?_
                exact ⟨hS, hxge, by rw [hM, ← pn]; exact hb19, hown⟩
            · refine GO.allocB (l := [str [], .int .i64 0, .int .i64 0, .int .i64 0, .int .u32 0]) 18 rfl rfl rfl ti70 rfl ?_
              rintro xb w18 hge18 h18 hx18
              have hne : ∀ k, v.ownBlock = some k → k ≠ xb := fun k hk => (by have := (hown.lt k hk).2; omega)
              have hxge : w.heap.size ≤ xb := (by have := hS.size; omega)
              refine ⟨hS.trans hx18, fun hS => ?_⟩
              have hown := hown.ext hx18
              refine GW.call 9 rfl (by kernel_rfl) rfl rfl rfl (c2 w18) ?_
              rintro _ _ ⟨rfl, rfl⟩
              refine ⟨hS, fun hS => ?_⟩
              refine GW.call 12 rfl (by kernel_rfl) rfl rfl rfl (c4 w18) ?_
              rintro _ _ ⟨rfl, rfl⟩
              refine ⟨hS, fun hS => ?_⟩
              refine GW.call 15 rfl (by kernel_rfl) rfl rfl rfl (c6 w18) ?_
              rintro _ _ ⟨rfl, rfl⟩
              refine ⟨hS, fun hS => ?_⟩
              refine GW.val 16 rfl (by kernel_rfl) (by kernel_rfl) (by kernel_rfl) rfl rfl hS (fun w' hS' => by first | exact EX.convN (m := 4294967295) Tryz.underlying3 Tryz.underlying68 rfl rfl (by omega) | exact EX.convW (m := 4294967296) Tryz.underlying3 Tryz.underlying68 rfl rfl (by decide) | exact EX.convZ Tryz.underlying3 Tryz.underlying68 rfl) ?_
              refine GW.val 17 rfl (by kernel_rfl) (by kernel_rfl) (by kernel_rfl) rfl rfl hS (fun w' hS' => EX.buildS (pl := [(0, 1), (1, 1), (2, 1), (3, 1), (4, 1)]) (ks := [0, 1, 2, 3, 4]) (is := [0, 1, 2, 3, 4]) (zs := [str [], .int .i64 0, .int .i64 0, .int .i64 0, .int .u32 0]) Tryz.underlying70 ti70 (by kernel_rfl) rfl rfl rfl (by first | rfl | (simp only [List.all_cons, List.all_nil, Bool.and_true, Bool.true_and, Bool.and_eq_true, Value.oneCell']; repeat (first | assumption | exact Own.one (by assumption) | constructor))) (by simp only [setAll, List.set_cons_zero, List.set_cons_succ]; rfl)) ?_
              refine GW.storeS 19 rfl (by kernel_rfl) rfl ti70 rfl rfl rfl (by first | rfl | (simp only [List.all_cons, List.all_nil, Bool.and_true, Bool.true_and, Bool.and_eq_true, Value.oneCell']; repeat (first | assumption | constructor))) (h18) (by simp) ?_
              rintro w19 hb19 hm19
              refine ⟨below_mo hS hm19 hS.size (fun k hk => by simp at hk; omega), fun hS => ?_⟩
              have hown := hown.mo hm19 (fun k hk => by simpa using hne k hk)
              refine GW.done (by kernel_rfl) ?_
              refine KW.meet2 xb w19 ⟨rfl, rfl, rfl, rfl, trivial⟩ rfl ?_
              exact ⟨hS, hxge, by rw [hM, ← pn]; exact hb19, hown⟩
          · refine GO.allocB (l := [str [], .int .i64 0, .int .i64 0, .int .i64 0, .int .u32 0]) 18 rfl rfl rfl ti70 rfl ?_
            rintro xb w18 hge18 h18 hx18
            have hne : ∀ k, v.ownBlock = some k → k ≠ xb := fun k hk => (by have := (hown.lt k hk).2; omega)
            have hxge : w.heap.size ≤ xb := (by have := hS.size; omega)
            refine ⟨hS.trans hx18, fun hS => ?_⟩
            have hown := hown.ext hx18
            refine GW.call 6 rfl (by kernel_rfl) rfl rfl rfl (c0 w18) ?_
            rintro _ _ ⟨rfl, rfl⟩
            refine ⟨hS, fun hS => ?_⟩
            refine GW.call 9 rfl (by kernel_rfl) rfl rfl rfl (c2 w18) ?_
            rintro _ _ ⟨rfl, rfl⟩
            refine ⟨hS, fun hS => ?_⟩
            refine GW.call 12 rfl (by kernel_rfl) rfl rfl rfl (c4 w18) ?_
            rintro _ _ ⟨rfl, rfl⟩
            refine ⟨hS, fun hS => ?_⟩
            refine GW.call 15 rfl (by kernel_rfl) rfl rfl rfl (c6 w18) ?_
            rintro _ _ ⟨rfl, rfl⟩
            refine ⟨hS, fun hS => ?_⟩
            refine GW.val 16 rfl (by kernel_rfl) (by kernel_rfl) (by kernel_rfl) rfl rfl hS (fun w' hS' => by first | exact EX.convN (m := 4294967295) Tryz.underlying3 Tryz.underlying68 rfl rfl (by omega) | exact EX.convW (m := 4294967296) Tryz.underlying3 Tryz.underlying68 rfl rfl (by decide) | exact EX.convZ Tryz.underlying3 Tryz.underlying68 rfl) ?_
            refine GW.val 17 rfl (by kernel_rfl) (by kernel_rfl) (by kernel_rfl) rfl rfl hS (fun w' hS' => EX.buildS (pl := [(0, 1), (1, 1), (2, 1), (3, 1), (4, 1)]) (ks := [0, 1, 2, 3, 4]) (is := [0, 1, 2, 3, 4]) (zs := [str [], .int .i64 0, .int .i64 0, .int .i64 0, .int .u32 0]) Tryz.underlying70 ti70 (by kernel_rfl) rfl rfl rfl (by first | rfl | (simp only [List.all_cons, List.all_nil, Bool.and_true, Bool.true_and, Bool.and_eq_true, Value.oneCell']; repeat (first | assumption | exact Own.one (by assumption) | constructor))) (by simp only [setAll, List.set_cons_zero, List.set_cons_succ]; rfl)) ?_
            refine GW.storeS 19 rfl (by kernel_rfl) rfl ti70 rfl rfl rfl (by first | rfl | (simp only [List.all_cons, List.all_nil, Bool.and_true, Bool.true_and, Bool.and_eq_true, Value.oneCell']; repeat (first | assumption | constructor))) (h18) (by simp) ?_
            rintro w19 hb19 hm19
            refine ⟨below_mo hS hm19 hS.size (fun k hk => by simp at hk; omega), fun hS => ?_⟩
            have hown := hown.mo hm19 (fun k hk => by simpa using hne k hk)
            refine GW.done (by kernel_rfl) ?_
            refine KW.meet2 xb w19 ⟨rfl, rfl, rfl, rfl, trivial⟩ rfl ?_
            exact ⟨hS, hxge, by rw [hM, ← pn]; exact hb19, hown⟩
        · rintro xb w2 ⟨x2, hxge, hb2, hown2⟩
          have hdl11 : (q.drop (11 + n)).length = q.length - (11 + n) := List.length_drop ..
          refine KW.seq (KW.seq (KW.region ?_))
          refine OW.val rfl rfl (EX.loadBk Tryz.underlying70 rfl ti70 rfl (hb2) (rfl)) ?_
          refine OW.call rfl rfl rfl (rcheckM_s (memAt q) (memAt_ok q hql) w2) ?_
          rintro _ we ⟨rfl, hxe⟩
          refine OW.val rfl rfl (by first | exact EX.neqN (b := 0) rfl rfl | exact EX.neqZ rfl rfl) ?_
          refine OW.nil ?_
          have hbe := hb2.ext hxe
          have howne := hown2.ext hxe
          have xe := x2.trans hxe
          by_cases hmay : mayM (memAt q)
          · rw [checkM_some hmay]
            rw [if_pos hmay] at hm
            refine KW.condD rfl (fun hz => ?_) (fun hz => ?_)
            · omega
            · refine KW.skip (KW.seq (KW.region ?_))
              refine OW.val rfl rfl (EX.move rfl) ?_
              refine OW.val rfl rfl (EX.loadBk Tryz.underlying70 rfl ti70 rfl (hbe) (rfl)) ?_
              refine OW.pushS rfl rfl (fun _ => rfl) rfl Tryz.underlying22 ti70 rfl (by decide) (by decide) rfl rfl (fun _ => rfl) (by first | rfl | assumption | (simp only [List.all_cons, List.all_nil, Bool.and_true, Bool.true_and, Bool.and_eq_true, Value.oneCell']; repeat (first | assumption | constructor))) (xe) (howne) (by simp only [maxLen]; omega) (by omega) ?_
              rintro _ v2 wf hownf xf hgf
              refine OW.val rfl rfl (EX.assign rfl) ?_
              refine OW.nil ?_
              refine KW.region ?_
              refine OW.val rfl rfl (EX.move rfl) ?_
              refine OW.val rfl rfl (EX.move rfl) ?_
              refine OW.val rfl rfl (by first | exact EX.addN (a := 11) (m := 9223372036854775807) rfl rfl rfl (by omega) | exact EX.addZ (m := 9223372036854775807) rfl rfl rfl rfl (by omega)) ?_
              refine OW.val rfl rfl (EX.sliceLE Tryz.underlying9 rfl rfl (by omega)) ?_
              refine OW.val rfl rfl (EX.assign rfl) ?_
              refine OW.nil ?_
              refine KW.leave ?_
              refine KW.back5 (f) (q.drop (11 + n)) (out ++ [memAt q]) (v2) (wf) ⟨rfl, rfl, trivial⟩ rfl ?_ (by omega)
              refine ⟨by omega, by omega, by rw [List.length_append, List.length_singleton]; omega, hm, ?_, xf⟩
              rw [List.length_append, memsV_snoc]
              exact hownf
          · rw [checkM_none hmay]
            rw [if_neg hmay] at hm
            subst hm
            refine KW.condD rfl (fun hz => ?_) (fun hz => ?_)
            · refine KW.seq (KW.region ?_)
              refine OW.val rfl rfl (EX.assign rfl) ?_
              refine OW.val rfl rfl (EX.assign rfl) ?_
              refine OW.nil ?_
              refine KW.ret (ret2 rfl rfl rfl ?_)
              exact ⟨_, rfl, Own.nil _ _ _ _, xe⟩
            · omega
    · have hq0 : q = [] := by simpa using hne
      obtain ⟨f, rfl⟩ : ∃ g, f = g + 1 := ⟨f - 1, by omega⟩
      rw [memL, if_pos hq0] at hm
      subst hm
      refine KW.exit rfl (KW.seq (KW.region ?_))
      refine OW.val rfl rfl (EX.move rfl) ?_
      refine OW.val rfl rfl (EX.assign rfl) ?_
      refine OW.val rfl rfl (EX.assign rfl) ?_
      refine OW.nil ?_
      refine KW.ret (ret2 rfl rfl rfl ?_)
      exact ⟨_, rfl, hown, hx⟩
end Go.Proofs.YthgfdpcpbghkpaaGreatDoor
/- record, in plain words: members are read as they were laid. No program is spoken of. -/
namespace Go.Proofs.YthgfdpcpbghkpaaGreatDoor
set_option linter.unnecessarySimpa false
open Go.RowKit Rec
set_option linter.unusedVariables false
set_option linter.unusedSimpArgs false
def mays (l : List M) : List M := l.filter fun m => decide (mayM m)
theorem mays_snoc (l : List M) {i : Nat} (h : i < l.length) : mays (l.take (i + 1)) = if mayM l[i] then mays (l.take i) ++ [l[i]] else mays (l.take i) := by
  rw [List.take_add_one, List.getElem?_eq_getElem h]
  unfold mays
  rw [Option.toList_some, List.filter_append, List.filter_cons, List.filter_nil]
  by_cases hm : mayM l[i] <;> simp [hm]
def allT (l : List M) : List UInt8 := l.flatMap memberT
theorem allT_snoc (l : List M) (m : M) : allT (l ++ [m]) = allT l ++ memberT m := by simp [allT]
theorem memberT_length (m : M) : (memberT m).length = m.path.length + 11 := by
  unfold memberT
  simp only [List.length_append, be_length]
  omega
theorem memberT_read {m : M} (h : mayM m) (hs : m.sum ≤ 4294967295) (r : List UInt8) : memAt (memberT m ++ r) = m ∧ first (memberT m ++ r) = m.path.length ∧ (memberT m ++ r).drop (11 + m.path.length) = r := by
  obtain ⟨hp, _⟩ := may_path h
  obtain ⟨_, h1, h2, h3, h4, h5, h6⟩ := h
  have e : memberT m ++ r = [UInt8.ofNat m.path.length] ++ (m.path ++ (be 2 m.start.toNat ++ (be 2 m.sectors.toNat ++ (be 2 m.size.toNat ++ (be 4 m.sum ++ r))))) := by
    unfold memberT
    rw [be_one _ (by omega)]
    simp only [List.append_assoc]
  have hf : first (memberT m ++ r) = m.path.length := by
    rw [e]
    show (UInt8.ofNat m.path.length).toNat = _
    simp
    omega
  have d1 : (memberT m ++ r).drop 1 = m.path ++ (be 2 m.start.toNat ++ (be 2 m.sectors.toNat ++ (be 2 m.size.toNat ++ (be 4 m.sum ++ r)))) := by rw [e]; rfl
  have d2 := drop_more d1 rfl (j := 1 + m.path.length) rfl
  have d3 := drop_more d2 (be_length 2 _) (j := 3 + m.path.length) (by omega)
  have d4 := drop_more d3 (be_length 2 _) (j := 5 + m.path.length) (by omega)
  have d5 := drop_more d4 (be_length 2 _) (j := 7 + m.path.length) (by omega)
  have d6 := drop_more d5 (be_length 4 _) (j := 11 + m.path.length) (by omega)
  refine ⟨?_, hf, d6⟩
  obtain ⟨mp, ms, mse, msz, msu⟩ := m
  simp only at h1 h2 h3 h4 h5 h6 hs d1 d2 d3 d4 d5 hf
  unfold memAt
  rw [hf, d1, d2, d3, d4, d5, List.take_left' rfl, List.take_left' (be_length _ _), List.take_left' (be_length _ _), List.take_left' (be_length _ _), List.take_left' (be_length _ _),
    nb_be 2 _ (by simp only [Nat.reducePow]; omega), nb_be 2 _ (by simp only [Nat.reducePow]; omega), nb_be 2 _ (by simp only [Nat.reducePow]; omega), nb_be 4 _ (by simp only [Nat.reducePow]; omega)]
  simp only [M.mk.injEq, true_and, and_true]
  omega
theorem memL_back : ∀ (l : List M) (f : Nat) (out : List M), (∀ m ∈ l, mayM m ∧ m.sum ≤ 4294967295) → (allT l).length < f → memL f (allT l) out = (out ++ l, 0)
  | [], f, out, _, hf => by
    obtain ⟨g, rfl⟩ : ∃ g, f = g + 1 := ⟨f - 1, by omega⟩
    rw [memL, if_pos (show allT [] = [] from rfl), List.append_nil]
  | m :: l, f, out, hl, hf => by
    obtain ⟨g, rfl⟩ : ∃ g, f = g + 1 := ⟨f - 1, by omega⟩
    obtain ⟨h1, h2⟩ := hl m (by simp)
    have e : allT (m :: l) = memberT m ++ allT l := by simp [allT]
    obtain ⟨r1, r2, r3⟩ := memberT_read h1 h2 (allT l)
    rw [e] at hf ⊢
    rw [List.length_append, memberT_length] at hf
    have hlen : (memberT m ++ allT l).length = m.path.length + 11 + (allT l).length := by rw [List.length_append, memberT_length]
    rw [memL, if_neg (fun z => by rw [z] at hlen; simp only [List.length_nil] at hlen; omega), r2, if_neg (by omega), r1, if_pos h1, r3, memL_back l g _ (fun x hx => hl x (by simp [hx])) (by omega)]
    simp
theorem allT_len : ∀ l : List M, (∀ m ∈ l, mayM m) → (allT l).length ≤ l.length * 131
  | [], _ => by simp [allT]
  | m :: l, h => by
    have ih := allT_len l (fun x hx => h x (by simp [hx]))
    have h1 := (may_path (h m (by simp))).1
    have e : allT (m :: l) = memberT m ++ allT l := by simp [allT]
    rw [e, List.length_append, memberT_length, List.length_cons]
    omega
theorem mays_may (l : List M) : ∀ m ∈ mays l, mayM m := fun m hm => by simpa using (List.mem_filter.1 hm).2
end Go.Proofs.YthgfdpcpbghkpaaGreatDoor
/- The catalogue and its extents, in plain words. No program is spoken of. -/
namespace Go.Proofs.YthgfdpcpbghkpaaGreatDoor.Cat
set_option linter.unnecessarySimpa false
open Pth Rec Srt
set_option linter.unusedSimpArgs false
set_option linter.unusedVariables false
/-! ### Extents -/
abbrev Xt := Int × Int
def fitX (cap : Int) (x : Xt) : Prop := 30 ≤ x.1 ∧ 1 ≤ x.2 ∧ x.1 ≤ cap ∧ x.2 ≤ cap - x.1
instance (cap : Int) (x : Xt) : Decidable (fitX cap x) := by unfold fitX; infer_instance
def apart (x y : Xt) : Prop := x.1 + x.2 ≤ y.1 ∨ y.1 + y.2 ≤ x.1
instance (x y : Xt) : Decidable (apart x y) := by unfold apart; infer_instance
theorem apart_symm {x y : Xt} (h : apart x y) : apart y x := h.symm
structure OkX (l : List Xt) (cap : Int) : Prop where
  room : 1 ≤ cap ∧ cap ≤ 4096
  fit : ∀ x ∈ l, fitX cap x
  far : l.Pairwise apart
instance (l : List Xt) (cap : Int) : Decidable (OkX l cap) :=
  decidable_of_iff ((1 ≤ cap ∧ cap ≤ 4096) ∧ (∀ x ∈ l, fitX cap x) ∧ l.Pairwise apart) ⟨fun h => ⟨h.1, h.2.1, h.2.2⟩, fun h => ⟨h.room, h.fit, h.far⟩⟩
def spaceC (l : List Xt) (cap : Int) : Nat := if OkX l cap then 0 else 220
theorem okX_perm {l l' : List Xt} {cap : Int} (h : l'.Perm l) : OkX l' cap ↔ OkX l cap :=
  ⟨fun q => ⟨q.room, fun x hx => q.fit x (h.mem_iff.2 hx), (h.pairwise_iff apart_symm).1 q.far⟩, fun q => ⟨q.room, fun x hx => q.fit x (h.mem_iff.1 hx), (h.pairwise_iff apart_symm).2 q.far⟩⟩
/-- the order in which extents are sorted -/
def cfX (a b : Xt) : Int := if a = b then 0 else if a.1 < b.1 ∨ (a.1 = b.1 ∧ a.2 < b.2) then -1 else 1
theorem cfX_lt (a b : Xt) : cfX a b < 0 ↔ (a.1 < b.1 ∨ (a.1 = b.1 ∧ a.2 < b.2)) := by
  obtain ⟨a1, a2⟩ := a
  obtain ⟨b1, b2⟩ := b
  unfold cfX
  simp only [Prod.mk.injEq]
  split
  · rename_i h
    omega
  · split
    · rename_i h1 h2
      exact ⟨fun _ => h2, fun _ => by omega⟩
    · rename_i h1 h2
      exact ⟨fun q => by omega, fun q => absurd q h2⟩
theorem swoX : Go.Sort.SWO (fun a b : Xt => decide (cfX a b < 0)) where
  irrefl x := by
    rw [decide_eq_false_iff_not, cfX_lt]
    omega
  trans x y z h1 h2 := by
    rw [decide_eq_true_eq, cfX_lt] at *
    omega
  ntrans x y z h1 h2 := by
    rw [decide_eq_false_iff_not, cfX_lt] at *
    omega
/-- what the program knows behind the first ones of sorted extents -/
structure Upto (l : List Xt) (cap at_ : Int) : Prop where
  fit : ∀ x ∈ l, fitX cap x
  chain : l.Pairwise (fun x y => x.1 + x.2 ≤ y.1)
  below : ∀ x ∈ l, x.1 + x.2 ≤ at_
  last : at_ = 30 ∨ ∃ x ∈ l, at_ = x.1 + x.2
  low : 30 ≤ at_ ∧ at_ ≤ 30 + 4096
theorem Upto.nil (cap : Int) : Upto [] cap 30 := ⟨by simp, List.Pairwise.nil, by simp, .inl rfl, by omega⟩
theorem Upto.snoc {l : List Xt} {cap at_ : Int} (hc : 1 ≤ cap ∧ cap ≤ 4096) (h : Upto l cap at_) {x : Xt} (h1 : ¬ x.1 < at_) (h2 : ¬ x.2 < 1) (h3 : ¬ x.1 > cap) (h4 : ¬ x.2 > cap - x.1) : Upto (l ++ [x]) cap (x.1 + x.2) := by
  have hl := h.low
  refine ⟨fun y hy => ?_, ?_, fun y hy => ?_, .inr ⟨x, by simp, rfl⟩, by omega⟩
  · rcases List.mem_append.1 hy with hy | hy
    · exact h.fit y hy
    · simp only [List.mem_singleton] at hy
      subst hy
      exact ⟨by omega, by omega, by omega, by omega⟩
  · rw [List.pairwise_append]
    refine ⟨h.chain, by simp, fun a ha b hb => ?_⟩
    simp only [List.mem_singleton] at hb
    subst hb
    have := h.below a ha
    omega
  · rcases List.mem_append.1 hy with hy | hy
    · have := h.below y hy
      omega
    · simp only [List.mem_singleton] at hy
      subst hy
      omega
theorem Upto.done {l : List Xt} {cap at_ : Int} (hc : 1 ≤ cap ∧ cap ≤ 4096) (h : Upto l cap at_) : OkX l cap := ⟨hc, h.fit, h.chain.imp fun q => .inl q⟩
/-- a failure: they may not be -/
theorem Upto.fail {l : List Xt} {cap at_ : Int} {x : Xt} {r : List Xt} (h : Upto l cap at_) (hs : ∀ y ∈ l, ¬ cfX x y < 0) (hb : x.1 < at_ ∨ x.2 < 1 ∨ x.1 > cap ∨ x.2 > cap - x.1) : ¬ OkX (l ++ x :: r) cap := fun q => by
  have hf := q.fit x (by simp)
  unfold fitX at hf
  rcases hb with hb | hb
  · rcases h.last with e | ⟨y, hy, e⟩
    · omega
    · have h1 := (List.pairwise_append.1 q.far).2.2 y hy x (by simp)
      have h2 := hs y hy
      rw [cfX_lt] at h2
      have h3 := h.fit y hy
      unfold fitX at h3
      rcases h1 with h1 | h1
      · omega
      · omega
  · omega
/-! ### The document's marks -/
def inX (x : Xt) (k : Int) : Bool := decide (x.1 ≤ k ∧ k < x.1 + x.2)
def marked (l : List Xt) (k : Int) : Bool := l.any (fun x => inX x k)
theorem marked_snoc (l : List Xt) (x : Xt) (k : Int) : marked (l ++ [x]) k = (marked l k || inX x k) := by simp [marked]
theorem apart_of_not {x y : Xt} (hx : 1 ≤ x.2) (hy : 1 ≤ y.2) (h : ∀ k, inX x k = true → inX y k = false) : apart y x := by
  unfold apart
  by_cases c : y.1 + y.2 ≤ x.1
  · exact .inl c
  · by_cases c2 : x.1 + x.2 ≤ y.1
    · exact .inr c2
    · exfalso
      rcases Int.le_total x.1 y.1 with q | q
      · have := h y.1 (by unfold inX; rw [decide_eq_true_eq]; omega)
        unfold inX at this
        rw [decide_eq_false_iff_not] at this
        omega
      · have := h x.1 (by unfold inX; rw [decide_eq_true_eq]; omega)
        unfold inX at this
        rw [decide_eq_false_iff_not] at this
        omega
theorem not_apart {x y : Xt} {k : Int} (h1 : inX x k = true) (h2 : inX y k = true) : ¬ apart y x := by
  unfold inX at h1 h2
  rw [decide_eq_true_eq] at h1 h2
  unfold apart
  omega
/-! ### Members -/
def exts (l : List M) : List Xt := l.map fun m => (m.start, m.sectors)
abbrev mkey (m : M) : List UInt8 := m.path
structure OkC (l : List M) (cap : Int) : Prop where
  len : l.length ≤ 16
  may : ∀ m ∈ l, mayM m
  rises : Rises mkey l
  ext : OkX (exts l) cap
theorem checkM_iff (m : M) : checkM m = 0 ↔ mayM m := by
  unfold checkM
  split
  · rename_i h; exact ⟨fun _ => h, fun _ => rfl⟩
  · rename_i h; exact ⟨(fun q => by cases q), fun q => absurd q h⟩
noncomputable def chkC (l : List M) (cap : Int) : Nat := open Classical in if OkC l cap then 0 else 230
theorem chkC_ok {l : List M} {cap : Int} (h : OkC l cap) : chkC l cap = 0 := by unfold chkC; rw [if_pos h]
theorem chkC_no {l : List M} {cap : Int} (h : ¬ OkC l cap) : chkC l cap = 230 := by unfold chkC; rw [if_neg h]
theorem rises_snoc {l : List M} {m : M} (h : Rises mkey l) (hl : ∀ p, l.getLast? = some p → cmpP p.path m.path = -1) : Rises mkey (l ++ [m]) := by
  unfold Rises at *
  rw [List.pairwise_append]
  refine ⟨h, by simp, fun a ha b hb => ?_⟩
  simp only [List.mem_singleton] at hb
  subst hb
  rcases List.eq_nil_or_concat l with e | ⟨q, p, e⟩
  · subst e; cases ha
  · rw [List.concat_eq_append] at e
    subst e
    have h1 : cmpK mkey p b = -1 := hl p (by simp)
    rcases List.mem_append.1 ha with ha | ha
    · have h2 := (List.pairwise_append.1 h).2.2 a ha p (by simp)
      exact cmpK_lt mkey h2 (by omega)
    · simp only [List.mem_singleton] at ha
      subst ha
      exact h1
end Go.Proofs.YthgfdpcpbghkpaaGreatDoor.Cat
/- The engine's laws for slices of structs that are written out. No program is spoken of. -/
namespace Go.Proofs.YthgfdpcpbghkpaaGreatDoor
set_option linter.unnecessarySimpa false
open Go.RowKit
set_option linter.unusedSimpArgs false
set_option linter.unusedVariables false
theorem flat_get {α : Type} {cells : α → List Value} {c : Nat} (hc : ∀ a, (cells a).length = c) : ∀ (l : List α) (i j : Nat) (hi : i < l.length) (u : Value), (cells l[i])[j]? = some u → (l.flatMap cells)[i * c + j]? = some u
  | a :: l, 0, j, hi, u, hu => by
    have hj : j < (cells a).length := (List.getElem?_eq_some_iff.1 hu).1
    rw [Nat.zero_mul, Nat.zero_add, List.flatMap_cons, List.getElem?_append_left hj]
    exact hu
  | a :: l, i + 1, j, hi, u, hu => by
    rw [List.flatMap_cons, List.getElem?_append_right (by rw [hc, Nat.succ_mul]; omega), hc, show (i + 1) * c + j - c = i * c + j by rw [Nat.succ_mul]; omega]
    exact flat_get hc l i j (by simpa using hi) u hu
/-- a slice's element of some cells -/
theorem Sl.flat {α : Type} {cells : α → List Value} {c : Nat} {w : World} {B : Nat} {A : Option Addr} {l : List α} (h : Sl w B A (l.flatMap cells)) (hc : ∀ a, (cells a).length = c) (h0 : 0 < c) {i : Nat} (hi : i < l.length) :
    ∃ b o, A = some ⟨b, o, none⟩ ∧ b < B ∧ ∀ j u, (cells l[i])[j]? = some u → w.cell? ⟨b, o + i * c + j, none⟩ = some u := by
  have hlt : 0 < (cells l[i]).length := by rw [hc]; exact h0
  have hp : 0 < (l.flatMap cells).length := by
    have := (List.getElem?_eq_some_iff.1 (flat_get hc l i 0 hi _ (List.getElem?_eq_getElem hlt))).1
    omega
  obtain ⟨b, o, e, hb, hcell⟩ := h.at_ hp
  exact ⟨b, o, e, hb, fun j u hu => by rw [Nat.add_assoc]; exact hcell _ _ (flat_get hc l i j hi u hu)⟩
theorem fold_at (off : Nat) : ∀ (vs : List Value) (k : Nat) (pre post : List Value), pre.length = off + k → vs.length ≤ post.length →
    (vs.zipIdx k).foldl (fun (cs : Array Value) (x : Value × Nat) => cs.setIfInBounds (off + x.2) x.1) (pre ++ post).toArray = (pre ++ vs ++ post.drop vs.length).toArray
  | [], k, pre, post, _, _ => by simp
  | v :: vs, k, pre, p :: post, hp, h => by
    have ih := fold_at off vs (k + 1) (pre ++ [v]) post (by simp [hp]; omega) (by simpa using h)
    have hset : (pre ++ p :: post).toArray.setIfInBounds (off + k) v = ((pre ++ [v]) ++ post).toArray := by simp [← hp]
    simp only [List.zipIdx_cons, List.foldl_cons]
    rw [hset, ih]
    simp
  | v :: vs, k, pre, [], hp, h => by simp at h
theorem fill_agg (s : Nat) : ∀ (vss : List (List Value)) (i : Nat) (pre post : List Value), pre.length = i * s → (∀ v ∈ vss, v.length = s) → post.length = vss.length * s →
    Instr.fill (fun i => some (i * s, s)) (pre ++ post).toArray ((vss.zipIdx i).map fun (v, j) => (j, Value.agg v.toArray)) = some (pre ++ vss.flatten).toArray
  | [], i, pre, post, hp, _, hl => by
    have : post = [] := List.eq_nil_of_length_eq_zero (by simpa using hl)
    subst this
    simp [Instr.fill]
  | v :: vss, i, pre, post, hp, h1, hl => by
    have hv := h1 v (by simp)
    have hl' : post.length = vss.length * s + s := by rw [hl, List.length_cons, Nat.succ_mul]
    have ih := fill_agg s vss (i + 1) (pre ++ v) (post.drop s) (by rw [List.length_append, hp, hv, Nat.succ_mul]) (fun u hu => h1 u (by simp [hu])) (by rw [List.length_drop]; omega)
    have hf := fold_at (i * s) v 0 pre post (by omega) (by omega)
    simp only [List.zipIdx_cons, List.map_cons, Instr.fill, Value.cells, List.size_toArray]
    have hn : ¬ (v.length ≠ s ∨ i * s + v.length > (pre ++ post).length) := by rw [List.length_append]; omega
    simp only [ne_eq, Bool.or_eq_true, decide_eq_true_eq]
    rw [if_neg (by simpa using hn)]
    have hz : v.toArray.zipIdx.foldl (fun cs (x : Value × Nat) => cs.setIfInBounds (i * s + x.2) x.1) (pre ++ post).toArray = ((pre ++ v) ++ post.drop s).toArray := by
      rw [← Array.foldl_toList, Array.toList_zipIdx]
      rw [hv] at hf
      exact hf
    rw [hz]
    simpa using ih
section
variable {P : Program} {n : Nat} {σ : Sig} {w w0 : World} {x y : Operand} {t e ty T : TypeId} {s bs : Nat} {R : Act → World → Prop} {ops : Array Oper} {rest : List Oper} {k : List KI} {pos : String} {after : Array Edge} {g : Option (Nat × Bool)} {d fuel : Nat} {S : World → Prop} {listed : Array Bool}
theorem EX.buildSliceG {z : Value} {parts : Array (Nat × Operand)} (len : Nat) (vss : List (List Value)) (ht : P.underlying t = some (.slice e)) (hi : TI P e z s bs) (hzs : z.cells.size = s) (hs0 : 0 < s)
    (hv : evs σ (parts.toList.map (·.2)) = some (vss.map fun v => Value.agg v.toArray)) (hp : parts.toList.map (·.1) = List.range' 0 parts.toList.length) (hl : vss.length = len) (h1 : ∀ v ∈ vss, v.length = s) (hlen : len * s ≤ 16777216) :
    EX P n σ (.buildSlice t len parts) ty w (.slice (some ⟨w.heap.size, 0, none⟩) len len) (w.alloc (.cells vss.flatten.toArray e)) := fun A ha dst pos after g => by
  have hpv : (parts.map fun (p : Nat × Operand) => (p.1, A.eval p.2)).toList = vss.zipIdx.map fun (v, j) => (j, Value.agg v.toArray) := by
    have h2 := ha.evs hv
    apply List.ext_getElem?
    intro j
    have e1 := congrArg (·[j]?) h2
    have e2 := congrArg (·[j]?) hp
    simp only [List.getElem?_map] at e1 e2
    simp only [Array.toList_map, List.getElem?_map, List.getElem?_zipIdx]
    have hlp : parts.toList.length = vss.length := by
      have := congrArg List.length h2
      simpa using this
    by_cases hj : j < vss.length
    · rw [List.getElem?_eq_getElem (by omega : j < parts.toList.length)] at e1 e2 ⊢
      rw [List.getElem?_eq_getElem hj] at e1 ⊢
      simp only [Option.map_some, Option.some.injEq] at e1 e2 ⊢
      rw [List.getElem?_range' (by omega)] at e2
      simp only [Option.some.injEq] at e2
      rw [e1, e2]
      simp
    · rw [List.getElem?_eq_none (by omega : parts.toList.length ≤ j), List.getElem?_eq_none (by omega : vss.length ≤ j)]
      rfl
  have hn : ¬ (len * s > 2 ^ 24) := by omega
  generalize hzz : ((Array.range (len * s)).map fun j => z.cells[j % z.cells.size]!) = zz
  have hzl : zz.size = len * s := by rw [← hzz]; simp
  obtain ⟨zl⟩ := zz
  have hf := fill_agg s vss 0 [] zl (by simp) h1 (by rw [hl]; simpa using hzl)
  simp only [List.nil_append] at hf
  simp only [execOp, Sem.run_bind]
  have hb : (Instr.buildSlice t len (parts.map fun (p : Nat × Operand) => (p.1, A.eval p.2))).run P w = .ok (.slice (some ⟨w.heap.size, 0, none⟩) len len) (w.alloc (.cells vss.flatten.toArray e)) := by
    simp only [Instr.buildSlice, Sem.run_bind, run_underlying ht, run_sizeOf hi, Result.andThen_ok, if_neg hn, hpv, Sem.run_pure]
    by_cases h0 : len * s = 0
    · have hlen0 : len = 0 := by
        rcases Nat.mul_eq_zero.1 h0 with h | h
        · exact h
        · omega
      subst hlen0
      have hv0 : vss = [] := List.eq_nil_of_length_eq_zero hl
      subst hv0
      simp [Instr.fill, newRow, newObj, Sem.run_bind, Sem.run, Array.range_zero']
    · rw [if_neg h0]
      simp only [Sem.run_bind, run_zeroValue hi, Result.andThen_ok, Sem.run_pure, hzz, hf]
      simp [newRow, newObj, Sem.run_bind, Sem.run]
  rw [show (parts.map fun (x : Nat × Operand) => match x with | (i, x) => (i, A.eval x)) = (parts.map fun (x : Nat × Operand) => (x.1, A.eval x.2)) from rfl, hb]
  rfl
theorem OW.buildG {z : Value} {parts : Array (Nat × Operand)} (len : Nat) (vss : List (List Value)) (hg : wantS ops σ g = some true) (hd : Nat.blt d n = true) (ht : P.underlying T = some (.slice e)) (hi : TI P e z s bs) (hzs : z.cells.size = s) (hs0 : 0 < s)
    (hv : evs σ (parts.toList.map (·.2)) = some (vss.map fun v => Value.agg v.toArray)) (hp : parts.toList.map (·.1) = List.range' 0 parts.toList.length) (hl : vss.length = len) (h1 : ∀ v ∈ vss, v.length = s) (hlen : len * s ≤ 16777216)
    (h : ∀ b w', w.heap.size ≤ b → Bk w' b e vss.flatten → Ext w w' → OW P R ops rest k n ((d, .slice (some ⟨b, 0, none⟩) len len) :: σ) w') : OW P R ops (⟨some d, .buildSlice T len parts, ty, pos, after, g⟩ :: rest) k n σ w :=
  OW.val hg hd (EX.buildSliceG len vss ht hi hzs hs0 hv hp hl h1 hlen) (h _ _ (Nat.le_refl _) (Bk.new w e _) (Ext.alloc w _))
theorem GW.buildG (i : Nat) {z : Value} {parts : Array (Nat × Operand)} (len : Nat) (vss : List (List Value)) (hi' : ops[i]? = some ⟨some d, .buildSlice T len parts, ty, pos, after, g⟩) (hr : Region.ready .any ops listed = [i]) (hg : wantS ops σ g = some true) (hd : Nat.blt d n = true) (ht : P.underlying T = some (.slice e)) (hi : TI P e z s bs) (hzs : z.cells.size = s) (hs0 : 0 < s)
    (hv : evs σ (parts.toList.map (·.2)) = some (vss.map fun v => Value.agg v.toArray)) (hp : parts.toList.map (·.1) = List.range' 0 parts.toList.length) (hl : vss.length = len) (h1 : ∀ v ∈ vss, v.length = s) (hlen : len * s ≤ 16777216)
    (h : ∀ b w', w.heap.size ≤ b → Bk w' b e vss.flatten → Ext w w' → S w' ∧ (S w' → GW P R ops S fuel (listed.setIfInBounds i true) k n ((d, .slice (some ⟨b, 0, none⟩) len len) :: σ) w')) : GW P R ops S (fuel + 1) listed k n σ w :=
  GW.new i hi' hr hg hd (EX.buildSliceG len vss ht hi hzs hs0 hv hp hl h1 hlen) (h _ _ (Nat.le_refl _) (Bk.new w e _) (Ext.alloc w _))
theorem GO.buildG (i : Nat) {z : Value} {parts : Array (Nat × Operand)} (len : Nat) (vss : List (List Value)) (hi' : ops[i]? = some ⟨some d, .buildSlice T len parts, ty, pos, after, g⟩) (hg : wantS ops σ g = some true) (hd : Nat.blt d n = true) (ht : P.underlying T = some (.slice e)) (hi : TI P e z s bs) (hzs : z.cells.size = s) (hs0 : 0 < s)
    (hv : evs σ (parts.toList.map (·.2)) = some (vss.map fun v => Value.agg v.toArray)) (hp : parts.toList.map (·.1) = List.range' 0 parts.toList.length) (hl : vss.length = len) (h1 : ∀ v ∈ vss, v.length = s) (hlen : len * s ≤ 16777216)
    (h : ∀ b w', w.heap.size ≤ b → Bk w' b e vss.flatten → Ext w w' → S w' ∧ (S w' → GW P R ops S fuel (listed.setIfInBounds i true) k n ((d, .slice (some ⟨b, 0, none⟩) len len) :: σ) w')) : GO P R ops S fuel listed k n σ w i :=
  GO.new i hi' hg hd (EX.buildSliceG len vss ht hi hzs hs0 hv hp hl h1 hlen) (h _ _ (Nat.le_refl _) (Bk.new w e _) (Ext.alloc w _))
end
section
variable {P : Program} {fn : Func} {Q : Value → World → Prop} {n : Nat} {σ : Sig} {w : World}
theorem retC1 {t : Nat} {T T' : TypeId} {b s bs : Nat} {z : Value} {d : TypeDesc} {l : List Value} (hs : fn.results = #[.cell t T]) (hu : P.underlying T = some d) (hd : flat d = false) (hi : TI P T z s bs) (hv : lk σ t = some (.pointer (some ⟨b, 0, none⟩)))
    (hb : Bk w b T' l) (hl : l.length = s) (hq : Q (.agg l.toArray) w) : ∀ a, Fr n σ a → bodyPost P fn (fun e w' => ∃ v, e = .returned v ∧ Q v w') .ret a w :=
  ret_of (fun a ha => by
    have h := EX.loadBk (P := P) (n := n) (σ := σ) (x := .tmp t) (ty := 0) hu hd hi hv hb hl a ha none "" #[] none
    have h1 : (loadVar T ⟨b, 0, none⟩).run P w = .ok (.agg l.toArray) w := by
      have et : a.eval (.tmp t) = .pointer (some ⟨b, 0, none⟩) := ha.ev (x := .tmp t) hv
      simp only [execOp, et, Instr.loadAt, Instr.sureAddr, Sem.run_bind, Sem.run_pure, Result.andThen_ok] at h
      cases hr : (loadVar T ⟨b, 0, none⟩).run P w with
      | ok v w' => rw [hr] at h; simpa using h
      | halt q w' => rw [hr] at h; simp at h
    have e1 := ha.val t _ hv
    simp only [results, hs]
    simp [Sem.run_bind, e1, asAddr, h1]) hq
end
end Go.Proofs.YthgfdpcpbghkpaaGreatDoor
/- The engine's laws for arrays of two within structs: they are built, and compared. No program is spoken of. -/
namespace Go.Proofs.YthgfdpcpbghkpaaGreatDoor
set_option linter.unnecessarySimpa false
open Go.RowKit
set_option linter.unusedSimpArgs false
set_option linter.unusedVariables false
section
variable {P : Program} {n : Nat} {σ : Sig} {w : World} {x y : Operand} {t e ty T T' : TypeId} {b o : Nat} {z v : Value} {s bs : Nat} {l : List Value}
theorem EX.buildA {m : Nat} {parts : Array (Nat × Operand)} {ks : List Nat} {vs zs : List Value} {s' bs' : Nat} {z' : Value} (hu : P.underlying t = some (.array m e)) (hi : TI P t (.agg zs.toArray) s bs) (he : TI P e z' s' bs')
    (hk : parts.toList.map (·.1) = ks) (hv : evs σ (parts.toList.map (·.2)) = some vs) (hf : Instr.fill (fun i => some (i * s', s')) zs.toArray (ks.zip vs) = some l.toArray) :
    EX P n σ (.build t parts) ty w (.agg l.toArray) w := fun A ha dst pos after g => by
  have hev := ha.evs hv
  have hpv : (parts.map fun (p : Nat × Operand) => (p.1, A.eval p.2)).toList = ks.zip vs := by
    rw [← hk, ← hev]
    simp only [Array.toList_map, List.map_map, List.zip_map']
    rfl
  simp only [execOp, Instr.build, Sem.run_bind, run_zeroValue hi, Result.andThen_ok, run_underlying hu, run_sizeOf he]
  rw [show (parts.map fun (x : Nat × Operand) => match x with | (i, x) => (i, A.eval x)).toList = ks.zip vs from hpv]
  rw [show ((Value.agg zs.toArray).cells) = zs.toArray from rfl, hf]
  rfl
theorem EX.buildA2 {zs : List Value} {bs' : Nat} {z' u0 u1 : Value} (hu : P.underlying t = some (.array 2 e)) (hi : TI P t (.agg zs.toArray) 2 bs) (he : TI P e z' 1 bs') (hz : zs.length = 2) (hx : ev σ x = some u0) (hy : ev σ y = some u1) (h0 : u0.oneCell' = true) (h1 : u1.oneCell' = true) :
    EX P n σ (.build t #[(0, x), (1, y)]) ty w (.agg [u0, u1].toArray) w := by
  match zs, hz with
  | [a, b], _ =>
    refine EX.buildA (ks := [0, 1]) (vs := [u0, u1]) hu hi he rfl (by simp [evs, hx, hy]) ?_
    simp [Instr.fill, oneCell_cells h0, oneCell_cells h1]
/-- a struct's cells where some parts are given -/
def fillL (pl : List (Nat × Nat)) : List Value → List (Nat × List Value) → List Value
  | zs, [] => zs
  | zs, (i, cs) :: r => fillL pl (zs.take (pl.getD i (0, 0)).1 ++ (cs ++ zs.drop ((pl.getD i (0, 0)).1 + cs.length))) r
def fitL (pl : List (Nat × Nat)) (n : Nat) : List (Nat × Nat) → Bool
  | [] => true
  | (i, c) :: r => Nat.blt i pl.length && (pl.getD i (0, 0)).2 == c && Nat.ble ((pl.getD i (0, 0)).1 + c) n && fitL pl n r
theorem fold_in (off : Nat) : ∀ (vs : List Value) (k : Nat) (zs : List Value), off + k + vs.length ≤ zs.length →
    (vs.zipIdx k).foldl (fun (cs : Array Value) (x : Value × Nat) => cs.setIfInBounds (off + x.2) x.1) zs.toArray = (zs.take (off + k) ++ (vs ++ zs.drop (off + k + vs.length))).toArray
  | [], k, zs, _ => by simp
  | v :: vs, k, zs, h => by
    have hlt : off + k < zs.length := by simp at h; omega
    have hset : zs.toArray.setIfInBounds (off + k) v = (zs.set (off + k) v).toArray := by simp
    simp only [List.zipIdx_cons, List.foldl_cons, hset]
    rw [fold_in off vs (k + 1) (zs.set (off + k) v) (by simp at h ⊢; omega)]
    congr 1
    have e1 : (zs.set (off + k) v).take (off + (k + 1)) = zs.take (off + k) ++ [v] := by
      rw [show off + (k + 1) = off + k + 1 by omega, List.take_add_one, List.getElem?_set_self hlt, List.take_set_of_le (by omega)]
      rfl
    have e2 : (zs.set (off + k) v).drop (off + (k + 1) + vs.length) = zs.drop (off + k + (v :: vs).length) := by
      rw [List.drop_set_of_lt (by omega)]
      congr 1
      simp; omega
    rw [e1, e2]
    simp
theorem fill_L {pl : List (Nat × Nat)} : ∀ (ks : List Nat) (vs : List Value) (css : List (List Value)) (zs : List Value), vs.map (fun v => v.cells.toList) = css → fitL pl zs.length (ks.zip (css.map List.length)) = true → ks.length = vs.length →
    Instr.fill (pl.toArray[·]?) zs.toArray (ks.zip vs) = some (fillL pl zs (ks.zip css)).toArray
  | [], [], css, zs, hc, _, _ => by subst hc; simp [Instr.fill, fillL]
  | k :: ks, v :: vs, css, zs, hc, hf, hl => by
    subst hc
    simp only [List.map_cons, List.zip_cons_cons, fitL, Bool.and_eq_true, beq_iff_eq, Nat.blt_eq, Nat.ble_eq] at hf
    obtain ⟨⟨⟨f1, f2⟩, f3⟩, f4⟩ := hf
    have hg : pl.toArray[k]? = some (pl.getD k (0, 0)) := by simp [List.getD_eq_getElem?_getD, f1]
    simp only [List.zip_cons_cons, List.map_cons, Instr.fill, hg, fillL]
    generalize pl.getD k (0, 0) = q at f2 f3
    obtain ⟨off, size⟩ := q
    simp only at f2 f3
    have hcl : v.cells.toList.length = v.cells.size := by simp
    have hn : ¬ (v.cells.size ≠ size ∨ off + v.cells.size > zs.toArray.size) := by simp only [List.size_toArray]; omega
    simp only [ne_eq, Bool.or_eq_true, decide_eq_true_eq]
    rw [if_neg (by simpa using hn)]
    have hz : v.cells.zipIdx.foldl (fun cs (x : Value × Nat) => cs.setIfInBounds (off + x.2) x.1) zs.toArray = (zs.take off ++ (v.cells.toList ++ zs.drop (off + v.cells.toList.length))).toArray := by
      rw [← Array.foldl_toList, Array.toList_zipIdx]
      exact fold_in off v.cells.toList 0 zs (by omega)
    rw [hz]
    refine fill_L ks vs _ _ rfl ?_ (by simpa using hl)
    rw [← f4]
    congr 1
    simp
    omega
  | [], _ :: _, _, _, _, _, h => by simp at h
  | _ :: _, [], _, _, _, _, h => by simp at h
/-- a struct some of whose parts are structs or arrays: what it holds as a list -/
theorem EX.buildH {fs : Array Field} {parts : Array (Nat × Operand)} {pl : List (Nat × Nat)} {ks : List Nat} {vs zs : List Value} {css : List (List Value)} (hu : P.underlying t = some (.struct fs)) (hi : TI P t (.agg zs.toArray) s bs) (hp : places P fs.toList = some pl)
    (hk : parts.toList.map (·.1) = ks) (hv : evs σ (parts.toList.map (·.2)) = some vs) (hc : vs.map (fun v => v.cells.toList) = css) (hf : fitL pl zs.length (ks.zip (css.map List.length)) = true) (hn : ks.length = vs.length) (hl : fillL pl zs (ks.zip css) = l) :
    EX P n σ (.build t parts) ty w (.agg l.toArray) w :=
  EX.buildG hu hi hp hk hv (by rw [fill_L ks vs css zs hc hf hn, hl])
theorem run_eq_arr2 {a0 a1 b0 b1 : Value} {q0 q1 : Bool} {d : TypeDesc} (ht : P.underlying t = some (.array 2 e)) (he : P.underlying e = some d) (hf : flat d = true) (hi : TI P e z 1 bs)
    (h0 : ∀ k, (Op.equalIn (k + 1) e a0 b0).run P w = .ok q0 w) (h1 : ∀ k, (Op.equalIn (k + 1) e a1 b1).run P w = .ok q1 w) (k : Nat) : (Op.equalIn (k + 1 + 1) t (.agg #[a0, a1]) (.agg #[b0, b1])).run P w = .ok (q0 && q1) w := by
  have hr : List.range' 0 2 = [0, 1] := rfl
  rw [Op.equalIn]
  simp only [Sem.run_bind, run_underlying ht, Result.andThen_ok, run_sizeOf hi]
  cases q0 <;> cases q1 <;> simp [Std.Legacy.Range.forIn_eq_forIn_range', Std.Legacy.Range.size, hr, part, run_isAgg he, hf, h0 k, h1 k, Sem.run_bind]
/-- fields that are alike or not, whatever they hold -/
inductive FE (P : Program) (w : World) (xs ys : List Value) : List Field → List Bool → Prop
  | nil : FE P w xs ys [] []
  | cons {f : Field} {fs : List Field} {q : Bool} {qs : List Bool} {u v : Value} (hn : f.name ≠ "_") (hx : (part f.type xs.toArray f.offset).run P w = .ok u w) (hy : (part f.type ys.toArray f.offset).run P w = .ok v w)
      (he : ∀ k, (Op.equalIn (k + 1 + 1 + 1) f.type u v).run P w = .ok q w) (hr : FE P w xs ys fs qs) : FE P w xs ys (f :: fs) (q :: qs)
theorem FE.run {xs ys : List Value} (k : Nat) : ∀ {fs : List Field} {qs : List Bool}, FE P w xs ys fs qs → (Op.eqFields (k + 1 + 1 + 1) xs.toArray ys.toArray fs).run P w = .ok (qs.all id) w
  | _, _, .nil => by simp [Op.eqFields]
  | f :: fs, q :: qs, .cons (u := u) (v := v) hn h1 h2 he hr => by
    have ih := FE.run k hr
    simp only [Op.eqFields]
    rw [if_pos hn]
    simp only [Sem.run_bind, h1, h2, he k, Result.andThen_ok]
    cases q
    · simp
    · simpa using ih
theorem FE.one {f : Field} {fs : List Field} {q : Bool} {qs : List Bool} {xs ys : List Value} {u v : Value} {d : TypeDesc} (hn : f.name ≠ "_") (hd : P.underlying f.type = some d) (hfl : flat d = true) (hx : xs[f.offset]? = some u) (hy : ys[f.offset]? = some v)
    (he : ∀ k, (Op.equalIn (k + 1) f.type u v).run P w = .ok q w) (hr : FE P w xs ys fs qs) : FE P w xs ys (f :: fs) (q :: qs) :=
  .cons hn (by simp [part, Sem.run_bind, run_isAgg hd, hfl, hx]) (by simp [part, Sem.run_bind, run_isAgg hd, hfl, hy]) (fun k => he (k + 1 + 1)) hr
theorem FE.two {f : Field} {fs : List Field} {q0 q1 : Bool} {qs : List Bool} {xs ys : List Value} {a0 a1 b0 b1 : Value} {d : TypeDesc} {bs' : Nat} {z' : Value} (hn : f.name ≠ "_") (hd : P.underlying f.type = some (.array 2 e)) (ht : TI P f.type z' 2 bs') (he : P.underlying e = some d) (hf : flat d = true) (hi : TI P e z 1 bs)
    (hx : (xs.drop f.offset).take 2 = [a0, a1]) (hy : (ys.drop f.offset).take 2 = [b0, b1])
    (h0 : ∀ k, (Op.equalIn (k + 1) e a0 b0).run P w = .ok q0 w) (h1 : ∀ k, (Op.equalIn (k + 1) e a1 b1).run P w = .ok q1 w) (hr : FE P w xs ys fs qs) : FE P w xs ys (f :: fs) ((q0 && q1) :: qs) :=
  .cons hn (by simp [part, Sem.run_bind, run_isAgg hd, flat, run_sizeOf ht, hx]) (by simp [part, Sem.run_bind, run_isAgg hd, flat, run_sizeOf ht, hy]) (fun k => run_eq_arr2 hd he hf hi h0 h1 (k + 1)) hr
theorem FE.str {f : Field} {fs : List Field} {fs' : Array Field} {qs qs' : List Bool} {xs ys us vs : List Value} {m bs' : Nat} {z' : Value} (hn : f.name ≠ "_") (hd : P.underlying f.type = some (.struct fs')) (hp : P.stoodInHeld f.type = false) (ht : TI P f.type z' m bs')
    (hx : (xs.drop f.offset).take m = us) (hy : (ys.drop f.offset).take m = vs) (h : FEqs P w us vs fs'.toList qs') (hr : FE P w xs ys fs qs) : FE P w xs ys (f :: fs) ((qs'.all id) :: qs) := by
  have hf : P.fieldsOf f.type = fs' := by unfold Program.fieldsOf; rw [hd]
  refine .cons (u := .agg us.toArray) (v := .agg vs.toArray) hn (by simp [part, Sem.run_bind, run_isAgg hd, flat, run_sizeOf ht, hx]) (by simp [part, Sem.run_bind, run_isAgg hd, flat, run_sizeOf ht, hy]) (fun k => ?_) hr
  rw [run_equalIn_agg w _ f.type _ _ (by rw [hf]; exact hd) hp, hf, h.run]
theorem EX.eqlV {fs : Array Field} {xs ys : List Value} {qs : List Bool} {r : Bool} (hu : P.underlying t = some (.struct fs)) (hp : P.stoodInHeld t = false) (hm : P.eqGuardType P.depth t = false) (hx : ev σ x = some (.agg xs.toArray)) (hy : ev σ y = some (.agg ys.toArray))
    (h : FE P w xs ys fs.toList qs) (hr : qs.all id = r) : EX P n σ (.binOp .eql t x y T) ty w (.bool r) w := by
  subst hr
  have hf : P.fieldsOf t = fs := by unfold Program.fieldsOf; rw [hu]
  refine EX.bin hx hy (run_eqGuard_agg w _ t x y _ _ hm) ?_
  rw [run_eql_struct, show (10000 : Nat) = 9996 + 1 + 1 + 1 + 1 from rfl, run_equalIn_agg w _ t _ _ (by rw [hf]; exact hu) hp, hf, h.run]
  rfl
theorem EX.neqV {fs : Array Field} {xs ys : List Value} {qs : List Bool} {r : Bool} (hu : P.underlying t = some (.struct fs)) (hp : P.stoodInHeld t = false) (hm : P.eqGuardType P.depth t = false) (hx : ev σ x = some (.agg xs.toArray)) (hy : ev σ y = some (.agg ys.toArray))
    (h : FE P w xs ys fs.toList qs) (hr : (!qs.all id) = r) : EX P n σ (.binOp .neq t x y T) ty w (.bool r) w := by
  subst hr
  have hf : P.fieldsOf t = fs := by unfold Program.fieldsOf; rw [hu]
  refine EX.bin hx hy (run_eqGuard_agg w _ t x y _ _ hm) ?_
  rw [run_neq_struct, show (10000 : Nat) = 9996 + 1 + 1 + 1 + 1 from rfl, run_equalIn_agg w _ t _ _ (by rw [hf]; exact hu) hp, hf, h.run]
  rfl
end
section
variable {P : Program} {R : Act → World → Prop} {k : List KI} {n : Nat} {σ : Sig} {w : World}
theorem pst_goto {l : Nat} : ∀ (k : List KI) (a : Act) (w : World), pst P R k (.goto l) a w → False
  | [], _, _, h => h
  | .code _ :: k, a, w, h => pst_goto k a w h
  | .blk _ :: k, a, w, h => pst_goto k a w h
  | .asr _ :: k, a, w, h => pst_goto k a w h
/-- a scope through which no jump goes -/
theorem KW.scope {c : Code} (h : KW P R (.code c :: k) n σ w) : KW P R (.code (.scope c) :: k) n σ w := fun a ha => by
  refine wp_scope_straight ?_
  intro b k' cs
  obtain ⟨e, a₁, w₁, hq, harr⟩ := h a ha b k' cs
  refine ⟨e, a₁, w₁, ?_, harr⟩
  cases e with
  | goto l => exact pst_goto k _ _ hq
  | normal => exact hq
  | exit id => exact hq
  | ret => exact hq
  | panic ch => exact hq
  | outgrown => exact hq
end
end Go.Proofs.YthgfdpcpbghkpaaGreatDoor
/- Appends of one element onto a slice, where more than new blocks was changed ahead: what is changed is named. -/
namespace Go.Proofs.YthgfdpcpbghkpaaGreatDoor
set_option linter.unnecessarySimpa false
open Go.RowKit
set_option linter.unusedVariables false
set_option linter.unusedSimpArgs false
section
variable {P : Program} {R : Act → World → Prop} {ops : Array Oper} {rest : List Oper} {k : List KI} {n : Nat} {σ : Sig} {w : World} {x y : Operand} {t e ty ty1 : TypeId} {pos pos1 : String} {after after1 : Array Edge} {gd gd1 : Option (Nat × Bool)} {d d1 : Nat} {s bs B : Nat}
theorem EX.remZ {k : IntKind} {a b : Int} {t' : TypeId} (hx : ev σ x = some (.int k a)) (hy : ev σ y = some (.int k b)) (h : b ≠ 0) : EX P n σ (.binOp .rem t x y t') ty w (.int k (a.tmod b)) w :=
  EX.binI hx hy (by
    unfold binOp
    simp only [ne_eq, not_true_eq_false, if_false, Op.intDiv, if_neg h]
    rfl)
theorem Mo.append {w w1 w' : World} {row : Option Nat} (hx : Ext w w1) (h : w1.grownBy w' row) : Mo w w' row.toList :=
  (Mo.of_ext hx _).trans (Mo.grown h fun k e => by rw [e]; simp)
/-- changes to blocks that were not there at the beginning need no name -/
theorem Tm.fresh {w w1 w2 : World} {B : Nat} {p : TypeId → Bool} {S : List Nat} (h : Tm w w1 B p) (hm : Mo w1 w2 S) (hS : ∀ k ∈ S, w.heap.size ≤ k) : Tm w w2 B p := by
  obtain ⟨S0, h0, hp⟩ := h
  refine ⟨S0, Mo.fresh (S := S0 ++ S) ((h0.mono (by simp; exact fun k hk => .inl hk)).trans (hm.mono (by simp; exact fun k hk => .inr hk))) ?_, hp⟩
  intro k hk hlt
  rcases List.mem_append.1 hk with q | q
  · exact q
  · have := hS k q
    omega
theorem OW.pushSB (B : Nat) {z : Value} (hg1 : wantS ops σ gd1 = some true) (hd1 : Nat.blt d1 n = true) (hg : ∀ u, wantS ops ((d1, u) :: σ) gd = some true) (hd : Nat.blt d n = true) (ht : P.underlying t = some (.slice e)) (hi : TI P e z s bs) (hzs : z.cells.size = s) (hs0 : 0 < s) (hs : s ≤ 16777216)
    {v : Value} {vs : List Value} {l : Nat} {xs : List Value} (hy : ev σ y = some (.agg vs.toArray)) (hl : vs.length = s) (hx : ∀ q, ev ((d1, q) :: σ) x = some v) (hu : vs.all (·.oneCell') = true) (hB : B ≤ w.heap.size) (hown : Own w B e s v l xs)
    (h63 : l + 1 ≤ maxLen) (hbytes : (l + 1) * bs ≤ 140737488355328)
    (h : ∀ q v' w', Own w' B e s v' (l + 1) (xs ++ vs) → Mo w w' v.ownBlock.toList → (v'.ownBlock = v.ownBlock ∨ ∃ g, v'.ownBlock = some g ∧ w.heap.size ≤ g) → OW P R ops rest k n ((d, v') :: (d1, q) :: σ) w') :
    OW P R ops (⟨some d1, .buildSlice t 1 #[(0, y)], ty1, pos1, after1, gd1⟩ :: ⟨some d, .call { callee := .builtin .append, args := #[x, .tmp d1], argTypes := #[t, t] }, ty, pos, after, gd⟩ :: rest) k n σ w := by
  refine OW.val hg1 hd1 (EX.buildSlice1 ht hi hzs hs0 hs hy hl) ?_
  have hx1 : Ext w (w.alloc (.cells vs.toArray e)) := Ext.alloc w _
  have hb := Bk.new w e vs
  refine OW.append B (hg _) hd ht hi hzs hs0 (hx _) (lk_cons_same _ _ _) (hown.alloc _) (Src.of_sl ht (Sl.of_bk hb hb.lt) (by omega) (fun u hm => List.all_eq_true.1 hu u hm) hs0) h63 hbytes (Nat.le_trans hB hx1.size) ?_
  intro v' w' h1 h2 h3
  exact h _ v' w' h1 (Mo.append hx1 h2) (h3.imp id fun e => ⟨_, e, hx1.size⟩)
theorem OW.pushB (B : Nat) {z : Value} (hg1 : wantS ops σ gd1 = some true) (hd1 : Nat.blt d1 n = true) (hg : ∀ u, wantS ops ((d1, u) :: σ) gd = some true) (hd : Nat.blt d n = true) (ht : P.underlying t = some (.slice e)) (hi : TI P e z 1 bs) (hz1 : z.oneCell' = true)
    {v u : Value} {l : Nat} {xs : List Value} (hy : ev σ y = some u) (hx : ∀ q, ev ((d1, q) :: σ) x = some v) (hu : u.oneCell' = true) (hB : B ≤ w.heap.size) (hown : Own w B e 1 v l xs)
    (h63 : l + 1 ≤ maxLen) (hbytes : (l + 1) * bs ≤ 140737488355328)
    (h : ∀ q v' w', Own w' B e 1 v' (l + 1) (xs ++ [u]) → Mo w w' v.ownBlock.toList → (v'.ownBlock = v.ownBlock ∨ ∃ g, v'.ownBlock = some g ∧ w.heap.size ≤ g) → OW P R ops rest k n ((d, v') :: (d1, q) :: σ) w') :
    OW P R ops (⟨some d1, .buildSlice t 1 #[(0, y)], ty1, pos1, after1, gd1⟩ :: ⟨some d, .call { callee := .builtin .append, args := #[x, .tmp d1], argTypes := #[t, t] }, ty, pos, after, gd⟩ :: rest) k n σ w := by
  refine OW.val hg1 hd1 (EX.buildSlice (vs := [u]) 1 ht hi hz1 (by simp [evs, hy]) rfl rfl (by simp [hu]) (by decide)) ?_
  have hx1 : Ext w (w.alloc (.cells [u].toArray e)) := Ext.alloc w _
  have hb := Bk.new w e [u]
  refine OW.append B (hg _) hd ht hi (by rw [oneCell_cells hz1]; rfl) (by decide) (hx _) (lk_cons_same _ _ _) (hown.alloc _) (Src.of_sl ht (Sl.of_bk hb hb.lt) rfl (by simpa using hu) (by decide)) h63 hbytes (Nat.le_trans hB hx1.size) ?_
  intro v' w' h1 h2 h3
  exact h _ v' w' h1 (Mo.append hx1 h2) (h3.imp id fun e => ⟨_, e, hx1.size⟩)
end
section
variable {P : Program} {R : Act → World → Prop} {ops : Array Oper} {S : World → Prop} {fuel : Nat} {listed : Array Bool} {k : List KI} {n : Nat} {σ : Sig} {w : World} {x y : Operand} {t t' e ty : TypeId} {pos : String} {after : Array Edge} {gd : Option (Nat × Bool)} {d : Nat}
/-- append in a drawn region that holds calls or stores -/
theorem GW.append (i B : Nat) {z : Value} {s bs : Nat} (hi' : ops[i]? = some ⟨some d, .call { callee := .builtin .append, args := #[x, y], argTypes := #[t, t'] }, ty, pos, after, gd⟩) (hr : Region.ready .any ops listed = [i])
    (hg : wantS ops σ gd = some true) (hd : Nat.blt d n = true) (ht : P.underlying t = some (.slice e)) (hi : TI P e z s bs) (hzs : z.cells.size = s) (hs0 : 0 < s)
    {v xv : Value} {m l : Nat} {xs news : List Value} (hx : ev σ x = some v) (hy : ev σ y = some xv) (hown : Own w B e s v l xs) (hsrc : Src P s t' xv m news w)
    (h63 : l + m ≤ maxLen) (hbytes : (l + m) * bs ≤ 140737488355328) (hB : B ≤ w.heap.size)
    (h : ∀ v' w', Own w' B e s v' (l + m) (xs ++ news) → w.grownBy w' v.ownBlock → (v'.ownBlock = v.ownBlock ∨ v'.ownBlock = some w.heap.size) → S w' ∧ (S w' → GW P R ops S fuel (listed.setIfInBounds i true) k n ((d, v') :: σ) w')) : GW P R ops S (fuel + 1) listed k n σ w := by
  obtain ⟨v', w', hrun, h2, h3, h4⟩ := run_append (P := P) B t t' ty e ht hi hzs hs0 hown hsrc h63 hbytes hB
  refine GW.new i hi' hr hg hd (v := v') (w' := w') ?_ (h v' w' h2 h3 h4)
  intro A ha dst pos after g
  simp only [execOp, resolve, invoke, builtin, Sem.run_bind, Sem.run_pure, Result.andThen_ok, List.map_toArray, List.map_cons, List.map_nil, ha.ev hx, ha.ev hy, hrun]
end
end Go.Proofs.YthgfdpcpbghkpaaGreatDoor
/- Maps that a call made, with texts as keys: made, stored into, deleted from, ranged over. No program is spoken of. -/
namespace Go.Proofs.YthgfdpcpbghkpaaGreatDoor
set_option linter.unnecessarySimpa false
open Go.RowKit Go.MapKept
open Go.ChangeMaps (setBlock)
set_option linter.unusedVariables false
set_option linter.unusedSimpArgs false
abbrev Ents := List (List UInt8 × Value)
/-- a map: its entries in the order in which they came -/
structure Mp (w : World) (b : Nat) (es : Array MapEntry) (c : Nat) (l : Ents) : Prop where
  blk : w.heap[b]? = some (.map es c)
  st : Stamped es c
  kv : es.toList.map (fun e => (e.key, e.val)) = l.map (fun p => (str p.1, p.2))
def putA {α : Type} (l : List (List UInt8 × α)) (s : List UInt8) (v : α) : List (List UInt8 × α) := if s ∈ l.map (·.1) then l.map (fun p => if p.1 = s then (s, v) else p) else l ++ [(s, v)]
def delA {α : Type} (l : List (List UInt8 × α)) (s : List UInt8) : List (List UInt8 × α) := l.filter (fun p => decide (p.1 ≠ s))
theorem str_inj {a b : List UInt8} (h : str a = str b) : a = b := by
  injection h with h
  injection h with h
  injection h
section
variable {w w' : World} {b c : Nat} {es : Array MapEntry} {l : Ents}
theorem Mp.lt (h : Mp w b es c l) : b < w.heap.size := by
  rcases Nat.lt_or_ge b w.heap.size with h' | h'
  · exact h'
  · have := h.blk
    simp [Array.getElem?_eq_none h'] at this
theorem Mp.of_block (h : Mp w b es c l) (hb : w'.heap[b]? = w.heap[b]?) : Mp w' b es c l := ⟨hb.trans h.blk, h.st, h.kv⟩
theorem Mp.ext (h : Mp w b es c l) (hx : Ext w w') : Mp w' b es c l := h.of_block (hx.block b h.lt)
theorem Mp.mo {S : List Nat} (h : Mp w b es c l) (hm : Mo w w' S) (hb : b ∉ S) : Mp w' b es c l := h.of_block (hm.block b h.lt hb)
theorem Mp.ne_bk {k : Nat} {T : TypeId} {xs : List Value} (h : Mp w b es c l) (hb : Bk w k T xs) : k ≠ b := by
  rintro rfl
  obtain ⟨fr, h1, _⟩ := hb
  rw [h.blk] at h1
  cases h1
theorem Mp.len (h : Mp w b es c l) : es.toList.length = l.length := by
  have := congrArg List.length h.kv
  simpa using this
theorem Mp.at {j : Nat} {e : MapEntry} (h : Mp w b es c l) (he : es.toList[j]? = some e) : ∃ p, l[j]? = some p ∧ e.key = str p.1 ∧ e.val = p.2 := by
  have h1 := congrArg (fun z => z[j]?) h.kv
  simp only [List.getElem?_map, he, Option.map_some] at h1
  obtain ⟨p, h2, h3⟩ := Option.map_eq_some_iff.1 h1.symm
  injection h3 with h4 h5
  exact ⟨p, h2, h4.symm, h5.symm⟩
theorem Mp.mem {e : MapEntry} (h : Mp w b es c l) (he : e ∈ es.toList) : ∃ p ∈ l, e.key = str p.1 ∧ e.val = p.2 := by
  obtain ⟨j, hj⟩ := List.mem_iff_getElem?.1 he
  obtain ⟨p, h1, h2⟩ := h.at hj
  exact ⟨p, List.mem_of_getElem? h1, h2⟩
theorem Mp.keys (h : Mp w b es c l) : (l.map (·.1)).Nodup := by
  have h1 : (es.toList.map (·.key)) = l.map (fun p => str p.1) := by
    have := congrArg (List.map Prod.fst) h.kv
    simpa [List.map_map, Function.comp_def] using this
  have h2 := h.st.2.2
  rw [h1] at h2
  have h3 : l.map (fun p => str p.1) = (l.map (·.1)).map str := by rw [List.map_map]; rfl
  rw [h3] at h2
  exact List.Pairwise.of_map str (fun a b hab e => hab (congrArg str e)) h2
theorem mo_setBlock (w : World) (b : Nat) (o : Obj) : Mo w (setBlock w b o) [b] := ⟨rfl, rfl, rfl, by simp [setBlock], fun k _ hk => by simp at hk; simp [setBlock, Array.getElem?_setIfInBounds_ne (Ne.symm hk)]⟩
theorem setBlock_at {o : Obj} (h : b < w.heap.size) : (setBlock w b o).heap[b]? = some o := by simp [setBlock, h]
theorem putA_at : ∀ {l : Ents} {j : Nat} {p : List UInt8 × Value} (v : Value), (l.map (·.1)).Nodup → l[j]? = some p → putA l p.1 v = l.set j (p.1, v)
  | l, j, p, v, hn, hj => by
    have hm : p.1 ∈ l.map (·.1) := List.mem_map.2 ⟨p, List.mem_of_getElem? hj, rfl⟩
    unfold putA
    rw [if_pos hm]
    apply List.ext_getElem?
    intro k
    rw [List.getElem?_map, List.getElem?_set]
    by_cases e : j = k
    · subst e
      have hl : j < l.length := (List.getElem?_eq_some_iff.1 hj).1
      rw [hj, if_pos rfl]
      simp [hl]
    · rw [if_neg e]
      cases hk : l[k]? with
      | none => rfl
      | some q =>
        have : q.1 ≠ p.1 := fun z => by
          have h1 : (l.map (·.1))[k]? = some p.1 := by rw [List.getElem?_map, hk, ← z]; rfl
          have h2 : (l.map (·.1))[j]? = some p.1 := by rw [List.getElem?_map, hj]; rfl
          obtain ⟨i1, g1⟩ := List.getElem?_eq_some_iff.1 h1
          obtain ⟨i2, g2⟩ := List.getElem?_eq_some_iff.1 h2
          exact e ((List.getElem_inj hn).1 (g2.trans g1.symm))
        simp [this]
theorem delA_at : ∀ {l : Ents} {j : Nat} {p : List UInt8 × Value}, (l.map (·.1)).Nodup → l[j]? = some p → delA l p.1 = l.eraseIdx j
  | q :: l, 0, p, hn, hj => by
    simp only [List.getElem?_cons_zero, Option.some.injEq] at hj
    subst hj
    simp only [List.map_cons, List.nodup_cons] at hn
    simp only [delA, List.eraseIdx_cons_zero, List.filter_cons, ne_eq, not_true_eq_false, decide_false, Bool.false_eq_true, if_false]
    refine List.filter_eq_self.2 fun r hr => ?_
    simp only [decide_eq_true_eq]
    exact fun z => hn.1 (z ▸ List.mem_map.2 ⟨r, hr, rfl⟩)
  | q :: l, j + 1, p, hn, hj => by
    simp only [List.getElem?_cons_succ] at hj
    simp only [List.map_cons, List.nodup_cons] at hn
    have hne : q.1 ≠ p.1 := fun z => hn.1 (z ▸ List.mem_map.2 ⟨p, List.mem_of_getElem? hj, rfl⟩)
    have ih := delA_at hn.2 hj
    simp only [delA] at ih ⊢
    rw [List.filter_cons, if_pos (by simpa using hne), ih, List.eraseIdx_cons_succ]
theorem mem_entries {l : Ents} {s : List UInt8} {es : Array MapEntry} (hkv : es.toList.map (fun e => (e.key, e.val)) = l.map (fun p => (str p.1, p.2))) (h : ∀ x ∈ es.toList, x.key ≠ str s) : s ∉ l.map (·.1) := fun hm => by
  obtain ⟨p, hp, rfl⟩ := List.mem_map.1 hm
  have : (str p.1, p.2) ∈ es.toList.map (fun e => (e.key, e.val)) := by rw [hkv]; exact List.mem_map.2 ⟨p, hp, rfl⟩
  obtain ⟨x, hx, e⟩ := List.mem_map.1 this
  injection e with e1 e2
  exact h x hx e1
theorem Mp.isKey (h : Mp w b es c l) : ∀ x ∈ es.toList, IsKey .string x.key := fun x hx => by
  obtain ⟨p, _, e, _⟩ := h.mem hx
  rw [e]
  trivial
variable {P : Program} {t k e : TypeId}
theorem run_put (ht : P.underlying t = some (.map k e)) (hk : P.underlying k = some .string) (h : Mp w b es c l) (s : List UInt8) (v : Value) :
    ∃ es' c', (Instr.mapUpdate t (.map (some b)) (str s) v).run P w = .ok () (setBlock w b (.map es' c')) ∧ Mp (setBlock w b (.map es' c')) b es' c' (putA l s v) := by
  have hkey : IsKey .string (str s) := trivial
  rcases findNow_spec hkey es.toList 0 h.isKey with ⟨h1, h2⟩ | ⟨j, e0, h1, h2, h3⟩
  · refine ⟨es.push ⟨str s, v, c⟩, c + 1, ?_, ⟨setBlock_at h.lt, stamped_push h.st h2, ?_⟩⟩
    · simp [Instr.mapUpdate, run_underlying ht, MapKept.run_getObj_map h.blk, run_checkKey hk hkey, run_findKey hk h1, MapKept.run_setObj_map _ h.blk, Result.andThen, setBlock]
    · unfold putA
      rw [if_neg (mem_entries h.kv h2), Array.toList_push, List.map_append, List.map_append, h.kv]
      rfl
  · have hj : es[j]? = some e0 := by simpa using h2
    obtain ⟨p, hp, hpk, hpv⟩ := h.at h2
    have es1 : str s = str p.1 := h3.symm.trans hpk
    obtain rfl := str_inj es1
    have hkeyf : ∀ e', es[j]? = some e' → ({ e' with key := str p.1, val := v } : MapEntry).key = e'.key := fun e' he' => by rw [hj] at he'; cases he'; exact h3.symm
    refine ⟨es.modify j (fun e' => { e' with key := str p.1, val := v }), c, ?_, ⟨setBlock_at h.lt, stamped_modify h.st _ _ (fun _ _ => rfl) (fun e' _ he' => hkeyf e' he'), ?_⟩⟩
    · simp [Instr.mapUpdate, run_underlying ht, MapKept.run_getObj_map h.blk, run_checkKey hk hkey, run_findKey hk h1, hj, h3, run_keyThatStays hkey, MapKept.run_setObj_map _ h.blk, Result.andThen, setBlock]
    · rw [putA_at v h.keys hp, Array.toList_modify, List.map_set, ← h.kv]
      apply List.ext_getElem?
      intro i
      rw [List.getElem?_set, List.getElem?_map, List.getElem?_modify, List.getElem?_map, List.length_map]
      by_cases q : j = i
      · subst q
        have hl : j < es.toList.length := (List.getElem?_eq_some_iff.1 h2).1
        rw [if_pos rfl, h2, if_pos (by simpa using hl)]
        simp
      · rw [if_neg q]
        simp [q]
theorem run_del {ty : TypeId} (ht : P.underlying t = some (.map k e)) (hk : P.underlying k = some .string) (h : Mp w b es c l) (s : List UInt8) :
    ∃ es', (Builtin.delete_ #[t, k] ty #[.map (some b), str s]).run P w = .ok (.tuple #[]) (setBlock w b (.map es' c)) ∧ Mp (setBlock w b (.map es' c)) b es' c (delA l s) := by
  have hkey : IsKey .string (str s) := trivial
  rcases findNow_spec hkey es.toList 0 h.isKey with ⟨h1, h2⟩ | ⟨j, e0, h1, h2, h3⟩
  · refine ⟨es, ?_, ⟨setBlock_at h.lt, h.st, ?_⟩⟩
    · simp [Builtin.delete_, run_underlying ht, MapKept.run_getObj_map h.blk, run_checkKey hk hkey, run_findKey hk h1, MapKept.run_setObj_map _ h.blk, Result.andThen, setBlock]
    · rw [h.kv]
      congr 1
      unfold delA
      refine (List.filter_eq_self.2 fun p hp => ?_).symm
      simp only [decide_eq_true_eq]
      exact fun z => mem_entries h.kv h2 (z ▸ List.mem_map.2 ⟨p, hp, rfl⟩)
  · have hjl : j < es.toList.length := (List.getElem?_eq_some_iff.1 h2).1
    have hjs : j < es.size := by simpa using hjl
    have hsub : (es.eraseIdxIfInBounds j).toList = es.toList.eraseIdx j := by
      unfold Array.eraseIdxIfInBounds
      rw [dif_pos hjs]
      simp
    obtain ⟨p, hp, hpk, hpv⟩ := h.at h2
    obtain rfl := str_inj (h3.symm.trans hpk)
    refine ⟨es.eraseIdxIfInBounds j, ?_, ⟨setBlock_at h.lt, stamped_erase h.st j, ?_⟩⟩
    · simp [Builtin.delete_, run_underlying ht, MapKept.run_getObj_map h.blk, run_checkKey hk hkey, run_findKey hk h1, MapKept.run_setObj_map _ h.blk, Result.andThen, setBlock]
    · rw [delA_at h.keys hp, hsub, ChangeMaps.map_eraseIdx, h.kv, ← ChangeMaps.map_eraseIdx]
end
/-! ### Steps -/
/-- an iterator over a map -/
def It (w : World) (r b since : Nat) (seen : Array Nat) (c : Nat) : Prop := w.heap[r]? = some (.mapIter (some b) since seen c)
section
variable {P : Program} {R : Act → World → Prop} {ops : Array Oper} {rest : List Oper} {k : List KI} {n : Nat} {σ : Sig} {w : World} {x y z : Operand} {t e kt ty : TypeId} {pos : String} {after : Array Edge} {gd : Option (Nat × Bool)} {d : Nat}
theorem OW.makeMap (hg : wantS ops σ gd = some true) (hd : Nat.blt d n = true)
    (h : ∀ b w', w.heap.size ≤ b → Mp w' b #[] 0 [] → Ext w w' → OW P R ops rest k n ((d, .map (some b)) :: σ) w') :
    OW P R ops (⟨some d, .makeMap t none, ty, pos, after, gd⟩ :: rest) k n σ w := by
  refine OW.val hg hd (v := .map (some w.heap.size)) (w' := w.alloc (.map #[] 0)) ?_ (h _ _ (Nat.le_refl _) ⟨heap_alloc_new w _, ⟨by simp, by simp, by simp⟩, rfl⟩ (Ext.alloc w _))
  intro a ha dst pos after g
  simp only [execOp, Option.map_none, run_makeMap, Sem.run_bind, Result.andThen_ok, Sem.run_pure]
theorem EU.put {b c : Nat} {es es' : Array MapEntry} {c' : Nat} {v : Value} {s : List UInt8} (hx : ev σ x = some (.map (some b))) (hy : ev σ y = some (str s)) (hz : ev σ z = some v)
    (h : (Instr.mapUpdate t (.map (some b)) (str s) v).run P w = .ok () (setBlock w b (.map es' c'))) : EU P n σ (.mapUpdate t x y z) ty w (setBlock w b (.map es' c')) := by
  intro a ha dst pos after g
  simp only [execOp, ha.ev hx, ha.ev hy, ha.ev hz, h, Sem.run_bind, Result.andThen_ok, Sem.run_pure]
theorem OW.put {b c : Nat} {es : Array MapEntry} {l : Ents} {v : Value} {s : List UInt8} (hg : wantS ops σ gd = some true) (ht : P.underlying t = some (.map kt e)) (hk : P.underlying kt = some .string) (hx : ev σ x = some (.map (some b))) (hy : ev σ y = some (str s)) (hz : ev σ z = some v) (hm : Mp w b es c l)
    (h : ∀ es' c' w', Mp w' b es' c' (putA l s v) → Mo w w' [b] → OW P R ops rest k n σ w') :
    OW P R ops (⟨none, .mapUpdate t x y z, ty, pos, after, gd⟩ :: rest) k n σ w := by
  obtain ⟨es', c', h1, h2⟩ := run_put ht hk hm s v
  exact OW.eff hg (EU.put (c := c) (es := es) hx hy hz h1) (h es' c' _ h2 (mo_setBlock w b _))
theorem OW.del {b c : Nat} {es : Array MapEntry} {l : Ents} {s : List UInt8} (hg : wantS ops σ gd = some true) (hd : Nat.blt d n = true) (ht : P.underlying t = some (.map kt e)) (hk : P.underlying kt = some .string) (hx : ev σ x = some (.map (some b))) (hy : ev σ y = some (str s)) (hm : Mp w b es c l)
    (h : ∀ es' c' w', Mp w' b es' c' (delA l s) → Mo w w' [b] → OW P R ops rest k n ((d, .tuple #[]) :: σ) w') :
    OW P R ops (⟨some d, .call { callee := .builtin .delete, args := #[x, y], argTypes := #[t, kt] }, ty, pos, after, gd⟩ :: rest) k n σ w := by
  obtain ⟨es', h1, h2⟩ := run_del (ty := ty) ht hk hm s
  refine OW.val hg hd (v := .tuple #[]) (w' := setBlock w b (.map es' c)) ?_ (h es' c _ h2 (mo_setBlock w b _))
  intro a ha dst pos after g
  simp only [execOp, resolve, invoke, builtin, Sem.run_bind, Sem.run_pure, Result.andThen_ok, List.map_toArray, List.map_cons, List.map_nil, ha.ev hx, ha.ev hy, h1]
theorem OW.range {b c : Nat} {es : Array MapEntry} {l : Ents} (hg : wantS ops σ gd = some true) (hd : Nat.blt d n = true) (ht : P.underlying t = some (.map kt e)) (hx : ev σ x = some (.map (some b))) (hm : Mp w b es c l)
    (h : ∀ r w', w.heap.size ≤ r → It w' r b c #[] c → Ext w w' → OW P R ops rest k n ((d, .pointer (some ⟨r, 0, none⟩)) :: σ) w') :
    OW P R ops (⟨some d, .range t x, ty, pos, after, gd⟩ :: rest) k n σ w := by
  refine OW.val hg hd (v := .pointer (some ⟨w.heap.size, 0, none⟩)) (w' := w.alloc (.mapIter (some b) c #[] c)) ?_ (h _ _ (Nat.le_refl _) (heap_alloc_new w _) (Ext.alloc w _))
  intro a ha dst pos after g
  simp [execOp, Instr.range, ha.ev hx, run_underlying ht, MapKept.run_getObj_map hm.blk, run_newObj_alloc, Sem.run_bind, Result.andThen_ok, Sem.run_pure]
theorem OW.next {r b c : Nat} {es : Array MapEntry} {l : Ents} {seen : Array Nat} (hg : wantS ops σ gd = some true) (hd : Nat.blt d n = true) (hx : ev σ x = some (.pointer (some ⟨r, 0, none⟩))) (hm : Mp w b es c l) (hi : It w r b c seen c)
    (h0 : (∀ e ∈ es.toList, e.born ∈ seen) → OW P R ops rest k n ((d, .tuple #[.bool false]) :: σ) w)
    (h1 : ∀ (e : MapEntry) w', e ∈ es.toList → e.born ∉ seen → It w' r b c (seen.push e.born) c → Mo w w' [r] → OW P R ops rest k n ((d, .tuple #[.bool true, e.key, e.val]) :: σ) w') :
    OW P R ops (⟨some d, .next x false, ty, pos, after, gd⟩ :: rest) k n σ w := by
  have hr : r < w.heap.size := by
    rcases Nat.lt_or_ge r w.heap.size with h' | h'
    · exact h'
    · unfold It at hi; simp [Array.getElem?_eq_none h'] at hi
  rcases run_next_at (P := P) w ty r b c c seen es c hi hm.blk hm.st.1 (Nat.le_refl _) with ⟨h2, h3⟩ | ⟨e, he, w1, hw, h3⟩
  · refine OW.val hg hd (v := .tuple #[.bool false]) (w' := w) ?_ (h0 ?_)
    · intro a ha dst pos after g
      simp only [execOp, ha.ev hx, h3, Sem.run_bind, Result.andThen_ok, Sem.run_pure]
    · intro e he
      unfold leftOf at h2
      have h4 := Array.eq_empty_of_size_eq_zero h2
      rw [Array.filter_eq_empty_iff] at h4
      have := h4 e (by simpa using he)
      simpa using this
  · have he2 : e ∈ es.toList ∧ e.born ∉ seen := by
      unfold leftOf at he
      simp at he
      exact ⟨by simpa using he.1, he.2⟩
    have hmo : Mo w (setBlock w1 r (.mapIter (some b) c (seen.push e.born) c)) [r] := by
      refine Mo.trans ?_ (mo_setBlock w1 r _)
      rcases hw with rfl | rfl
      · exact Mo.refl _ _
      · exact Mo.of_ext (Ext.drew w) _
    have hr1 : r < w1.heap.size := by rcases hw with rfl | rfl <;> exact hr
    refine OW.val hg hd (v := .tuple #[.bool true, e.key, e.val]) ?_ (h1 e _ he2.1 he2.2 (setBlock_at hr1) hmo)
    intro a ha dst pos after g
    simp only [execOp, ha.ev hx, h3, Sem.run_bind, Result.andThen_ok, Sem.run_pure]
theorem EX.entry {r b c : Nat} {es : Array MapEntry} {l : Ents} {seen : Array Nat} {e : MapEntry} (hx : ev σ x = some (.pointer (some ⟨r, 0, none⟩))) (hm : Mp w b es c l) (hi : It w r b c (seen.push e.born) c) (he : e ∈ es.toList) :
    EX P n σ (.entry x) ty w (.tuple #[e.key, e.val]) w := by
  intro a ha dst pos after g
  have := run_entry_at (P := P) w r b c seen es c e hi hm.blk he hm.st.2.1
  simp only [execOp, ha.ev hx, this, Sem.run_bind, Result.andThen_ok, Sem.run_pure]
end
end Go.Proofs.YthgfdpcpbghkpaaGreatDoor
/- slices.SortFunc over structs that the call made: what it does, in the engine's words. No program is spoken of. -/
namespace Go.Proofs.YthgfdpcpbghkpaaGreatDoor
set_option linter.unnecessarySimpa false
open Go.RowKit Go.Shelf
set_option linter.unusedVariables false
set_option linter.unusedSimpArgs false
/-- all is as it was; blocks are new, and it was drawn -/
def Gr (w w' : World) : Prop := Ext w w' ∧ w.drawn ≤ w'.drawn
theorem Gr.refl (w : World) : Gr w w := ⟨Ext.refl w, Nat.le_refl _⟩
theorem Gr.trans {a b c : World} (h : Gr a b) (k : Gr b c) : Gr a c := ⟨h.1.trans k.1, Nat.le_trans h.2 k.2⟩
theorem Gr.drewN (w : World) (m : Nat) : Gr w (w.drewN m) := ⟨Ext.drewN w m, by show w.drawn ≤ w.drawn + m; omega⟩
theorem Gr.alloc (w : World) (o : Obj) : Gr w (w.alloc o) := ⟨Ext.alloc w o, Nat.le_refl _⟩
theorem Gr.grow {w w' : World} (h : Gr w w') : ∃ q os, w' = Go.Sort.grow (w.drewN q) os := by
  obtain ⟨⟨h1, h2, h3, h4, h5⟩, h6⟩ := h
  obtain ⟨heap, tape, drawn, os, out⟩ := w
  obtain ⟨heap', tape', drawn', os', out'⟩ := w'
  simp only at h1 h2 h3 h4 h5 h6
  subst h1 h2 h3
  refine ⟨drawn' - drawn, heap'.extract heap.size heap'.size, ?_⟩
  have e : heap ++ heap'.extract heap.size heap'.size = heap' := by
    apply Array.ext_getElem?
    intro i
    by_cases hi : i < heap.size
    · rw [Array.getElem?_append_left hi, h5 i hi]
    · rw [Array.getElem?_append_right (by omega), Array.getElem?_extract]
      by_cases hj : i < heap'.size
      · rw [if_pos (by omega)]
        congr 1
        omega
      · rw [if_neg (by omega), Array.getElem?_eq_none (by omega)]
  unfold Go.Sort.grow World.drewN
  simp only [e]
  congr 1
  omega
theorem flat_len {α : Type} {cells : α → List Value} {k : Nat} (hk : ∀ x, (cells x).length = k) : ∀ l : List α, (l.flatMap cells).length = l.length * k
  | [] => by simp
  | x :: l => by
    have ih := flat_len hk l
    rw [List.flatMap_cons, List.length_append, hk, ih, List.length_cons, Nat.succ_mul]
    omega
section
variable {α : Type} [Inhabited α] {cells : α → List Value} {k : Nat}
theorem flatK_list (hk : ∀ x, (cells x).length = k) (hk0 : 0 < k) (l : List α) : (Go.Sort.flatK cells k l.toArray).toList = l.flatMap cells := by
  have hfl := flat_len hk l
  apply List.ext_getElem?
  intro t
  by_cases ht : t < l.length * k
  · have h1 : t / k < l.length := by rw [Nat.div_lt_iff_lt_mul hk0]; exact ht
    have h2 : t % k < k := Nat.mod_lt _ hk0
    have h3 : t / k * k + t % k = t := by rw [Nat.mul_comm]; exact Nat.div_add_mod t k
    have h4 := flat_get hk l (t / k) (t % k) h1 _ (List.getElem?_eq_getElem (by rw [hk]; exact h2))
    rw [h3] at h4
    have hs : t < (Go.Sort.flatK cells k l.toArray).size := by rw [Go.Sort.size_flatK]; simpa using ht
    have h5 := Go.Sort.get_flatK cells k l.toArray t (by simpa using ht)
    rw [getElem!_pos _ t hs] at h5
    have h6 : l.toArray[t / k]! = l[t / k] := by
      rw [getElem!_pos _ _ (by simpa using h1)]
      simp
    rw [h4, Array.getElem?_toList, Array.getElem?_eq_getElem hs, h5, h6]
    congr 1
    rw [getElem!_pos _ _ (by rw [hk]; exact h2)]
  · have e1 : (Go.Sort.flatK cells k l.toArray).toList.length = l.length * k := by rw [Array.length_toList, Go.Sort.size_flatK]; simp
    rw [List.getElem?_eq_none (by omega), List.getElem?_eq_none (by omega)]
theorem putCells_list (F : Array Value) (xs rest : List Value) (h : xs.length = F.size) : Go.Sort.putCells id 0 F (xs ++ rest).toArray = (F.toList ++ rest).toArray := by
  apply Array.ext_getElem?
  intro i
  simp only [Go.Sort.putCells, Array.getElem?_mapIdx]
  by_cases hi : i < F.size
  · simp only [List.getElem?_toArray]
    rw [List.getElem?_append_left (by omega), List.getElem?_append_left (by simpa using hi), List.getElem?_eq_getElem (by omega)]
    simp only [Option.map_some, Nat.zero_le, Nat.zero_add, true_and, Nat.sub_zero, id]
    rw [if_pos hi, getElem!_pos F i hi]
    simp [hi]
  · simp only [List.getElem?_toArray]
    rw [List.getElem?_append_right (by omega), List.getElem?_append_right (by simpa using hi), h, Array.length_toList]
    cases rest[i - F.size]? with
    | none => rfl
    | some u =>
      simp only [Option.map_some, Nat.zero_le, Nat.zero_add, true_and]
      rw [if_neg hi]
theorem sortWorld_mo (w : World) (g n : Nat) (d : Array α) (os : Array Obj) : Mo w (sortWorldK cells k w g 0 n d os) [g] := by
  refine ⟨rfl, rfl, rfl, ?_, fun j hj hne => ?_⟩
  · simp [sortWorldK, Go.Sort.grow, Go.Sort.putRowK, Go.Sort.putRow, Go.Sort.mapBlock, Go.Sort.ahead]
  · simp only [List.mem_singleton] at hne
    simp only [sortWorldK, Go.Sort.grow, Go.Sort.putRowK, Go.Sort.putRow, Go.Sort.mapBlock, Go.Sort.ahead]
    rw [Array.getElem?_append_left (by simpa using hj), Array.getElem?_modify, if_neg (Ne.symm hne)]
theorem sortWorld_bk {w : World} {g n : Nat} {T : TypeId} {l : List α} {d : Array α} {os : Array Obj} {rest : List Value} (hk : ∀ x, (cells x).length = k) (hk0 : 0 < k) (hb : Bk w g T (l.flatMap cells ++ rest)) (hd : d.size = l.length) :
    Bk (sortWorldK cells k w g 0 n d os) g T (d.toList.flatMap cells ++ rest) := by
  have hlt := hb.lt
  obtain ⟨fr, h1, h2⟩ := hb
  have hF : (Go.Sort.flatK cells k d).toList = d.toList.flatMap cells := by
    have := flatK_list hk hk0 d.toList
    simpa using this
  refine ⟨fr, ?_, ?_⟩
  · simp only [sortWorldK, Go.Sort.grow, Go.Sort.putRowK, Go.Sort.putRow, Go.Sort.mapBlock, Go.Sort.ahead]
    rw [Array.getElem?_append_left (by simpa using hlt), Array.getElem?_modify, if_pos rfl, h1]
    simp only [Option.map_some, Go.Sort.onCells]
    rw [putCells_list _ _ _ (by rw [flat_len hk, Go.Sort.size_flatK, hd]), hF]
  · have e1 := flat_len hk l
    have e2 := flat_len hk d.toList
    rw [List.length_append] at h2 ⊢
    rw [e2, Array.length_toList, hd, ← e1]
    exact h2
/-- slices.SortFunc -/
theorem sort_own {P : Program} {ρ : Ren} (L : SlLaysF0.n6 P ρ) {f : Nat} (hf6 : ρ.f 6 = f) {fn : Func} (hf : P.funcs[f]? = some fn) (hn : (!(fn.name == "runtime.NumGoroutine") && fn.body.isSome) = true) {e : TypeId} (he : ρ.t 24 = e) {bs : Nat} {z : Value} {d : TypeDesc} (hu : P.underlying e = some d) (hfl : flat d = false) (hi : TI P e z k bs) (hk0 : 0 < k)
    (hk : ∀ x, (cells x).length = k) (h1 : ∀ x, ∀ v ∈ cells x, v.oneCell' = true) (cf : α → α → Int) (hO : Go.Sort.SWO (fun a b => decide (cf a b < 0)))
    {g : Nat} {gf : Func} (hg : P.funcs[g]? = some gf) (hgn : (!(gf.name == "runtime.NumGoroutine") && gf.body.isSome) = true) (B : Nat) (l : List α) (hl : l.length ≤ 1000000000) (v : Value) (w : World) (hown : Own w B e k v l.length (l.flatMap cells))
    (hc : ∀ W x y, Mo w W v.ownBlock.toList → Ret P g [.agg (cells x).toArray, .agg (cells y).toArray] W fun r W' => r = .int .i64 (cf x y) ∧ Gr W W') :
    Ret P f [v, .func (.func g) #[] #[]] w fun r w' => r = .tuple #[] ∧ ∃ l' : List α, l'.Perm l ∧ (∀ i j (hi : i < l'.length) (hj : j < l'.length), i < j → ¬ cf l'[j] l'[i] < 0) ∧ Own w' B e k v l.length (l'.flatMap cells) ∧ Mo w w' v.ownBlock.toList := by
  subst hf6 he
  by_cases hl0 : l = []
  · subst hl0
    obtain ⟨p, cap, hv⟩ : ∃ p cap, v = .slice p 0 cap := by
      rcases hown.2 with ⟨rfl, _⟩ | ⟨q, cap, _, rfl, _⟩
      · exact ⟨none, 0, rfl⟩
      · exact ⟨_, cap, rfl⟩
    have h := AnyF.slices_SortFunc_none (P := P) (ρ := ρ) { L with } p cap (.func (.func g) #[] #[]) w
    have hR : Ret P (ρ.f 6) [v, .func (.func g) #[] #[]] w fun r w' => r = .tuple #[] ∧ w' = w := by
      subst hv
      exact Ret.of_calls hf hn (h.mono fun _ _ q => q)
    refine hR.mono ?_
    rintro r w' ⟨rfl, rfl⟩
    exact ⟨rfl, [], List.Perm.refl _, fun i j hi => by simp at hi, hown, Mo.refl _ _⟩
  · have hlp : 0 < l.length := List.length_pos_iff.2 hl0
    have hflen := flat_len hk l
    obtain ⟨b, cap, rest, rfl, hB, hb, hr, hn2, hcm⟩ := hown.blk (by rw [hflen]; exact Nat.mul_pos hlp hk0)
    have hlt := hb.lt
    have hwhole : l.flatMap cells ++ rest = l.flatMap cells ++ rest := rfl
    have hH : Go.Sort.HoldsK cells k w b 0 l.toArray := by
      intro j hj
      rw [Go.Sort.size_flatK] at hj
      have hj2 : j < l.length * k := by simpa using hj
      have hF := flatK_list hk hk0 l
      have hs : j < (Go.Sort.flatK cells k l.toArray).size := by rw [Go.Sort.size_flatK]; exact hj
      have hget : (Go.Sort.flatK cells k l.toArray)[j]! = (l.flatMap cells)[j]'(by rw [hflen]; exact hj2) := by
        rw [getElem!_pos _ j hs]
        have : (Go.Sort.flatK cells k l.toArray).toList[j]'(by simpa using hs) = (l.flatMap cells)[j]'(by rw [hflen]; exact hj2) := by simp [hF]
        simpa using this
      rw [hget, Nat.zero_add]
      refine ⟨hb.cell_of ?_, hb.free j (by rw [List.length_append]; omega)⟩
      rw [List.getElem?_append_left (by omega), List.getElem?_eq_getElem]
      rfl
    have hcl : CmpLays P g #[] cells k cf b 0 l.toArray.size w := fun m os dk hdk x y => by
      have h2 := (hc _ x y (by simpa [Value.ownBlock] using sortWorld_mo (cells := cells) (k := k) w b m dk os)).2
      refine h2.mono fun e w' q => ?_
      obtain ⟨v, rfl, rfl, hgr⟩ := q
      obtain ⟨q, os', e2⟩ := hgr.grow
      exact ⟨rfl, q, os', e2⟩
    have h := AnyQ.slices_SortFunc L k (fun w => by rw [run_isAgg hu, hfl]; rfl) (fun w => run_sizeOf hi) cells hk h1 cf hO g #[] b 0 cap l.toArray w (fun args w => run_callFunc hg hgn args) hcl hH hlt (by simp; omega)
    have hsz : l.toArray.size = l.length := by simp
    rw [hsz] at h
    have hR : Ret P (ρ.f 6) [.slice (some ⟨b, 0, none⟩) l.length cap, .func (.func g) #[] #[]] w fun r w' => r = .tuple #[] ∧ ∃ d' n os, Go.Sort.PermIn 0 l.length l.toArray d' ∧ Go.Sort.SortedIn (ltOf cf) 0 l.length d' ∧ w' = sortWorldK cells k w b 0 n d' os :=
      Ret.of_calls hf hn (h.mono fun _ _ q => q)
    refine hR.mono ?_
    rintro r w' ⟨rfl, d', n, os, hp, hs, rfl⟩
    have hd : d'.size = l.length := by rw [hp.1, hsz]
    have hperm : d'.toList.Perm l := by
      have h3 := hp.2.2
      have e1 : d'.extract 0 l.length = d' := by rw [← hd]; exact Array.extract_size
      have e2 : l.toArray.extract 0 l.length = l.toArray := by rw [← hsz]; exact Array.extract_size
      rw [e1, e2] at h3
      simpa using h3
    have hb2 := sortWorld_bk (n := n) (os := os) hk hk0 hb hd
    refine ⟨rfl, d'.toList, hperm, fun i j hi hj hij => ?_, ⟨by rw [flat_len hk, Array.length_toList, hd], .inr ⟨b, cap, rest, rfl, hB, hb2, ?_, hn2, hcm⟩⟩, by simpa [Value.ownBlock] using sortWorld_mo (cells := cells) (k := k) w b n d' os⟩
    · have h3 := hs i j (Nat.zero_le _) hij (by rw [← hd]; simpa using hj)
      rw [getElem!_pos d' j (by simpa using hj), getElem!_pos d' i (by simpa using hi)] at h3
      simpa [ltOf] using h3
    · rw [flat_len hk, Array.length_toList, hd, ← hflen]
      exact hr
end
end Go.Proofs.YthgfdpcpbghkpaaGreatDoor
/- DERIVED: THE SHELF's CONTRACTS AT THIS DUMP, IN PLAIN WORDS (tools/lay-plain.mjs out of 'TryzSort.lean', which tools/lay-shelf.mjs wrote): THE SAME DECLARATIONS UNDER THE SAME NAMES: 'import', 'namespace', 'open', 'def', 'theorem' AND NOTHING ELSE: no command of the shelf's: FOR A HAND-IN. Each laying: the table of numbers ('.._ren') and one theorem, a field a fact of the dump's own or the kernel's comparison; each contract: ONE APPLICATION. -/
namespace Go.Proofs.YthgfdpcpbghkpaaGreatDoor
set_option linter.unnecessarySimpa false
set_option linter.unusedVariables false
set_option linter.unusedSimpArgs false
open Go.Shelf
def Tryz.sort99_ren : Go.Shelf.Ren := ⟨fun | 6 => 99 | 15 => 113 | 14 => 112 | 28 => 127 | 29 => 128 | 20 => 119 | 21 => 120 | 22 => 121 | 23 => 122 | 24 => 123 | 25 => 124 | 26 => 125 | 27 => 126 | 46 => 134 | 47 => 135 | 48 => 136 | 49 => 137 | 50 => 138 | 57 => 144 | n => n, fun | 22 => 84 | 24 => 88 | 25 => 161 | 3 => 3 | 39 => 141 | 0 => 0 | 53 => 68 | 55 => 122 | 4 => 4 | 46 => 179 | 45 => 178 | 50 => 183 | 5 => 5 | 9 => 9 | 66 => 191 | 70 => 195 | 76 => 197 | 77 => 198 | n => n, fun | n => n⟩
theorem Tryz.sort99 : Go.Proofs.SlLaysF0.n6 Tryz.prog Tryz.sort99_ren := {
  mixed := by kernel_rfl
  f6 := ⟨Tryz.f99.name, by decide, Tryz.func99.trans (congrArg some (by kernel_rfl))⟩
  f14 := ⟨Tryz.f112.name, by decide, Tryz.func112.trans (congrArg some (by kernel_rfl))⟩
  f15 := Tryz.func113.trans (congrArg some (by kernel_rfl))
  f20 := ⟨Tryz.f119.name, by decide, Tryz.func119.trans (congrArg some (by kernel_rfl))⟩
  f21 := ⟨Tryz.f120.name, by decide, Tryz.func120.trans (congrArg some (by kernel_rfl))⟩
  f22 := ⟨Tryz.f121.name, by decide, Tryz.func121.trans (congrArg some (by kernel_rfl))⟩
  f23 := ⟨Tryz.f122.name, by decide, Tryz.func122.trans (congrArg some (by kernel_rfl))⟩
  f24 := ⟨Tryz.f123.name, by decide, Tryz.func123.trans (congrArg some (by kernel_rfl))⟩
  f25 := ⟨Tryz.f124.name, by decide, Tryz.func124.trans (congrArg some (by kernel_rfl))⟩
  f26 := ⟨Tryz.f125.name, by decide, Tryz.func125.trans (congrArg some (by kernel_rfl))⟩
  f27 := ⟨Tryz.f126.name, by decide, Tryz.func126.trans (congrArg some (by kernel_rfl))⟩
  f28 := Tryz.func127.trans (congrArg some (by kernel_rfl))
  f29 := Tryz.func128.trans (congrArg some (by kernel_rfl))
  f46 := ⟨Tryz.f134.name, by decide, Tryz.func134.trans (congrArg some (by kernel_rfl))⟩
  f47 := Tryz.func135.trans (congrArg some (by kernel_rfl))
  f48 := Tryz.func136.trans (congrArg some (by kernel_rfl))
  f49 := ⟨Tryz.f137.name, by decide, Tryz.func137.trans (congrArg some (by kernel_rfl))⟩
  f50 := ⟨Tryz.f138.name, by decide, Tryz.func138.trans (congrArg some (by kernel_rfl))⟩
  f57 := ⟨Tryz.f144.name, by decide, Tryz.func144.trans (congrArg some (by kernel_rfl))⟩
  t0 := Tryz.underlying0
  a0 := Tryz.isAgg0
  z0 := Tryz.sizeOf0
  v0 := Tryz.zeroValue0
  t3 := Tryz.underlying3
  a3 := Tryz.isAgg3
  z3 := Tryz.sizeOf3
  v3 := Tryz.zeroValue3
  t4 := Tryz.underlying4
  a4 := Tryz.isAgg4
  z4 := Tryz.sizeOf4
  v4 := Tryz.zeroValue4
  t5 := Tryz.underlying5
  a5 := Tryz.isAgg5
  z5 := Tryz.sizeOf5
  v5 := Tryz.zeroValue5
  t9 := Tryz.underlying9
  a9 := Tryz.isAgg9
  z9 := Tryz.sizeOf9
  v9 := Tryz.zeroValue9
  t22 := Tryz.underlying84
  a22 := Tryz.isAgg84
  z22 := Tryz.sizeOf84
  v22 := Tryz.zeroValue84
  t25 := Tryz.underlying161
  a25 := Tryz.isAgg161
  z25 := Tryz.sizeOf161
  v25 := Tryz.zeroValue161
  t39 := Tryz.underlying141
  a39 := Tryz.isAgg141
  z39 := Tryz.sizeOf141
  v39 := Tryz.zeroValue141
  t45 := Tryz.underlying178
  a45 := Tryz.isAgg178
  z45 := Tryz.sizeOf178
  v45 := Tryz.zeroValue178
  t46 := Tryz.underlying179
  a46 := Tryz.isAgg179
  z46 := Tryz.sizeOf179
  v46 := Tryz.zeroValue179
  t50 := Tryz.underlying183
  a50 := Tryz.isAgg183
  z50 := Tryz.sizeOf183
  v50 := Tryz.zeroValue183
  t53 := Tryz.underlying68
  a53 := Tryz.isAgg68
  z53 := Tryz.sizeOf68
  v53 := Tryz.zeroValue68
  t55 := Tryz.underlying122
  a55 := Tryz.isAgg122
  z55 := Tryz.sizeOf122
  v55 := Tryz.zeroValue122
  t66 := Tryz.underlying191
  a66 := Tryz.isAgg191
  z66 := Tryz.sizeOf191
  v66 := Tryz.zeroValue191
  t70 := Tryz.underlying195
  a70 := Tryz.isAgg195
  z70 := Tryz.sizeOf195
  v70 := Tryz.zeroValue195
  t76 := Tryz.underlying197
  a76 := Tryz.isAgg197
  z76 := Tryz.sizeOf197
  v76 := Tryz.zeroValue197
  t77 := Tryz.underlying198
  a77 := Tryz.isAgg198
  z77 := Tryz.sizeOf198
  v77 := Tryz.zeroValue198 }
end Go.Proofs.YthgfdpcpbghkpaaGreatDoor
/- Extents: whether they may be, by the program and by the document. -/
namespace Go.Proofs.YthgfdpcpbghkpaaGreatDoor
set_option linter.unnecessarySimpa false
open Go.RowKit Pth Rec Srt Cat
set_option linter.unusedVariables false
set_option linter.unusedSimpArgs false

def _root_.Go.Proofs.YthgfdpcpbghkpaaGreatDoor.Cat.xcells (x : Xt) : List Value := [.int .i64 x.1, .int .i64 x.2]
abbrev xtsV (l : List Xt) : List Value := l.flatMap xcells
theorem xtsV_snoc (l : List Xt) (x : Xt) : xtsV (l ++ [x]) = xtsV l ++ xcells x := by simp [xtsV]
theorem xtsV_one (l : List Xt) : ∀ u ∈ xtsV l, u.oneCell' = true := by
  intro u hu
  obtain ⟨p, _, h⟩ := List.mem_flatMap.1 hu
  simp only [xcells, List.mem_cons, List.not_mem_nil, or_false] at h
  rcases h with rfl | rfl <;> rfl
theorem cloneX_s (l : List Xt) (hl : l.length ≤ 1000000) (A : Option Addr) (c B : Nat) (w : World) (hs : Sl w B A (xtsV l)) :
    Ret Tryz.prog 98 [.slice A l.length c] w fun v w' => Own w' w.heap.size 88 2 v l.length (xtsV l) ∧ Ext w w' := by
  have hfl := flat_len (cells := xcells) (k := 2) (fun _ => rfl) l
  refine Ret.enter Tryz.func98 rfl Tryz.ntmps98 (by kernel_rfl) rfl ?_
  rcases A with _ | ⟨b, o, sp⟩
  · have hl0 : l = [] := by
      rcases hs with h | ⟨_, _, h, _⟩
      · cases l with
        | nil => rfl
        | cons x l =>
          have e : List.flatMap xcells (x :: l) = [] := h
          rw [e] at hfl
          simp at hfl
      · cases h
    subst hl0
    refine KW.seq (KW.region ?_)
    refine OW.val rfl rfl (EX.assign rfl) ?_
    refine OW.nil ?_
    refine KW.seq (KW.seq (KW.region ?_))
    refine OW.val rfl rfl (EX.move rfl) ?_
    refine OW.val rfl rfl (by first | exact EX.eqlA1 Tryz.underlying84 rfl rfl | exact EX.eqlA0 Tryz.underlying84 rfl rfl) ?_
    refine OW.nil ?_
    refine KW.condT rfl (KW.seq (KW.region ?_))
    refine OW.val rfl rfl (EX.assign rfl) ?_
    refine OW.nil ?_
    refine KW.ret (ret1 rfl rfl ?_)
    exact ⟨Own.nil _ _ _ _, Ext.refl _⟩
  · refine KW.seq (KW.region ?_)
    refine OW.val rfl rfl (EX.assign rfl) ?_
    refine OW.nil ?_
    refine KW.seq (KW.seq (KW.region ?_))
    refine OW.val rfl rfl (EX.move rfl) ?_
    refine OW.val rfl rfl (by first | exact EX.eqlA1 Tryz.underlying84 rfl rfl | exact EX.eqlA0 Tryz.underlying84 rfl rfl) ?_
    refine OW.nil ?_
    refine KW.condF rfl (KW.skip (KW.seq (KW.region ?_)))
    refine OW.buildG 0 ([]) rfl rfl Tryz.underlying84 ti88 rfl (by decide) rfl rfl rfl (by repeat' (first | exact List.forall_mem_nil _ | refine List.forall_mem_cons.2 ⟨by first | rfl | assumption, ?_⟩)) (by decide) ?_
    rintro eb w1 hge1 hb1 hx1
    refine OW.val rfl rfl (EX.move rfl) ?_
    have hown1 : Own w1 w.heap.size 88 2 (.slice (some ⟨eb, 0, none⟩) 0 0) 0 [] := Own.of_bk (cap := 0) hb1 hge1 rfl (by decide)
    refine OW.appendX rfl rfl Tryz.underlying84 ti88 rfl (by decide) rfl rfl (hx1) (hown1) (Src.of_sl Tryz.underlying84 (hs.ext hx1) hfl (xtsV_one l) (by decide)) (by simp only [maxLen]; omega) (by omega) ?_
    rintro u2 w2 hown2 hx2 hg2 hv2
    refine OW.val rfl rfl (EX.assign rfl) ?_
    refine OW.nil ?_
    refine KW.ret (ret1 rfl rfl ?_)
    rw [Nat.zero_add, List.nil_append] at hown2
    exact ⟨hown2, hx2⟩
theorem xt_eq (a b : Xt) : ([decide (a.1 = b.1), decide (a.2 = b.2)].all id) = decide (a = b) := by
  obtain ⟨a1, a2⟩ := a
  obtain ⟨b1, b2⟩ := b
  rw [Bool.eq_iff_iff]
  by_cases c1 : a1 = b1 <;> by_cases c2 : a2 = b2 <;> simp [c1, c2]
theorem cmpX_s (x y : Xt) (W : World) : Ret Tryz.prog 100 [.agg (xcells x).toArray, .agg (xcells y).toArray] W fun r W' => r = .int .i64 (cfX x y) ∧ Gr W W' := by
  refine Ret.enter Tryz.func100 rfl Tryz.ntmps100 (by kernel_rfl) rfl ?_
  refine KW.seq (KW.region ?_)
  refine OW.val rfl rfl (EX.box (l := xcells x) rfl rfl) ?_
  have hb1 := Bk.new W 88 (xcells x)
  have g1 := Gr.alloc W (.cells (xcells x).toArray 88)
  generalize hw1 : W.alloc (.cells (xcells x).toArray 88) = w1 at hb1 g1
  refine OW.val rfl rfl (EX.box (l := xcells y) rfl rfl) ?_
  refine OW.val rfl rfl (EX.assign rfl) ?_
  refine OW.nil ?_
  refine KW.seq (KW.seq (KW.region ?_))
  have hb2 := Bk.new w1 88 (xcells y)
  have g2 := Gr.alloc w1 (.cells (xcells y).toArray 88)
  have hb1b := hb1.ext g2.1
  generalize hw2 : w1.alloc (.cells (xcells y).toArray 88) = w2 at hb2 g2 hb1b
  have g3 := g1.trans g2
  refine OW.val rfl rfl (EX.loadBk Tryz.underlying88 rfl ti88 rfl (hb1b) (rfl)) ?_
  refine OW.val rfl rfl (EX.loadBk Tryz.underlying88 rfl ti88 rfl (hb2) (rfl)) ?_
  refine OW.val rfl rfl (EX.eqlG Tryz.underlying88 (by kernel_rfl) (by kernel_rfl) rfl rfl (.cons (by decide) Tryz.underlying3 rfl rfl rfl (eq_int Tryz.underlying3) (.cons (by decide) Tryz.underlying3 rfl rfl rfl (eq_int Tryz.underlying3) .nil)) rfl) ?_
  refine OW.nil ?_
  refine KW.as 7 (.bool (decide (x = y))) rfl (congrArg Value.bool (xt_eq x y)) ?_
  refine KW.condD rfl (fun h0 => ?_) (fun h0 => ?_)
  · have e : cfX x y = 0 := by unfold cfX; rw [if_pos h0]
    refine KW.seq (KW.region ?_)
    refine OW.val rfl rfl (EX.assign rfl) ?_
    refine OW.nil ?_
    refine KW.ret (ret1 rfl rfl ?_)
    rw [e]
    exact ⟨rfl, g3⟩
  · refine KW.skip (KW.seq (KW.seq ?_))
    refine KW.cut1 (fun (_u : Unit) => True) (fun (_u : Unit) => [(26, .bool (decide (x.1 < y.1 ∨ (x.1 = y.1 ∧ x.2 < y.2))))]) (fun (_u : Unit) => w2) ?_ ?_
    · refine KW.region ?_
      refine OW.val rfl rfl (EX.fieldAddr (off := 0) Tryz.underlying88 rfl rfl ti3 rfl rfl) ?_
      refine OW.val rfl rfl (EX.load Tryz.underlying3 rfl rfl (hb1b.cell_of rfl)) ?_
      refine OW.val rfl rfl (EX.fieldAddr (off := 0) Tryz.underlying88 rfl rfl ti3 rfl rfl) ?_
      refine OW.val rfl rfl (EX.load Tryz.underlying3 rfl rfl (hb2.cell_of rfl)) ?_
      refine OW.val rfl rfl (by first | exact EX.lssN rfl rfl | exact EX.lssZ rfl rfl) ?_
      refine OW.val rfl rfl (EX.move rfl) ?_
      refine OW.splitD 13 rfl (fun h1 => ?_) (fun h1 => ?_)
      · refine OW.pass rfl rfl ?_
        refine OW.pass rfl rfl ?_
        refine OW.pass rfl rfl ?_
        refine OW.pass rfl rfl ?_
        refine OW.pass rfl rfl ?_
        refine OW.pass rfl rfl ?_
        refine OW.pass rfl rfl ?_
        refine OW.pass rfl rfl ?_
        refine OW.pass rfl rfl ?_
        refine OW.pass rfl rfl ?_
        refine OW.pass rfl rfl ?_
        refine OW.pass rfl rfl ?_
        refine OW.val rfl rfl (EX.pickT rfl rfl) ?_
        refine OW.nil ?_
        refine KW.as 26 (.bool (decide (x.1 < y.1 ∨ (x.1 = y.1 ∧ x.2 < y.2)))) rfl (congrArg Value.bool (decide_eq_true (.inl h1)).symm) ?_
        refine KW.meet1 (()) ⟨rfl, trivial⟩ rfl ?_
        trivial
      · refine OW.val rfl rfl (EX.fieldAddr (off := 0) Tryz.underlying88 rfl rfl ti3 rfl rfl) ?_
        refine OW.val rfl rfl (EX.load Tryz.underlying3 rfl rfl (hb1b.cell_of rfl)) ?_
        refine OW.val rfl rfl (EX.fieldAddr (off := 0) Tryz.underlying88 rfl rfl ti3 rfl rfl) ?_
        refine OW.val rfl rfl (EX.load Tryz.underlying3 rfl rfl (hb2.cell_of rfl)) ?_
        refine OW.val rfl rfl (by first | exact EX.eqlN rfl rfl | exact EX.eqlZ rfl rfl) ?_
        refine OW.val rfl rfl (EX.move rfl) ?_
        refine OW.splitD 19 rfl (fun h2 => ?_) (fun h2 => ?_)
        · refine OW.val rfl rfl (EX.fieldAddr (off := 1) Tryz.underlying88 rfl rfl ti3 rfl rfl) ?_
          refine OW.val rfl rfl (EX.load Tryz.underlying3 rfl rfl (hb1b.cell_of rfl)) ?_
          refine OW.val rfl rfl (EX.fieldAddr (off := 1) Tryz.underlying88 rfl rfl ti3 rfl rfl) ?_
          refine OW.val rfl rfl (EX.load Tryz.underlying3 rfl rfl (hb2.cell_of rfl)) ?_
          refine OW.val rfl rfl (by first | exact EX.lssN rfl rfl | exact EX.lssZ rfl rfl) ?_
          refine OW.val rfl rfl (EX.pickT rfl rfl) ?_
          refine OW.val rfl rfl (EX.pickF rfl rfl) ?_
          refine OW.nil ?_
          refine KW.as 26 (.bool (decide (x.1 < y.1 ∨ (x.1 = y.1 ∧ x.2 < y.2)))) rfl (congrArg Value.bool (decide_eq_decide.2 (by omega))) ?_
          refine KW.meet1 (()) ⟨rfl, trivial⟩ rfl ?_
          trivial
        · refine OW.pass rfl rfl ?_
          refine OW.pass rfl rfl ?_
          refine OW.pass rfl rfl ?_
          refine OW.pass rfl rfl ?_
          refine OW.pass rfl rfl ?_
          refine OW.val rfl rfl (EX.pickF rfl rfl) ?_
          refine OW.val rfl rfl (EX.pickF rfl rfl) ?_
          refine OW.nil ?_
          refine KW.as 26 (.bool (decide (x.1 < y.1 ∨ (x.1 = y.1 ∧ x.2 < y.2)))) rfl (congrArg Value.bool (decide_eq_false (by omega)).symm) ?_
          refine KW.meet1 (()) ⟨rfl, trivial⟩ rfl ?_
          trivial
    · rintro _ _
      refine KW.condD rfl (fun h1 => ?_) (fun h1 => ?_)
      · have e : cfX x y = -1 := by unfold cfX; rw [if_neg h0, if_pos h1]
        refine KW.seq (KW.region ?_)
        refine OW.val rfl rfl (EX.assign rfl) ?_
        refine OW.nil ?_
        refine KW.ret (ret1 rfl rfl ?_)
        rw [e]
        exact ⟨rfl, g3⟩
      · have e : cfX x y = 1 := by unfold cfX; rw [if_neg h0, if_neg h1]
        refine KW.skip (KW.seq (KW.region ?_))
        refine OW.val rfl rfl (EX.assign rfl) ?_
        refine OW.nil ?_
        refine KW.ret (ret1 rfl rfl ?_)
        rw [e]
        exact ⟨rfl, g3⟩
theorem sortedX_s (l : List Xt) (hl : l.length ≤ 1000000) (A : Option Addr) (c B : Nat) (w : World) (hs : Sl w B A (xtsV l)) :
    Ret Tryz.prog 71 [.slice A l.length c] w fun v w' => (∃ l' : List Xt, l'.Perm l ∧ (∀ i j (hi : i < l'.length) (hj : j < l'.length), i < j → ¬ cfX l'[j] l'[i] < 0) ∧ Own w' w.heap.size 88 2 v l.length (xtsV l')) ∧ Ext w w' := by
  refine Ret.enter Tryz.func71 rfl Tryz.ntmps71 (by kernel_rfl) rfl ?_
  refine KW.seq (KW.region ?_)
  refine OW.val rfl rfl (EX.assign rfl) ?_
  refine OW.nil ?_
  refine KW.seq (KW.region ?_)
  refine OW.val rfl rfl (EX.move rfl) ?_
  refine OW.call rfl rfl rfl (cloneX_s l hl A c B w hs) ?_
  rintro _ w1 ⟨hown, hx1⟩
  refine OW.val rfl rfl (EX.assign rfl) ?_
  refine OW.nil ?_
  refine KW.seq (KW.region ?_)
  refine OW.val rfl rfl (EX.move rfl) ?_
  rename_i v1
  have c1 := sort_own Tryz.sort99 (f := 99) rfl Tryz.func99 (by kernel_rfl) (e := 88) rfl Tryz.underlying88 rfl ti88 (by decide) (cells := xcells) (fun _ => rfl) (fun x v hv => by simp [xcells] at hv; rcases hv with rfl | rfl <;> rfl) cfX swoX Tryz.func100 (by kernel_rfl) w.heap.size l (by omega) v1 w1 hown (fun W x y _ => cmpX_s x y W)
  refine OW.call rfl rfl rfl (c1) ?_
  rintro _ w2 ⟨rfl, l', hperm, hsort, hown2, hmo2⟩
  refine OW.nil ?_
  refine KW.seq (KW.region ?_)
  refine OW.val rfl rfl (EX.move rfl) ?_
  refine OW.val rfl rfl (EX.assign rfl) ?_
  refine OW.nil ?_
  refine KW.ret (ret1 rfl rfl ?_)
  exact ⟨⟨l', hperm, hsort, hown2⟩, below_mo hx1 hmo2 hx1.size (fun k hk => (hown.lt k (Option.mem_toList.1 hk)).1)⟩
set_option maxRecDepth 20000 in
theorem space_s (l : List Xt) (hl : l.length ≤ 1000000) (cap : Int) (A : Option Addr) (c B : Nat) (w : World) (hs : Sl w B A (xtsV l)) :
    Ret Tryz.prog 39 [.slice A l.length c, .int .i64 cap] w fun v w' => v = .int .i64 ((spaceC l cap : Nat) : Int) ∧ Ext w w' := by
  have no : ¬ OkX l cap → spaceC l cap = 220 := fun h => by unfold spaceC; rw [if_neg h]
  refine Ret.enter Tryz.func39 rfl Tryz.ntmps39 (by kernel_rfl) rfl ?_
  refine KW.seq (KW.region ?_)
  refine OW.val rfl rfl (EX.assign rfl) ?_
  refine OW.nil ?_
  refine KW.seq (KW.seq ?_)
  refine KW.region ?_
  refine OW.val rfl rfl (EX.move rfl) ?_
  refine OW.val rfl rfl (by first | exact EX.lssN (b := 1) rfl rfl | exact EX.lssZ rfl rfl) ?_
  refine OW.val rfl rfl (EX.move rfl) ?_
  refine OW.splitD 10 rfl (fun h1 => ?_) (fun h1 => ?_)
  · refine OW.pass rfl rfl ?_
    refine OW.pass rfl rfl ?_
    refine OW.val rfl rfl (EX.pickT rfl rfl) ?_
    refine OW.nil ?_
    refine KW.condT rfl (KW.seq (KW.region ?_))
    refine OW.val rfl rfl (EX.assign rfl) ?_
    refine OW.nil ?_
    refine KW.ret (ret1 rfl rfl ?_)
    rw [no (fun h => by have := h.room; omega)]
    exact ⟨rfl, Ext.refl _⟩
  · refine OW.val rfl rfl (EX.move rfl) ?_
    refine OW.val rfl rfl (by first | exact EX.gtrN (b := 4096) rfl rfl | exact EX.gtrZ rfl rfl) ?_
    refine OW.val rfl rfl (EX.pickF rfl rfl) ?_
    refine OW.nil ?_
    refine KW.condD rfl (fun h2 => ?_) (fun h2 => ?_)
    · refine KW.seq (KW.region ?_)
      refine OW.val rfl rfl (EX.assign rfl) ?_
      refine OW.nil ?_
      refine KW.ret (ret1 rfl rfl ?_)
      rw [no (fun h => by have := h.room; omega)]
      exact ⟨rfl, Ext.refl _⟩
    · have hc : 1 ≤ cap ∧ cap ≤ 4096 := by omega
      refine KW.skip (KW.seq (KW.region ?_))
      refine OW.val rfl rfl (EX.assign rfl) ?_
      refine OW.nil ?_
      refine KW.seq (KW.seq (KW.region ?_))
      refine OW.val rfl rfl (EX.move rfl) ?_
      refine OW.call rfl rfl rfl (sortedX_s l hl A c B w hs) ?_
      rintro v1 w1 ⟨⟨l', hperm, hsort, hown⟩, hx1⟩
      obtain ⟨A1, c1, rfl, _, hsl⟩ := hown.slice
      refine OW.val rfl rfl (EX.lenA Tryz.underlying84 rfl) ?_
      refine OW.val rfl rfl (EX.move rfl) ?_
      refine OW.nil ?_
      refine KW.block ?_
      rw [← okX_perm hperm] at no
      have hlen := hperm.length_eq
      have yes : OkX l' cap → spaceC l cap = 0 := fun h => by unfold spaceC; rw [if_pos ((okX_perm hperm).1 h)]
      refine KW.loop3 (fun (i : Nat) (at_ : Int) (wr : World) => i ≤ l'.length ∧ Upto (l'.take i) cap at_ ∧ Ext w1 wr) (fun (i : Nat) (at_ : Int) (wr : World) => [(1, .int .i64 cap), (5, .int .i64 (at_ : Int)), (15, .slice A1 l.length c1), (16, .int .i64 ((l.length : Nat) : Int)), (17, .int .i64 ((i : Nat) : Int))]) (fun (i : Nat) (at_ : Int) (wr : World) => wr) (fun (i : Nat) (at_ : Int) (wr : World) => l'.length - i) (0) (30) (w1) ⟨rfl, rfl, rfl, rfl, rfl, trivial⟩ rfl ?_ ?_
      · exact ⟨Nat.zero_le _, Upto.nil cap, Ext.refl _⟩
      · rintro i at_ wr ⟨hi, hup, hx⟩
        have hlow := hup.low
        refine KW.seq (KW.region ?_)
        refine OW.val rfl rfl (by first | exact EX.lssN rfl rfl | exact EX.lssZ rfl rfl) ?_
        refine OW.nil ?_
        refine KW.seq ?_
        refine KW.condD rfl (fun hlt => ?_) (fun hlt => ?_)
        · have hlt' : i < l'.length := by omega
          obtain ⟨b, o, rfl, _, hcell⟩ := (hsl.ext hx).flat (l := l') (i := i) (c := 2) (fun _ => rfl) (by decide) hlt'
          have hsn : l'.take (i + 1) = l'.take i ++ [l'[i]] := (List.take_append_getElem hlt').symm
          have hall : l' = l'.take i ++ l'[i] :: l'.drop (i + 1) := by rw [← List.drop_eq_getElem_cons hlt', List.take_append_drop]
          have hlast : ∀ y ∈ l'.take i, ¬ cfX l'[i] y < 0 := fun y hy => by
            obtain ⟨j, hj, rfl⟩ := List.mem_iff_getElem.1 hy
            rw [List.length_take] at hj
            rw [List.getElem_take]
            exact hsort j i (by omega) hlt' (by omega)
          generalize l'[i] = x at hcell hsn hall hlast
          refine KW.skip (KW.seq (KW.block (KW.seq (KW.region ?_))))
          refine OW.val rfl rfl (EX.indexAddrS Tryz.underlying84 ti88 rfl rfl (by omega)) ?_
          refine OW.val rfl rfl (EX.loadA (l := xcells x) Tryz.underlying88 rfl ti88 rfl rfl hcell) ?_
          refine OW.allocB (l := [.int .i64 0, .int .i64 0]) rfl rfl ti88 rfl ?_
          rintro xb w2 hge2 hb2 hx2
          refine OW.storeS rfl ti88 rfl rfl rfl (by first | rfl | (simp only [List.all_cons, List.all_nil, Bool.and_true, Bool.true_and, Bool.and_eq_true, Value.oneCell']; repeat (first | assumption | exact Own.one (by assumption) | constructor))) (hb2) (Nat.le_refl _) ?_
          rintro w3 hb3 hm3
          refine OW.nil ?_
          refine KW.seq (KW.seq ?_)
          replace hb3 : Bk w3 xb 88 (xcells x) := hb3
          have x3 : Ext wr w3 := below_mo hx2 hm3 hx2.size (fun k hk => by simp at hk; omega)
          refine KW.cut1 (fun (_u : Unit) => True) (fun (_u : Unit) => [(1, .int .i64 cap), (5, .int .i64 (at_ : Int)), (7, .pointer (some ⟨xb, 0, none⟩)), (15, .slice (some ⟨b, o, none⟩) l.length c1), (16, .int .i64 ((l.length : Nat) : Int)), (17, .int .i64 ((i : Nat) : Int)), (44, .bool (decide ((x.1 < at_ ∨ x.2 < 1 ∨ x.1 > cap ∨ x.2 > cap - x.1))))]) (fun (_u : Unit) => w3) ?_ ?_
          · refine KW.region ?_
            refine OW.val rfl rfl (EX.fieldAddr (off := 0) Tryz.underlying88 rfl rfl ti3 rfl rfl) ?_
            refine OW.val rfl rfl (EX.load Tryz.underlying3 rfl rfl (hb3.cell_of rfl)) ?_
            refine OW.val rfl rfl (EX.move rfl) ?_
            refine OW.val rfl rfl (by first | exact EX.lssN rfl rfl | exact EX.lssZ rfl rfl) ?_
            refine OW.val rfl rfl (EX.move rfl) ?_
            refine OW.splitD 25 rfl (fun q1 => ?_) (fun q1 => ?_)
            · refine OW.pass rfl rfl ?_
              refine OW.pass rfl rfl ?_
              refine OW.pass rfl rfl ?_
              refine OW.val rfl rfl (EX.pickT rfl rfl) ?_
              refine OW.val rfl rfl (EX.move rfl) ?_
              refine OW.pass rfl rfl ?_
              refine OW.pass rfl rfl ?_
              refine OW.pass rfl rfl ?_
              refine OW.pass rfl rfl ?_
              refine OW.val rfl rfl (EX.pickT rfl rfl) ?_
              refine OW.val rfl rfl (EX.move rfl) ?_
              refine OW.pass rfl rfl ?_
              refine OW.pass rfl rfl ?_
              refine OW.pass rfl rfl ?_
              refine OW.pass rfl rfl ?_
              refine OW.pass rfl rfl ?_
              refine OW.pass rfl rfl ?_
              refine OW.pass rfl rfl ?_
              refine OW.val rfl rfl (EX.pickT rfl rfl) ?_
              refine OW.nil ?_
              refine KW.as 44 (.bool (decide ((x.1 < at_ ∨ x.2 < 1 ∨ x.1 > cap ∨ x.2 > cap - x.1)))) rfl (congrArg Value.bool (decide_eq_true (.inl q1)).symm) ?_
              refine KW.meet1 (()) ⟨rfl, rfl, rfl, rfl, rfl, rfl, rfl, trivial⟩ rfl ?_
              trivial
            · refine OW.val rfl rfl (EX.fieldAddr (off := 1) Tryz.underlying88 rfl rfl ti3 rfl rfl) ?_
              refine OW.val rfl rfl (EX.load Tryz.underlying3 rfl rfl (hb3.cell_of rfl)) ?_
              refine OW.val rfl rfl (by first | exact EX.lssN (b := 1) rfl rfl | exact EX.lssZ rfl rfl) ?_
              refine OW.val rfl rfl (EX.pickF rfl rfl) ?_
              refine OW.val rfl rfl (EX.move rfl) ?_
              refine OW.splitD 30 rfl (fun q2 => ?_) (fun q2 => ?_)
              · refine OW.pass rfl rfl ?_
                refine OW.pass rfl rfl ?_
                refine OW.pass rfl rfl ?_
                refine OW.pass rfl rfl ?_
                refine OW.val rfl rfl (EX.pickT rfl rfl) ?_
                refine OW.val rfl rfl (EX.move rfl) ?_
                refine OW.pass rfl rfl ?_
                refine OW.pass rfl rfl ?_
                refine OW.pass rfl rfl ?_
                refine OW.pass rfl rfl ?_
                refine OW.pass rfl rfl ?_
                refine OW.pass rfl rfl ?_
                refine OW.pass rfl rfl ?_
                refine OW.val rfl rfl (EX.pickT rfl rfl) ?_
                refine OW.nil ?_
                refine KW.as 44 (.bool (decide ((x.1 < at_ ∨ x.2 < 1 ∨ x.1 > cap ∨ x.2 > cap - x.1)))) rfl (congrArg Value.bool (decide_eq_true (.inr (.inl q2))).symm) ?_
                refine KW.meet1 (()) ⟨rfl, rfl, rfl, rfl, rfl, rfl, rfl, trivial⟩ rfl ?_
                trivial
              · refine OW.val rfl rfl (EX.fieldAddr (off := 0) Tryz.underlying88 rfl rfl ti3 rfl rfl) ?_
                refine OW.val rfl rfl (EX.load Tryz.underlying3 rfl rfl (hb3.cell_of rfl)) ?_
                refine OW.val rfl rfl (EX.move rfl) ?_
                refine OW.val rfl rfl (by first | exact EX.gtrN rfl rfl | exact EX.gtrZ rfl rfl) ?_
                refine OW.val rfl rfl (EX.pickF rfl rfl) ?_
                refine OW.val rfl rfl (EX.move rfl) ?_
                refine OW.splitD 36 rfl (fun q3 => ?_) (fun q3 => ?_)
                · refine OW.pass rfl rfl ?_
                  refine OW.pass rfl rfl ?_
                  refine OW.pass rfl rfl ?_
                  refine OW.pass rfl rfl ?_
                  refine OW.pass rfl rfl ?_
                  refine OW.pass rfl rfl ?_
                  refine OW.pass rfl rfl ?_
                  refine OW.val rfl rfl (EX.pickT rfl rfl) ?_
                  refine OW.nil ?_
                  refine KW.as 44 (.bool (decide ((x.1 < at_ ∨ x.2 < 1 ∨ x.1 > cap ∨ x.2 > cap - x.1)))) rfl (congrArg Value.bool (decide_eq_true (.inr (.inr (.inl q3)))).symm) ?_
                  refine KW.meet1 (()) ⟨rfl, rfl, rfl, rfl, rfl, rfl, rfl, trivial⟩ rfl ?_
                  trivial
                · refine OW.val rfl rfl (EX.fieldAddr (off := 1) Tryz.underlying88 rfl rfl ti3 rfl rfl) ?_
                  refine OW.val rfl rfl (EX.load Tryz.underlying3 rfl rfl (hb3.cell_of rfl)) ?_
                  refine OW.val rfl rfl (EX.move rfl) ?_
                  refine OW.val rfl rfl (EX.fieldAddr (off := 0) Tryz.underlying88 rfl rfl ti3 rfl rfl) ?_
                  refine OW.val rfl rfl (EX.load Tryz.underlying3 rfl rfl (hb3.cell_of rfl)) ?_
                  refine OW.val rfl rfl (by first | exact EX.subN (m := 9223372036854775807) rfl rfl rfl (by omega) | exact EX.subZ (m := 9223372036854775807) rfl rfl rfl rfl (by omega)) ?_
                  refine OW.val rfl rfl (by first | exact EX.gtrN rfl rfl | exact EX.gtrZ rfl rfl) ?_
                  refine OW.val rfl rfl (EX.pickF rfl rfl) ?_
                  refine OW.nil ?_
                  refine KW.as 44 (.bool (decide ((x.1 < at_ ∨ x.2 < 1 ∨ x.1 > cap ∨ x.2 > cap - x.1)))) rfl (congrArg Value.bool (decide_eq_decide.2 (by omega))) ?_
                  refine KW.meet1 (()) ⟨rfl, rfl, rfl, rfl, rfl, rfl, rfl, trivial⟩ rfl ?_
                  trivial
          · rintro _ _
            refine KW.condD rfl (fun hbad => ?_) (fun hbad => ?_)
            · refine KW.seq (KW.region ?_)
              refine OW.val rfl rfl (EX.assign rfl) ?_
              refine OW.nil ?_
              refine KW.ret (ret1 rfl rfl ?_)
              rw [no (by rw [hall]; exact hup.fail hlast hbad)]
              exact ⟨rfl, (hx1.trans hx).trans x3⟩
            · have hup2 := hup.snoc hc (x := x) (by omega) (by omega) (by omega) (by omega)
              have hl2 := hup2.low
              rw [← hsn] at hup2
              refine KW.skip (KW.region ?_)
              refine OW.val rfl rfl (EX.fieldAddr (off := 0) Tryz.underlying88 rfl rfl ti3 rfl rfl) ?_
              refine OW.val rfl rfl (EX.load Tryz.underlying3 rfl rfl (hb3.cell_of rfl)) ?_
              refine OW.val rfl rfl (EX.fieldAddr (off := 1) Tryz.underlying88 rfl rfl ti3 rfl rfl) ?_
              refine OW.val rfl rfl (EX.load Tryz.underlying3 rfl rfl (hb3.cell_of rfl)) ?_
              refine OW.val rfl rfl (by first | exact EX.addN (m := 9223372036854775807) rfl rfl rfl (by omega) | exact EX.addZ (m := 9223372036854775807) rfl rfl rfl rfl (by omega)) ?_
              refine OW.val rfl rfl (EX.assign rfl) ?_
              refine OW.nil ?_
              refine KW.leave (KW.region ?_)
              refine OW.val rfl rfl (by first | exact EX.addN (b := 1) (m := 9223372036854775807) rfl rfl rfl (by omega) | exact EX.addZ (m := 9223372036854775807) rfl rfl rfl rfl (by omega)) ?_
              refine OW.val rfl rfl (EX.move rfl) ?_
              refine OW.nil ?_
              refine KW.back3 (i + 1) (x.1 + x.2) (w3) ⟨rfl, rfl, rfl, rfl, rfl, trivial⟩ rfl ?_ (by omega)
              exact ⟨by omega, hup2, hx.trans x3⟩
        · obtain rfl : i = l'.length := by omega
          rw [List.take_length] at hup
          refine KW.exit rfl (KW.seq (KW.region ?_))
          refine OW.val rfl rfl (EX.assign rfl) ?_
          refine OW.nil ?_
          refine KW.ret (ret1 rfl rfl ?_)
          rw [yes (hup.done hc)]
          exact ⟨rfl, hx1.trans hx⟩
end Go.Proofs.YthgfdpcpbghkpaaGreatDoor
/- Extents, by the document; whether members may be. -/
namespace Go.Proofs.YthgfdpcpbghkpaaGreatDoor
set_option linter.unnecessarySimpa false
open Go.RowKit Pth Rec Srt Cat
set_option linter.unusedVariables false
set_option linter.unusedSimpArgs false

def marksV (n : Nat) (f : Nat → Bool) : List Value := (List.range n).map fun k => Value.bool (f k)
theorem marksV_len (n : Nat) (f : Nat → Bool) : (marksV n f).length = n := by simp [marksV]
theorem marksV_get {n k : Nat} (f : Nat → Bool) (h : k < n) : (marksV n f)[k]? = some (.bool (f k)) := by simp [marksV, h]
theorem marksV_set {n k : Nat} (f g : Nat → Bool) (h : k < n) (hk : g k = true) (ho : ∀ j, j ≠ k → g j = f j) : (marksV n f).set k (.bool true) = marksV n g := by
  apply List.ext_getElem?
  intro j
  rw [List.getElem?_set]
  by_cases e : k = j
  · subst e
    rw [if_pos rfl, if_pos (by rw [marksV_len]; exact h), marksV_get g h, hk]
  · rw [if_neg e]
    by_cases hj : j < n
    · rw [marksV_get f hj, marksV_get g hj, ho j (fun q => e q.symm)]
    · rw [List.getElem?_eq_none (by rw [marksV_len]; omega), List.getElem?_eq_none (by rw [marksV_len]; omega)]
theorem marksV_zero (n : Nat) : List.replicate n (Value.bool false) = marksV n (fun _ => false) := by
  apply List.ext_getElem?
  intro j
  by_cases hj : j < n
  · rw [marksV_get _ hj]; simp [hj]
  · rw [List.getElem?_eq_none (by simp; omega), List.getElem?_eq_none (by rw [marksV_len]; omega)]
structure PreX (l : List Xt) (cap : Int) : Prop where
  fit : ∀ x ∈ l, fitX cap x
  far : l.Pairwise Cat.apart
theorem PreX.nil (cap : Int) : PreX [] cap := ⟨by simp, List.Pairwise.nil⟩
theorem PreX.snoc {l : List Xt} {cap : Int} (h : PreX l cap) {x : Xt} (hf : fitX cap x) (hn : ∀ k, inX x k = true → marked l k = false) : PreX (l ++ [x]) cap := by
  refine ⟨fun y hy => ?_, ?_⟩
  · rcases List.mem_append.1 hy with hy | hy
    · exact h.fit y hy
    · simp only [List.mem_singleton] at hy
      subst hy
      exact hf
  · rw [List.pairwise_append]
    refine ⟨h.far, by simp, fun a ha b hb => ?_⟩
    simp only [List.mem_singleton] at hb
    subst hb
    have h2 := h.fit a ha
    unfold fitX at hf h2
    refine apart_of_not hf.2.1 h2.2.1 fun k hk => ?_
    have h3 := hn k hk
    unfold marked at h3
    rw [List.any_eq_false] at h3
    have := h3 a ha
    simpa using this
theorem okX_pre {l : List Xt} {cap : Int} (h : OkX l cap) (i : Nat) : PreX (l.take i) cap := ⟨fun x hx => h.fit x (List.mem_of_mem_take hx), h.far.sublist (List.take_sublist _ _)⟩
theorem not_marked {l : List Xt} {cap : Int} {i : Nat} (hi : i < l.length) {k : Int} (h1 : inX l[i] k = true) (h2 : marked (l.take i) k = true) : ¬ OkX l cap := fun h => by
  unfold marked at h2
  obtain ⟨y, hy, h3⟩ := List.any_eq_true.1 h2
  obtain ⟨j, hj, rfl⟩ := List.mem_iff_getElem.1 hy
  rw [List.length_take] at hj
  have h4 := List.pairwise_iff_getElem.1 h.far j i (by omega) hi (by omega)
  rw [List.getElem_take] at h3
  exact not_apart h1 h3 h4
set_option maxRecDepth 20000 in
theorem taken_s (l : List Xt) (hl : l.length ≤ 1000000) (cap : Int) (A : Option Addr) (c B : Nat) (w : World) (hs : Sl w B A (xtsV l)) :
    Ret Tryz.prog 74 [.slice A l.length c, .int .i64 cap] w fun v w' => (∃ q, v = .tuple #[q, .bool (decide (OkX l cap))]) ∧ Ext w w' := by
  have no : ¬ OkX l cap → decide (OkX l cap) = false := fun h => decide_eq_false h
  refine Ret.enter Tryz.func74 rfl Tryz.ntmps74 (by kernel_rfl) rfl ?_
  refine KW.seq (KW.region ?_)
  refine OW.val rfl rfl (EX.assign rfl) ?_
  refine OW.val rfl rfl (EX.assign rfl) ?_
  refine OW.nil ?_
  refine KW.seq (KW.seq ?_)
  refine KW.region ?_
  refine OW.val rfl rfl (EX.move rfl) ?_
  refine OW.val rfl rfl (by first | exact EX.lssN (b := 1) rfl rfl | exact EX.lssZ rfl rfl) ?_
  refine OW.val rfl rfl (EX.move rfl) ?_
  refine OW.splitD 12 rfl (fun h1 => ?_) (fun h1 => ?_)
  · refine OW.pass rfl rfl ?_
    refine OW.pass rfl rfl ?_
    refine OW.val rfl rfl (EX.pickT rfl rfl) ?_
    refine OW.nil ?_
    refine KW.condT rfl (KW.seq (KW.region ?_))
    refine OW.val rfl rfl (EX.assign rfl) ?_
    refine OW.val rfl rfl (EX.assign rfl) ?_
    refine OW.nil ?_
    refine KW.ret (ret2 rfl rfl rfl ?_)
    rw [no (fun h => by have := h.room; omega)]
    exact ⟨⟨_, rfl⟩, Ext.refl _⟩
  · refine OW.val rfl rfl (EX.move rfl) ?_
    refine OW.val rfl rfl (by first | exact EX.gtrN (b := 4096) rfl rfl | exact EX.gtrZ rfl rfl) ?_
    refine OW.val rfl rfl (EX.pickF rfl rfl) ?_
    refine OW.nil ?_
    refine KW.condD rfl (fun h2 => ?_) (fun h2 => ?_)
    · refine KW.seq (KW.region ?_)
      refine OW.val rfl rfl (EX.assign rfl) ?_
      refine OW.val rfl rfl (EX.assign rfl) ?_
      refine OW.nil ?_
      refine KW.ret (ret2 rfl rfl rfl ?_)
      rw [no (fun h => by have := h.room; omega)]
      exact ⟨⟨_, rfl⟩, Ext.refl _⟩
    · obtain ⟨n, rfl⟩ := Int.eq_ofNat_of_zero_le (show 0 ≤ cap by omega)
      refine KW.skip (KW.seq (KW.region ?_))
      refine OW.val rfl rfl (EX.move rfl) ?_
      refine OW.makeB rfl rfl Tryz.underlying47 ti4 rfl rfl rfl (by omega) (by omega) ?_
      rintro ob w1 hge1 hb1 hx1
      refine OW.val rfl rfl (EX.assign rfl) ?_
      refine OW.nil ?_
      refine KW.seq (KW.seq (KW.region ?_))
      refine OW.val rfl rfl (EX.assign rfl) ?_
      refine OW.nil ?_
      refine KW.block ?_
      rw [marksV_zero] at hb1
      refine KW.loop2 (fun (i : Nat) (wr : World) => i ≤ l.length ∧ PreX (l.take i) n ∧ Bk wr ob 4 (marksV n (fun k => marked (l.take i) k)) ∧ Ext w wr) (fun (i : Nat) (wr : World) => [(0, .slice A l.length c), (1, .int .i64 ((n : Nat) : Int)), (6, .slice (some ⟨ob, 0, none⟩) n n), (7, .int .i64 ((i : Nat) : Int))]) (fun (i : Nat) (wr : World) => wr) (fun (i : Nat) (wr : World) => l.length - i) (0) (w1) ⟨rfl, rfl, rfl, rfl, trivial⟩ rfl ?_ ?_
      · exact ⟨Nat.zero_le _, PreX.nil _, hb1, hx1⟩
      · rintro i wr ⟨hi, hpre, hob, hx⟩
        refine KW.seq (KW.seq (KW.region ?_))
        refine OW.val rfl rfl (EX.move rfl) ?_
        refine OW.val rfl rfl (EX.move rfl) ?_
        refine OW.val rfl rfl (EX.lenA Tryz.underlying84 rfl) ?_
        refine OW.val rfl rfl (by first | exact EX.lssN rfl rfl | exact EX.lssZ rfl rfl) ?_
        refine OW.nil ?_
        refine KW.condD rfl (fun hlt => ?_) (fun hlt => ?_)
        · obtain ⟨b, o, rfl, _, hcell⟩ := (hs.ext hx).flat (i := i) (c := 2) (fun _ => rfl) (by decide) hlt
          have hsn : l.take (i + 1) = l.take i ++ [l[i]] := (List.take_append_getElem hlt).symm
          have hnm := fun k h1 h2 => not_marked (cap := (n : Int)) hlt (k := k) h1 h2
          have hfitx : OkX l n → fitX n l[i] := fun h => h.fit _ (List.getElem_mem hlt)
          generalize l[i] = x at hcell hsn hnm hfitx
          refine KW.skip (KW.seq (KW.block (KW.seq (KW.region ?_))))
          refine OW.val rfl rfl (EX.move rfl) ?_
          refine OW.val rfl rfl (EX.move rfl) ?_
          refine OW.val rfl rfl (EX.indexAddrS Tryz.underlying84 ti88 rfl rfl (by omega)) ?_
          refine OW.val rfl rfl (EX.loadA (l := xcells x) Tryz.underlying88 rfl ti88 rfl rfl hcell) ?_
          refine OW.allocB (l := [.int .i64 0, .int .i64 0]) rfl rfl ti88 rfl ?_
          rintro xb w2 hge2 hb2 hx2
          refine OW.storeS rfl ti88 rfl rfl rfl (by first | rfl | (simp only [List.all_cons, List.all_nil, Bool.and_true, Bool.true_and, Bool.and_eq_true, Value.oneCell']; repeat (first | assumption | exact Own.one (by assumption) | constructor))) (hb2) (Nat.le_refl _) ?_
          rintro w3 hb3 hm3
          refine OW.nil ?_
          refine KW.seq (KW.seq ?_)
          replace hb3 : Bk w3 xb 88 (xcells x) := hb3
          have x3 : Ext wr w3 := below_mo hx2 hm3 hx2.size (fun k hk => by simp at hk; omega)
          have hob3 := hob.ext x3
          have hxo : xb ≠ ob := by have := hob.lt; omega
          refine KW.cut1 (fun (_u : Unit) => True) (fun (_u : Unit) => [(0, .slice (some ⟨b, o, none⟩) l.length c), (1, .int .i64 ((n : Nat) : Int)), (6, .slice (some ⟨ob, 0, none⟩) n n), (7, .int .i64 ((i : Nat) : Int)), (8, .pointer (some ⟨xb, 0, none⟩)), (50, .bool (decide ((x.1 < 30 ∨ x.1 > n ∨ x.2 < 1 ∨ x.2 > n - x.1))))]) (fun (_u : Unit) => w3) ?_ ?_
          · refine KW.region ?_
            refine OW.val rfl rfl (EX.fieldAddr (off := 0) Tryz.underlying88 rfl rfl ti3 rfl rfl) ?_
            refine OW.val rfl rfl (EX.load Tryz.underlying3 rfl rfl (hb3.cell_of rfl)) ?_
            refine OW.val rfl rfl (by first | exact EX.lssN (b := 30) rfl rfl | exact EX.lssZ rfl rfl) ?_
            refine OW.val rfl rfl (EX.move rfl) ?_
            refine OW.splitD 31 rfl (fun q1 => ?_) (fun q1 => ?_)
            · refine OW.pass rfl rfl ?_
              refine OW.pass rfl rfl ?_
              refine OW.pass rfl rfl ?_
              refine OW.pass rfl rfl ?_
              refine OW.val rfl rfl (EX.pickT rfl rfl) ?_
              refine OW.val rfl rfl (EX.move rfl) ?_
              refine OW.pass rfl rfl ?_
              refine OW.pass rfl rfl ?_
              refine OW.pass rfl rfl ?_
              refine OW.val rfl rfl (EX.pickT rfl rfl) ?_
              refine OW.val rfl rfl (EX.move rfl) ?_
              refine OW.pass rfl rfl ?_
              refine OW.pass rfl rfl ?_
              refine OW.pass rfl rfl ?_
              refine OW.pass rfl rfl ?_
              refine OW.pass rfl rfl ?_
              refine OW.pass rfl rfl ?_
              refine OW.pass rfl rfl ?_
              refine OW.val rfl rfl (EX.pickT rfl rfl) ?_
              refine OW.nil ?_
              refine KW.as 50 (.bool (decide ((x.1 < 30 ∨ x.1 > n ∨ x.2 < 1 ∨ x.2 > n - x.1)))) rfl (congrArg Value.bool (decide_eq_true (.inl q1)).symm) ?_
              refine KW.meet1 (()) ⟨rfl, rfl, rfl, rfl, rfl, rfl, trivial⟩ rfl ?_
              trivial
            · refine OW.val rfl rfl (EX.fieldAddr (off := 0) Tryz.underlying88 rfl rfl ti3 rfl rfl) ?_
              refine OW.val rfl rfl (EX.load Tryz.underlying3 rfl rfl (hb3.cell_of rfl)) ?_
              refine OW.val rfl rfl (EX.move rfl) ?_
              refine OW.val rfl rfl (by first | exact EX.gtrN rfl rfl | exact EX.gtrZ rfl rfl) ?_
              refine OW.val rfl rfl (EX.pickF rfl rfl) ?_
              refine OW.val rfl rfl (EX.move rfl) ?_
              refine OW.splitD 37 rfl (fun q2 => ?_) (fun q2 => ?_)
              · refine OW.pass rfl rfl ?_
                refine OW.pass rfl rfl ?_
                refine OW.pass rfl rfl ?_
                refine OW.val rfl rfl (EX.pickT rfl rfl) ?_
                refine OW.val rfl rfl (EX.move rfl) ?_
                refine OW.pass rfl rfl ?_
                refine OW.pass rfl rfl ?_
                refine OW.pass rfl rfl ?_
                refine OW.pass rfl rfl ?_
                refine OW.pass rfl rfl ?_
                refine OW.pass rfl rfl ?_
                refine OW.pass rfl rfl ?_
                refine OW.val rfl rfl (EX.pickT rfl rfl) ?_
                refine OW.nil ?_
                refine KW.as 50 (.bool (decide ((x.1 < 30 ∨ x.1 > n ∨ x.2 < 1 ∨ x.2 > n - x.1)))) rfl (congrArg Value.bool (decide_eq_true (.inr (.inl q2))).symm) ?_
                refine KW.meet1 (()) ⟨rfl, rfl, rfl, rfl, rfl, rfl, trivial⟩ rfl ?_
                trivial
              · refine OW.val rfl rfl (EX.fieldAddr (off := 1) Tryz.underlying88 rfl rfl ti3 rfl rfl) ?_
                refine OW.val rfl rfl (EX.load Tryz.underlying3 rfl rfl (hb3.cell_of rfl)) ?_
                refine OW.val rfl rfl (by first | exact EX.lssN (b := 1) rfl rfl | exact EX.lssZ rfl rfl) ?_
                refine OW.val rfl rfl (EX.pickF rfl rfl) ?_
                refine OW.val rfl rfl (EX.move rfl) ?_
                refine OW.splitD 42 rfl (fun q3 => ?_) (fun q3 => ?_)
                · refine OW.pass rfl rfl ?_
                  refine OW.pass rfl rfl ?_
                  refine OW.pass rfl rfl ?_
                  refine OW.pass rfl rfl ?_
                  refine OW.pass rfl rfl ?_
                  refine OW.pass rfl rfl ?_
                  refine OW.pass rfl rfl ?_
                  refine OW.val rfl rfl (EX.pickT rfl rfl) ?_
                  refine OW.nil ?_
                  refine KW.as 50 (.bool (decide ((x.1 < 30 ∨ x.1 > n ∨ x.2 < 1 ∨ x.2 > n - x.1)))) rfl (congrArg Value.bool (decide_eq_true (.inr (.inr (.inl q3)))).symm) ?_
                  refine KW.meet1 (()) ⟨rfl, rfl, rfl, rfl, rfl, rfl, trivial⟩ rfl ?_
                  trivial
                · refine OW.val rfl rfl (EX.fieldAddr (off := 1) Tryz.underlying88 rfl rfl ti3 rfl rfl) ?_
                  refine OW.val rfl rfl (EX.load Tryz.underlying3 rfl rfl (hb3.cell_of rfl)) ?_
                  refine OW.val rfl rfl (EX.move rfl) ?_
                  refine OW.val rfl rfl (EX.fieldAddr (off := 0) Tryz.underlying88 rfl rfl ti3 rfl rfl) ?_
                  refine OW.val rfl rfl (EX.load Tryz.underlying3 rfl rfl (hb3.cell_of rfl)) ?_
                  refine OW.val rfl rfl (by first | exact EX.subN (m := 9223372036854775807) rfl rfl rfl (by omega) | exact EX.subZ (m := 9223372036854775807) rfl rfl rfl rfl (by omega)) ?_
                  refine OW.val rfl rfl (by first | exact EX.gtrN rfl rfl | exact EX.gtrZ rfl rfl) ?_
                  refine OW.val rfl rfl (EX.pickF rfl rfl) ?_
                  refine OW.nil ?_
                  refine KW.as 50 (.bool (decide ((x.1 < 30 ∨ x.1 > n ∨ x.2 < 1 ∨ x.2 > n - x.1)))) rfl (congrArg Value.bool (decide_eq_decide.2 (by omega))) ?_
                  refine KW.meet1 (()) ⟨rfl, rfl, rfl, rfl, rfl, rfl, trivial⟩ rfl ?_
                  trivial
          · rintro _ _
            refine KW.condD rfl (fun hbad => ?_) (fun hbad => ?_)
            · refine KW.seq (KW.region ?_)
              refine OW.val rfl rfl (EX.assign rfl) ?_
              refine OW.val rfl rfl (EX.assign rfl) ?_
              refine OW.nil ?_
              refine KW.ret (ret2 rfl rfl rfl ?_)
              rw [no (fun h => by have := hfitx h; unfold fitX at this; omega)]
              exact ⟨⟨_, rfl⟩, hx.trans x3⟩
            · have hfit : fitX n x := by unfold fitX; omega
              obtain ⟨x1, x2⟩ := x
              unfold fitX at hfit
              simp only at hfit hbad
              obtain ⟨a, rfl⟩ := Int.eq_ofNat_of_zero_le (show 0 ≤ x1 by omega)
              obtain ⟨m, rfl⟩ := Int.eq_ofNat_of_zero_le (show 0 ≤ x2 by omega)
              replace hb3 : Bk w3 xb 88 [.int .i64 ((a : Nat) : Int), .int .i64 ((m : Nat) : Int)] := hb3
              refine KW.skip (KW.seq (KW.region ?_))
              refine OW.val rfl rfl (EX.fieldAddr (off := 0) Tryz.underlying88 rfl rfl ti3 rfl rfl) ?_
              refine OW.val rfl rfl (EX.load Tryz.underlying3 rfl rfl (hb3.cell_of rfl)) ?_
              refine OW.val rfl rfl (EX.assign rfl) ?_
              refine OW.nil ?_
              refine KW.cut1 (fun (wq : World) => (∀ k : Nat, a ≤ k → k < a + m → marked (l.take i) k = false) ∧ Bk wq ob 4 (marksV n (fun k => marked (l.take (i + 1)) k)) ∧ Mo wr wq [ob]) (fun (wq : World) => [(0, .slice (some ⟨b, o, none⟩) l.length c), (1, .int .i64 ((n : Nat) : Int)), (6, .slice (some ⟨ob, 0, none⟩) n n), (7, .int .i64 ((i : Nat) : Int))]) (fun (wq : World) => wq) ?_ ?_
              · refine KW.block ?_
                refine KW.loop2 (fun (k : Nat) (wq : World) => a ≤ k ∧ k ≤ a + m ∧ (∀ j : Nat, a ≤ j → j < k → marked (l.take i) j = false) ∧ Bk wq ob 4 (marksV n (fun j => or (marked (l.take i) j) (decide (a ≤ j ∧ j < k)))) ∧ Bk wq xb 88 [.int .i64 ((a : Nat) : Int), .int .i64 ((m : Nat) : Int)] ∧ Mo wr wq [ob]) (fun (k : Nat) (wq : World) => [(0, .slice (some ⟨b, o, none⟩) l.length c), (1, .int .i64 ((n : Nat) : Int)), (6, .slice (some ⟨ob, 0, none⟩) n n), (7, .int .i64 ((i : Nat) : Int)), (8, .pointer (some ⟨xb, 0, none⟩)), (9, .int .i64 ((k : Nat) : Int))]) (fun (k : Nat) (wq : World) => wq) (fun (k : Nat) (wq : World) => a + m - k) (a) (w3) ⟨rfl, rfl, rfl, rfl, rfl, rfl, trivial⟩ rfl ?_ ?_
                · refine ⟨Nat.le_refl _, by omega, fun j h1 h2 => by omega, ?_, hb3, Mo.of_ext x3 _⟩
                  have e : (fun j => or (marked (l.take i) ((j : Nat) : Int)) (decide (a ≤ j ∧ j < a))) = fun j : Nat => marked (l.take i) (j : Int) := by
                    funext j
                    rw [decide_eq_false (by omega), Bool.or_false]
                  rw [e]
                  exact hob3
                · rintro k wq ⟨hk1, hk2, hno, hobq, hbq, hmq⟩
                  refine KW.seq (KW.seq (KW.region ?_))
                  refine OW.val rfl rfl (EX.move rfl) ?_
                  refine OW.val rfl rfl (EX.fieldAddr (off := 0) Tryz.underlying88 rfl rfl ti3 rfl rfl) ?_
                  refine OW.val rfl rfl (EX.load Tryz.underlying3 rfl rfl (hbq.cell_of rfl)) ?_
                  refine OW.val rfl rfl (EX.fieldAddr (off := 1) Tryz.underlying88 rfl rfl ti3 rfl rfl) ?_
                  refine OW.val rfl rfl (EX.load Tryz.underlying3 rfl rfl (hbq.cell_of rfl)) ?_
                  refine OW.val rfl rfl (by first | exact EX.addN (m := 9223372036854775807) rfl rfl rfl (by omega) | exact EX.addZ (m := 9223372036854775807) rfl rfl rfl rfl (by omega)) ?_
                  refine OW.val rfl rfl (by first | exact EX.lssN rfl rfl | exact EX.lssZ rfl rfl) ?_
                  refine OW.nil ?_
                  refine KW.condD rfl (fun hkl => ?_) (fun hkl => ?_)
                  · have hkn : k < n := by omega
                    have hik : inX ((a : Nat), (m : Nat)) (k : Int) = true := by unfold inX; rw [decide_eq_true_eq]; simp only; omega
                    have hcur : or (marked (l.take i) (k : Int)) (decide (a ≤ k ∧ k < k)) = marked (l.take i) (k : Int) := by rw [decide_eq_false (by omega), Bool.or_false]
                    have hcl := hobq.cell_of (marksV_get (fun j => or (marked (l.take i) ((j : Nat) : Int)) (decide (a ≤ j ∧ j < k))) hkn)
                    simp only [hcur] at hcl
                    refine KW.skip (KW.seq (KW.block (KW.seq (KW.seq (KW.region ?_)))))
                    refine OW.val rfl rfl (EX.move rfl) ?_
                    refine OW.val rfl rfl (EX.move rfl) ?_
                    refine OW.val rfl rfl (by first | exact EX.indexAddrS0 Tryz.underlying47 ti4 rfl rfl (by omega) | exact EX.indexAddrS1 Tryz.underlying47 ti4 rfl rfl (by omega)) ?_
                    refine OW.val rfl rfl (EX.load Tryz.underlying4 rfl rfl (hcl)) ?_
                    refine OW.nil ?_
                    refine KW.cond rfl (fun hmk => ?_) (fun hmk => ?_)
                    · refine KW.seq (KW.region ?_)
                      refine OW.val rfl rfl (EX.assign rfl) ?_
                      refine OW.val rfl rfl (EX.assign rfl) ?_
                      refine OW.nil ?_
                      refine KW.ret (ret2 rfl rfl rfl ?_)
                      rw [no (hnm k hik hmk)]
                      exact ⟨⟨_, rfl⟩, below_mo hx hmq hx.size (fun q hq => by simp at hq; omega)⟩
                    · refine KW.skip (KW.region ?_)
                      refine OW.val rfl rfl (EX.move rfl) ?_
                      refine OW.val rfl rfl (EX.move rfl) ?_
                      refine OW.val rfl rfl (by first | exact EX.indexAddrS0 Tryz.underlying47 ti4 rfl rfl (by omega) | exact EX.indexAddrS1 Tryz.underlying47 ti4 rfl rfl (by omega)) ?_
                      refine OW.storeB rfl ti4 rfl rfl (by first | rfl | assumption | exact Own.one (by assumption)) (hobq) (by rw [marksV_len]; exact hkn) ?_
                      rintro wp hobp hmp
                      refine OW.nil ?_
                      refine KW.leave (KW.region ?_)
                      refine OW.val rfl rfl (EX.move rfl) ?_
                      refine OW.val rfl rfl (by first | exact EX.addN (b := 1) (m := 9223372036854775807) rfl rfl rfl (by omega) | exact EX.addZ (m := 9223372036854775807) rfl rfl rfl rfl (by omega)) ?_
                      refine OW.val rfl rfl (EX.assign rfl) ?_
                      refine OW.nil ?_
                      rw [marksV_set _ (fun j => or (marked (l.take i) ((j : Nat) : Int)) (decide (a ≤ j ∧ j < k + 1))) hkn (by rw [decide_eq_true (by omega), Bool.or_true]) (fun j hj => by rw [decide_eq_decide.2 (show (a ≤ j ∧ j < k + 1) ↔ (a ≤ j ∧ j < k) by omega)])] at hobp
                      refine KW.back2 (k + 1) (wp) ⟨rfl, rfl, rfl, rfl, rfl, rfl, trivial⟩ rfl ?_ (by omega)
                      refine ⟨by omega, by omega, fun j h1 h2 => ?_, hobp, hbq.mo hmp (by simp; exact hxo), hmq.trans hmp⟩
                      rcases Nat.lt_or_ge j k with q | q
                      · exact hno j h1 q
                      · obtain rfl : j = k := by omega
                        exact hmk
                  · obtain rfl : k = a + m := by omega
                    refine KW.exit rfl ?_
                    refine KW.meet1 (wq) ⟨rfl, rfl, rfl, rfl, trivial⟩ rfl ?_
                    refine ⟨fun j h1 h2 => hno j h1 h2, ?_, hmq⟩
                    have e : (fun j => or (marked (l.take i) ((j : Nat) : Int)) (decide (a ≤ j ∧ j < a + m))) = fun j : Nat => marked (l.take (i + 1)) (j : Int) := by
                      funext j
                      rw [hsn, marked_snoc]
                      have : inX ((a : Nat), (m : Nat)) (j : Int) = decide (a ≤ j ∧ j < a + m) := by
                        unfold inX
                        exact decide_eq_decide.2 (by simp only; omega)
                      rw [this]
                    rw [e] at hobq
                    exact hobq
              · rintro wq ⟨hno, hobq, hmq⟩
                refine KW.leave (KW.region ?_)
                refine OW.val rfl rfl (EX.move rfl) ?_
                refine OW.val rfl rfl (by first | exact EX.addN (b := 1) (m := 9223372036854775807) rfl rfl rfl (by omega) | exact EX.addZ (m := 9223372036854775807) rfl rfl rfl rfl (by omega)) ?_
                refine OW.val rfl rfl (EX.assign rfl) ?_
                refine OW.nil ?_
                refine KW.back2 (i + 1) (wq) ⟨rfl, rfl, rfl, rfl, trivial⟩ rfl ?_ (by omega)
                refine ⟨by omega, ?_, hobq, below_mo hx hmq hx.size (fun q hq => by simp at hq; omega)⟩
                rw [hsn]
                refine hpre.snoc (by unfold fitX; omega) fun k hk => ?_
                unfold inX at hk
                rw [decide_eq_true_eq] at hk
                obtain ⟨k, rfl⟩ := Int.eq_ofNat_of_zero_le (show 0 ≤ k by omega)
                exact hno k (by omega) (by omega)
        · obtain rfl : i = l.length := by omega
          rw [List.take_length] at hpre
          refine KW.exit rfl (KW.seq (KW.region ?_))
          refine OW.val rfl rfl (EX.move rfl) ?_
          refine OW.val rfl rfl (EX.assign rfl) ?_
          refine OW.val rfl rfl (EX.assign rfl) ?_
          refine OW.nil ?_
          refine KW.ret (ret2 rfl rfl rfl ?_)
          rw [decide_eq_true (⟨by omega, hpre.fit, hpre.far⟩ : OkX l n)]
          exact ⟨⟨_, rfl⟩, hx⟩
theorem rspace_s (l : List Xt) (hl : l.length ≤ 1000000) (cap : Int) (A : Option Addr) (c B : Nat) (w : World) (hs : Sl w B A (xtsV l)) :
    Ret Tryz.prog 42 [.slice A l.length c, .int .i64 cap] w fun v w' => v = .int .i64 ((spaceC l cap : Nat) : Int) ∧ Ext w w' := by
  refine Ret.enter Tryz.func42 rfl Tryz.ntmps42 (by kernel_rfl) rfl ?_
  refine KW.seq (KW.region ?_)
  refine OW.val rfl rfl (EX.assign rfl) ?_
  refine OW.nil ?_
  refine KW.seq (KW.region ?_)
  refine OW.val rfl rfl (EX.move rfl) ?_
  refine OW.val rfl rfl (EX.move rfl) ?_
  refine OW.call rfl rfl rfl (taken_s l hl cap A c B w hs) ?_
  rintro _ w1 ⟨⟨q, rfl⟩, hx1⟩
  refine OW.val rfl rfl (EX.move rfl) ?_
  refine OW.val rfl rfl (EX.extract rfl rfl) ?_
  refine OW.val rfl rfl (EX.extract rfl rfl) ?_
  refine OW.val rfl rfl (EX.assign rfl) ?_
  refine OW.val rfl rfl (EX.assign rfl) ?_
  refine OW.nil ?_
  refine KW.seq (KW.seq (KW.region ?_))
  refine OW.val rfl rfl (EX.move rfl) ?_
  refine OW.val rfl rfl (by first | exact EX.notD rfl | exact EX.notB rfl) ?_
  refine OW.nil ?_
  refine KW.condD rfl (fun h => ?_) (fun h => ?_)
  · rw [show spaceC l cap = 220 by unfold spaceC; rw [if_neg h]]
    refine KW.seq (KW.region ?_)
    refine OW.val rfl rfl (EX.assign rfl) ?_
    refine OW.nil ?_
    refine KW.ret (ret1 rfl rfl ?_)
    exact ⟨rfl, hx1⟩
  · rw [show spaceC l cap = 0 by unfold spaceC; rw [if_pos (Decidable.of_not_not h)]]
    refine KW.skip (KW.seq (KW.region ?_))
    refine OW.val rfl rfl (EX.assign rfl) ?_
    refine OW.nil ?_
    refine KW.ret (ret1 rfl rfl ?_)
    exact ⟨rfl, hx1⟩
end Go.Proofs.YthgfdpcpbghkpaaGreatDoor
