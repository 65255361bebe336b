/-
  What the statements rest on, part 6 of 6: many small texts, one behind the other.
-/
import Derived.Test.YthgfdpcpbghkpaaGreatDoorMrgE
set_option linter.unusedSimpArgs false
set_option linter.unusedVariables false
set_option linter.unnecessarySimpa false
namespace Go.Proofs.YthgfdpcpbghkpaaGreatDoor
open Go.RowKit Dsk
def rdy (T : TypeId) : Bool := T == 66
theorem RDev.ext {w w' : World} {B b : Nat} {D : Dv} {vS vN vP vK : Value} (h : RDev w B b D vS vN vP vK) (hx : Ext w w') : RDev w' B b D vS vN vP vK :=
  ⟨h.lo, h.cells.ext hx, h.synced.ext hx, h.now.ext hx, h.pend.ext hx, h.keep.ext hx⟩
theorem chs_at {w : World} {B T n c bP oP k : Nat} {l : List Ch} (h : Own w B T 3 (.slice (some ⟨bP, oP, none⟩) n c) n (chsV l)) (hk : k < l.length) : ∀ j u, (chV l[k])[j]? = some u → w.cell? ⟨bP, oP + k * 3 + j, none⟩ = some u := by
  obtain ⟨A, c', e, _, hs⟩ := h.slice
  cases e
  obtain ⟨b', o', e, _, hc⟩ := hs.flat (cells := chV) (c := 3) (fun a => by cases a <;> rfl) (by decide) hk
  cases e
  exact hc
theorem RDev.tmS {w w' : World} {B b : Nat} {l0 : List Value} (hlo : B ≤ b) (h0 : Bk w b 66 l0) (hm : Mo w w' [b]) : Tm w w' B rdy := (Tm.set h0 hm hlo).mono fun T hT => by simp at hT; simp [rdy, hT]
section
variable {w : World} {B b : Nat} {D : Dv}
set_option maxRecDepth 20000 in
theorem rfalls_d (h : RDevAt w B b D) (hD : D.Ok) (hp : D.pend.length ≤ 1000000) (ha : D.at_ ≤ 9223372036854775807) (hk : D.keep.length ≤ 140737488355328) :
    Ret Tryz.prog 80 [.pointer (some ⟨b, 0, none⟩)] w fun v w' => v = .bool D.falls.2 ∧ RDevAt w' B b D.falls.1 ∧ Tm w w' B rdy := by
  have h0 := h
  have hcap := hD.cap
  obtain ⟨vS, vN, vP, vK, hv⟩ := h
  have hlo := hv.lo
  have hbl := hv.cells.lt
  obtain ⟨AP, cP, rfl, _, slP⟩ := hv.pend.slice
  obtain ⟨AK, cK, rfl, _, slK⟩ := hv.keep.slice
  refine Ret.enter Tryz.func80 rfl Tryz.ntmps80 (by kernel_rfl) rfl ?_
  refine KW.seq (KW.region ?_)
  refine OW.val rfl rfl (EX.assign rfl) ?_
  refine OW.nil ?_
  refine KW.seq (KW.seq (KW.region ?_))
  refine OW.val rfl rfl (EX.move rfl) ?_
  refine OW.val rfl rfl (EX.nilCheck rfl) ?_
  refine OW.val rfl rfl (EX.fieldAddr (off := 4) Tryz.underlying66 rfl rfl ti3 rfl rfl) ?_
  refine OW.val rfl rfl (EX.load Tryz.underlying3 rfl rfl (hv.cells.cell_of rfl)) ?_
  refine OW.val rfl rfl (by first | exact EX.eqlN (b := 0) rfl rfl | exact EX.eqlZ rfl rfl) ?_
  refine OW.nil ?_
  refine KW.condD rfl (fun a0 => ?_) (fun a0 => ?_)
  · have e : D.falls = (D, false) := by
      unfold Dv.falls
      rw [if_neg (by omega)]
      have : D.at_ - 1 = D.at_ := by omega
      rw [this]
    refine KW.seq (KW.region ?_)
    refine OW.val rfl rfl (EX.assign rfl) ?_
    refine OW.nil ?_
    refine KW.ret (ret1 rfl rfl ?_)
    rw [e]
    exact ⟨rfl, h0, Tm.refl _ _ _⟩
  · refine KW.skip (KW.seq (KW.region ?_))
    refine OW.val rfl rfl (EX.move rfl) ?_
    refine OW.val rfl rfl (EX.move rfl) ?_
    refine OW.val rfl rfl (EX.nilCheck rfl) ?_
    refine OW.val rfl rfl (EX.fieldAddr (off := 4) Tryz.underlying66 rfl rfl ti3 rfl rfl) ?_
    refine OW.val rfl rfl (EX.load Tryz.underlying3 rfl rfl (hv.cells.cell_of rfl)) ?_
    refine OW.val rfl rfl (by first | exact EX.subN (b := 1) (m := 9223372036854775807) rfl rfl rfl (by omega) | exact EX.subZ (m := 9223372036854775807) rfl rfl rfl rfl (by omega)) ?_
    refine OW.val rfl rfl (EX.nilCheck rfl) ?_
    refine OW.val rfl rfl (EX.fieldAddr (off := 4) Tryz.underlying66 rfl rfl ti3 rfl rfl) ?_
    refine OW.storeB rfl ti3 rfl rfl (by first | rfl | assumption | exact Own.one (by assumption)) (hv.cells) (by simp) ?_
    rintro w1 hb1 hm1
    refine OW.nil ?_
    refine KW.seq (KW.seq (KW.region ?_))
    refine OW.val rfl rfl (EX.move rfl) ?_
    refine OW.val rfl rfl (EX.nilCheck rfl) ?_
    refine OW.val rfl rfl (EX.fieldAddr (off := 4) Tryz.underlying66 rfl rfl ti3 rfl rfl) ?_
    have hv1 := RDev.after (D' := { D with at_ := D.at_ - 1 }) hlo hv.cells hm1 hb1 hv.synced hv.now hv.pend hv.keep
    have t1 := RDev.tmS hlo hv.cells hm1
    refine OW.val rfl rfl (EX.load Tryz.underlying3 rfl rfl (hv1.cells.cell_of rfl)) ?_
    refine OW.val rfl rfl (by first | exact EX.gtrN (b := 0) rfl rfl | exact EX.gtrZ rfl rfl) ?_
    refine OW.nil ?_
    refine KW.condD rfl (fun a1 => ?_) (fun a1 => ?_)
    · have a1' : 0 < D.at_ - 1 := a1
      have e : D.falls = ({ D with at_ := D.at_ - 1 }, false) := by unfold Dv.falls; rw [if_neg (by omega)]
      refine KW.seq (KW.region ?_)
      refine OW.val rfl rfl (EX.assign rfl) ?_
      refine OW.nil ?_
      refine KW.ret (ret1 rfl rfl ?_)
      rw [e]
      exact ⟨rfl, ⟨_, _, _, _, hv1⟩, t1⟩
    · have a1' : ¬ 0 < D.at_ - 1 := a1
      have e : D.falls = ({ D with kept := fallen D.pend D.keep D.kept, now := fallen D.pend D.keep D.kept, pend := [], at_ := 0, keep := [], dead := true }, true) := by unfold Dv.falls; rw [if_pos (by omega)]
      have ea : D.at_ - 1 = 0 := by omega
      refine KW.skip (KW.seq (KW.seq (KW.region ?_)))
      refine OW.val rfl rfl (EX.assign rfl) ?_
      refine OW.nil ?_
      refine KW.block ?_
      refine KW.loop3 (fun (k : Nat) (vS : Value) (wr : World) => k ≤ D.pend.length ∧ RDev wr B b { D with at_ := D.at_ - 1, kept := fallen (D.pend.take k) D.keep D.kept } vS vN (.slice AP D.pend.length cP) (.slice AK D.keep.length cK) ∧ Tm w wr B rdy) (fun (k : Nat) (vS : Value) (wr : World) => [(0, .pointer (some ⟨b, 0, none⟩)), (3, .int .i64 ((k : Nat) : Int))]) (fun (k : Nat) (vS : Value) (wr : World) => wr) (fun (k : Nat) (vS : Value) (wr : World) => D.pend.length - k) (0) (vS) (w1) ⟨rfl, rfl, trivial⟩ rfl ?_ ?_
      · exact ⟨by omega, hv1, t1⟩
      · rintro k vS wr ⟨hkl, hvr, tmr⟩
        obtain ⟨_, _, e2, _, slPr⟩ := hvr.pend.slice
        cases e2
        obtain ⟨_, _, e2, _, slKr⟩ := hvr.keep.slice
        cases e2
        have hblr := hvr.cells.lt
        refine KW.seq (KW.seq (KW.region ?_))
        refine OW.val rfl rfl (EX.move rfl) ?_
        refine OW.val rfl rfl (EX.move rfl) ?_
        refine OW.val rfl rfl (EX.nilCheck rfl) ?_
        refine OW.val rfl rfl (EX.fieldAddr (off := 3) Tryz.underlying66 rfl rfl ti64 rfl rfl) ?_
        refine OW.val rfl rfl (EX.load Tryz.underlying64 rfl rfl (hvr.cells.cell_of rfl)) ?_
        refine OW.val rfl rfl (EX.lenA Tryz.underlying64 rfl) ?_
        refine OW.val rfl rfl (by first | exact EX.lssN rfl rfl | exact EX.lssZ rfl rfl) ?_
        refine OW.nil ?_
        refine KW.condD rfl (fun hlt => ?_) (fun hlt => ?_)
        · have hltp : k < D.pend.length := hlt
          obtain ⟨bP, oP, rfl, _, _⟩ := slPr.flat (cells := chV) (c := 3) (fun a => by cases a <;> rfl) (by decide) hltp
          have hck := hD.pend D.pend[k] (List.getElem_mem hltp)
          have hstep := fallen_step (bs := D.keep) (all := D.kept) hltp
          have hfl := fallen_length (cap := D.cap) (D.pend.take k) D.keep D.kept (fun c hc => hD.pend c (List.mem_of_mem_take hc)) hD.kept hD.keptM
          refine KW.skip (KW.seq (KW.block (KW.seq ?_)))
          refine KW.region ?_
          refine OW.val rfl rfl (EX.move rfl) ?_
          refine OW.val rfl rfl (EX.move rfl) ?_
          refine OW.val rfl rfl (EX.nilCheck rfl) ?_
          refine OW.val rfl rfl (EX.fieldAddr (off := 5) Tryz.underlying66 rfl rfl ti47 rfl rfl) ?_
          refine OW.val rfl rfl (EX.load Tryz.underlying47 rfl rfl (hvr.cells.cell_of rfl)) ?_
          refine OW.val rfl rfl (EX.lenA Tryz.underlying47 rfl) ?_
          refine OW.val rfl rfl (by first | exact EX.lssN rfl rfl | exact EX.lssZ rfl rfl) ?_
          refine OW.val rfl rfl (EX.move rfl) ?_
          refine OW.splitD 38 rfl (fun p1 => ?_) (fun p1 => ?_)
          · have p1' : k < D.keep.length := p1
            have hgk : D.keep.getD k false = D.keep[k] := by rw [List.getD_eq_getElem?_getD, List.getElem?_eq_getElem p1']; rfl
            have hgv : (boolsV D.keep)[k]? = some (.bool D.keep[k]) := by unfold boolsV; rw [List.getElem?_map, List.getElem?_eq_getElem p1']; rfl
            obtain ⟨bK, oK, rfl, _, hcK⟩ := slKr.at_ (by show 0 < (boolsV D.keep).length; rw [boolsV_length]; omega)
            generalize D.keep[k] = q at hgk hgv
            refine OW.val rfl rfl (EX.move rfl) ?_
            refine OW.val rfl rfl (EX.nilCheck rfl) ?_
            refine OW.val rfl rfl (EX.fieldAddr (off := 5) Tryz.underlying66 rfl rfl ti47 rfl rfl) ?_
            refine OW.val rfl rfl (EX.load Tryz.underlying47 rfl rfl (hvr.cells.cell_of rfl)) ?_
            refine OW.val rfl rfl (EX.move rfl) ?_
            refine OW.val rfl rfl (by first | exact EX.indexAddrS0 Tryz.underlying47 ti4 rfl rfl (by omega) | exact EX.indexAddrS1 Tryz.underlying47 ti4 rfl rfl (by omega)) ?_
            refine OW.val rfl rfl (EX.load Tryz.underlying4 rfl rfl (hcK k _ hgv)) ?_
            refine OW.val rfl rfl (EX.pickT rfl rfl) ?_
            refine OW.nil ?_
            refine KW.cond rfl (fun p2 => ?_) (fun p2 => ?_)
            · rw [hgk, p2, if_pos rfl] at hstep
              have hvd := hvr.ext (Ext.drew wr)
              obtain ⟨AS, cS, rfl, _, slS⟩ := hvd.synced.slice
              refine KW.regionG (N := 16) (fun w' => (∃ u, Bk w' b 66 [.int .i64 (D.cap : Int), u, vN, .slice (some ⟨bP, oP, none⟩) D.pend.length cP, .int .i64 ((D.at_ - 1 : Nat) : Int), .slice (some ⟨bK, oK, none⟩) D.keep.length cK, .bool D.dead, .int .i64 (D.calls : Int)]) ∧ Own w' B 114 3 (.slice (some ⟨bP, oP, none⟩) D.pend.length cP) D.pend.length (chsV D.pend)) (by kernel_rfl) rfl ?_
              have hS := (⟨⟨_, hvd.cells⟩, hvd.pend⟩ : (∃ u, Bk wr.drew b 66 [.int .i64 (D.cap : Int), u, vN, .slice (some ⟨bP, oP, none⟩) D.pend.length cP, .int .i64 ((D.at_ - 1 : Nat) : Int), .slice (some ⟨bK, oK, none⟩) D.keep.length cK, .bool D.dead, .int .i64 (D.calls : Int)]) ∧ Own wr.drew B 114 3 (.slice (some ⟨bP, oP, none⟩) D.pend.length cP) D.pend.length (chsV D.pend))
              refine GW.val 0 rfl (by kernel_rfl) (by kernel_rfl) (by kernel_rfl) rfl rfl hS (fun w' hS' => EX.move rfl) ?_
              refine GW.val 1 rfl (by kernel_rfl) (by kernel_rfl) (by kernel_rfl) rfl rfl hS (fun w' hS' => EX.move rfl) ?_
              refine GW.val 2 rfl (by kernel_rfl) (by kernel_rfl) (by kernel_rfl) rfl rfl hS (fun w' hS' => EX.nilCheck rfl) ?_
              refine GW.val 3 rfl (by kernel_rfl) (by kernel_rfl) (by kernel_rfl) rfl rfl hS (fun w' hS' => EX.fieldAddr (off := 1) Tryz.underlying66 rfl rfl ti24 rfl rfl) ?_
              refine GW.val 5 rfl (by kernel_rfl) (by kernel_rfl) (by kernel_rfl) rfl rfl hS (fun w' hS' => EX.move rfl) ?_
              refine GW.val 6 rfl (by kernel_rfl) (by kernel_rfl) (by kernel_rfl) rfl rfl hS (fun w' hS' => EX.nilCheck rfl) ?_
              refine GW.val 7 rfl (by kernel_rfl) (by kernel_rfl) (by kernel_rfl) rfl rfl hS (fun w' hS' => EX.fieldAddr (off := 3) Tryz.underlying66 rfl rfl ti64 rfl rfl) ?_
              refine GW.val 8 rfl (by kernel_rfl) (by kernel_rfl) (by kernel_rfl) rfl rfl hS (fun w' hS' => EX.load Tryz.underlying64 rfl rfl ((hS'.1.choose_spec).cell_of rfl)) ?_
              refine GW.val 9 rfl (by kernel_rfl) (by kernel_rfl) (by kernel_rfl) rfl rfl hS (fun w' hS' => EX.move rfl) ?_
              refine GW.val 10 rfl (by kernel_rfl) (by kernel_rfl) (by kernel_rfl) rfl rfl hS (fun w' hS' => EX.indexAddrS Tryz.underlying64 ti114 rfl rfl (by omega)) ?_
              refine GW.val 11 rfl (by kernel_rfl) (by kernel_rfl) (by kernel_rfl) rfl rfl hS (fun w' hS' => EX.loadA (l := chV D.pend[k]) Tryz.underlying114 rfl ti114 rfl (by cases D.pend[k] <;> rfl) (chs_at hS'.2 hltp)) ?_
              refine GW.new 4 rfl (by kernel_rfl) rfl rfl (EX.load Tryz.underlying24 rfl rfl (hvd.cells.cell_of rfl)) ⟨hS, fun hS => ?_⟩
              refine GW.call 12 rfl (by kernel_rfl) rfl rfl rfl (done_s D.pend[k] hck hcap.2 (fallen (D.pend.take k) D.keep D.kept) hfl.2 hfl.1 AS cS _ wr.drew slS) ?_
              rintro v5 w5 ⟨hown5, hx5⟩
              refine ⟨⟨hS.1.imp fun u hu => hu.ext hx5, hS.2.ext hx5⟩, fun hS => ?_⟩
              refine GW.val 13 rfl (by kernel_rfl) (by kernel_rfl) (by kernel_rfl) rfl rfl hS (fun w' hS' => EX.nilCheck rfl) ?_
              refine GW.val 14 rfl (by kernel_rfl) (by kernel_rfl) (by kernel_rfl) rfl rfl hS (fun w' hS' => EX.fieldAddr (off := 1) Tryz.underlying66 rfl rfl ti24 rfl rfl) ?_
              have hv5 := hvd.ext hx5
              refine GW.storeB 15 rfl (by kernel_rfl) rfl ti24 rfl rfl (by first | rfl | assumption | exact Own.one (by assumption)) (hv5.cells) (by simp) ?_
              rintro w6 hb6 hm6
              refine ⟨⟨⟨_, hb6⟩, (Tm.set hv5.cells hm6 hlo).own hS.2 rfl⟩, fun hS => ?_⟩
              refine GW.done (by kernel_rfl) ?_
              refine KW.leave (KW.region ?_)
              refine OW.val rfl rfl (EX.move rfl) ?_
              refine OW.val rfl rfl (by first | exact EX.addN (b := 1) (m := 9223372036854775807) rfl rfl rfl (by omega) | exact EX.addZ (m := 9223372036854775807) rfl rfl rfl rfl (by omega)) ?_
              refine OW.val rfl rfl (EX.assign rfl) ?_
              refine OW.nil ?_
              have z5 : B ≤ wr.drew.heap.size := by show B ≤ wr.heap.size; omega
              have hv6 := RDev.after (D' := { D with at_ := D.at_ - 1, kept := fallen (D.pend.take (k + 1)) D.keep D.kept }) hlo hv5.cells hm6 hb6 (by rw [hstep]; exact hown5.more z5) hv5.now hv5.pend hv5.keep
              refine KW.back3 (k + 1) (v5) (w6) ⟨rfl, rfl, trivial⟩ rfl ?_ (by omega)
              exact ⟨by omega, hv6, ((tmr.trans (Tm.of_ext (Ext.drew wr) B rdy)).trans (Tm.of_ext hx5 B rdy)).trans (RDev.tmS hlo hv5.cells hm6)⟩
            · rw [hgk, p2, if_neg (by decide)] at hstep
              refine KW.skip (KW.leave (KW.region ?_))
              refine OW.val rfl rfl (EX.move rfl) ?_
              refine OW.val rfl rfl (by first | exact EX.addN (b := 1) (m := 9223372036854775807) rfl rfl rfl (by omega) | exact EX.addZ (m := 9223372036854775807) rfl rfl rfl rfl (by omega)) ?_
              refine OW.val rfl rfl (EX.assign rfl) ?_
              refine OW.nil ?_
              refine KW.back3 (k + 1) (vS) (wr) ⟨rfl, rfl, trivial⟩ rfl ?_ (by omega)
              refine ⟨by omega, ?_, tmr⟩
              rw [hstep]
              exact hvr
          · have p1' : ¬ k < D.keep.length := p1
            have hgk : D.keep.getD k false = false := by rw [List.getD_eq_getElem?_getD, List.getElem?_eq_none (by omega)]; rfl
            rw [hgk, if_neg (by decide)] at hstep
            refine OW.pass rfl rfl ?_
            refine OW.pass rfl rfl ?_
            refine OW.pass rfl rfl ?_
            refine OW.pass rfl rfl ?_
            refine OW.pass rfl rfl ?_
            refine OW.pass rfl rfl ?_
            refine OW.pass rfl rfl ?_
            refine OW.val rfl rfl (EX.pickF rfl rfl) ?_
            refine OW.nil ?_
            refine KW.condF rfl (KW.skip (KW.leave (KW.region ?_)))
            refine OW.val rfl rfl (EX.move rfl) ?_
            refine OW.val rfl rfl (by first | exact EX.addN (b := 1) (m := 9223372036854775807) rfl rfl rfl (by omega) | exact EX.addZ (m := 9223372036854775807) rfl rfl rfl rfl (by omega)) ?_
            refine OW.val rfl rfl (EX.assign rfl) ?_
            refine OW.nil ?_
            refine KW.back3 (k + 1) (vS) (wr) ⟨rfl, rfl, trivial⟩ rfl ?_ (by omega)
            refine ⟨by omega, ?_, tmr⟩
            rw [hstep]
            exact hvr
        · obtain rfl : k = D.pend.length := by have : ¬ k < D.pend.length := hlt; omega
          have hfull : fallen (D.pend.take D.pend.length) D.keep D.kept = fallen D.pend D.keep D.kept := by rw [List.take_length]
          rw [hfull] at hvr
          have hso := hvr.synced.one
          refine KW.exit rfl (KW.seq (KW.region ?_))
          refine OW.val rfl rfl (EX.move rfl) ?_
          refine OW.val rfl rfl (EX.move rfl) ?_
          refine OW.val rfl rfl (EX.nilCheck rfl) ?_
          refine OW.val rfl rfl (EX.fieldAddr (off := 1) Tryz.underlying66 rfl rfl ti24 rfl rfl) ?_
          refine OW.val rfl rfl (EX.load Tryz.underlying24 rfl rfl (hvr.cells.cell_of rfl)) ?_
          refine OW.val rfl rfl (EX.nilCheck rfl) ?_
          refine OW.val rfl rfl (EX.fieldAddr (off := 2) Tryz.underlying66 rfl rfl ti24 rfl rfl) ?_
          refine OW.storeB rfl ti24 rfl rfl (by first | rfl | assumption | exact Own.one (by assumption)) (hvr.cells) (by simp) ?_
          rintro w2 hb2 hm2
          refine OW.nil ?_
          refine KW.seq (KW.region ?_)
          refine OW.val rfl rfl (EX.move rfl) ?_
          refine OW.val rfl rfl (EX.nilCheck rfl) ?_
          refine OW.val rfl rfl (EX.fieldAddr (off := 3) Tryz.underlying66 rfl rfl ti64 rfl rfl) ?_
          have t2 := RDev.tmS hlo hvr.cells hm2
          refine OW.storeB rfl ti64 rfl rfl (by first | rfl | assumption | exact Own.one (by assumption)) (hb2) (by simp) ?_
          rintro w3 hb3 hm3
          refine OW.nil ?_
          refine KW.seq (KW.region ?_)
          refine OW.val rfl rfl (EX.move rfl) ?_
          refine OW.val rfl rfl (EX.nilCheck rfl) ?_
          refine OW.val rfl rfl (EX.fieldAddr (off := 5) Tryz.underlying66 rfl rfl ti47 rfl rfl) ?_
          have t3 := RDev.tmS hlo hb2 hm3
          refine OW.storeB rfl ti47 rfl rfl (by first | rfl | assumption | exact Own.one (by assumption)) (hb3) (by simp) ?_
          rintro w4 hb4 hm4
          refine OW.nil ?_
          refine KW.seq (KW.region ?_)
          refine OW.val rfl rfl (EX.move rfl) ?_
          refine OW.val rfl rfl (EX.nilCheck rfl) ?_
          refine OW.val rfl rfl (EX.fieldAddr (off := 6) Tryz.underlying66 rfl rfl ti4 rfl rfl) ?_
          have t4 := RDev.tmS hlo hb3 hm4
          refine OW.storeB rfl ti4 rfl rfl (by first | rfl | assumption | exact Own.one (by assumption)) (hb4) (by simp) ?_
          rintro w5 hb5 hm5
          refine OW.nil ?_
          refine KW.seq (KW.region ?_)
          refine OW.val rfl rfl (EX.assign rfl) ?_
          refine OW.nil ?_
          have t5 := RDev.tmS hlo hb4 hm5
          have tt := ((t2.trans t3).trans t4).trans t5
          refine KW.ret (ret1 rfl rfl ?_)
          rw [e]
          refine ⟨rfl, ⟨vS, vS, .slice none 0 0, .slice none 0 0, ⟨hlo, ?_, tt.own hvr.synced rfl, tt.own hvr.synced rfl, Own.nil _ _ _ _, Own.nil _ _ _ _⟩⟩, tmr.trans tt⟩
          rw [ea] at hb5
          exact hb5
end
end Go.Proofs.YthgfdpcpbghkpaaGreatDoor
namespace Go.Proofs.YthgfdpcpbghkpaaGreatDoor
open Go.RowKit Dsk
theorem chV_one (c : Ch) : ∀ u ∈ chV c, u.oneCell' = true := by
  intro u hu
  cases c <;> simp only [chV, List.mem_cons, List.not_mem_nil, or_false] at hu <;> rcases hu with rfl | rfl | rfl <;> rfl
theorem falls_same {D : Dv} (h : D.falls.2 = false) : D.falls.1 = { D with at_ := D.at_ - 1 } := by
  unfold Dv.falls at h ⊢
  split
  · rename_i q
    rw [if_pos q] at h
    cases h
  · rfl
theorem rdy_rty {w w' : World} {B : Nat} (t : Tm w w' B rdy) : Tm w w' B rty := t.mono fun T hT => by simp only [rdy, beq_iff_eq] at hT; simp [rty, hT]
section
variable {w : World} {B b : Nat} {D : Dv}
set_option maxRecDepth 20000 in
theorem change_d (h : RDevAt w B b D) (hD : D.Ok) (c : Ch) (hc : c.ok D.cap) (hcl : D.calls ≤ 1000000) (hp : D.pend.length ≤ 900000) (ha : D.at_ ≤ 9223372036854775807) (hk : D.keep.length ≤ 140737488355328) :
    Ret Tryz.prog 54 [.pointer (some ⟨b, 0, none⟩), .agg (chV c).toArray] w fun v w' => v = .int .i64 (((D.does (some c)).2 : Nat) : Int) ∧ RDevAt w' B b (D.does (some c)).1 ∧ Tm w w' B rty := by
  have hcap := hD.cap
  have hdf := does_falls D (some c)
  have hcl3 : (chV c).length = 3 := by cases c <;> rfl
  have hpo := pushed_ok hD (c := some c) (fun d hd => by cases hd; exact hc)
  obtain ⟨vS, vN, vP, vK, hv⟩ := h
  have hlo := hv.lo
  have hbl := hv.cells.lt
  refine Ret.enter Tryz.func54 rfl Tryz.ntmps54 (by kernel_rfl) rfl ?_
  refine KW.seq (KW.region ?_)
  refine OW.boxS rfl rfl rfl ?_
  rintro cb w1 hge1 hcb1 hx1
  refine OW.val rfl rfl (EX.assign rfl) ?_
  refine OW.nil ?_
  refine KW.seq ?_
  have hv1 := hv.ext hx1
  have hvd := hv1.ext (Ext.drew w1)
  have hcbd : Bk w1.drew cb 114 (chV c) := hcb1
  refine KW.cut2 (fun (v4 : Value) (w5 : World) => RDev w5 B b (D.pushed (some c)) vS vN v4 vK ∧ Bk w5 cb 114 (chV c) ∧ Tm w w5 B rty) (fun (v4 : Value) (w5 : World) => [(0, .pointer (some ⟨b, 0, none⟩)), (3, .pointer (some ⟨cb, 0, none⟩))]) (fun (v4 : Value) (w5 : World) => w5) ?_ ?_
  · refine KW.regionG (N := 11) (fun w' => (∃ u, Bk w' b 66 [.int .i64 (D.cap : Int), vS, vN, u, .int .i64 (D.at_ : Int), vK, .bool D.dead, .int .i64 (D.calls : Int)]) ∧ Bk w' cb 114 (chV c)) (by kernel_rfl) rfl ?_
    have hS := (⟨⟨_, hvd.cells⟩, hcbd⟩ : (∃ u, Bk w1.drew b 66 [.int .i64 (D.cap : Int), vS, vN, u, .int .i64 (D.at_ : Int), vK, .bool D.dead, .int .i64 (D.calls : Int)]) ∧ Bk w1.drew cb 114 (chV c))
    refine GW.val 0 rfl (by kernel_rfl) (by kernel_rfl) (by kernel_rfl) rfl rfl hS (fun w' hS' => EX.move rfl) ?_
    refine GW.val 1 rfl (by kernel_rfl) (by kernel_rfl) (by kernel_rfl) rfl rfl hS (fun w' hS' => EX.move rfl) ?_
    refine GW.val 2 rfl (by kernel_rfl) (by kernel_rfl) (by kernel_rfl) rfl rfl hS (fun w' hS' => EX.nilCheck rfl) ?_
    refine GW.val 3 rfl (by kernel_rfl) (by kernel_rfl) (by kernel_rfl) rfl rfl hS (fun w' hS' => EX.fieldAddr (off := 3) Tryz.underlying66 rfl rfl ti64 rfl rfl) ?_
    refine GW.val 5 rfl (by kernel_rfl) (by kernel_rfl) (by kernel_rfl) rfl rfl hS (fun w' hS' => EX.loadBk Tryz.underlying114 rfl ti114 rfl (hS'.2) (by cases c <;> rfl)) ?_
    refine GW.two 4 6 (by kernel_rfl) ?_ ?_
    · refine GO.new 4 rfl rfl rfl (EX.load Tryz.underlying64 rfl rfl (hvd.cells.cell_of rfl)) ⟨hS, fun hS => ?_⟩
      refine GW.buildG 6 1 ([chV c]) rfl (by kernel_rfl) rfl rfl Tryz.underlying64 ti114 rfl (by decide) rfl rfl rfl (by repeat' (first | exact List.forall_mem_nil _ | refine List.forall_mem_cons.2 ⟨by first | rfl | assumption, ?_⟩)) (by decide) ?_
      rintro nb w3 hge3 hn3 hx3
      refine ⟨⟨hS.1.imp fun u hu => hu.ext hx3, hS.2.ext hx3⟩, fun hS => ?_⟩
      have hn3' : Bk w3 nb 114 (chV c) := by simpa using hn3
      have hv3 := hvd.ext hx3
      have hcb3 := hcbd.ext hx3
      refine GW.append 7 0 rfl (by kernel_rfl) rfl rfl Tryz.underlying64 ti114 rfl (by decide) rfl rfl ((hv3.pend.more (Nat.zero_le _))) (Src.of_sl Tryz.underlying64 hn3'.sl (by cases c <;> rfl) (chV_one c) (by decide)) (by simp only [maxLen]; omega) (by omega) (Nat.zero_le _) ?_
      rintro v4 w4 hown4 hg4 hq4
      have t4 := Tm.grown hv3.pend hg4
      have hcb4 : Bk w4 cb 114 (chV c) := hcb3.grown hg4 (fun q => by have := hv.pend.lt cb q.symm; omega)
      have hd4 := t4.bk hv3.cells (by decide)
      refine ⟨⟨⟨_, hd4⟩, hcb4⟩, fun hS => ?_⟩
      refine GW.val 8 rfl (by kernel_rfl) (by kernel_rfl) (by kernel_rfl) rfl rfl hS (fun w' hS' => EX.nilCheck rfl) ?_
      refine GW.val 9 rfl (by kernel_rfl) (by kernel_rfl) (by kernel_rfl) rfl rfl hS (fun w' hS' => EX.fieldAddr (off := 3) Tryz.underlying66 rfl rfl ti64 rfl rfl) ?_
      have hown4' : Own w4 B 114 3 v4 (D.pend ++ [c]).length (chsV (D.pend ++ [c])) := by
        have e1 : chsV (D.pend ++ [c]) = chsV D.pend ++ chV c := by simp
        rw [List.length_append, List.length_singleton, e1]
        refine hown4.base (fun k hk => ?_)
        rcases hq4 with e | e
        · exact (hv.pend.lt k (by rw [← e]; exact hk)).1
        · rw [e] at hk; injection hk with hk; have := hx3.size; have : w1.drew.heap.size = w1.heap.size := rfl; have := hx1.size; omega
      have hv41 := hown4'.one
      refine GW.storeB 10 rfl (by kernel_rfl) rfl ti64 rfl rfl (by first | rfl | assumption | exact Own.one (by assumption)) (hd4) (by simp) ?_
      rintro w5 hb5 hm5
      refine ⟨⟨⟨_, hb5⟩, hcb4.mo hm5 (by simp; exact hd4.ne hcb4 (by decide) |>.symm)⟩, fun hS => ?_⟩
      refine GW.done (by kernel_rfl) ?_
      have hcb5 : Bk w5 cb 114 (chV c) := hcb4.mo hm5 (by simp; exact (hd4.ne hcb4 (by decide)).symm)
      refine KW.meet2 (v4) (w5) ⟨rfl, rfl, trivial⟩ rfl ?_
      have tx : Tm w w3 B rty := (Tm.of_ext (hx1.trans (Ext.drew w1)) B rty).trans (Tm.of_ext hx3 B rty)
      exact ⟨RDev.after (D' := D.pushed (some c)) hlo hd4 hm5 hb5 (t4.own hv3.synced (by decide)) (t4.own hv3.now (by decide)) hown4' (t4.own hv3.keep (by decide)), hcb5, (tx.trans (t4.mono fun T hT => by simp at hT; simp [rty, hT])).trans (RDev.tmD hlo hd4 hm5)⟩
    · refine GO.buildG 6 1 ([chV c]) rfl rfl rfl Tryz.underlying64 ti114 rfl (by decide) rfl rfl rfl (by repeat' (first | exact List.forall_mem_nil _ | refine List.forall_mem_cons.2 ⟨by first | rfl | assumption, ?_⟩)) (by decide) ?_
      rintro nb w3 hge3 hn3 hx3
      refine ⟨⟨hS.1.imp fun u hu => hu.ext hx3, hS.2.ext hx3⟩, fun hS => ?_⟩
      refine GW.new 4 rfl (by kernel_rfl) rfl rfl (EX.load Tryz.underlying64 rfl rfl ((hvd.ext hx3).cells.cell_of rfl)) ⟨hS, fun hS => ?_⟩
      have hn3' : Bk w3 nb 114 (chV c) := by simpa using hn3
      have hv3 := hvd.ext hx3
      have hcb3 := hcbd.ext hx3
      refine GW.append 7 0 rfl (by kernel_rfl) rfl rfl Tryz.underlying64 ti114 rfl (by decide) rfl rfl ((hv3.pend.more (Nat.zero_le _))) (Src.of_sl Tryz.underlying64 hn3'.sl (by cases c <;> rfl) (chV_one c) (by decide)) (by simp only [maxLen]; omega) (by omega) (Nat.zero_le _) ?_
      rintro v4 w4 hown4 hg4 hq4
      have t4 := Tm.grown hv3.pend hg4
      have hcb4 : Bk w4 cb 114 (chV c) := hcb3.grown hg4 (fun q => by have := hv.pend.lt cb q.symm; omega)
      have hd4 := t4.bk hv3.cells (by decide)
      refine ⟨⟨⟨_, hd4⟩, hcb4⟩, fun hS => ?_⟩
      refine GW.val 8 rfl (by kernel_rfl) (by kernel_rfl) (by kernel_rfl) rfl rfl hS (fun w' hS' => EX.nilCheck rfl) ?_
      refine GW.val 9 rfl (by kernel_rfl) (by kernel_rfl) (by kernel_rfl) rfl rfl hS (fun w' hS' => EX.fieldAddr (off := 3) Tryz.underlying66 rfl rfl ti64 rfl rfl) ?_
      have hown4' : Own w4 B 114 3 v4 (D.pend ++ [c]).length (chsV (D.pend ++ [c])) := by
        have e1 : chsV (D.pend ++ [c]) = chsV D.pend ++ chV c := by simp
        rw [List.length_append, List.length_singleton, e1]
        refine hown4.base (fun k hk => ?_)
        rcases hq4 with e | e
        · exact (hv.pend.lt k (by rw [← e]; exact hk)).1
        · rw [e] at hk; injection hk with hk; have := hx3.size; have : w1.drew.heap.size = w1.heap.size := rfl; have := hx1.size; omega
      have hv41 := hown4'.one
      refine GW.storeB 10 rfl (by kernel_rfl) rfl ti64 rfl rfl (by first | rfl | assumption | exact Own.one (by assumption)) (hd4) (by simp) ?_
      rintro w5 hb5 hm5
      refine ⟨⟨⟨_, hb5⟩, hcb4.mo hm5 (by simp; exact hd4.ne hcb4 (by decide) |>.symm)⟩, fun hS => ?_⟩
      refine GW.done (by kernel_rfl) ?_
      have hcb5 : Bk w5 cb 114 (chV c) := hcb4.mo hm5 (by simp; exact (hd4.ne hcb4 (by decide)).symm)
      refine KW.meet2 (v4) (w5) ⟨rfl, rfl, trivial⟩ rfl ?_
      have tx : Tm w w3 B rty := (Tm.of_ext (hx1.trans (Ext.drew w1)) B rty).trans (Tm.of_ext hx3 B rty)
      exact ⟨RDev.after (D' := D.pushed (some c)) hlo hd4 hm5 hb5 (t4.own hv3.synced (by decide)) (t4.own hv3.now (by decide)) hown4' (t4.own hv3.keep (by decide)), hcb5, (tx.trans (t4.mono fun T hT => by simp at hT; simp [rty, hT])).trans (RDev.tmD hlo hd4 hm5)⟩
  · rintro v4 w5 ⟨hv5, hcb5, t5⟩
    have hpl : (D.pushed (some c)).pend.length = D.pend.length + 1 := by simp [Dv.pushed]
    refine KW.seq (KW.seq (KW.region ?_))
    refine OW.val rfl rfl (EX.move rfl) ?_
    refine OW.call rfl rfl rfl (rfalls_d ⟨_, _, _, _, hv5⟩ hpo (by rw [hpl]; omega) ha hk) ?_
    rintro _ w6 ⟨rfl, hv6, t6⟩
    refine OW.nil ?_
    have hfo := falls_ok hpo
    have hcb6 := t6.bk hcb5 (by decide)
    have t06 := t5.trans (rdy_rty t6)
    refine KW.cond rfl (fun hf => ?_) (fun hf => ?_)
    · refine KW.seq (KW.region ?_)
      refine OW.val rfl rfl (EX.assign rfl) ?_
      refine OW.nil ?_
      refine KW.ret (ret1 rfl rfl ?_)
      rw [hdf, if_pos hf]
      exact ⟨rfl, hv6, t06⟩
    · rw [hf, if_neg (by decide)] at hdf
      have hfs := falls_same hf
      have hec : (D.pushed (some c)).falls.1.cap = D.cap := by rw [hfs]; rfl
      have hecl : (D.pushed (some c)).falls.1.calls = D.calls := by rw [hfs]; rfl
      generalize (D.pushed (some c)).falls.1 = E at hv6 hfo hdf hec hecl
      have hen := hfo.now
      have henm := hfo.nowM
      obtain ⟨uS, uN, uP, uK, hvE⟩ := hv6
      have hvEd := hvE.ext (Ext.drew w6)
      have hcb6d : Bk w6.drew cb 114 (chV c) := hcb6
      obtain ⟨AN, cN, rfl, _, slN⟩ := hvEd.now.slice
      have hblE := hvE.cells.lt
      refine KW.skip (KW.seq ?_)
      refine KW.regionG (N := 10) (fun w' => (∃ u, Bk w' b 66 [.int .i64 (E.cap : Int), uS, u, uP, .int .i64 (E.at_ : Int), uK, .bool E.dead, .int .i64 (E.calls : Int)]) ∧ Bk w' cb 114 (chV c)) (by kernel_rfl) rfl ?_
      have hS := (⟨⟨_, hvEd.cells⟩, hcb6d⟩ : (∃ u, Bk w6.drew b 66 [.int .i64 (E.cap : Int), uS, u, uP, .int .i64 (E.at_ : Int), uK, .bool E.dead, .int .i64 (E.calls : Int)]) ∧ Bk w6.drew cb 114 (chV c))
      refine GW.val 0 rfl (by kernel_rfl) (by kernel_rfl) (by kernel_rfl) rfl rfl hS (fun w' hS' => EX.move rfl) ?_
      refine GW.val 1 rfl (by kernel_rfl) (by kernel_rfl) (by kernel_rfl) rfl rfl hS (fun w' hS' => EX.move rfl) ?_
      refine GW.val 2 rfl (by kernel_rfl) (by kernel_rfl) (by kernel_rfl) rfl rfl hS (fun w' hS' => EX.nilCheck rfl) ?_
      refine GW.val 3 rfl (by kernel_rfl) (by kernel_rfl) (by kernel_rfl) rfl rfl hS (fun w' hS' => EX.fieldAddr (off := 2) Tryz.underlying66 rfl rfl ti24 rfl rfl) ?_
      refine GW.val 5 rfl (by kernel_rfl) (by kernel_rfl) (by kernel_rfl) rfl rfl hS (fun w' hS' => EX.loadBk Tryz.underlying114 rfl ti114 rfl (hS'.2) (by cases c <;> rfl)) ?_
      refine GW.new 4 rfl (by kernel_rfl) rfl rfl (EX.load Tryz.underlying24 rfl rfl (hvEd.cells.cell_of rfl)) ⟨hS, fun hS => ?_⟩
      refine GW.call 6 rfl (by kernel_rfl) rfl rfl rfl (done_s c (by rw [← hec] at hc; exact hc) (by omega) E.now henm hen AN cN _ w6.drew slN) ?_
      rintro v8 w8 ⟨hown8, hx8⟩
      refine ⟨⟨hS.1.imp fun u hu => hu.ext hx8, hS.2.ext hx8⟩, fun hS => ?_⟩
      refine GW.val 7 rfl (by kernel_rfl) (by kernel_rfl) (by kernel_rfl) rfl rfl hS (fun w' hS' => EX.nilCheck rfl) ?_
      refine GW.val 8 rfl (by kernel_rfl) (by kernel_rfl) (by kernel_rfl) rfl rfl hS (fun w' hS' => EX.fieldAddr (off := 2) Tryz.underlying66 rfl rfl ti24 rfl rfl) ?_
      have hv8 := hvEd.ext hx8
      refine GW.storeB 9 rfl (by kernel_rfl) rfl ti24 rfl rfl (by first | rfl | assumption | exact Own.one (by assumption)) (hv8.cells) (by simp) ?_
      rintro w9 hb9 hm9
      refine ⟨⟨⟨_, hb9⟩, hS.2.mo hm9 (by simp; exact (hv8.cells.ne hS.2 (by decide)).symm)⟩, fun hS => ?_⟩
      refine GW.done (by kernel_rfl) ?_
      refine KW.seq (KW.region ?_)
      refine OW.val rfl rfl (EX.move rfl) ?_
      refine OW.val rfl rfl (EX.nilCheck rfl) ?_
      refine OW.val rfl rfl (EX.fieldAddr (off := 7) Tryz.underlying66 rfl rfl ti3 rfl rfl) ?_
      have z8 : B ≤ w6.drew.heap.size := by show B ≤ w6.heap.size; omega
      have hv9 := RDev.after (D' := { E with now := c.ap E.now }) hlo hv8.cells hm9 hb9 hv8.synced (hown8.more z8) hv8.pend hv8.keep
      have hc9 : Bk w9 b 66 [.int .i64 (E.cap : Int), uS, v8, uP, .int .i64 (E.at_ : Int), uK, .bool E.dead, .int .i64 (E.calls : Int)] := hv9.cells
      refine OW.val rfl rfl (EX.load Tryz.underlying3 rfl rfl (hc9.cell_of rfl)) ?_
      refine OW.val rfl rfl (by first | exact EX.addN (b := 1) (m := 9223372036854775807) rfl rfl rfl (by omega) | exact EX.addZ (m := 9223372036854775807) rfl rfl rfl rfl (by omega)) ?_
      refine OW.val rfl rfl (EX.nilCheck rfl) ?_
      refine OW.val rfl rfl (EX.fieldAddr (off := 7) Tryz.underlying66 rfl rfl ti3 rfl rfl) ?_
      refine OW.storeB rfl ti3 rfl rfl (by first | rfl | assumption | exact Own.one (by assumption)) (hc9) (by simp) ?_
      rintro w10 hb10 hm10
      refine OW.nil ?_
      refine KW.seq (KW.region ?_)
      refine OW.val rfl rfl (EX.assign rfl) ?_
      refine OW.nil ?_
      have hv10 := RDev.after (D' := { E with now := c.ap E.now, calls := E.calls + 1 }) hlo hc9 hm10 hb10 hv9.synced hv9.now hv9.pend hv9.keep
      refine KW.ret (ret1 rfl rfl ?_)
      rw [hdf]
      exact ⟨rfl, ⟨_, _, _, _, hv10⟩, (((t06.trans (Tm.of_ext (Ext.drew w6) B rty)).trans (Tm.of_ext hx8 B rty)).trans (RDev.tmD hlo hv8.cells hm9)).trans (RDev.tmD hlo hv9.cells hm10)⟩
theorem rwrite_d (h : RDevAt w B b D) (hD : D.Ok) (hs : Small D) (hp : D.pend.length ≤ 900000) (i : Int) (i0 : -9223372036854775808 ≤ i) (i1 : i ≤ 9223372036854775807) (s : List UInt8) (hsl : s.length ≤ 140737488355328) :
    Ret Tryz.prog 20 [.pointer (some ⟨b, 0, none⟩), .int .i64 i, str s] w fun v w' => v = .int .i64 (((D.write i s).2 : Nat) : Int) ∧ RDevAt w' B b (D.write i s).1 ∧ Tm w w' B rty := by
  have h0 := h
  have hcap := hD.cap
  obtain ⟨vS, vN, vP, vK, hv⟩ := h
  refine Ret.enter Tryz.func20 rfl Tryz.ntmps20 (by kernel_rfl) rfl ?_
  refine KW.seq (KW.region ?_)
  refine OW.val rfl rfl (EX.assign rfl) ?_
  refine OW.nil ?_
  refine KW.seq (KW.seq (KW.region ?_))
  refine OW.val rfl rfl (EX.move rfl) ?_
  refine OW.val rfl rfl (by first | exact EX.eqlP1 Tryz.underlying44 rfl rfl | exact EX.eqlP0 Tryz.underlying44 rfl rfl) ?_
  refine OW.nil ?_
  refine KW.condF rfl (KW.skip (KW.seq (KW.seq (KW.region ?_))))
  refine OW.val rfl rfl (EX.move rfl) ?_
  refine OW.val rfl rfl (EX.nilCheck rfl) ?_
  refine OW.val rfl rfl (EX.fieldAddr (off := 6) Tryz.underlying66 rfl rfl ti4 rfl rfl) ?_
  refine OW.val rfl rfl (EX.load Tryz.underlying4 rfl rfl (hv.cells.cell_of rfl)) ?_
  refine OW.nil ?_
  refine KW.cond rfl (fun hd => ?_) (fun hd => ?_)
  · have e : D.write i s = (D, 190) := by unfold Dv.write; rw [hd]; rfl
    refine KW.seq (KW.region ?_)
    refine OW.val rfl rfl (EX.assign rfl) ?_
    refine OW.nil ?_
    refine KW.ret (ret1 rfl rfl ?_)
    rw [e]
    exact ⟨rfl, h0, Tm.refl _ _ _⟩
  · have no : (i < 0 ∨ (D.cap : Int) ≤ i) → D.write i s = (D, 191) := fun q => by unfold Dv.write; rw [hd, if_neg (by simp), if_pos q]
    refine KW.skip (KW.seq (KW.seq ?_))
    refine KW.region ?_
    refine OW.val rfl rfl (EX.move rfl) ?_
    refine OW.val rfl rfl (by first | exact EX.lssN (b := 0) rfl rfl | exact EX.lssZ rfl rfl) ?_
    refine OW.val rfl rfl (EX.move rfl) ?_
    refine OW.splitD 15 rfl (fun a1 => ?_) (fun a1 => ?_)
    · refine OW.pass rfl rfl ?_
      refine OW.pass rfl rfl ?_
      refine OW.pass rfl rfl ?_
      refine OW.pass rfl rfl ?_
      refine OW.pass rfl rfl ?_
      refine OW.pass rfl rfl ?_
      refine OW.val rfl rfl (EX.pickT rfl rfl) ?_
      refine OW.nil ?_
      refine KW.condT rfl (KW.seq (KW.region ?_))
      refine OW.val rfl rfl (EX.assign rfl) ?_
      refine OW.nil ?_
      refine KW.ret (ret1 rfl rfl ?_)
      rw [no (.inl a1)]
      exact ⟨rfl, h0, Tm.refl _ _ _⟩
    · refine OW.val rfl rfl (EX.move rfl) ?_
      refine OW.val rfl rfl (EX.move rfl) ?_
      refine OW.val rfl rfl (EX.nilCheck rfl) ?_
      refine OW.val rfl rfl (EX.fieldAddr (off := 0) Tryz.underlying66 rfl rfl ti3 rfl rfl) ?_
      refine OW.val rfl rfl (EX.load Tryz.underlying3 rfl rfl (hv.cells.cell_of rfl)) ?_
      refine OW.val rfl rfl (by first | exact EX.geqN rfl rfl | exact EX.geqZ rfl rfl) ?_
      refine OW.val rfl rfl (EX.pickF rfl rfl) ?_
      refine OW.nil ?_
      refine KW.condD rfl (fun a2 => ?_) (fun a2 => ?_)
      · refine KW.seq (KW.region ?_)
        refine OW.val rfl rfl (EX.assign rfl) ?_
        refine OW.nil ?_
        refine KW.ret (ret1 rfl rfl ?_)
        rw [no (.inr a2)]
        exact ⟨rfl, h0, Tm.refl _ _ _⟩
      · refine KW.skip (KW.seq (KW.seq (KW.region ?_)))
        refine OW.val rfl rfl (EX.move rfl) ?_
        refine OW.val rfl rfl (EX.lenS Tryz.underlying9 rfl) ?_
        refine OW.val rfl rfl (by first | exact EX.neqN (b := 512) rfl rfl | exact EX.neqZ rfl rfl) ?_
        refine OW.nil ?_
        refine KW.condD rfl (fun a3 => ?_) (fun a3 => ?_)
        · have e : D.write i s = (D, 2) := by unfold Dv.write; rw [hd, if_neg (by simp), if_neg (by omega), if_pos a3]
          refine KW.seq (KW.region ?_)
          refine OW.val rfl rfl (EX.assign rfl) ?_
          refine OW.nil ?_
          refine KW.ret (ret1 rfl rfl ?_)
          rw [e]
          exact ⟨rfl, h0, Tm.refl _ _ _⟩
        · obtain ⟨j, rfl⟩ := Int.eq_ofNat_of_zero_le (show 0 ≤ i by omega)
          have e : D.write (j : Int) s = D.does (some (.write j s)) := by unfold Dv.write; rw [hd, if_neg (by simp), if_neg (by omega), if_neg a3]; rfl
          refine KW.skip (KW.seq (KW.region ?_))
          refine OW.val rfl rfl (EX.move rfl) ?_
          refine OW.val rfl rfl (EX.move rfl) ?_
          refine OW.val rfl rfl (EX.move rfl) ?_
          refine OW.val rfl rfl (EX.buildS (pl := [(0, 1), (1, 1), (2, 1)]) (ks := [1, 2]) (is := [1, 2]) (zs := [.bool false, .int .i64 0, str []]) Tryz.underlying114 ti114 (by kernel_rfl) rfl rfl rfl (by first | rfl | (simp only [List.all_cons, List.all_nil, Bool.and_true, Bool.true_and, Bool.and_eq_true, Value.oneCell']; repeat (first | assumption | exact Own.one (by assumption) | constructor))) (by simp only [setAll, List.set_cons_zero, List.set_cons_succ]; rfl)) ?_
          refine OW.call rfl rfl rfl (change_d h0 hD (.write j s) ⟨by omega, Classical.not_not.1 a3⟩ hs.calls hp hs.at_ hs.keep) ?_
          rintro _ w2 ⟨rfl, h2, t2⟩
          refine OW.val rfl rfl (EX.assign rfl) ?_
          refine OW.nil ?_
          refine KW.ret (ret1 rfl rfl ?_)
          rw [e]
          exact ⟨rfl, h2, t2⟩
set_option maxRecDepth 20000 in
theorem rsync_d (h : RDevAt w B b D) (hD : D.Ok) (hs : Small D) : Ret Tryz.prog 61 [.pointer (some ⟨b, 0, none⟩)] w fun v w' => v = .int .i64 ((D.sync.2 : Nat) : Int) ∧ RDevAt w' B b D.sync.1 ∧ Tm w w' B rty := by
  have h0 := h
  have hdf := does_falls D none
  have hpe : D.pushed none = D := rfl
  rw [hpe] at hdf
  obtain ⟨vS, vN, vP, vK, hv⟩ := h
  have hlo := hv.lo
  refine Ret.enter Tryz.func61 rfl Tryz.ntmps61 (by kernel_rfl) rfl ?_
  refine KW.seq (KW.region ?_)
  refine OW.val rfl rfl (EX.assign rfl) ?_
  refine OW.nil ?_
  refine KW.seq (KW.seq (KW.region ?_))
  refine OW.val rfl rfl (EX.move rfl) ?_
  refine OW.val rfl rfl (by first | exact EX.eqlP1 Tryz.underlying44 rfl rfl | exact EX.eqlP0 Tryz.underlying44 rfl rfl) ?_
  refine OW.nil ?_
  refine KW.condF rfl (KW.skip (KW.seq (KW.seq ?_)))
  refine KW.region ?_
  refine OW.val rfl rfl (EX.move rfl) ?_
  refine OW.val rfl rfl (EX.nilCheck rfl) ?_
  refine OW.val rfl rfl (EX.fieldAddr (off := 6) Tryz.underlying66 rfl rfl ti4 rfl rfl) ?_
  refine OW.val rfl rfl (EX.load Tryz.underlying4 rfl rfl (hv.cells.cell_of rfl)) ?_
  refine OW.val rfl rfl (EX.move rfl) ?_
  rcases hd : D.dead with _ | _
  · have e : D.sync = D.does none := by unfold Dv.sync; rw [if_neg (by rw [hd]; decide)]
    refine OW.val rfl rfl (EX.move rfl) ?_
    refine OW.call rfl rfl rfl (rfalls_d h0 hD hs.pend hs.at_ hs.keep) ?_
    rintro _ w1 ⟨rfl, h1, t1⟩
    refine OW.val rfl rfl (EX.pickF rfl rfl) ?_
    refine OW.nil ?_
    have hfo := falls_ok hD
    refine KW.cond rfl (fun hf => ?_) (fun hf => ?_)
    · refine KW.seq (KW.region ?_)
      refine OW.val rfl rfl (EX.assign rfl) ?_
      refine OW.nil ?_
      refine KW.ret (ret1 rfl rfl ?_)
      rw [e, hdf, if_pos hf]
      exact ⟨rfl, h1, rdy_rty t1⟩
    · rw [hf, if_neg (by decide)] at hdf
      have hfs := falls_same hf
      have hecl : D.falls.1.calls ≤ 1000000 := by rw [hfs]; exact hs.calls
      generalize D.falls.1 = E at h1 hfo hdf hecl
      obtain ⟨uS, uN, uP, uK, hvE⟩ := h1
      have hno := hvE.now.one
      refine KW.skip (KW.seq (KW.region ?_))
      refine OW.val rfl rfl (EX.move rfl) ?_
      refine OW.val rfl rfl (EX.move rfl) ?_
      refine OW.val rfl rfl (EX.nilCheck rfl) ?_
      refine OW.val rfl rfl (EX.fieldAddr (off := 2) Tryz.underlying66 rfl rfl ti24 rfl rfl) ?_
      refine OW.val rfl rfl (EX.load Tryz.underlying24 rfl rfl (hvE.cells.cell_of rfl)) ?_
      refine OW.val rfl rfl (EX.nilCheck rfl) ?_
      refine OW.val rfl rfl (EX.fieldAddr (off := 1) Tryz.underlying66 rfl rfl ti24 rfl rfl) ?_
      refine OW.storeB rfl ti24 rfl rfl (by first | rfl | assumption | exact Own.one (by assumption)) (hvE.cells) (by simp) ?_
      rintro w2 hb2 hm2
      refine OW.nil ?_
      refine KW.seq (KW.region ?_)
      refine OW.val rfl rfl (EX.move rfl) ?_
      refine OW.val rfl rfl (EX.nilCheck rfl) ?_
      refine OW.val rfl rfl (EX.fieldAddr (off := 3) Tryz.underlying66 rfl rfl ti64 rfl rfl) ?_
      have t2 := RDev.tmS hlo hvE.cells hm2
      refine OW.storeB rfl ti64 rfl rfl (by first | rfl | assumption | exact Own.one (by assumption)) (hb2) (by simp) ?_
      rintro w3 hb3 hm3
      refine OW.nil ?_
      refine KW.seq (KW.region ?_)
      refine OW.val rfl rfl (EX.move rfl) ?_
      refine OW.val rfl rfl (EX.nilCheck rfl) ?_
      refine OW.val rfl rfl (EX.fieldAddr (off := 7) Tryz.underlying66 rfl rfl ti3 rfl rfl) ?_
      have t3 := RDev.tmS hlo hb2 hm3
      refine OW.val rfl rfl (EX.load Tryz.underlying3 rfl rfl (hb3.cell_of rfl)) ?_
      refine OW.val rfl rfl (by first | exact EX.addN (b := 1) (m := 9223372036854775807) rfl rfl rfl (by omega) | exact EX.addZ (m := 9223372036854775807) rfl rfl rfl rfl (by omega)) ?_
      refine OW.val rfl rfl (EX.nilCheck rfl) ?_
      refine OW.val rfl rfl (EX.fieldAddr (off := 7) Tryz.underlying66 rfl rfl ti3 rfl rfl) ?_
      refine OW.storeB rfl ti3 rfl rfl (by first | rfl | assumption | exact Own.one (by assumption)) (hb3) (by simp) ?_
      rintro w4 hb4 hm4
      refine OW.nil ?_
      refine KW.seq (KW.region ?_)
      refine OW.val rfl rfl (EX.assign rfl) ?_
      refine OW.nil ?_
      have t4 := RDev.tmS hlo hb3 hm4
      have tt := (t2.trans t3).trans t4
      refine KW.ret (ret1 rfl rfl ?_)
      rw [e, hdf]
      exact ⟨rfl, ⟨uN, uN, .slice none 0 0, uK, ⟨hlo, hb4, tt.own hvE.now rfl, tt.own hvE.now rfl, Own.nil _ _ _ _, tt.own hvE.keep rfl⟩⟩, rdy_rty (t1.trans tt)⟩
  · have e : D.sync = (D, 190) := by unfold Dv.sync; rw [if_pos hd]
    refine OW.pass rfl rfl ?_
    refine OW.pass rfl rfl ?_
    refine OW.val rfl rfl (EX.pickT rfl rfl) ?_
    refine OW.nil ?_
    refine KW.condT rfl (KW.seq (KW.region ?_))
    refine OW.val rfl rfl (EX.assign rfl) ?_
    refine OW.nil ?_
    refine KW.ret (ret1 rfl rfl ?_)
    rw [e]
    exact ⟨rfl, h0, Tm.refl _ _ _⟩
theorem rup_d (h : RDevAt w B b D) (hD : D.Ok) : Ret Tryz.prog 18 [.pointer (some ⟨b, 0, none⟩)] w fun v w' => v = .int .i64 0 ∧ RDevAt w' B b { D with dead := false } ∧ Tm w w' B rty := by
  obtain ⟨vS, vN, vP, vK, hv⟩ := h
  refine Ret.enter Tryz.func18 rfl Tryz.ntmps18 (by kernel_rfl) rfl ?_
  refine KW.seq (KW.region ?_)
  refine OW.val rfl rfl (EX.assign rfl) ?_
  refine OW.nil ?_
  refine KW.seq (KW.seq (KW.region ?_))
  refine OW.val rfl rfl (EX.move rfl) ?_
  refine OW.val rfl rfl (by first | exact EX.eqlP1 Tryz.underlying44 rfl rfl | exact EX.eqlP0 Tryz.underlying44 rfl rfl) ?_
  refine OW.nil ?_
  refine KW.condF rfl (KW.skip (KW.seq (KW.region ?_)))
  refine OW.val rfl rfl (EX.move rfl) ?_
  refine OW.val rfl rfl (EX.nilCheck rfl) ?_
  refine OW.val rfl rfl (EX.fieldAddr (off := 6) Tryz.underlying66 rfl rfl ti4 rfl rfl) ?_
  refine OW.storeB rfl ti4 rfl rfl (by first | rfl | assumption | exact Own.one (by assumption)) (hv.cells) (by simp) ?_
  rintro w2 hb2 hm2
  refine OW.nil ?_
  refine KW.seq (KW.region ?_)
  refine OW.val rfl rfl (EX.assign rfl) ?_
  refine OW.nil ?_
  refine KW.ret (ret1 rfl rfl ?_)
  exact ⟨rfl, ⟨_, _, _, _, RDev.after (D' := { D with dead := false }) hv.lo hv.cells hm2 hb2 hv.synced hv.now hv.pend hv.keep⟩, RDev.tmD hv.lo hv.cells hm2⟩
set_option maxRecDepth 20000 in
theorem rplan_d (h : RDevAt w B b D) (hD : D.Ok) (a : Int) (i0 : -9223372036854775808 ≤ a) (i1 : a ≤ 9223372036854775807) (A : Option Addr) (c C : Nat) (k : List Bool) (hsl : Sl w C A (boolsV k)) (hCB : C ≤ B) (hk : k.length ≤ 140737488351232) :
    Ret Tryz.prog 22 [.pointer (some ⟨b, 0, none⟩), .agg [.int .i64 a, .slice A k.length c].toArray] w fun v w' => v = .int .i64 (((D.plan a k).2 : Nat) : Int) ∧ RDevAt w' B b (D.plan a k).1 ∧ Tm w w' B rty := by
  have h0 := h
  obtain ⟨vS, vN, vP, vK, hv⟩ := h
  have hlo := hv.lo
  refine Ret.enter Tryz.func22 rfl Tryz.ntmps22 (by kernel_rfl) rfl ?_
  refine KW.seq (KW.region ?_)
  refine OW.boxS rfl rfl rfl ?_
  rintro fb w1 hge1 hfb1 hx1
  refine OW.val rfl rfl (EX.assign rfl) ?_
  refine OW.nil ?_
  refine KW.seq (KW.seq (KW.region ?_))
  refine OW.val rfl rfl (EX.move rfl) ?_
  refine OW.val rfl rfl (by first | exact EX.eqlP1 Tryz.underlying44 rfl rfl | exact EX.eqlP0 Tryz.underlying44 rfl rfl) ?_
  refine OW.nil ?_
  replace hfb1 : Bk w1 fb 49 [.int .i64 a, .slice A k.length c] := hfb1
  have hv1 := hv.ext hx1
  refine KW.condF rfl (KW.skip (KW.seq (KW.seq (KW.region ?_))))
  refine OW.val rfl rfl (EX.move rfl) ?_
  refine OW.val rfl rfl (EX.nilCheck rfl) ?_
  refine OW.val rfl rfl (EX.fieldAddr (off := 6) Tryz.underlying66 rfl rfl ti4 rfl rfl) ?_
  refine OW.val rfl rfl (EX.load Tryz.underlying4 rfl rfl (hv1.cells.cell_of rfl)) ?_
  refine OW.nil ?_
  refine KW.cond rfl (fun hd => ?_) (fun hd => ?_)
  · have e : D.plan a k = (D, 190) := by unfold Dv.plan; rw [hd]; rfl
    refine KW.seq (KW.region ?_)
    refine OW.val rfl rfl (EX.assign rfl) ?_
    refine OW.nil ?_
    refine KW.ret (ret1 rfl rfl ?_)
    rw [e]
    exact ⟨rfl, h0.ext hx1, Tm.of_ext hx1 _ _⟩
  · refine KW.skip (KW.seq (KW.seq (KW.region ?_)))
    refine OW.val rfl rfl (EX.fieldAddr (off := 0) Tryz.underlying49 rfl rfl ti3 rfl rfl) ?_
    refine OW.val rfl rfl (EX.load Tryz.underlying3 rfl rfl (hfb1.cell_of rfl)) ?_
    refine OW.val rfl rfl (by first | exact EX.lssN (b := 0) rfl rfl | exact EX.lssZ rfl rfl) ?_
    refine OW.nil ?_
    refine KW.condD rfl (fun a1 => ?_) (fun a1 => ?_)
    · have e : D.plan a k = (D, 2) := by unfold Dv.plan; rw [hd, if_neg (by simp), if_pos a1]
      refine KW.seq (KW.region ?_)
      refine OW.val rfl rfl (EX.assign rfl) ?_
      refine OW.nil ?_
      refine KW.ret (ret1 rfl rfl ?_)
      rw [e]
      exact ⟨rfl, h0.ext hx1, Tm.of_ext hx1 _ _⟩
    · obtain ⟨j, rfl⟩ := Int.eq_ofNat_of_zero_le (show 0 ≤ a by omega)
      have e : D.plan (j : Int) k = ({ D with at_ := j, keep := k }, 0) := by unfold Dv.plan; rw [hd, if_neg (by simp), if_neg (by omega)]; rfl
      have hlt := hv1.cells.lt
      refine KW.skip (KW.seq (KW.region ?_))
      refine OW.val rfl rfl (EX.move rfl) ?_
      refine OW.val rfl rfl (EX.fieldAddr (off := 0) Tryz.underlying49 rfl rfl ti3 rfl rfl) ?_
      refine OW.val rfl rfl (EX.load Tryz.underlying3 rfl rfl (hfb1.cell_of rfl)) ?_
      refine OW.val rfl rfl (EX.nilCheck rfl) ?_
      refine OW.val rfl rfl (EX.fieldAddr (off := 4) Tryz.underlying66 rfl rfl ti3 rfl rfl) ?_
      refine OW.storeB rfl ti3 rfl rfl (by first | rfl | assumption | exact Own.one (by assumption)) (hv1.cells) (by simp) ?_
      rintro w2 hb2 hm2
      refine OW.nil ?_
      refine KW.seq (KW.region ?_)
      refine OW.val rfl rfl (EX.move rfl) ?_
      have t2 := RDev.tmS hlo hv1.cells hm2
      have hfb2 := t2.bk hfb1 (by decide)
      refine OW.buildB 0 rfl rfl Tryz.underlying47 ti4 rfl rfl rfl rfl (by first | rfl | (simp only [List.all_cons, List.all_nil, Bool.and_true, Bool.and_eq_true]; assumption)) (by decide) ?_
      rintro eb w3 hge3 he3 hx3
      refine OW.val rfl rfl (EX.fieldAddr (off := 1) Tryz.underlying49 rfl rfl ti47 rfl rfl) ?_
      have owne : Own w3 w2.heap.size 4 1 (.slice (some ⟨eb, 0, none⟩) 0 0) 0 [] := ⟨rfl, .inr ⟨eb, 0, [], rfl, hge3, he3, rfl, Nat.le_refl _, by decide⟩⟩
      refine OW.val rfl rfl (EX.load Tryz.underlying47 rfl rfl ((hfb2.ext hx3).cell_of rfl)) ?_
      have sl3 : Sl w3 C A (boolsV k) := Sl.ext (Sl.mo (hsl.ext hx1) hm2 (by omega) (fun q hq => by simp at hq; omega)) hx3
      refine OW.appendX rfl rfl Tryz.underlying47 ti4 rfl (by decide) rfl rfl (hx3) (owne) (Src.of_sl Tryz.underlying47 sl3 (by rw [boolsV_length, Nat.mul_one]) (boolsV_one k) (by decide)) (by simp only [maxLen]; omega) (by omega) ?_
      rintro v4 w4 hown4 hx4 _ _
      refine OW.val rfl rfl (EX.nilCheck rfl) ?_
      refine OW.val rfl rfl (EX.fieldAddr (off := 5) Tryz.underlying66 rfl rfl ti47 rfl rfl) ?_
      have hb4 := hb2.ext hx4
      have hv4o := hown4.one
      refine OW.storeB rfl ti47 rfl rfl (by first | rfl | assumption | exact Own.one (by assumption)) (hb4) (by simp) ?_
      rintro w5 hb5 hm5
      refine OW.nil ?_
      refine KW.seq (KW.region ?_)
      refine OW.val rfl rfl (EX.assign rfl) ?_
      refine OW.nil ?_
      have t5 := RDev.tmS hlo hb4 hm5
      have z2 := hx1.size
      have z3 := t2.size
      have tx : Tm w2 w4 B rdy := Tm.of_ext hx4 B rdy
      have tt := (t2.trans tx).trans t5
      refine KW.ret (ret1 rfl rfl ?_)
      rw [e]
      refine ⟨rfl, ⟨vS, vN, vP, v4, ⟨hlo, hb5, tt.own hv1.synced rfl, tt.own hv1.now rfl, tt.own hv1.pend rfl, ?_⟩⟩, (Tm.of_ext hx1 B rty).trans (rdy_rty tt)⟩
      have e1 : 0 + k.length = k.length := Nat.zero_add _
      have e2 : [] ++ boolsV k = boolsV k := rfl
      rw [e1, e2] at hown4
      exact (t5.own hown4 rfl).more (by omega)
theorem rimage_d (h : RDevAt w B b D) (hD : D.Ok) : Ret Tryz.prog 28 [.pointer (some ⟨b, 0, none⟩)] w fun v w' => v = str D.now ∧ w = w' := by
  have hn := hD.now
  have hm := hD.nowM
  have hcap := hD.cap
  obtain ⟨vS, vN, vP, vK, hv⟩ := h
  obtain ⟨AN, cN, rfl, _, slN⟩ := hv.now.slice
  refine Ret.enter Tryz.func28 rfl Tryz.ntmps28 (by kernel_rfl) rfl ?_
  refine KW.seq (KW.region ?_)
  refine OW.val rfl rfl (EX.assign rfl) ?_
  refine OW.nil ?_
  refine KW.seq (KW.region ?_)
  refine OW.val rfl rfl (EX.assign rfl) ?_
  refine OW.nil ?_
  refine KW.seq (KW.seq (KW.region ?_))
  refine OW.val rfl rfl (EX.move rfl) ?_
  refine OW.val rfl rfl (by first | exact EX.eqlP1 Tryz.underlying44 rfl rfl | exact EX.eqlP0 Tryz.underlying44 rfl rfl) ?_
  refine OW.nil ?_
  refine KW.condF rfl (KW.skip (KW.seq (KW.seq (KW.region ?_))))
  refine OW.val rfl rfl (EX.assign rfl) ?_
  refine OW.nil ?_
  refine KW.block ?_
  refine KW.loop1 (fun (i : Nat) => i ≤ D.now.length / 512) (fun (i : Nat) => [(0, .pointer (some ⟨b, 0, none⟩)), (3, str ((D.now.take (i * 512)))), (4, .int .i64 ((i : Nat) : Int))]) (fun (i : Nat) => w) (fun (i : Nat) => D.now.length / 512 - i) (0) ⟨rfl, rfl, rfl, trivial⟩ rfl ?_ ?_
  · omega
  · rintro i hi
    refine KW.seq (KW.seq (KW.region ?_))
    refine OW.val rfl rfl (EX.move rfl) ?_
    refine OW.val rfl rfl (EX.move rfl) ?_
    refine OW.val rfl rfl (EX.nilCheck rfl) ?_
    refine OW.val rfl rfl (EX.fieldAddr (off := 2) Tryz.underlying66 rfl rfl ti24 rfl rfl) ?_
    refine OW.val rfl rfl (EX.load Tryz.underlying24 rfl rfl (hv.cells.cell_of rfl)) ?_
    refine OW.val rfl rfl (EX.lenA Tryz.underlying24 rfl) ?_
    refine OW.val rfl rfl (by first | exact EX.lssN rfl rfl | exact EX.lssZ rfl rfl) ?_
    refine OW.nil ?_
    refine KW.condD rfl (fun hlt => ?_) (fun hlt => ?_)
    · have hg : (secsV D.now)[i]? = some (str (scr D.now i)) := by rw [List.getElem?_map, scrs_get _ hlt]; rfl
      obtain ⟨b0, o0, rfl, _, hc0⟩ := slN.at_ (by rw [List.length_map, scrs_length]; omega)
      have hlen := scr_length hlt
      have htk : D.now.take ((i + 1) * 512) = D.now.take (i * 512) ++ scr D.now i := by
        unfold scr
        rw [Nat.add_mul, Nat.one_mul, List.take_add]
      refine KW.skip (KW.seq (KW.block (KW.region ?_)))
      refine OW.val rfl rfl (EX.move rfl) ?_
      refine OW.val rfl rfl (EX.move rfl) ?_
      refine OW.val rfl rfl (EX.nilCheck rfl) ?_
      refine OW.val rfl rfl (EX.fieldAddr (off := 2) Tryz.underlying66 rfl rfl ti24 rfl rfl) ?_
      refine OW.val rfl rfl (EX.load Tryz.underlying24 rfl rfl (hv.cells.cell_of rfl)) ?_
      refine OW.val rfl rfl (EX.move rfl) ?_
      refine OW.val rfl rfl (by first | exact EX.indexAddrS0 Tryz.underlying24 ti9 rfl rfl (by omega) | exact EX.indexAddrS1 Tryz.underlying24 ti9 rfl rfl (by omega)) ?_
      refine OW.val rfl rfl (EX.load Tryz.underlying9 rfl rfl (hc0 i _ hg)) ?_
      refine OW.val rfl rfl (EX.addS rfl rfl (by first | omega | (simp only [List.length_append, List.length_cons, List.length_nil, List.length_take, List.length_drop, List.length_replicate]; omega))) ?_
      refine OW.val rfl rfl (EX.assign rfl) ?_
      refine OW.nil ?_
      refine KW.leave (KW.region ?_)
      refine OW.val rfl rfl (EX.move rfl) ?_
      refine OW.val rfl rfl (by first | exact EX.addN (b := 1) (m := 9223372036854775807) rfl rfl rfl (by omega) | exact EX.addZ (m := 9223372036854775807) rfl rfl rfl rfl (by omega)) ?_
      refine OW.val rfl rfl (EX.assign rfl) ?_
      refine OW.nil ?_
      refine KW.as 3 (str ((D.now.take ((i + 1) * 512)))) rfl (by rw [htk]) ?_
      refine KW.back1 (i + 1) ⟨rfl, rfl, rfl, trivial⟩ rfl ?_ (by omega)
      omega
    · have hlt' : ¬ i < D.now.length / 512 := hlt
      have htk : D.now.take (i * 512) = D.now := List.take_of_length_le (by omega)
      refine KW.exit rfl (KW.seq (KW.region ?_))
      refine OW.val rfl rfl (EX.move rfl) ?_
      refine OW.val rfl rfl (EX.assign rfl) ?_
      refine OW.nil ?_
      refine KW.ret (ret1 rfl rfl ?_)
      rw [htk]
      exact ⟨rfl, rfl⟩
theorem rnew_s (c : Int) (c0 : -9223372036854775808 ≤ c) (c1 : c ≤ 9223372036854775807) (w : World) :
    Ret Tryz.prog 16 [.int .i64 c] w fun v w' => ∃ (p : Value) (e : Nat), v = .tuple #[p, .int .i64 (e : Int)] ∧ Ext w w' ∧ ((¬ may c [] ∧ p = .pointer none ∧ e = 2) ∨ (may c [] ∧ ∃ b, p = .pointer (some ⟨b, 0, none⟩) ∧ e = 0 ∧ RDevAt w' w.heap.size b (fresh c.toNat []))) := by
  refine Ret.enter Tryz.func16 rfl Tryz.ntmps16 (by kernel_rfl) rfl ?_
  refine KW.seq (KW.region ?_)
  refine OW.val rfl rfl (EX.assign rfl) ?_
  refine OW.val rfl rfl (EX.assign rfl) ?_
  refine OW.nil ?_
  refine KW.seq (KW.region ?_)
  refine OW.val rfl rfl (EX.move rfl) ?_
  refine OW.call rfl rfl rfl (rload_s c c0 c1 [] (by simp) w) ?_
  rintro _ w1 ⟨p, e, rfl, hx, hor⟩
  refine OW.val rfl rfl (EX.extract rfl rfl) ?_
  refine OW.val rfl rfl (EX.extract rfl rfl) ?_
  refine OW.val rfl rfl (EX.assign rfl) ?_
  refine OW.val rfl rfl (EX.assign rfl) ?_
  refine OW.nil ?_
  refine KW.ret (ret2 rfl rfl rfl ?_)
  exact ⟨p, e, rfl, hx, hor⟩
end
end Go.Proofs.YthgfdpcpbghkpaaGreatDoor
namespace Go.Proofs.YthgfdpcpbghkpaaGreatDoor
open Go.RowKit Pth Rec Srt Cat Dsk Wal
set_option maxRecDepth 20000 in
theorem rsave_s {D : Dv} (hD : D.Ok) {k : Nat} (hsm : Sm D k) (hk : k ≤ 800000) (B b : Nat) (gen : Int) (g0 : -9223372036854775808 ≤ gen) (g1 : gen ≤ 9223372036854775807) (l : List M) (hl : l.length ≤ 140737488355328) (hok : ∀ m ∈ l, m.Ok) (A : Option Addr) (c C : Nat) (w : World) (h : RDevAt w B b D) (hs : Sl w C A (memsV l)) :
    Ret Tryz.prog 26 [.pointer (some ⟨b, 0, none⟩), .int .i64 gen, .slice A l.length c] w fun v w' => v = .int .i64 (((saveC D gen l).2 : Nat) : Int) ∧ RDevAt w' B b (saveC D gen l).1 ∧ Tm w w' B rty := by
  have hcap := hD.cap
  have bye : ∀ w', Ext w w' → ¬ (OkE gen l ∧ OkC l D.cap) → (Value.int .i64 230 = .int .i64 (((saveC D gen l).2 : Nat) : Int) ∧ RDevAt w' B b (saveC D gen l).1 ∧ Tm w w' B rty) := fun w' hx q => by
    rw [saveC_no q]
    exact ⟨rfl, h.ext hx, Tm.of_ext hx _ _⟩
  refine Ret.enter Tryz.func26 rfl Tryz.ntmps26 (by kernel_rfl) rfl ?_
  refine KW.seq (KW.region ?_)
  refine OW.val rfl rfl (EX.assign rfl) ?_
  refine OW.nil ?_
  refine KW.seq (KW.seq (KW.region ?_))
  refine OW.val rfl rfl (EX.move rfl) ?_
  refine OW.val rfl rfl (by first | exact EX.eqlP1 Tryz.underlying44 rfl rfl | exact EX.eqlP0 Tryz.underlying44 rfl rfl) ?_
  refine OW.nil ?_
  refine KW.condF rfl (KW.skip (KW.seq (KW.region ?_)))
  refine OW.val rfl rfl (EX.move rfl) ?_
  refine OW.val rfl rfl (EX.move rfl) ?_
  refine OW.call rfl rfl rfl (rencode23_s gen l hok hl A c C w hs) ?_
  rintro _ w1 ⟨⟨u, rfl, hown⟩, hx1⟩
  refine OW.val rfl rfl (EX.move rfl) ?_
  refine OW.val rfl rfl (EX.extract rfl rfl) ?_
  refine OW.val rfl rfl (EX.extract rfl rfl) ?_
  refine OW.val rfl rfl (EX.assign rfl) ?_
  refine OW.val rfl rfl (EX.assign rfl) ?_
  refine OW.nil ?_
  refine KW.seq (KW.seq ?_)
  have hdev1 := h.ext hx1
  obtain ⟨vS, vN, vP, vK, hv1⟩ := id hdev1
  refine KW.region ?_
  refine OW.val rfl rfl (EX.move rfl) ?_
  refine OW.val rfl rfl (by first | exact EX.neqN (b := 0) rfl rfl | exact EX.neqZ rfl rfl) ?_
  refine OW.val rfl rfl (EX.move rfl) ?_
  refine OW.splitD 21 rfl (fun he => ?_) (fun he => ?_)
  · have hno : ¬ OkE gen l := fun q => by rw [encC_ok q] at he; exact he rfl
    refine OW.pass rfl rfl ?_
    refine OW.pass rfl rfl ?_
    refine OW.pass rfl rfl ?_
    refine OW.pass rfl rfl ?_
    refine OW.pass rfl rfl ?_
    refine OW.pass rfl rfl ?_
    refine OW.pass rfl rfl ?_
    refine OW.val rfl rfl (EX.pickT rfl rfl) ?_
    refine OW.nil ?_
    refine KW.condT rfl (KW.seq (KW.region ?_))
    refine OW.val rfl rfl (EX.assign rfl) ?_
    refine OW.nil ?_
    refine KW.ret (ret1 rfl rfl ?_)
    exact bye w1 hx1 (fun q => hno q.1)
  · have hE : OkE gen l := by
      rcases encC_or gen l with ⟨q, _⟩ | q
      · exact q
      · rw [q] at he; exact absurd (show (230 : Nat) ≠ 0 by decide) (fun z => he (by simp))
    rw [encC_ok hE] at hown
    simp only [sect5_len] at hown
    refine OW.val rfl rfl (EX.move rfl) ?_
    refine OW.val rfl rfl (EX.move rfl) ?_
    refine OW.val rfl rfl (EX.nilCheck rfl) ?_
    refine OW.val rfl rfl (EX.fieldAddr (off := 0) Tryz.underlying66 rfl rfl ti3 rfl rfl) ?_
    refine OW.val rfl rfl (EX.load Tryz.underlying3 rfl rfl (hv1.cells.cell_of rfl)) ?_
    refine OW.call rfl rfl rfl (rchk_s l hok hl D.cap A c C w1 (hs.ext hx1)) ?_
    rintro _ w2 ⟨rfl, hx2⟩
    refine OW.val rfl rfl (by first | exact EX.neqN (b := 0) rfl rfl | exact EX.neqZ rfl rfl) ?_
    refine OW.val rfl rfl (EX.pickF rfl rfl) ?_
    refine OW.nil ?_
    have x2 := hx1.trans hx2
    refine KW.condD rfl (fun hc => ?_) (fun hc => ?_)
    · have hno : ¬ OkC l D.cap := fun q => by rw [chkC_ok q] at hc; exact hc rfl
      refine KW.seq (KW.region ?_)
      refine OW.val rfl rfl (EX.assign rfl) ?_
      refine OW.nil ?_
      refine KW.ret (ret1 rfl rfl ?_)
      exact bye w2 x2 (fun q => hno q.2)
    · have hC : OkC l D.cap := Classical.byContradiction fun q => hc (by rw [chkC_no q]; decide)
      obtain ⟨g, rfl⟩ := Int.eq_ofNat_of_zero_le hE.low
      have hgb := hE.high
      have el := saveC_go (D := D) (gen := (g : Int)) ⟨hE, hC⟩
      have hlen := sect5_all (gen := (g : Int)) (allT l)
      have hnt := sect5_len (g : Int) (allT l)
      have hown2 := hown.ext hx2
      generalize sect5 (g : Int) (allT l) = T at el hlen hnt hown2
      simp only [Int.toNat_natCast] at el
      obtain ⟨A3, c3, rfl, hc3, _⟩ := hown2.slice
      have h1 := hdev1.ext hx2
      refine KW.skip (KW.seq (KW.seq (KW.region ?_)))
      refine OW.val rfl rfl (EX.assign rfl) ?_
      refine OW.nil ?_
      refine KW.block ?_
      refine KW.loop3 (fun (i : Nat) (E : Dv) (wr : World) => i ≤ 5 ∧ E.Ok ∧ Sm E (k + i) ∧ writes E (g % 2 * 5 + i) (T.drop i) = writes D (g % 2 * 5) T ∧ RDevAt wr B b E ∧ Tm w wr B rty ∧ Own wr w.heap.size 9 1 (.slice A3 5 c3) 5 (T.map str)) (fun (i : Nat) (E : Dv) (wr : World) => [(0, .pointer (some ⟨b, 0, none⟩)), (1, .int .i64 ((g : Nat) : Int)), (7, .slice A3 5 c3), (9, .int .i64 ((i : Nat) : Int))]) (fun (i : Nat) (E : Dv) (wr : World) => wr) (fun (i : Nat) (E : Dv) (wr : World) => 5 - i) (0) (D) (w2) ⟨rfl, rfl, rfl, rfl, trivial⟩ rfl ?_ ?_
      · exact ⟨Nat.zero_le _, hD, hsm, rfl, h1, Tm.of_ext x2 _ _, hown2⟩
      · rintro i E wr ⟨hi, hE', hsE, hw, hdev, htm, hownr⟩
        refine KW.seq (KW.seq (KW.region ?_))
        refine OW.val rfl rfl (EX.move rfl) ?_
        refine OW.val rfl rfl (by first | exact EX.lssN (b := 5) rfl rfl | exact EX.lssZ rfl rfl) ?_
        refine OW.nil ?_
        refine KW.condD rfl (fun hlt => ?_) (fun hlt => ?_)
        · have hltT : i < T.length := by omega
          have hdr : T.drop i = T[i] :: T.drop (i + 1) := List.drop_eq_getElem_cons hltT
          have hT5 := hlen T[i] (List.getElem_mem hltT)
          have hTi : (T.map str)[i]? = some (str T[i]) := by rw [List.getElem?_map, List.getElem?_eq_getElem hltT]; rfl
          rw [hdr, writes_cons] at hw
          generalize T[i] = s at hw hT5 hTi
          obtain ⟨A4, c4, e4, _, hsl4⟩ := hownr.slice
          cases e4
          obtain ⟨bb, o, rfl, _, hcell⟩ := hsl4.at_ (by rw [List.length_map]; omega)
          refine KW.skip (KW.seq (KW.block (KW.seq (KW.region ?_))))
          refine OW.val rfl rfl (EX.move rfl) ?_
          refine OW.val rfl rfl (EX.move rfl) ?_
          refine OW.val rfl rfl (by first | exact EX.remN (b := 2) rfl rfl (by omega) | exact EX.remZ rfl rfl (by decide)) ?_
          refine OW.val rfl rfl (by first | exact EX.mulN (b := 5) (m := 9223372036854775807) rfl rfl rfl (by omega) | exact EX.mulZ (m := 9223372036854775807) rfl rfl rfl rfl (by omega)) ?_
          refine OW.val rfl rfl (EX.move rfl) ?_
          refine OW.val rfl rfl (by first | exact EX.addN (m := 9223372036854775807) rfl rfl rfl (by omega) | exact EX.addZ (m := 9223372036854775807) rfl rfl rfl rfl (by omega)) ?_
          refine OW.val rfl rfl (EX.move rfl) ?_
          refine OW.val rfl rfl (EX.move rfl) ?_
          refine OW.val rfl rfl (by first | exact EX.indexAddrS0 Tryz.underlying24 ti9 rfl rfl (by omega) | exact EX.indexAddrS1 Tryz.underlying24 ti9 rfl rfl (by omega)) ?_
          refine OW.val rfl rfl (EX.load Tryz.underlying9 rfl rfl (hcell i _ hTi)) ?_
          have cw := rwrite_d hdev hE' (hsE.small (by omega)) (by have := hsE.pend; omega) ((g % 2 * 5 + i : Nat) : Int) (by omega) (by omega) s (by omega)
          refine OW.call rfl rfl rfl (cw) ?_
          rintro _ w5 ⟨rfl, hdev5, htm5⟩
          refine OW.val rfl rfl (EX.assign rfl) ?_
          refine OW.nil ?_
          refine KW.seq (KW.region ?_)
          refine OW.val rfl rfl (EX.move rfl) ?_
          refine OW.val rfl rfl (by first | exact EX.neqN (b := 0) rfl rfl | exact EX.neqZ rfl rfl) ?_
          refine OW.nil ?_
          refine KW.condD rfl (fun hee => ?_) (fun hee => ?_)
          · rw [if_neg (by omega)] at hw
            refine KW.seq (KW.region ?_)
            refine OW.val rfl rfl (EX.move rfl) ?_
            refine OW.val rfl rfl (EX.assign rfl) ?_
            refine OW.nil ?_
            refine KW.ret (ret1 rfl rfl ?_)
            rw [el, ← hw]
            rw [if_neg (by omega)]
            exact ⟨rfl, hdev5, htm.trans htm5⟩
          · rw [if_pos (by omega)] at hw
            refine KW.skip (KW.leave (KW.region ?_))
            refine OW.val rfl rfl (EX.move rfl) ?_
            refine OW.val rfl rfl (by first | exact EX.addN (b := 1) (m := 9223372036854775807) rfl rfl rfl (by omega) | exact EX.addZ (m := 9223372036854775807) rfl rfl rfl rfl (by omega)) ?_
            refine OW.val rfl rfl (EX.assign rfl) ?_
            refine OW.nil ?_
            refine KW.back3 (i + 1) ((E.write ((g % 2 * 5 + i : Nat) : Int) s).1) (w5) ⟨rfl, rfl, rfl, rfl, trivial⟩ rfl ?_ (by omega)
            exact ⟨by omega, write_ok hE' _ _, write_sm hsE _ _, hw, hdev5, htm.trans htm5, htm5.own hownr (by decide)⟩
        · obtain rfl : i = 5 := by omega
          rw [List.drop_eq_nil_of_le (by omega)] at hw
          have hw' : writes D (g % 2 * 5) T = (E, 0) := hw.symm
          rw [hw'] at el
          simp only [if_true] at el
          refine KW.exit rfl (KW.seq (KW.region ?_))
          refine OW.val rfl rfl (EX.move rfl) ?_
          refine OW.call rfl rfl rfl (rsync_d hdev hE' (hsE.small (by omega))) ?_
          rintro _ w5 ⟨rfl, hdev5, htm5⟩
          refine OW.val rfl rfl (EX.assign rfl) ?_
          refine OW.nil ?_
          refine KW.ret (ret1 rfl rfl ?_)
          rw [el]
          exact ⟨rfl, hdev5, htm.trans htm5⟩
end Go.Proofs.YthgfdpcpbghkpaaGreatDoor
namespace Go.Proofs.YthgfdpcpbghkpaaGreatDoor
open Go.RowKit
section
variable {P : Program} {n : Nat} {σ : Sig} {w : World} {x y : Operand} {ty : TypeId}
theorem EX.minZ {k : IntKind} {a b : Int} {ats : Array TypeId} (hx : ev σ x = some (.int k a)) (hy : ev σ y = some (.int k b)) : EX P n σ (.call { callee := .builtin .min, args := #[x, y], argTypes := ats }) ty w (.int k (min a b)) w := fun A ha dst pos after g => by
  simp only [execOp, resolve, invoke, builtin, Sem.run_bind, Sem.run_pure, Result.andThen_ok, List.map_toArray, List.map_cons, List.map_nil, ha.ev hx, ha.ev hy]
  have : (if b < a then b else a) = min a b := by split <;> omega
  simp only [Builtin.min_, Builtin.min2, List.foldlM, Sem.run_bind, Sem.run_pure, Result.andThen_ok, this]
theorem EX.maxN {k : IntKind} {a b : Nat} {ats : Array TypeId} (hx : ev σ x = some (.int k (a : Int))) (hy : ev σ y = some (.int k (b : Int))) : EX P n σ (.call { callee := .builtin .max, args := #[x, y], argTypes := ats }) ty w (.int k ((max a b : Nat) : Int)) w := fun A ha dst pos after g => by
  simp only [execOp, resolve, invoke, builtin, Sem.run_bind, Sem.run_pure, Result.andThen_ok, List.map_toArray, List.map_cons, List.map_nil, ha.ev hx, ha.ev hy]
  have : (if (b : Int) > a then (b : Int) else a) = ((max a b : Nat) : Int) := by split <;> omega
  simp only [Builtin.max_, Builtin.max2, List.foldlM, Sem.run_bind, Sem.run_pure, Result.andThen_ok, this]
end
end Go.Proofs.YthgfdpcpbghkpaaGreatDoor
namespace Go.Proofs.YthgfdpcpbghkpaaGreatDoor
open Go.RowKit Pth Rec Srt Cat Dsk Wal
noncomputable def best1 (p : Int × List M) : Option (Int × List M) → Int × List M
  | some b => if p.1 < b.1 then b else p
  | none => p
noncomputable def bestR (D : Dv) : Nat → Int × List M
  | 0 => (-1, [])
  | k + 1 => best1 (bestR D k) (slotC D k)
theorem slotC_some {D : Dv} {k : Nat} {p : Int × List M} (h : slotC D k = some p) : Right D k ∧ p = ((decC (slotSs D k)).1, (decC (slotSs D k)).2.1) := by
  unfold slotC at h
  split at h
  · rename_i q
    exact ⟨q, by injection h with h; exact h.symm⟩
  · cases h
theorem slotC_par {D : Dv} {k : Nat} {p : Int × List M} (h : slotC D k = some p) : 0 ≤ p.1 ∧ p.1 % 2 = (k : Int) := by
  obtain ⟨q, rfl⟩ := slotC_some h
  exact ⟨dec_low q.dec, q.par⟩
theorem bestR_eq (D : Dv) : bestC (slotC D 0) (slotC D 1) = if (bestR D 2).1 < 0 then (0, [], 230) else ((bestR D 2).1, (bestR D 2).2, 0) := by
  have e2 : bestR D 2 = best1 (best1 (-1, []) (slotC D 0)) (slotC D 1) := rfl
  rw [e2]
  have h0 := fun p => slotC_par (D := D) (k := 0) (p := p)
  have h1 := fun p => slotC_par (D := D) (k := 1) (p := p)
  generalize slotC D 0 = x at h0
  generalize slotC D 1 = y at h1
  match x, y, h0, h1 with
  | none, none, _, _ => rfl
  | some a, none, h0, _ =>
    have h := h0 a rfl
    have e : best1 (best1 (-1, []) (some a)) none = a := if_pos (by show -1 < a.1; omega)
    rw [e, if_neg (by omega)]
    rfl
  | none, some b, _, h1 =>
    have h := h1 b rfl
    have e : best1 (best1 (-1, []) none) (some b) = b := if_pos (by show -1 < b.1; omega)
    rw [e, if_neg (by omega)]
    rfl
  | some a, some b, h0, h1 =>
    have h := h0 a rfl
    have h' := h1 b rfl
    have e : best1 (-1, []) (some a) = a := if_pos (by show -1 < a.1; omega)
    rw [e]
    rcases Classical.em (b.1 < a.1) with q | q
    · have e3 : best1 a (some b) = a := if_neg (by omega)
      rw [e3, if_neg (by omega)]
      exact if_pos q
    · have e3 : best1 a (some b) = b := if_pos (by omega)
      rw [e3, if_neg (by omega)]
      exact if_neg q
abbrev Mems := List M
set_option maxRecDepth 20000 in
theorem rreadv_d {w : World} {B b : Nat} {D : Dv} {vS vN vP vK : Value} (hv : RDev w B b D vS vN vP vK) (hD : D.Ok) (hc : D.calls ≤ 1000000) (hd : D.dead = false) {j : Nat} (hj : j < D.now.length / 512) :
    Ret Tryz.prog 56 [.pointer (some ⟨b, 0, none⟩), .int .i64 (j : Int)] w fun v w' => v = .tuple #[str (secAt D.now j), .int .i64 ((0 : Nat) : Int)] ∧ RDev w' B b (readsC D 1) vS vN vP vK ∧ Mo w w' [b] := by
  have q1 := hD.now
  have q2 := hD.cap
  obtain ⟨An, cn, rfl, hcn, hsln⟩ := hv.now.slice
  refine Ret.enter Tryz.func56 rfl Tryz.ntmps56 (by kernel_rfl) rfl ?_
  refine KW.seq (KW.region ?_)
  refine OW.val rfl rfl (EX.assign rfl) ?_
  refine OW.val rfl rfl (EX.assign rfl) ?_
  refine OW.nil ?_
  refine KW.seq (KW.seq (KW.region ?_))
  refine OW.val rfl rfl (EX.move rfl) ?_
  refine OW.val rfl rfl (by first | exact EX.eqlP1 Tryz.underlying44 rfl rfl | exact EX.eqlP0 Tryz.underlying44 rfl rfl) ?_
  refine OW.nil ?_
  refine KW.condF rfl (KW.skip (KW.seq (KW.seq (KW.region ?_))))
  refine OW.val rfl rfl (EX.move rfl) ?_
  refine OW.val rfl rfl (EX.nilCheck rfl) ?_
  refine OW.val rfl rfl (EX.fieldAddr (off := 6) Tryz.underlying66 rfl rfl ti4 rfl rfl) ?_
  refine OW.val rfl rfl (EX.load Tryz.underlying4 rfl rfl (hv.cells.cell_of rfl)) ?_
  refine OW.nil ?_
  refine KW.cond rfl (fun hd2 => ?_) (fun hd2 => ?_)
  · rw [hd] at hd2
    cases hd2
  · refine KW.skip (KW.seq (KW.seq ?_))
    refine KW.region ?_
    refine OW.val rfl rfl (EX.move rfl) ?_
    refine OW.val rfl rfl (by first | exact EX.lssN (b := 0) rfl rfl | exact EX.lssZ rfl rfl) ?_
    refine OW.val rfl rfl (EX.move rfl) ?_
    refine OW.splitD 14 rfl (fun a1 => ?_) (fun a1 => ?_)
    · omega
    · refine OW.val rfl rfl (EX.move rfl) ?_
      refine OW.val rfl rfl (EX.move rfl) ?_
      refine OW.val rfl rfl (EX.nilCheck rfl) ?_
      refine OW.val rfl rfl (EX.fieldAddr (off := 2) Tryz.underlying66 rfl rfl ti24 rfl rfl) ?_
      refine OW.val rfl rfl (EX.load Tryz.underlying24 rfl rfl (hv.cells.cell_of rfl)) ?_
      refine OW.val rfl rfl (EX.lenA Tryz.underlying24 rfl) ?_
      refine OW.val rfl rfl (by first | exact EX.geqN rfl rfl | exact EX.geqZ rfl rfl) ?_
      refine OW.val rfl rfl (EX.pickF rfl rfl) ?_
      refine OW.nil ?_
      refine KW.condD rfl (fun a2 => ?_) (fun a2 => ?_)
      · omega
      · refine KW.skip (KW.seq (KW.region ?_))
        refine OW.val rfl rfl (EX.move rfl) ?_
        refine OW.val rfl rfl (EX.nilCheck rfl) ?_
        refine OW.val rfl rfl (EX.fieldAddr (off := 7) Tryz.underlying66 rfl rfl ti3 rfl rfl) ?_
        refine OW.val rfl rfl (EX.load Tryz.underlying3 rfl rfl (hv.cells.cell_of rfl)) ?_
        refine OW.val rfl rfl (by first | exact EX.addN (b := 1) (m := 9223372036854775807) rfl rfl rfl (by omega) | exact EX.addZ (m := 9223372036854775807) rfl rfl rfl rfl (by omega)) ?_
        refine OW.val rfl rfl (EX.nilCheck rfl) ?_
        refine OW.val rfl rfl (EX.fieldAddr (off := 7) Tryz.underlying66 rfl rfl ti3 rfl rfl) ?_
        refine OW.storeB rfl ti3 rfl rfl (by first | rfl | assumption | exact Own.one (by assumption)) (hv.cells) (by simp) ?_
        rintro w2 hb2 hm2
        refine OW.nil ?_
        refine KW.seq (KW.region ?_)
        refine OW.val rfl rfl (EX.move rfl) ?_
        refine OW.val rfl rfl (EX.nilCheck rfl) ?_
        refine OW.val rfl rfl (EX.fieldAddr (off := 2) Tryz.underlying66 rfl rfl ti24 rfl rfl) ?_
        have hv2 := RDev.after (D' := readsC D 1) hv.lo hv.cells hm2 hb2 hv.synced hv.now hv.pend hv.keep
        obtain ⟨A2, c2, e2, hc2, hsl2⟩ := hv2.now.slice
        cases e2
        have hg : (secsV D.now)[j]? = some (str (scr D.now j)) := by rw [List.getElem?_map, scrs_get _ hj]; rfl
        obtain ⟨b0, o0, rfl, _, hc0⟩ := hsl2.at_ (by rw [List.length_map, scrs_length]; exact Nat.lt_of_le_of_lt (Nat.zero_le _) hj)
        refine OW.val rfl rfl (EX.load Tryz.underlying24 rfl rfl (hv2.cells.cell_of rfl)) ?_
        refine OW.val rfl rfl (EX.move rfl) ?_
        refine OW.val rfl rfl (by first | exact EX.indexAddrS0 Tryz.underlying24 ti9 rfl rfl (by omega) | exact EX.indexAddrS1 Tryz.underlying24 ti9 rfl rfl (by omega)) ?_
        refine OW.val rfl rfl (EX.load Tryz.underlying9 rfl rfl (hc0 j _ hg)) ?_
        refine OW.val rfl rfl (EX.assign rfl) ?_
        refine OW.val rfl rfl (EX.assign rfl) ?_
        refine OW.nil ?_
        refine KW.ret (ret2 rfl rfl rfl ?_)
        exact ⟨rfl, hv2, hm2⟩
set_option maxRecDepth 20000 in
theorem rcload_s {D : Dv} (hD : D.Ok) {k0 : Nat} (hsm : Sm D k0) (hk0 : k0 ≤ 900000) (B b : Nat) (w : World) (h : RDevAt w B b D) :
    Ret Tryz.prog 23 [.pointer (some ⟨b, 0, none⟩)] w fun v w' => (∃ u, v = .tuple #[.int .i64 (loadC D).1, u, .int .i64 (((loadC D).2.2 : Nat) : Int)] ∧ Own w' w.heap.size 70 5 u (loadC D).2.1.length (memsV (loadC D).2.1)) ∧ RDevAt w' B b (loadedC D) ∧ Tm w w' B rty := by
  have hcap := hD.cap
  have hnow := hD.now
  have hcalls := hsm.calls
  obtain ⟨vS, vN, vP, vK, hv⟩ := id h
  refine Ret.enter Tryz.func23 rfl Tryz.ntmps23 (by kernel_rfl) rfl ?_
  refine KW.seq (KW.region ?_)
  refine OW.val rfl rfl (EX.assign rfl) ?_
  refine OW.val rfl rfl (EX.assign rfl) ?_
  refine OW.val rfl rfl (EX.assign rfl) ?_
  refine OW.nil ?_
  refine KW.seq (KW.seq (KW.region ?_))
  refine OW.val rfl rfl (EX.move rfl) ?_
  refine OW.val rfl rfl (by first | exact EX.eqlP1 Tryz.underlying44 rfl rfl | exact EX.eqlP0 Tryz.underlying44 rfl rfl) ?_
  refine OW.nil ?_
  refine KW.condF rfl (KW.skip (KW.seq (KW.seq (KW.region ?_))))
  refine OW.val rfl rfl (EX.move rfl) ?_
  refine OW.val rfl rfl (EX.nilCheck rfl) ?_
  refine OW.val rfl rfl (EX.fieldAddr (off := 6) Tryz.underlying66 rfl rfl ti4 rfl rfl) ?_
  refine OW.val rfl rfl (EX.load Tryz.underlying4 rfl rfl (hv.cells.cell_of rfl)) ?_
  refine OW.nil ?_
  refine KW.cond rfl (fun hd => ?_) (fun hd => ?_)
  · have e1 : loadC D = (0, [], 190) := by unfold loadC; rw [if_pos hd]
    have e2 : loadedC D = D := by unfold loadedC; rw [if_pos hd]
    refine KW.seq (KW.region ?_)
    refine OW.val rfl rfl (EX.assign rfl) ?_
    refine OW.val rfl rfl (EX.assign rfl) ?_
    refine OW.val rfl rfl (EX.assign rfl) ?_
    refine OW.nil ?_
    refine KW.ret (ret3 rfl rfl rfl rfl ?_)
    rw [e1, e2]
    exact ⟨⟨_, rfl, Own.nil _ _ _ _⟩, h, Tm.refl _ _ _⟩
  · have e1 : loadC D = bestC (slotC D 0) (slotC D 1) := by unfold loadC; rw [if_neg (by rw [hd]; decide)]
    have e2 : loadedC D = readsC D (nreads D) := by unfold loadedC; rw [if_neg (by rw [hd]; decide)]
    rw [e1, e2, bestR_eq]
    refine KW.skip (KW.seq (KW.region ?_))
    refine OW.val rfl rfl (EX.assign rfl) ?_
    refine OW.nil ?_
    refine KW.seq (KW.region ?_)
    refine OW.val rfl rfl (EX.assign rfl) ?_
    refine OW.nil ?_
    refine KW.seq (KW.seq (KW.region ?_))
    refine OW.val rfl rfl (EX.assign rfl) ?_
    refine OW.nil ?_
    refine KW.block ?_
    refine KW.loop6 (fun (k : Nat) (n : Nat) (g : Int) (m : Mems) (u : Value) (wr : World) => k ≤ 2 ∧ (g, m) = bestR D k ∧ n = (if 0 < k ∧ hasS D 0 then 5 else 0) + (if 1 < k ∧ hasS D 1 then 5 else 0) ∧ RDev wr B b (readsC D n) vS vN vP vK ∧ Tm w wr B rty ∧ Own wr w.heap.size 70 5 u m.length (memsV m)) (fun (k : Nat) (n : Nat) (g : Int) (m : Mems) (u : Value) (wr : World) => [(0, .pointer (some ⟨b, 0, none⟩)), (5, .int .i64 (g : Int)), (6, u), (7, .int .i64 ((k : Nat) : Int))]) (fun (k : Nat) (n : Nat) (g : Int) (m : Mems) (u : Value) (wr : World) => wr) (fun (k : Nat) (n : Nat) (g : Int) (m : Mems) (u : Value) (wr : World) => 2 - k) (0) (0) (-1) ([]) (.slice none 0 0) (w) ⟨rfl, rfl, rfl, rfl, trivial⟩ rfl ?_ ?_
    · exact ⟨Nat.zero_le _, rfl, by simp, hv, Tm.refl _ _ _, Own.nil _ _ _ _⟩
    · rintro k n g m u wr ⟨hk2, hgm, hn, hvr, htr, hown⟩
      have hn10 : n ≤ 10 := by rw [hn]; split <;> split <;> omega
      have hro : (readsC D n).Ok := reads_ok hD n
      have hnw : (readsC D n).now.length = D.now.length := rfl
      obtain ⟨An, cn, eN, hcn, hsln⟩ := id hvr.now.slice
      have hBb := hv.lo
      have hbl := hv.cells.lt
      refine KW.seq (KW.seq (KW.region ?_))
      refine OW.val rfl rfl (EX.move rfl) ?_
      refine OW.val rfl rfl (by first | exact EX.lssN (b := 2) rfl rfl | exact EX.lssZ rfl rfl) ?_
      refine OW.nil ?_
      refine KW.condD rfl (fun hlt => ?_) (fun hlt => ?_)
      · have hnk : (if 0 < k + 1 ∧ hasS D 0 then 5 else 0) + (if 1 < k + 1 ∧ hasS D 1 then 5 else 0) = n + (if hasS D k then 5 else 0) := by
          rcases (show k = 0 ∨ k = 1 by omega) with rfl | rfl
          · rw [hn]; simp
          · rw [hn]; simp
        have hstep : bestR D (k + 1) = best1 (bestR D k) (slotC D k) := rfl
        refine KW.skip (KW.seq (KW.block (KW.seq (KW.seq (KW.region ?_)))))
        refine OW.val rfl rfl (EX.move rfl) ?_
        refine OW.val rfl rfl (EX.nilCheck rfl) ?_
        refine OW.val rfl rfl (EX.fieldAddr (off := 2) Tryz.underlying66 rfl rfl ti24 rfl rfl) ?_
        refine OW.val rfl rfl (EX.load Tryz.underlying24 rfl rfl ((eN ▸ hvr.cells).cell_of rfl)) ?_
        refine OW.val rfl rfl (EX.lenA Tryz.underlying24 rfl) ?_
        refine OW.val rfl rfl (EX.move rfl) ?_
        refine OW.val rfl rfl (by first | exact EX.mulN (a := 5) (m := 9223372036854775807) rfl rfl rfl (by omega) | exact EX.mulZ (m := 9223372036854775807) rfl rfl rfl rfl (by omega)) ?_
        refine OW.val rfl rfl (by first | exact EX.addN (b := 5) (m := 9223372036854775807) rfl rfl rfl (by omega) | exact EX.addZ (m := 9223372036854775807) rfl rfl rfl rfl (by omega)) ?_
        refine OW.val rfl rfl (by first | exact EX.lssN rfl rfl | exact EX.lssZ rfl rfl) ?_
        refine OW.nil ?_
        refine KW.condD rfl (fun hfew => ?_) (fun hfew => ?_)
        · have hno : ¬ hasS D k := fun q => by unfold hasS at q; rw [hnw] at hfew; omega
          have hsl : slotC D k = none := by unfold slotC; rw [if_neg (fun q => hno q.has)]
          refine KW.exit rfl (KW.region ?_)
          refine OW.val rfl rfl (EX.move rfl) ?_
          refine OW.val rfl rfl (by first | exact EX.addN (b := 1) (m := 9223372036854775807) rfl rfl rfl (by omega) | exact EX.addZ (m := 9223372036854775807) rfl rfl rfl rfl (by omega)) ?_
          refine OW.val rfl rfl (EX.assign rfl) ?_
          refine OW.nil ?_
          refine KW.back6 (k + 1) (n) (g) (m) (u) (wr) ⟨rfl, rfl, rfl, rfl, trivial⟩ rfl ?_ (by omega)
          rw [hstep, hsl]
          refine ⟨by omega, hgm, ?_, hvr, htr, hown⟩
          rw [hnk, if_neg hno, Nat.add_zero]
        · have hyes : hasS D k := by rw [hnw] at hfew; unfold hasS; omega
          have hyes2 := hyes
          unfold hasS at hyes2
          refine KW.skip (KW.seq (KW.region ?_))
          refine OW.val rfl rfl (EX.assign rfl) ?_
          refine OW.nil ?_
          refine KW.seq (KW.seq (KW.region ?_))
          refine OW.val rfl rfl (EX.assign rfl) ?_
          refine OW.nil ?_
          refine KW.cut2 (fun (v : Value) (wq : World) => Own wq wr.heap.size 9 1 v 5 (txtsV (slotSs D k)) ∧ RDev wq B b (readsC D (n + 5)) vS vN vP vK ∧ Tm w wq B rty ∧ Own wq w.heap.size 70 5 u m.length (memsV m)) (fun (v : Value) (wq : World) => [(0, .pointer (some ⟨b, 0, none⟩)), (5, .int .i64 (g : Int)), (6, u), (7, .int .i64 ((k : Nat) : Int)), (8, v)]) (fun (v : Value) (wq : World) => wq) ?_ ?_
          · refine KW.block ?_
            refine KW.loop3 (fun (i : Nat) (v : Value) (wq : World) => i ≤ 5 ∧ Own wq wr.heap.size 9 1 v i (txtsV ((slotSs D k).take i)) ∧ RDev wq B b (readsC D (n + i)) vS vN vP vK ∧ Mo wr wq [b]) (fun (i : Nat) (v : Value) (wq : World) => [(0, .pointer (some ⟨b, 0, none⟩)), (5, .int .i64 (g : Int)), (6, u), (7, .int .i64 ((k : Nat) : Int)), (8, v), (9, .int .i64 ((i : Nat) : Int))]) (fun (i : Nat) (v : Value) (wq : World) => wq) (fun (i : Nat) (v : Value) (wq : World) => 5 - i) (0) (.slice none 0 0) (wr) ⟨rfl, rfl, rfl, rfl, rfl, rfl, trivial⟩ rfl ?_ ?_
            · exact ⟨Nat.zero_le _, Own.nil _ _ _ _, hvr, Mo.refl _ _⟩
            · rintro i v wq ⟨hi, howns, hvq, hmq⟩
              refine KW.seq (KW.seq (KW.region ?_))
              refine OW.val rfl rfl (EX.move rfl) ?_
              refine OW.val rfl rfl (by first | exact EX.lssN (b := 5) rfl rfl | exact EX.lssZ rfl rfl) ?_
              refine OW.nil ?_
              refine KW.condD rfl (fun hli => ?_) (fun hli => ?_)
              · have cr := rreadv_d hvq (reads_ok hD _) (by show D.calls + (n + i) ≤ 1000000; omega) hd (j := 5 * k + i) (by show 5 * k + i < D.now.length / 512; omega)
                refine KW.skip (KW.seq (KW.block (KW.seq (KW.region ?_))))
                refine OW.val rfl rfl (EX.move rfl) ?_
                refine OW.val rfl rfl (EX.move rfl) ?_
                refine OW.val rfl rfl (by first | exact EX.mulN (a := 5) (m := 9223372036854775807) rfl rfl rfl (by omega) | exact EX.mulZ (m := 9223372036854775807) rfl rfl rfl rfl (by omega)) ?_
                refine OW.val rfl rfl (EX.move rfl) ?_
                refine OW.val rfl rfl (by first | exact EX.addN (m := 9223372036854775807) rfl rfl rfl (by omega) | exact EX.addZ (m := 9223372036854775807) rfl rfl rfl rfl (by omega)) ?_
                refine OW.call rfl rfl rfl (cr) ?_
                rintro _ w5 ⟨rfl, hv5, hm5⟩
                refine OW.val rfl rfl (EX.move rfl) ?_
                refine OW.val rfl rfl (EX.extract rfl rfl) ?_
                refine OW.val rfl rfl (EX.extract rfl rfl) ?_
                refine OW.val rfl rfl (EX.assign rfl) ?_
                refine OW.val rfl rfl (EX.assign rfl) ?_
                refine OW.nil ?_
                refine KW.region ?_
                refine OW.val rfl rfl (EX.move rfl) ?_
                refine OW.val rfl rfl (EX.move rfl) ?_
                have howns5 := howns.mo hm5 (fun q hq => by simp; exact fun z => howns.ne hvq.cells (by decide) q hq z.symm)
                have hm5r := hmq.trans hm5
                refine OW.pushB (wr.heap.size) rfl rfl (fun _ => rfl) rfl Tryz.underlying24 ti9 rfl rfl (fun _ => rfl) (by first | rfl | assumption | exact Own.one (by assumption)) (hm5r.size) (howns5) (by simp only [maxLen]; omega) (by omega) ?_
                rintro _ v6 w6 hown6 hmo6 hblk6
                refine OW.val rfl rfl (EX.assign rfl) ?_
                refine OW.nil ?_
                refine KW.leave (KW.region ?_)
                refine OW.val rfl rfl (EX.move rfl) ?_
                refine OW.val rfl rfl (by first | exact EX.addN (b := 1) (m := 9223372036854775807) rfl rfl rfl (by omega) | exact EX.addZ (m := 9223372036854775807) rfl rfl rfl rfl (by omega)) ?_
                refine OW.val rfl rfl (EX.assign rfl) ?_
                refine OW.nil ?_
                have hm6 : Mo wr w6 [b] := Mo.fresh (S := [b] ++ v.ownBlock.toList) ((hm5r.mono (by simp)).trans (hmo6.mono (by simp; exact fun q hq => .inr hq))) (fun q hq hlt => by
                  rcases List.mem_append.1 hq with z | z
                  · exact z
                  · have := (howns5.lt q (Option.mem_toList.1 z)).1
                    omega)
                have hb6 := hv5.cells.mo hmo6 (fun q => howns5.ne hv5.cells (by decide) b (Option.mem_toList.1 q) rfl)
                refine KW.back3 (i + 1) (v6) (w6) ⟨rfl, rfl, rfl, rfl, rfl, rfl, trivial⟩ rfl ?_ (by omega)
                exact ⟨by omega, by rw [slotSs_take (by omega), show k * 5 + i = 5 * k + i by omega]; exact hown6, RDev.after (D' := readsC D (n + (i + 1))) hvr.lo hvr.cells hm6 hb6 hvr.synced hvr.now hvr.pend hvr.keep, hm6⟩
              · obtain rfl : i = 5 := by omega
                rw [List.take_of_length_le (by rw [slotSs_len]; exact Nat.le_refl _)] at howns
                refine KW.exit rfl ?_
                refine KW.meet2 (v) (wq) ⟨rfl, rfl, rfl, rfl, rfl, trivial⟩ rfl ?_
                exact ⟨howns, hvq, htr.trans (RDev.tmD hvr.lo hvr.cells hmq), (RDev.tmD hvr.lo hvr.cells hmq).own hown (by decide)⟩
          · rintro v wq ⟨howns, hvq, htq, hownm⟩
            obtain ⟨A5, c5, rfl, _, hsl5⟩ := howns.slice
            have hl5 := slotSs_len D k
            have cd := rdecode23_s (slotSs D k) (by omega) A5 c5 _ wq hsl5
            rw [hl5] at cd
            have hdl := dec_low (ss := slotSs D k)
            have hdf := (dec_fine (slotSs D k)).resolve_right (by omega)
            have hright : ((decC (slotSs D k)).2.2 = 0 ∧ (decC (slotSs D k)).1 % 2 = (k : Int) ∧ OkC (decC (slotSs D k)).2.1 D.cap) → slotC D k = some ((decC (slotSs D k)).1, (decC (slotSs D k)).2.1) := fun z => by unfold slotC; rw [if_pos ⟨hyes, z.1, z.2.1, z.2.2⟩]
            have hwrong : ¬ ((decC (slotSs D k)).2.2 = 0 ∧ (decC (slotSs D k)).1 % 2 = (k : Int) ∧ OkC (decC (slotSs D k)).2.1 D.cap) → slotC D k = none := fun z => by unfold slotC; rw [if_neg (fun y => z ⟨y.dec, y.par, y.chk⟩)]
            generalize hgen : (decC (slotSs D k)).1 = gg at cd hdl hright hwrong
            generalize hmem : (decC (slotSs D k)).2.1 = ll at cd hdf hright hwrong
            generalize (decC (slotSs D k)).2.2 = ee at cd hdl hright hwrong
            have hwq := htq.size
            refine KW.seq (KW.region ?_)
            refine OW.val rfl rfl (EX.move rfl) ?_
            refine OW.call rfl rfl rfl (cd) ?_
            rintro _ w7 ⟨⟨u7, rfl, hown7⟩, hx7⟩
            refine OW.val rfl rfl (EX.move rfl) ?_
            refine OW.val rfl rfl (EX.extract rfl rfl) ?_
            refine OW.val rfl rfl (EX.extract rfl rfl) ?_
            refine OW.val rfl rfl (EX.extract rfl rfl) ?_
            refine OW.val rfl rfl (EX.assign rfl) ?_
            refine OW.val rfl rfl (EX.assign rfl) ?_
            refine OW.val rfl rfl (EX.assign rfl) ?_
            refine OW.nil ?_
            refine KW.seq ?_
            have hv7 := hvq.ext hx7
            have ht7 : Tm w w7 B rty := htq.trans (Tm.of_ext hx7 _ _)
            have hown7' : Own w7 w.heap.size 70 5 u7 ll.length (memsV ll) := hown7.more hwq
            have hownm7 := hownm.ext hx7
            obtain ⟨A7, c7, rfl, _, hsl7⟩ := hown7.slice
            have same : ∀ wz, Ext w7 wz → slotC D k = none ∨ (slotC D k = some (gg, ll) ∧ ¬ g < gg) → (k + 1 ≤ 2 ∧ (g, m) = bestR D (k + 1) ∧ n + 5 = (if 0 < k + 1 ∧ hasS D 0 then 5 else 0) + (if 1 < k + 1 ∧ hasS D 1 then 5 else 0) ∧ RDev wz B b (readsC D (n + 5)) vS vN vP vK ∧ Tm w wz B rty ∧ Own wz w.heap.size 70 5 u m.length (memsV m)) := fun wz hx q => by
              refine ⟨by omega, ?_, by rw [hnk, if_pos hyes], hv7.ext hx, ht7.trans (Tm.of_ext hx _ _), hownm7.ext hx⟩
              rw [hstep, ← hgm]
              rcases q with q | ⟨q, q2⟩
              · rw [q]; rfl
              · rw [q]; exact (if_neg q2).symm
            refine KW.region ?_
            refine OW.val rfl rfl (EX.move rfl) ?_
            refine OW.val rfl rfl (by first | exact EX.eqlN (b := 0) rfl rfl | exact EX.eqlZ rfl rfl) ?_
            refine OW.val rfl rfl (EX.move rfl) ?_
            refine OW.splitD 59 rfl (fun he => ?_) (fun he => ?_)
            · obtain rfl : ee = 0 := by omega
              obtain ⟨gN, rfl⟩ := Int.eq_ofNat_of_zero_le (hdl rfl)
              refine OW.val rfl rfl (EX.move rfl) ?_
              refine OW.val rfl rfl (by first | exact EX.remN (b := 2) rfl rfl (by omega) | exact EX.remZ rfl rfl (by decide)) ?_
              refine OW.val rfl rfl (EX.move rfl) ?_
              refine OW.val rfl rfl (by first | exact EX.eqlN rfl rfl | exact EX.eqlZ rfl rfl) ?_
              refine OW.val rfl rfl (EX.pickT rfl rfl) ?_
              refine OW.val rfl rfl (EX.move rfl) ?_
              refine OW.splitD 65 rfl (fun hp => ?_) (fun hp => ?_)
              · refine OW.val rfl rfl (EX.move rfl) ?_
                refine OW.val rfl rfl (EX.move rfl) ?_
                refine OW.val rfl rfl (EX.nilCheck rfl) ?_
                refine OW.val rfl rfl (EX.fieldAddr (off := 0) Tryz.underlying66 rfl rfl ti3 rfl rfl) ?_
                refine OW.val rfl rfl (EX.load Tryz.underlying3 rfl rfl (hv7.cells.cell_of rfl)) ?_
                refine OW.call rfl rfl rfl (rchk_s ll hdf.1 (by omega) D.cap A7 c7 _ w7 hsl7) ?_
                rintro _ w8 ⟨rfl, hx8⟩
                refine OW.val rfl rfl (by first | exact EX.eqlN (b := 0) rfl rfl | exact EX.eqlZ rfl rfl) ?_
                refine OW.val rfl rfl (EX.pickT rfl rfl) ?_
                refine OW.val rfl rfl (EX.move rfl) ?_
                have e9 : (chkC ll (D.cap : Int) = 0) ↔ OkC ll (D.cap : Int) := ⟨fun z => Classical.byContradiction fun y => (by rw [chkC_no y] at z; cases z), fun z => chkC_ok z⟩
                refine OW.splitD 74 rfl (fun hk9 => ?_) (fun hk9 => ?_)
                · have hr := hright ⟨rfl, by omega, e9.1 (by omega)⟩
                  refine OW.val rfl rfl (EX.move rfl) ?_
                  refine OW.val rfl rfl (EX.move rfl) ?_
                  refine OW.val rfl rfl (by first | exact EX.gtrN rfl rfl | exact EX.gtrZ rfl rfl) ?_
                  refine OW.val rfl rfl (EX.pickT rfl rfl) ?_
                  refine OW.nil ?_
                  refine KW.condD rfl (fun hgt => ?_) (fun hgt => ?_)
                  · refine KW.seq (KW.region ?_)
                    refine OW.val rfl rfl (EX.move rfl) ?_
                    refine OW.val rfl rfl (EX.assign rfl) ?_
                    refine OW.nil ?_
                    refine KW.region ?_
                    refine OW.val rfl rfl (EX.move rfl) ?_
                    refine OW.val rfl rfl (EX.assign rfl) ?_
                    refine OW.nil ?_
                    refine KW.leave (KW.region ?_)
                    refine OW.val rfl rfl (EX.move rfl) ?_
                    refine OW.val rfl rfl (by first | exact EX.addN (b := 1) (m := 9223372036854775807) rfl rfl rfl (by omega) | exact EX.addZ (m := 9223372036854775807) rfl rfl rfl rfl (by omega)) ?_
                    refine OW.val rfl rfl (EX.assign rfl) ?_
                    refine OW.nil ?_
                    refine KW.back6 (k + 1) (n + 5) ((gN : Int)) (ll) (.slice A7 ll.length c7) (w8) ⟨rfl, rfl, rfl, rfl, trivial⟩ rfl ?_ (by omega)
                    refine ⟨by omega, ?_, by rw [hnk, if_pos hyes], hv7.ext hx8, ht7.trans (Tm.of_ext hx8 _ _), hown7'.ext hx8⟩
                    rw [hstep, ← hgm, hr]
                    exact (if_pos (show g < (gN : Int) by omega)).symm
                  · refine KW.skip (KW.leave (KW.region ?_))
                    refine OW.val rfl rfl (EX.move rfl) ?_
                    refine OW.val rfl rfl (by first | exact EX.addN (b := 1) (m := 9223372036854775807) rfl rfl rfl (by omega) | exact EX.addZ (m := 9223372036854775807) rfl rfl rfl rfl (by omega)) ?_
                    refine OW.val rfl rfl (EX.assign rfl) ?_
                    refine OW.nil ?_
                    refine KW.back6 (k + 1) (n + 5) (g) (m) (u) (w8) ⟨rfl, rfl, rfl, rfl, trivial⟩ rfl ?_ (by omega)
                    exact same w8 hx8 (.inr ⟨hr, by omega⟩)
                · refine OW.pass rfl rfl ?_
                  refine OW.pass rfl rfl ?_
                  refine OW.pass rfl rfl ?_
                  refine OW.val rfl rfl (EX.pickF rfl rfl) ?_
                  refine OW.nil ?_
                  refine KW.condF rfl (KW.skip (KW.leave (KW.region ?_)))
                  refine OW.val rfl rfl (EX.move rfl) ?_
                  refine OW.val rfl rfl (by first | exact EX.addN (b := 1) (m := 9223372036854775807) rfl rfl rfl (by omega) | exact EX.addZ (m := 9223372036854775807) rfl rfl rfl rfl (by omega)) ?_
                  refine OW.val rfl rfl (EX.assign rfl) ?_
                  refine OW.nil ?_
                  refine KW.back6 (k + 1) (n + 5) (g) (m) (u) (w8) ⟨rfl, rfl, rfl, rfl, trivial⟩ rfl ?_ (by omega)
                  exact same w8 hx8 (.inl (hwrong fun z => hk9 (by rw [e9.2 z.2.2])))
              · refine OW.pass rfl rfl ?_
                refine OW.pass rfl rfl ?_
                refine OW.pass rfl rfl ?_
                refine OW.pass rfl rfl ?_
                refine OW.pass rfl rfl ?_
                refine OW.pass rfl rfl ?_
                refine OW.pass rfl rfl ?_
                refine OW.val rfl rfl (EX.pickF rfl rfl) ?_
                refine OW.val rfl rfl (EX.move rfl) ?_
                refine OW.pass rfl rfl ?_
                refine OW.pass rfl rfl ?_
                refine OW.pass rfl rfl ?_
                refine OW.val rfl rfl (EX.pickF rfl rfl) ?_
                refine OW.nil ?_
                refine KW.condF rfl (KW.skip (KW.leave (KW.region ?_)))
                refine OW.val rfl rfl (EX.move rfl) ?_
                refine OW.val rfl rfl (by first | exact EX.addN (b := 1) (m := 9223372036854775807) rfl rfl rfl (by omega) | exact EX.addZ (m := 9223372036854775807) rfl rfl rfl rfl (by omega)) ?_
                refine OW.val rfl rfl (EX.assign rfl) ?_
                refine OW.nil ?_
                refine KW.back6 (k + 1) (n + 5) (g) (m) (u) (w7) ⟨rfl, rfl, rfl, rfl, trivial⟩ rfl ?_ (by omega)
                exact same w7 (Ext.refl _) (.inl (hwrong fun z => by omega))
            · refine OW.pass rfl rfl ?_
              refine OW.pass rfl rfl ?_
              refine OW.pass rfl rfl ?_
              refine OW.pass rfl rfl ?_
              refine OW.val rfl rfl (EX.pickF rfl rfl) ?_
              refine OW.val rfl rfl (EX.move rfl) ?_
              refine OW.pass rfl rfl ?_
              refine OW.pass rfl rfl ?_
              refine OW.pass rfl rfl ?_
              refine OW.pass rfl rfl ?_
              refine OW.pass rfl rfl ?_
              refine OW.pass rfl rfl ?_
              refine OW.pass rfl rfl ?_
              refine OW.val rfl rfl (EX.pickF rfl rfl) ?_
              refine OW.val rfl rfl (EX.move rfl) ?_
              refine OW.pass rfl rfl ?_
              refine OW.pass rfl rfl ?_
              refine OW.pass rfl rfl ?_
              refine OW.val rfl rfl (EX.pickF rfl rfl) ?_
              refine OW.nil ?_
              refine KW.condF rfl (KW.skip (KW.leave (KW.region ?_)))
              refine OW.val rfl rfl (EX.move rfl) ?_
              refine OW.val rfl rfl (by first | exact EX.addN (b := 1) (m := 9223372036854775807) rfl rfl rfl (by omega) | exact EX.addZ (m := 9223372036854775807) rfl rfl rfl rfl (by omega)) ?_
              refine OW.val rfl rfl (EX.assign rfl) ?_
              refine OW.nil ?_
              refine KW.back6 (k + 1) (n + 5) (g) (m) (u) (w7) ⟨rfl, rfl, rfl, rfl, trivial⟩ rfl ?_ (by omega)
              exact same w7 (Ext.refl _) (.inl (hwrong fun z => by omega))
      · obtain rfl : k = 2 := by omega
        have hnn : n = nreads D := by rw [hn]; unfold nreads; simp
        subst hnn
        rw [← hgm]
        refine KW.exit rfl (KW.seq (KW.seq (KW.region ?_)))
        refine OW.val rfl rfl (EX.move rfl) ?_
        refine OW.val rfl rfl (by first | exact EX.lssN (b := 0) rfl rfl | exact EX.lssZ rfl rfl) ?_
        refine OW.nil ?_
        refine KW.condD rfl (fun hneg => ?_) (fun hneg => ?_)
        · refine KW.seq (KW.region ?_)
          refine OW.val rfl rfl (EX.assign rfl) ?_
          refine OW.val rfl rfl (EX.assign rfl) ?_
          refine OW.val rfl rfl (EX.assign rfl) ?_
          refine OW.nil ?_
          refine KW.ret (ret3 rfl rfl rfl rfl ?_)
          rw [if_pos (by omega)]
          exact ⟨⟨_, rfl, Own.nil _ _ _ _⟩, ⟨_, _, _, _, hvr⟩, htr⟩
        · refine KW.skip (KW.seq (KW.region ?_))
          refine OW.val rfl rfl (EX.move rfl) ?_
          refine OW.val rfl rfl (EX.move rfl) ?_
          refine OW.val rfl rfl (EX.assign rfl) ?_
          refine OW.val rfl rfl (EX.assign rfl) ?_
          refine OW.val rfl rfl (EX.assign rfl) ?_
          refine OW.nil ?_
          refine KW.ret (ret3 rfl rfl rfl rfl ?_)
          rw [if_neg (by omega)]
          exact ⟨⟨_, rfl, hown⟩, ⟨_, _, _, _, hvr⟩, htr⟩
end Go.Proofs.YthgfdpcpbghkpaaGreatDoor
namespace Go.Proofs.YthgfdpcpbghkpaaGreatDoor
open Go.ChangeShapes Go.WideShapes Go.ChangeAt Go.RowKit Go.Deep Dsk
structure Fl where
  at_ : Int
  ks : List Bool
  A : Option Addr
  k : Nat
def Fl.cells (f : Fl) : List Value := [.int .i64 f.at_, .slice f.A f.ks.length f.k]
structure Fl.Ok (f : Fl) (w : World) (C : Nat) : Prop where
  at_ : -9223372036854775808 ≤ f.at_ ∧ f.at_ ≤ 9223372036854775807
  nil : f.A = none → boolsV f.ks = []
  len : f.ks.length ≤ 140737488351232
  sl : Sl w C f.A (boolsV f.ks)
section
variable {H : Type} {enc : TypeId × Value → H} {W : World} {base : Nat} {v : Value} {d : DataW H} {p : List MemPlace} {r : Reach} {b0 : Nat}
theorem two {l : List Value} (h : l.length = 2) : ∃ a b, l = [a, b] := by
  match l, h with
  | [a, b], _ => exact ⟨a, b, rfl⟩
set_option maxRecDepth 20000 in
theorem fall_step (n : Nat) (cs : List Value) (x : DataW H × List MemPlace) (h : DataW.trod enc Tryz.prog W base (fun _ => true) true n 49 cs = some x) (hw : ∀ m ∈ x.1.weights Tryz.prog 49, m ≤ reachBytes) : ∃ a : Fl, cs = a.cells ∧ a.Ok W W.heap.size := by
  obtain ⟨xs, m, rfl, rfl, hl, hlen, hf⟩ := DataW.trod_struct Tryz.underlying49 h
  obtain ⟨c0, c1, rfl⟩ := two (hl.trans (by kernel_rfl))
  have g : ∀ i (hi : i < 2), ∃ y, xs[i]? = some y := fun i hi => ⟨_, List.getElem?_eq_getElem (by rw [hlen]; exact hi)⟩
  obtain ⟨y0, e0⟩ := g 0 (by omega)
  obtain ⟨y1, e1⟩ := g 1 (by omega)
  have f0 : DataW.trod enc Tryz.prog W base (fun _ => true) true m 3 ((([c0, c1] : List Value).drop 0).take (Tryz.prog.cellsOf 3)) = some y0 := (hf 0 _ rfl).trans e0
  have f1 : DataW.trod enc Tryz.prog W base (fun _ => true) true m 47 ((([c0, c1] : List Value).drop 1).take (Tryz.prog.cellsOf 47)) = some y1 := (hf 1 _ rfl).trans e1
  rw [show Tryz.prog.cellsOf 3 = 1 by kernel_rfl] at f0
  rw [show Tryz.prog.cellsOf 47 = 1 by kernel_rfl] at f1
  simp only [List.drop_zero, List.drop_succ_cons, List.take_succ_cons, List.take_zero] at f0 f1
  obtain ⟨n0, h0, _, w0⟩ := DataW.trod_int Tryz.underlying3 f0
  have hd1 : (xs.map (·.1))[1]? = some y1.1 := by rw [List.getElem?_map, e1]; rfl
  have hwe : ∀ k ∈ DataW.weightsEach Tryz.prog [3, 47] (xs.map (·.1)), k ≤ reachBytes := fun k hk => hw k (by
    simp only [DataW.weights, Tryz.underlying49]
    exact hk)
  obtain ⟨l, A, cap, h1, hA, hn, hs⟩ := nest_slB Tryz.underlying47 Tryz.underlying4 (by kernel_rfl) (by kernel_rfl) f1 (fun k hk => hwe k (DataW.weights_mem_each (j := 1) rfl hd1 _ hk))
  simp only [List.cons.injEq, and_true] at h0 h1
  subst h0 h1
  exact ⟨⟨n0, l, A, cap⟩, rfl, ⟨wf_int w0, fun h => by rw [hA h]; rfl, hn, hs⟩⟩
end
end Go.Proofs.YthgfdpcpbghkpaaGreatDoor
namespace Go.Proofs.YthgfdpcpbghkpaaGreatDoor
open Go.RowKit Pth Rec Srt Cat Dsk Wal
theorem DevAt.tm {w w' : World} {B b C : Nat} {D : Dv} {p : TypeId → Bool} (h : DevAt w B b D) (t : Tm w w' C p) (p1 : p 109 = false) (p2 : p 5 = false) (p3 : p 139 = false) (p4 : p 4 = false) (p5 : p 3 = false) (p6 : p 9 = false) : DevAt w' B b D := by
  obtain ⟨vk, vn, vp, vq, vs, h1, h2, h3, h4, h5, h6, h7, h8⟩ := h
  exact ⟨vk, vn, vp, vq, vs, h1, t.bk h2 p1, t.own h3 p2, t.own h4 p2, h5, t.own h6 p3, h7.tm t p5 p6, t.own h8 p4⟩
theorem DevAt.rty {w w' : World} {B b C : Nat} {D : Dv} (h : DevAt w B b D) (t : Tm w w' C rty) : DevAt w' B b D := h.tm t (by decide) (by decide) (by decide) (by decide) (by decide) (by decide)
theorem RDevAt.dty {w w' : World} {B b C : Nat} {D : Dv} (h : RDevAt w B b D) (t : Tm w w' C dty) : RDevAt w' B b D := h.tm t (by decide) (by decide) (by decide) (by decide)
structure Ca where
  gen : Int
  next : Bool
  l : List M
  nA : Option Addr
  nk : Nat
  fa : Int
  ks : List Bool
  kA : Option Addr
  kk : Nat
  hurt : Bool
  at_ : Int
  fill : Nat
def Ca.cells (a : Ca) : List Value := [.int .i64 a.gen, .bool a.next, .slice a.nA a.l.length a.nk, .int .i64 a.fa, .slice a.kA a.ks.length a.kk, .bool a.hurt, .int .i64 a.at_, .int .u8 (a.fill : Int)]
structure Ca.Ok (a : Ca) : Prop where
  gen : -9223372036854775808 ≤ a.gen ∧ a.gen ≤ 9223372036854775807
  at_ : -9223372036854775808 ≤ a.at_ ∧ a.at_ ≤ 9223372036854775807
  len : a.l.length ≤ 140737488355328
  ok : ∀ m ∈ a.l, m.Ok
  fa : -9223372036854775808 ≤ a.fa ∧ a.fa ≤ 9223372036854775807
  nil : a.kA = none → boolsV a.ks = []
  klen : a.ks.length ≤ 140737488351232
  fill : a.fill ≤ 255
structure Ca.At (a : Ca) (w : World) (C : Nat) : Prop where
  mems : Sl w C a.nA (memsV a.l)
  keep : Sl w C a.kA (boolsV a.ks)
def CasAt (w : World) (C : Nat) (A : Option Addr) (acts : List Ca) : Prop := C ≤ w.heap.size ∧ Sl w C A (acts.flatMap Ca.cells) ∧ ∀ a ∈ acts, a.At w C
theorem mod80 (c : Int) : ∃ n : Nat, 1 ≤ n ∧ n ≤ 80 ∧ 1 + (Int.tmod (Int.tmod c 80 + 80) 80) = (n : Int) := by
  have h1 : -80 < Int.tmod c 80 := Int.lt_tmod_of_pos c (by decide)
  have h3 : Int.tmod (Int.tmod c 80 + 80) 80 < 80 := Int.tmod_lt_of_pos _ (by decide)
  have h4 : 0 ≤ Int.tmod (Int.tmod c 80 + 80) 80 := Int.tmod_nonneg _ (by omega)
  obtain ⟨o, ho⟩ := Int.eq_ofNat_of_zero_le h4
  exact ⟨1 + o, by omega, by omega, by omega⟩
theorem rnewN (n : Nat) (h : 1 ≤ n ∧ n ≤ 4096) (w : World) : Ret Tryz.prog 16 [.int .i64 (n : Int)] w fun v w' => Ext w w' ∧ ∃ b, v = .tuple #[.pointer (some ⟨b, 0, none⟩), .int .i64 0] ∧ RDevAt w' w.heap.size b (fresh n []) :=
  (rnew_s (n : Int) (by omega) (by omega) w).mono fun v w' ⟨p, e, h1, h2, h3⟩ => ⟨h2, by
    rcases h3 with ⟨q, _⟩ | ⟨_, b, h4, h5, h6⟩
    · exact absurd (mayNil h) q
    · exact ⟨b, by rw [h1, h4, h5]; rfl, h6⟩⟩
theorem capacity_n (w : World) : Ret Tryz.prog 57 [.pointer none] w fun v w' => v = .int .i64 ((0 : Nat) : Int) ∧ w = w' := by
  refine Ret.enter Tryz.func57 rfl Tryz.ntmps57 (by kernel_rfl) rfl ?_
  refine KW.seq (KW.region ?_)
  refine OW.val rfl rfl (EX.assign rfl) ?_
  refine OW.nil ?_
  refine KW.seq (KW.seq (KW.region ?_))
  refine OW.val rfl rfl (EX.move rfl) ?_
  refine OW.call rfl rfl rfl (none_n w) ?_
  rintro _ _ ⟨rfl, rfl⟩
  refine OW.nil ?_
  refine KW.condT rfl (KW.seq (KW.region ?_))
  refine OW.val rfl rfl (EX.assign rfl) ?_
  refine OW.nil ?_
  refine KW.ret (ret1 rfl rfl ?_)
  exact ⟨rfl, rfl⟩
theorem csave_n (v : Value) (w : World) : Ret Tryz.prog 25 [.pointer none, .int .i64 0, v] w fun r w' => r = .int .i64 1 ∧ w = w' := by
  refine Ret.enter Tryz.func25 rfl Tryz.ntmps25 (by kernel_rfl) rfl ?_
  refine KW.seq (KW.region ?_)
  refine OW.val rfl rfl (EX.assign rfl) ?_
  refine OW.nil ?_
  refine KW.seq (KW.seq (KW.region ?_))
  refine OW.val rfl rfl (EX.move rfl) ?_
  refine OW.call rfl rfl rfl (capacity_n w) ?_
  rintro _ _ ⟨rfl, rfl⟩
  refine OW.val rfl rfl (by first | exact EX.eqlN (b := 0) rfl rfl | exact EX.eqlZ rfl rfl) ?_
  refine OW.nil ?_
  refine KW.condD rfl (fun h => ?_) (fun h => ?_)
  · refine KW.seq (KW.region ?_)
    refine OW.val rfl rfl (EX.assign rfl) ?_
    refine OW.nil ?_
    refine KW.ret (ret1 rfl rfl ?_)
    exact ⟨rfl, rfl⟩
  · exact absurd rfl h
theorem cload_n (w : World) : Ret Tryz.prog 24 [.pointer none] w fun r w' => r = .tuple #[.int .i64 0, .slice none 0 0, .int .i64 1] ∧ w = w' := by
  refine Ret.enter Tryz.func24 rfl Tryz.ntmps24 (by kernel_rfl) rfl ?_
  refine KW.seq (KW.region ?_)
  refine OW.val rfl rfl (EX.assign rfl) ?_
  refine OW.val rfl rfl (EX.assign rfl) ?_
  refine OW.val rfl rfl (EX.assign rfl) ?_
  refine OW.nil ?_
  refine KW.seq (KW.seq (KW.region ?_))
  refine OW.val rfl rfl (EX.move rfl) ?_
  refine OW.call rfl rfl rfl (capacity_n w) ?_
  rintro _ _ ⟨rfl, rfl⟩
  refine OW.val rfl rfl (by first | exact EX.eqlN (b := 0) rfl rfl | exact EX.eqlZ rfl rfl) ?_
  refine OW.nil ?_
  refine KW.condD rfl (fun h => ?_) (fun h => ?_)
  · refine KW.seq (KW.region ?_)
    refine OW.val rfl rfl (EX.assign rfl) ?_
    refine OW.val rfl rfl (EX.assign rfl) ?_
    refine OW.val rfl rfl (EX.assign rfl) ?_
    refine OW.nil ?_
    refine KW.ret (ret3 rfl rfl rfl rfl ?_)
    exact ⟨rfl, rfl⟩
  · exact absurd rfl h
theorem plan_sm {D : Dv} {k : Nat} (h : Sm D k) {a : Int} (ha : a ≤ 9223372036854775807) {ks : List Bool} (hk : ks.length ≤ 140737488355328) : Sm (D.plan a ks).1 k := by
  unfold Dv.plan
  split
  · exact h
  · split
    · exact h
    · exact ⟨h.calls, h.pend, by show a.toNat ≤ _; omega, hk⟩
theorem bestC_low (D : Dv) : 0 ≤ (bestC (slotC D 0) (slotC D 1)).1 := by
  have h0 := fun p => slotC_par (D := D) (k := 0) (p := p)
  have h1 := fun p => slotC_par (D := D) (k := 1) (p := p)
  generalize slotC D 0 = x at h0
  generalize slotC D 1 = y at h1
  match x, y, h0, h1 with
  | none, none, _, _ => exact Int.le_refl _
  | some a, none, h0, _ => exact (h0 a rfl).1
  | none, some b, _, h1 => exact (h1 b rfl).1
  | some a, some b, h0, h1 =>
    rcases Classical.em (b.1 < a.1) with q | q
    · have e : bestC (some a) (some b) = (a.1, a.2, 0) := if_pos q
      rw [e]; exact (h0 a rfl).1
    · have e : bestC (some a) (some b) = (b.1, b.2, 0) := if_neg q
      rw [e]; exact (h1 b rfl).1
theorem rep_bytes (n b : Nat) (hb : b ≤ 255) : List.replicate n (Value.int .u8 (b : Int)) ++ List.replicate (n - n) (.int .u8 0) = bytesV (List.replicate n (UInt8.ofNat b)) := by
  have q : ((UInt8.ofNat b).toNat : Int) = (b : Int) := by simp; omega
  simp [bytesV, q]
  omega
theorem loadC_low (D : Dv) : 0 ≤ (loadC D).1 := by
  unfold loadC
  split
  · exact Int.le_refl _
  · exact bestC_low D
theorem slotC_len {D : Dv} {k : Nat} {p : Int × List M} (h : slotC D k = some p) : p.2.length ≤ 1000000000000 := by
  obtain ⟨q, rfl⟩ := slotC_some h
  have := q.chk.len
  show (decC (slotSs D k)).2.1.length ≤ _
  omega
theorem loadC_len (D : Dv) : (loadC D).2.1.length ≤ 1000000000000 := by
  have h0 := fun p => slotC_len (D := D) (k := 0) (p := p)
  have h1 := fun p => slotC_len (D := D) (k := 1) (p := p)
  unfold loadC
  split
  · exact Nat.zero_le _
  · generalize slotC D 0 = x at h0
    generalize slotC D 1 = y at h1
    match x, y, h0, h1 with
    | none, none, _, _ => exact Nat.zero_le _
    | some a, none, h0, _ => exact h0 a rfl
    | none, some b, _, h1 => exact h1 b rfl
    | some a, some b, h0, h1 =>
      rcases Classical.em (b.1 < a.1) with q | q
      · have e : bestC (some a) (some b) = (a.1, a.2, 0) := if_pos q
        rw [e]; exact h0 a rfl
      · have e : bestC (some a) (some b) = (b.1, b.2, 0) := if_neg q
        rw [e]; exact h1 b rfl
set_option maxRecDepth 20000 in
theorem catalogPlays_s (cap : Int) (c0 : -9223372036854775808 ≤ cap) (c1 : cap ≤ 9223372036854775807) (acts : List Ca) (hok : ∀ a ∈ acts, a.Ok) (A : Option Addr) (k : Nat) (w : World) (C : Nat) (hat : CasAt w C A acts) (hG : MLen w) :
    Ret Tryz.prog 5 [.int .i64 cap, .slice A acts.length k] w fun v w' => v = .bool true ∧ Ext w w' := by
  obtain ⟨hC, hsl, hpa⟩ := hat
  have hgl := mlen_lt hG
  have bye : ∀ w', Ext w w' → Ret Tryz.prog 6 [] w' fun v w'' => v = .bool true ∧ Ext w w'' := fun w' hx => (cawake_s w' (hG.ext hx) (Nat.lt_of_lt_of_le hgl hx.size)).mono fun _ _ h => ⟨h.1, Ext.trans hx h.2⟩
  refine Ret.enter Tryz.func5 rfl Tryz.ntmps5 (by kernel_rfl) rfl ?_
  refine KW.seq (KW.region ?_)
  refine OW.val rfl rfl (EX.assign rfl) ?_
  refine OW.nil ?_
  refine KW.seq (KW.seq (KW.region ?_))
  refine OW.val rfl rfl (EX.move rfl) ?_
  refine OW.val rfl rfl (EX.lenA Tryz.underlying40 rfl) ?_
  refine OW.val rfl rfl (by first | exact EX.gtrN (b := 30) rfl rfl | exact EX.gtrZ rfl rfl) ?_
  refine OW.nil ?_
  refine KW.condD rfl (fun q0 => ?_) (fun q0 => ?_)
  · refine KW.seq (KW.region ?_)
    refine OW.call rfl rfl rfl (bye w (Ext.refl _)) ?_
    rintro _ w1 ⟨rfl, hx1⟩
    refine OW.val rfl rfl (EX.assign rfl) ?_
    refine OW.nil ?_
    refine KW.ret (ret1 rfl rfl ?_)
    exact ⟨rfl, hx1⟩
  · obtain ⟨n, n1, n2, hn⟩ := mod80 cap
    have m1 : -80 < Int.tmod cap 80 := Int.lt_tmod_of_pos cap (by decide)
    have m2 : Int.tmod cap 80 < 80 := Int.tmod_lt_of_pos cap (by decide)
    have m3 : Int.tmod (Int.tmod cap 80 + 80) 80 < 80 := Int.tmod_lt_of_pos _ (by decide)
    have m4 : 0 ≤ Int.tmod (Int.tmod cap 80 + 80) 80 := Int.tmod_nonneg _ (by omega)
    refine KW.skip (KW.seq (KW.region ?_))
    refine OW.val rfl rfl (EX.move rfl) ?_
    refine OW.val rfl rfl (by first | exact EX.remN (b := 80) rfl rfl (by omega) | exact EX.remZ rfl rfl (by decide)) ?_
    refine OW.val rfl rfl (by first | exact EX.addN (b := 80) (m := 9223372036854775807) rfl rfl rfl (by omega) | exact EX.addZ (m := 9223372036854775807) rfl rfl rfl rfl (by omega)) ?_
    refine OW.val rfl rfl (by first | exact EX.remN (b := 80) rfl rfl (by omega) | exact EX.remZ rfl rfl (by decide)) ?_
    refine OW.val rfl rfl (by first | exact EX.addN (a := 1) (m := 9223372036854775807) rfl rfl rfl (by omega) | exact EX.addZ (m := 9223372036854775807) rfl rfl rfl rfl (by omega)) ?_
    refine OW.val rfl rfl (EX.assign rfl) ?_
    refine OW.nil ?_
    refine KW.seq (KW.region ?_)
    refine OW.val rfl rfl (EX.move rfl) ?_
    refine OW.as 37 (.int .i64 ((n : Nat) : Int)) rfl (congrArg (Value.int .i64) hn) ?_
    refine OW.as 5 (.int .i64 ((n : Nat) : Int)) rfl (congrArg (Value.int .i64) hn) ?_
    refine OW.call rfl rfl rfl (newN n (by omega) w) ?_
    rintro _ w1 ⟨hx1, b, rfl, hdev1⟩
    refine OW.val rfl rfl (EX.move rfl) ?_
    refine OW.val rfl rfl (EX.extract rfl rfl) ?_
    refine OW.val rfl rfl (EX.extract rfl rfl) ?_
    refine OW.val rfl rfl (EX.assign rfl) ?_
    refine OW.val rfl rfl (EX.assign rfl) ?_
    refine OW.nil ?_
    refine KW.seq (KW.region ?_)
    refine OW.val rfl rfl (EX.move rfl) ?_
    refine OW.call rfl rfl rfl (rnewN n (by omega) w1) ?_
    rintro _ w2 ⟨hx2, rb, rfl, hrd2⟩
    refine OW.val rfl rfl (EX.move rfl) ?_
    refine OW.val rfl rfl (EX.extract rfl rfl) ?_
    refine OW.val rfl rfl (EX.extract rfl rfl) ?_
    refine OW.val rfl rfl (EX.assign rfl) ?_
    refine OW.val rfl rfl (EX.assign rfl) ?_
    refine OW.nil ?_
    refine KW.seq (KW.seq (KW.region ?_))
    refine OW.val rfl rfl (EX.move rfl) ?_
    refine OW.val rfl rfl (by first | exact EX.eqlP1 Tryz.underlying41 rfl rfl | exact EX.eqlP0 Tryz.underlying41 rfl rfl) ?_
    refine OW.nil ?_
    have x2 := hx1.trans hx2
    have hz1 := hx1.size
    refine KW.condF rfl (KW.skip (KW.seq (KW.seq (KW.region ?_))))
    refine OW.val rfl rfl (EX.assign rfl) ?_
    refine OW.nil ?_
    refine KW.block ?_
    refine KW.loop3 (fun (i : Nat) (D : Dv) (wr : World) => i ≤ acts.length ∧ D.Ok ∧ Sm D (100 * i) ∧ DevAt wr w.heap.size b D ∧ RDevAt wr w1.heap.size rb D ∧ Ext w wr) (fun (i : Nat) (D : Dv) (wr : World) => [(1, .slice A acts.length k), (6, .pointer (some ⟨b, 0, none⟩)), (8, .pointer (some ⟨rb, 0, none⟩)), (10, .int .i64 ((i : Nat) : Int))]) (fun (i : Nat) (D : Dv) (wr : World) => wr) (fun (i : Nat) (D : Dv) (wr : World) => acts.length - i) (0) (fresh n []) (w2) ⟨rfl, rfl, rfl, rfl, trivial⟩ rfl ?_ ?_
    · exact ⟨by omega, fresh_ok (by omega) (by decide) (by show 0 / 512 ≤ n; omega), fresh_smC n [], hdev1.ext hx2, hrd2, x2⟩
    · rintro i D wr ⟨hi, hD, hS, hdev, hrd, hx⟩
      refine KW.seq (KW.seq (KW.region ?_))
      refine OW.val rfl rfl (EX.move rfl) ?_
      refine OW.val rfl rfl (EX.move rfl) ?_
      refine OW.val rfl rfl (EX.lenA Tryz.underlying40 rfl) ?_
      refine OW.val rfl rfl (by first | exact EX.lssN rfl rfl | exact EX.lssZ rfl rfl) ?_
      refine OW.nil ?_
      refine KW.condD rfl (fun hlt => ?_) (fun hlt => ?_)
      · obtain ⟨bb, o, rfl, _, hcell⟩ := (hsl.ext hx).flat (c := 8) (fun _ => rfl) (by decide) hlt
        have hao := hok acts[i] (List.getElem_mem hlt)
        have hap := hpa acts[i] (List.getElem_mem hlt)
        generalize acts[i] = a at hao hap hcell
        refine KW.skip (KW.seq (KW.block (KW.seq (KW.region ?_))))
        refine OW.val rfl rfl (EX.move rfl) ?_
        refine OW.val rfl rfl (EX.move rfl) ?_
        refine OW.val rfl rfl (EX.indexAddrS Tryz.underlying40 ti51 rfl rfl (by omega)) ?_
        refine OW.val rfl rfl (EX.loadA (l := a.cells) Tryz.underlying51 rfl ti51 rfl rfl hcell) ?_
        refine OW.allocB (l := [.int .i64 0, .bool false, .slice none 0 0, .int .i64 0, .slice none 0 0, .bool false, .int .i64 0, .int .u8 0]) rfl rfl ti51 rfl ?_
        rintro ab w3 hge3 ha3 hx3
        refine OW.storeS rfl ti51 rfl rfl rfl (by first | rfl | (simp only [List.all_cons, List.all_nil, Bool.and_true, Bool.true_and, Bool.and_eq_true, Value.oneCell']; repeat (first | assumption | exact Own.one (by assumption) | constructor))) (ha3) (Nat.le_refl _) ?_
        rintro w4 ha4 hm4
        refine OW.nil ?_
        refine KW.seq (KW.region ?_)
        refine OW.val rfl rfl (EX.move rfl) ?_
        replace ha4 : Bk w4 ab 51 a.cells := ha4
        have y4 : Ext wr w4 := below_mo hx3 hm4 hx3.size (fun k hk => by simp at hk; omega)
        have x4 := Ext.trans hx y4
        refine OW.call rfl rfl rfl (up_d (hdev.ext y4) hD) ?_
        rintro _ w5 ⟨rfl, hdev5, tm5⟩
        refine OW.nil ?_
        refine KW.seq (KW.region ?_)
        refine OW.val rfl rfl (EX.move rfl) ?_
        have x5 : Ext w w5 := Tm.below x4 tm5 x4.size (Nat.le_refl _)
        refine OW.call rfl rfl rfl (rup_d ((hrd.ext y4).dty tm5) hD) ?_
        rintro _ w6 ⟨rfl, hrd6, tm6⟩
        refine OW.nil ?_
        refine KW.seq (KW.seq ?_)
        have x6 : Ext w w6 := Tm.below x5 tm6 x5.size hz1
        have hdev6 := hdev5.rty tm6
        have ha6 := tm6.bk (tm5.bk ha4 (by decide)) (by decide)
        have hDu : Dv.Ok { D with dead := false } := up_ok hD
        have hSu : Sm { D with dead := false } (100 * i) := ⟨hS.calls, hS.pend, hS.at_, hS.keep⟩
        generalize ({ D with dead := false } : Dv) = Du at hdev6 hrd6 hDu hSu
        refine KW.cutd2 (fun (E : Dv) (wq : World) => E.Ok ∧ Sm E (100 * i + 30) ∧ DevAt wq w.heap.size b E ∧ RDevAt wq w1.heap.size rb E ∧ Ext w wq) (fun (E : Dv) (wq : World) => [(1, .slice (some ⟨bb, o, none⟩) acts.length k), (6, .pointer (some ⟨b, 0, none⟩)), (8, .pointer (some ⟨rb, 0, none⟩)), (10, .int .i64 ((i : Nat) : Int))]) (fun (E : Dv) (wq : World) => wq) ?_ ?_
        · refine KW.region ?_
          refine OW.val rfl rfl (EX.fieldAddr (off := 5) Tryz.underlying51 rfl rfl ti4 rfl rfl) ?_
          refine OW.val rfl rfl (EX.load Tryz.underlying4 rfl rfl (ha6.cell_of rfl)) ?_
          refine OW.nil ?_
          refine KW.cond rfl (fun hhurt => ?_) (fun hhurt => ?_)
          · refine KW.seq (KW.region ?_)
            obtain ⟨vk, vn, vp, vq, vs, hdv6⟩ := id hdev6
            refine OW.makeB (len := 512) rfl rfl Tryz.underlying54 ti5 rfl rfl rfl (by omega) (by omega) ?_
            rintro g w7 hge7 hg7 hx7
            refine OW.val rfl rfl (EX.assign rfl) ?_
            refine OW.nil ?_
            refine KW.seq (KW.seq (KW.region ?_))
            refine OW.val rfl rfl (EX.assign rfl) ?_
            refine OW.nil ?_
            refine KW.block ?_
            have x7 := Ext.trans x6 hx7
            have hgb : g ≠ b := fun e => by have := hdv6.cells.lt; omega
            have gk : vk.ownBlock ≠ some g := fun e => by have := (hdv6.kept.lt g e).2; omega
            have gn : vn.ownBlock ≠ some g := fun e => by have := (hdv6.now.lt g e).2; omega
            have gp : vp.ownBlock ≠ some g := fun e => by have := (hdv6.pend.lt g e).2; omega
            refine KW.loop2 (fun (j : Nat) (wf : World) => j ≤ 512 ∧ Bk wf g 5 (List.replicate j (.int .u8 (a.fill : Int)) ++ List.replicate (512 - j) (.int .u8 0)) ∧ Ext w6 wf) (fun (j : Nat) (wf : World) => [(1, .slice (some ⟨bb, o, none⟩) acts.length k), (6, .pointer (some ⟨b, 0, none⟩)), (8, .pointer (some ⟨rb, 0, none⟩)), (10, .int .i64 ((i : Nat) : Int)), (11, .pointer (some ⟨ab, 0, none⟩)), (12, .slice (some ⟨g, 0, none⟩) 512 512), (13, .int .i64 ((j : Nat) : Int))]) (fun (j : Nat) (wf : World) => wf) (fun (j : Nat) (wf : World) => 512 - j) (0) (w7) ⟨rfl, rfl, rfl, rfl, rfl, rfl, rfl, trivial⟩ rfl ?_ ?_
            · exact ⟨by omega, by simpa using hg7, hx7⟩
            · rintro j wf ⟨hj, hgf, hxf⟩
              have haf := ha6.ext hxf
              refine KW.seq (KW.seq (KW.region ?_))
              refine OW.val rfl rfl (EX.move rfl) ?_
              refine OW.val rfl rfl (by first | exact EX.lssN (b := 512) rfl rfl | exact EX.lssZ rfl rfl) ?_
              refine OW.nil ?_
              refine KW.condD rfl (fun hj2 => ?_) (fun hj2 => ?_)
              · refine KW.skip (KW.seq (KW.block (KW.region ?_)))
                refine OW.val rfl rfl (EX.move rfl) ?_
                refine OW.val rfl rfl (EX.move rfl) ?_
                refine OW.val rfl rfl (EX.fieldAddr (off := 7) Tryz.underlying51 rfl rfl ti5 rfl rfl) ?_
                refine OW.val rfl rfl (EX.load Tryz.underlying5 rfl rfl (haf.cell_of rfl)) ?_
                refine OW.val rfl rfl (by first | exact EX.indexAddrS0 Tryz.underlying54 ti5 rfl rfl (by omega) | exact EX.indexAddrS1 Tryz.underlying54 ti5 rfl rfl (by omega)) ?_
                refine OW.storeB rfl ti5 rfl rfl (by first | rfl | assumption | exact Own.one (by assumption)) (hgf) (by simp; omega) ?_
                rintro w8 hg8 hm8
                refine OW.nil ?_
                refine KW.leave (KW.region ?_)
                refine OW.val rfl rfl (EX.move rfl) ?_
                refine OW.val rfl rfl (by first | exact EX.addN (b := 1) (m := 9223372036854775807) rfl rfl rfl (by omega) | exact EX.addZ (m := 9223372036854775807) rfl rfl rfl rfl (by omega)) ?_
                refine OW.val rfl rfl (EX.assign rfl) ?_
                refine OW.nil ?_
                refine KW.back2 (j + 1) (w8) ⟨rfl, rfl, rfl, rfl, rfl, rfl, rfl, trivial⟩ rfl ?_ (by omega)
                rw [rep_set _ _ _ hj2] at hg8
                exact ⟨by omega, hg8, below_mo hxf hm8 hxf.size (by simp; omega)⟩
              · obtain rfl : j = 512 := by omega
                rw [rep_bytes 512 a.fill hao.fill] at hgf
                have hdf := hdv6.ext hxf
                have hrf := hrd6.ext hxf
                have xf := Ext.trans x6 hxf
                generalize hgs : List.replicate 512 (UInt8.ofNat a.fill) = sb at hgf
                have hsb : sb.length = 512 := by rw [← hgs]; exact List.length_replicate
                have hafd := haf.drew
                have hgfd := hgf.drew
                refine KW.exit rfl (KW.seq ?_)
                refine KW.regionG (N := 13) (fun w' => Bk w' ab 51 a.cells ∧ Bk w' g 5 (bytesV sb)) (by kernel_rfl) rfl ?_
                have hS := (⟨hafd, hgfd⟩ : Bk wf.drew ab 51 a.cells ∧ Bk wf.drew g 5 (bytesV sb))
                refine GW.val 0 rfl (by kernel_rfl) (by kernel_rfl) (by kernel_rfl) rfl rfl hS (fun w' hS' => EX.move rfl) ?_
                refine GW.val 1 rfl (by kernel_rfl) (by kernel_rfl) (by kernel_rfl) rfl rfl hS (fun w' hS' => EX.fieldAddr (off := 6) Tryz.underlying51 rfl rfl ti3 rfl rfl) ?_
                refine GW.val 2 rfl (by kernel_rfl) (by kernel_rfl) (by kernel_rfl) rfl rfl hS (fun w' hS' => EX.load Tryz.underlying3 rfl rfl (hS'.1.cell_of rfl)) ?_
                refine GW.val 3 rfl (by kernel_rfl) (by kernel_rfl) (by kernel_rfl) rfl rfl hS (fun w' hS' => EX.move rfl) ?_
                refine GW.val 4 rfl (by kernel_rfl) (by kernel_rfl) (by kernel_rfl) rfl rfl hS (fun w' hS' => EX.strOf Tryz.underlying54 Tryz.underlying5 Tryz.underlying9 rfl (hS'.2.sl) (hsb)) ?_
                refine GW.val 6 rfl (by kernel_rfl) (by kernel_rfl) (by kernel_rfl) rfl rfl hS (fun w' hS' => EX.move rfl) ?_
                refine GW.val 7 rfl (by kernel_rfl) (by kernel_rfl) (by kernel_rfl) rfl rfl hS (fun w' hS' => EX.fieldAddr (off := 6) Tryz.underlying51 rfl rfl ti3 rfl rfl) ?_
                refine GW.val 8 rfl (by kernel_rfl) (by kernel_rfl) (by kernel_rfl) rfl rfl hS (fun w' hS' => EX.load Tryz.underlying3 rfl rfl (hS'.1.cell_of rfl)) ?_
                refine GW.val 9 rfl (by kernel_rfl) (by kernel_rfl) (by kernel_rfl) rfl rfl hS (fun w' hS' => EX.move rfl) ?_
                refine GW.val 10 rfl (by kernel_rfl) (by kernel_rfl) (by kernel_rfl) rfl rfl hS (fun w' hS' => EX.strOf Tryz.underlying54 Tryz.underlying5 Tryz.underlying9 rfl (hS'.2.sl) (hsb)) ?_
                refine GW.call 5 rfl (by kernel_rfl) rfl rfl rfl (write_x (hdf.ext (Ext.drew wf)) hDu (hSu.small (by omega)) a.at_ hao.at_.1 hao.at_.2 sb (by omega)) ?_
                rintro _ w8 ⟨rfl, hdev8, tm8, kp8⟩
                refine ⟨⟨tm8.bk hS.1 (by decide), kp8 g _ _ hgb gk gn gp hS.2⟩, fun hS => ?_⟩
                have x8 : Ext w w8 := Tm.below (xf.trans (Ext.drew wf)) tm8 (xf.trans (Ext.drew wf)).size (Nat.le_refl _)
                refine GW.call 11 rfl (by kernel_rfl) rfl rfl rfl (rwrite_d ((hrf.ext (Ext.drew wf)).dty tm8) hDu (hSu.small (by omega)) (by have := hSu.pend; omega) a.at_ hao.at_.1 hao.at_.2 sb (by omega)) ?_
                rintro _ w9 ⟨rfl, hrd9, tm9⟩
                refine ⟨⟨tm9.bk hS.1 (by decide), tm9.bk hS.2 (by decide)⟩, fun hS => ?_⟩
                refine GW.val 12 rfl (by kernel_rfl) (by kernel_rfl) (by kernel_rfl) rfl rfl hS (fun w' hS' => by first | exact EX.neqN rfl rfl | exact EX.neqZ rfl rfl) ?_
                refine GW.done (by kernel_rfl) ?_
                have x9 : Ext w w9 := Tm.below x8 tm9 x8.size hz1
                refine KW.condD rfl (fun hee => ?_) (fun hee => ?_)
                · exact absurd rfl hee
                · refine KW.skip ?_
                  refine KW.meet2 ((Du.write a.at_ sb).1) (w9) ⟨rfl, rfl, rfl, rfl, trivial⟩ rfl ?_
                  exact ⟨write_ok hDu _ _, (write_sm hSu _ _).more (by omega), hdev8.rty tm9, hrd9, x9⟩
          · refine KW.seq (KW.region ?_)
            refine OW.val rfl rfl (EX.move rfl) ?_
            refine OW.val rfl rfl (EX.fieldAddr (off := 3) Tryz.underlying51 rfl rfl ti49 rfl rfl) ?_
            have hsub6 := bk_part ha6 (o := 3) (l2 := [.int .i64 a.fa, .slice a.kA a.ks.length a.kk]) rfl
            refine OW.val rfl rfl (EX.loadA (l := [.int .i64 a.fa, .slice a.kA a.ks.length a.kk]) Tryz.underlying49 rfl ti49 rfl rfl hsub6) ?_
            refine OW.call rfl rfl rfl (plan_d hdev6 hDu a.fa hao.fa.1 hao.fa.2 a.kA a.kk C a.ks (Sl.ext hap.keep x6) hao.nil hao.klen) ?_
            rintro _ w7 ⟨rfl, hdev7, tm7⟩
            refine OW.nil ?_
            refine KW.seq (KW.region ?_)
            refine OW.val rfl rfl (EX.move rfl) ?_
            refine OW.val rfl rfl (EX.fieldAddr (off := 3) Tryz.underlying51 rfl rfl ti49 rfl rfl) ?_
            have x7 : Ext w w7 := Tm.below x6 tm7 x6.size (Nat.le_refl _)
            have hrd7 := hrd6.dty tm7
            have ha7 := tm7.bk ha6 (by decide)
            have hsub7 := bk_part ha7 (o := 3) (l2 := [.int .i64 a.fa, .slice a.kA a.ks.length a.kk]) rfl
            refine OW.val rfl rfl (EX.loadA (l := [.int .i64 a.fa, .slice a.kA a.ks.length a.kk]) Tryz.underlying49 rfl ti49 rfl rfl hsub7) ?_
            refine OW.call rfl rfl rfl (rplan_d hrd7 hDu a.fa hao.fa.1 hao.fa.2 a.kA a.kk C a.ks (Sl.ext hap.keep x7) (by omega) hao.klen) ?_
            rintro _ w8 ⟨rfl, hrd8, tm8⟩
            refine OW.nil ?_
            refine KW.seq (KW.seq ?_)
            have x8 : Ext w w8 := Tm.below x7 tm8 x7.size hz1
            have hdev8 := hdev7.rty tm8
            have ha8 := tm8.bk ha7 (by decide)
            have hDp := plan_ok hDu a.fa a.ks
            have hSp := plan_sm hSu hao.fa.2 (show a.ks.length ≤ 140737488355328 by have := hao.klen; omega)
            generalize (Du.plan a.fa a.ks).1 = Dp at hdev8 hrd8 hDp hSp
            refine KW.cutd3 (fun (q : Int) (F : Dv) (wq : World) => (-9223372036854775808 ≤ q ∧ q ≤ 9223372036854775807) ∧ Bk wq ab 51 [.int .i64 q, .bool a.next, .slice a.nA a.l.length a.nk, .int .i64 a.fa, .slice a.kA a.ks.length a.kk, .bool a.hurt, .int .i64 a.at_, .int .u8 (a.fill : Int)] ∧ F.Ok ∧ Sm F (100 * i + 10) ∧ DevAt wq w.heap.size b F ∧ RDevAt wq w1.heap.size rb F ∧ Ext w wq) (fun (q : Int) (F : Dv) (wq : World) => [(1, .slice (some ⟨bb, o, none⟩) acts.length k), (6, .pointer (some ⟨b, 0, none⟩)), (8, .pointer (some ⟨rb, 0, none⟩)), (10, .int .i64 ((i : Nat) : Int)), (11, .pointer (some ⟨ab, 0, none⟩))]) (fun (q : Int) (F : Dv) (wq : World) => wq) ?_ ?_
            · refine KW.region ?_
              refine OW.val rfl rfl (EX.fieldAddr (off := 1) Tryz.underlying51 rfl rfl ti4 rfl rfl) ?_
              refine OW.val rfl rfl (EX.load Tryz.underlying4 rfl rfl (ha8.cell_of rfl)) ?_
              refine OW.nil ?_
              refine KW.cond rfl (fun hnx => ?_) (fun hnx => ?_)
              · refine KW.seq (KW.region ?_)
                refine OW.val rfl rfl (EX.move rfl) ?_
                have hlow := loadC_low Dp
                refine OW.call rfl rfl rfl (rcload_s hDp hSp (by omega) w1.heap.size rb w8 hrd8) ?_
                rintro _ w9 ⟨⟨u9, rfl, own9⟩, hrd9, tm9⟩
                refine OW.val rfl rfl (EX.move rfl) ?_
                refine OW.val rfl rfl (EX.extract rfl rfl) ?_
                refine OW.val rfl rfl (EX.extract rfl rfl) ?_
                refine OW.val rfl rfl (EX.extract rfl rfl) ?_
                refine OW.val rfl rfl (EX.assign rfl) ?_
                refine OW.val rfl rfl (EX.assign rfl) ?_
                refine OW.val rfl rfl (EX.assign rfl) ?_
                refine OW.nil ?_
                refine KW.seq (KW.region ?_)
                refine OW.val rfl rfl (EX.move rfl) ?_
                have x9 : Ext w w9 := Tm.below x8 tm9 x8.size hz1
                have ha9 := tm9.bk ha8 (by decide)
                have hG9 := hG.ext x9
                refine OW.call rfl rfl rfl (cload_s hDp hSp (by omega) w.heap.size b w9 hG9 hgl (hdev8.rty tm9)) ?_
                rintro _ w10 ⟨⟨u10, rfl, own10⟩, hdev10, tm10⟩
                refine OW.nil ?_
                refine KW.region ?_
                refine OW.val rfl rfl (EX.move rfl) ?_
                refine OW.val rfl rfl (by first | exact EX.minN (b := 4611686018427387903) rfl rfl | exact EX.minZ rfl rfl) ?_
                refine OW.val rfl rfl (by first | exact EX.addN (b := 1) (m := 9223372036854775807) rfl rfl rfl (by omega) | exact EX.addZ (m := 9223372036854775807) rfl rfl rfl rfl (by omega)) ?_
                refine OW.val rfl rfl (EX.fieldAddr (off := 0) Tryz.underlying51 rfl rfl ti3 rfl rfl) ?_
                have x10 : Ext w w10 := Tm.below x9 tm10 x9.size (Nat.le_refl _)
                have ha10 := tm10.bk ha9 (by decide)
                have hrd10 := hrd9.dty tm10
                refine OW.storeB rfl ti3 rfl rfl (by first | rfl | assumption | exact Own.one (by assumption)) (ha10) (by show (0 : Nat) < 8; decide) ?_
                rintro w11 ha11 hm11
                refine OW.nil ?_
                have t11 : Tm w10 w11 w.heap.size (fun U => U == 51) := Tm.set ha10 hm11 (by have := hx.size; omega)
                refine KW.meet3 ((min (loadC Dp).1 4611686018427387903 + 1)) ((loadedC Dp)) (w11) ⟨rfl, rfl, rfl, rfl, rfl, trivial⟩ rfl ?_
                exact ⟨⟨by omega, by omega⟩, ha11, loaded_ok hDp, (loaded_sm hSp).more (by omega), hdev10.tm t11 (by decide) (by decide) (by decide) (by decide) (by decide) (by decide), hrd10.tm t11 (by decide) (by decide) (by decide) (by decide), Tm.below x10 t11 x10.size (Nat.le_refl _)⟩
              · refine KW.skip ?_
                refine KW.meet3 (a.gen) (Dp) (w8) ⟨rfl, rfl, rfl, rfl, rfl, trivial⟩ rfl ?_
                exact ⟨hao.gen, ha8, hDp, hSp.more (by omega), hdev8, hrd8, x8⟩
            · rintro q F wq ⟨⟨q1, q2⟩, haq, hF, hSF, hdevq, hrdq, xq⟩
              have hGq := hG.ext (xq.trans (Ext.drew wq))
              have xqd := xq.trans (Ext.drew wq)
              have haqd := haq.drew
              refine KW.seq ?_
              refine KW.regionG (N := 13) (fun w' => Bk w' ab 51 [.int .i64 q, .bool a.next, .slice a.nA a.l.length a.nk, .int .i64 a.fa, .slice a.kA a.ks.length a.kk, .bool a.hurt, .int .i64 a.at_, .int .u8 (a.fill : Int)]) (by kernel_rfl) rfl ?_
              have hS := haqd
              refine GW.val 0 rfl (by kernel_rfl) (by kernel_rfl) (by kernel_rfl) rfl rfl hS (fun w' hS' => EX.move rfl) ?_
              refine GW.val 1 rfl (by kernel_rfl) (by kernel_rfl) (by kernel_rfl) rfl rfl hS (fun w' hS' => EX.fieldAddr (off := 0) Tryz.underlying51 rfl rfl ti3 rfl rfl) ?_
              refine GW.val 2 rfl (by kernel_rfl) (by kernel_rfl) (by kernel_rfl) rfl rfl hS (fun w' hS' => EX.load Tryz.underlying3 rfl rfl (hS'.cell_of rfl)) ?_
              refine GW.val 3 rfl (by kernel_rfl) (by kernel_rfl) (by kernel_rfl) rfl rfl hS (fun w' hS' => EX.fieldAddr (off := 2) Tryz.underlying51 rfl rfl ti22 rfl rfl) ?_
              refine GW.val 4 rfl (by kernel_rfl) (by kernel_rfl) (by kernel_rfl) rfl rfl hS (fun w' hS' => EX.load Tryz.underlying22 rfl rfl (hS'.cell_of rfl)) ?_
              refine GW.val 6 rfl (by kernel_rfl) (by kernel_rfl) (by kernel_rfl) rfl rfl hS (fun w' hS' => EX.move rfl) ?_
              refine GW.val 7 rfl (by kernel_rfl) (by kernel_rfl) (by kernel_rfl) rfl rfl hS (fun w' hS' => EX.fieldAddr (off := 0) Tryz.underlying51 rfl rfl ti3 rfl rfl) ?_
              refine GW.val 8 rfl (by kernel_rfl) (by kernel_rfl) (by kernel_rfl) rfl rfl hS (fun w' hS' => EX.load Tryz.underlying3 rfl rfl (hS'.cell_of rfl)) ?_
              refine GW.val 9 rfl (by kernel_rfl) (by kernel_rfl) (by kernel_rfl) rfl rfl hS (fun w' hS' => EX.fieldAddr (off := 2) Tryz.underlying51 rfl rfl ti22 rfl rfl) ?_
              refine GW.val 10 rfl (by kernel_rfl) (by kernel_rfl) (by kernel_rfl) rfl rfl hS (fun w' hS' => EX.load Tryz.underlying22 rfl rfl (hS'.cell_of rfl)) ?_
              refine GW.call 5 rfl (by kernel_rfl) rfl rfl rfl (save_s hF hSF (by omega) w.heap.size b q q1 q2 a.l hao.len hao.ok a.nA a.nk C wq.drew hGq (hdevq.ext (Ext.drew wq)) (Sl.ext hap.mems xqd)) ?_
              rintro _ w9 ⟨rfl, hdev9, tm9⟩
              refine ⟨tm9.bk hS (by decide), fun hS => ?_⟩
              have x9 : Ext w w9 := Tm.below xqd tm9 xqd.size (Nat.le_refl _)
              refine GW.call 11 rfl (by kernel_rfl) rfl rfl rfl (rsave_s hF hSF (by omega) w1.heap.size rb q q1 q2 a.l hao.len hao.ok a.nA a.nk C w9 ((hrdq.ext (Ext.drew wq)).dty tm9) (Sl.ext hap.mems x9)) ?_
              rintro _ w10 ⟨rfl, hrd10, tm10⟩
              refine ⟨tm10.bk hS (by decide), fun hS => ?_⟩
              refine GW.val 12 rfl (by kernel_rfl) (by kernel_rfl) (by kernel_rfl) rfl rfl hS (fun w' hS' => by first | exact EX.neqN rfl rfl | exact EX.neqZ rfl rfl) ?_
              refine GW.done (by kernel_rfl) ?_
              have x10 : Ext w w10 := Tm.below x9 tm10 x9.size hz1
              refine KW.condD rfl (fun hee => ?_) (fun hee => ?_)
              · exact absurd rfl hee
              · refine KW.skip ?_
                refine KW.meet2 ((saveC F q a.l).1) (w10) ⟨rfl, rfl, rfl, rfl, trivial⟩ rfl ?_
                exact ⟨save_ok hF _ _, (save_sm hSF _ _).more (by omega), hdev9.rty tm10, hrd10, x10⟩
        · rintro E wq ⟨hE, hSE, hdevq, hrdq, xq⟩
          have hGq := hG.ext xq
          refine KW.seq (KW.region ?_)
          refine OW.val rfl rfl (EX.move rfl) ?_
          refine OW.call rfl rfl rfl (cload_s hE hSE (by omega) w.heap.size b wq hGq hgl hdevq) ?_
          rintro _ w9 ⟨⟨u9, rfl, own9⟩, hdev9, tm9⟩
          obtain ⟨A9, c9, rfl, _, _⟩ := own9.slice
          refine OW.val rfl rfl (EX.move rfl) ?_
          refine OW.val rfl rfl (EX.extract rfl rfl) ?_
          refine OW.val rfl rfl (EX.extract rfl rfl) ?_
          refine OW.val rfl rfl (EX.extract rfl rfl) ?_
          refine OW.val rfl rfl (EX.assign rfl) ?_
          refine OW.val rfl rfl (EX.assign rfl) ?_
          refine OW.val rfl rfl (EX.assign rfl) ?_
          refine OW.nil ?_
          refine KW.seq (KW.region ?_)
          refine OW.val rfl rfl (EX.move rfl) ?_
          have x9 : Ext w w9 := Tm.below xq tm9 xq.size (Nat.le_refl _)
          refine OW.call rfl rfl rfl (rcload_s hE hSE (by omega) w1.heap.size rb w9 (hrdq.dty tm9)) ?_
          rintro _ w10 ⟨⟨u10, rfl, own10⟩, hrd10, tm10⟩
          obtain ⟨A10, c10, rfl, _, sl10⟩ := own10.slice
          refine OW.val rfl rfl (EX.move rfl) ?_
          refine OW.val rfl rfl (EX.extract rfl rfl) ?_
          refine OW.val rfl rfl (EX.extract rfl rfl) ?_
          refine OW.val rfl rfl (EX.extract rfl rfl) ?_
          refine OW.val rfl rfl (EX.assign rfl) ?_
          refine OW.val rfl rfl (EX.assign rfl) ?_
          refine OW.val rfl rfl (EX.assign rfl) ?_
          refine OW.nil ?_
          refine KW.seq ?_
          have x10 : Ext w w10 := Tm.below x9 tm10 x9.size hz1
          have hdev10 := hdev9.rty tm10
          have own9' := tm10.own own9 (by decide)
          obtain ⟨_, _, e1, _, sl9⟩ := own9'.slice
          cases e1
          have hDl := loaded_ok hE
          have hSl := loaded_sm hSE
          generalize loadedC E = E2 at hdev10 hrd10 hDl hSl
          have hll : (loadC E).2.1.length ≤ 1000000000000 := loadC_len E
          generalize loadC E = r at sl9 sl10 hll
          have hxd := Ext.drew w10
          obtain ⟨vS, vN, vP, vK, hv⟩ := id hrd10
          refine KW.regionG (N := 30) (fun w' => Bk w' rb 66 [.int .i64 (E2.cap : Int), vS, vN, vP, .int .i64 (E2.at_ : Int), vK, .bool E2.dead, .int .i64 (E2.calls : Int)]) (by kernel_rfl) rfl ?_
          have hS := (hv.ext hxd).cells
          refine GW.val 0 rfl (by kernel_rfl) (by kernel_rfl) (by kernel_rfl) rfl rfl hS (fun w' hS' => EX.move rfl) ?_
          refine GW.val 1 rfl (by kernel_rfl) (by kernel_rfl) (by kernel_rfl) rfl rfl hS (fun w' hS' => EX.move rfl) ?_
          refine GW.val 2 rfl (by kernel_rfl) (by kernel_rfl) (by kernel_rfl) rfl rfl hS (fun w' hS' => by first | exact EX.neqN rfl rfl | exact EX.neqZ rfl rfl) ?_
          refine GW.val 3 rfl (by kernel_rfl) (by kernel_rfl) (by kernel_rfl) rfl rfl hS (fun w' hS' => EX.move rfl) ?_
          refine GW.as 137 (.bool false) rfl (congrArg Value.bool (decide_eq_false (fun z => z rfl))) ?_
          refine GW.val 4 rfl (by kernel_rfl) (by kernel_rfl) (by kernel_rfl) rfl rfl hS (fun w' hS' => EX.move rfl) ?_
          refine GW.val 5 rfl (by kernel_rfl) (by kernel_rfl) (by kernel_rfl) rfl rfl hS (fun w' hS' => EX.move rfl) ?_
          refine GW.call 6 rfl (by kernel_rfl) rfl rfl rfl (same_s r.2.1 r.2.1 A9 A10 c9 c10 w10.drew _ _ (sl9.ext hxd) (sl10.ext hxd) hll) ?_
          rintro _ w15 ⟨rfl, hx15⟩
          refine ⟨hS.ext hx15, fun hS => ?_⟩
          refine GW.val 7 rfl (by kernel_rfl) (by kernel_rfl) (by kernel_rfl) rfl rfl hS (fun w' hS' => by first | exact EX.notD rfl | exact EX.notB rfl) ?_
          refine GW.val 8 rfl (by kernel_rfl) (by kernel_rfl) (by kernel_rfl) rfl rfl hS (fun w' hS' => EX.pickF rfl rfl) ?_
          refine GW.val 9 rfl (by kernel_rfl) (by kernel_rfl) (by kernel_rfl) rfl rfl hS (fun w' hS' => EX.move rfl) ?_
          have hxd15 := Ext.trans hxd hx15
          refine GW.as 143 (.bool false) rfl (congrArg Value.bool (decide_eq_false (by simp))) ?_
          refine GW.val 10 rfl (by kernel_rfl) (by kernel_rfl) (by kernel_rfl) rfl rfl hS (fun w' hS' => EX.move rfl) ?_
          refine GW.val 11 rfl (by kernel_rfl) (by kernel_rfl) (by kernel_rfl) rfl rfl hS (fun w' hS' => EX.move rfl) ?_
          refine GW.val 12 rfl (by kernel_rfl) (by kernel_rfl) (by kernel_rfl) rfl rfl hS (fun w' hS' => by first | exact EX.neqN rfl rfl | exact EX.neqZ rfl rfl) ?_
          refine GW.val 13 rfl (by kernel_rfl) (by kernel_rfl) (by kernel_rfl) rfl rfl hS (fun w' hS' => EX.pickF rfl rfl) ?_
          refine GW.val 14 rfl (by kernel_rfl) (by kernel_rfl) (by kernel_rfl) rfl rfl hS (fun w' hS' => EX.move rfl) ?_
          refine GW.as 148 (.bool false) rfl (congrArg Value.bool (decide_eq_false (fun z => z rfl))) ?_
          refine GW.val 15 rfl (by kernel_rfl) (by kernel_rfl) (by kernel_rfl) rfl rfl hS (fun w' hS' => EX.move rfl) ?_
          refine GW.val 17 rfl (by kernel_rfl) (by kernel_rfl) (by kernel_rfl) rfl rfl hS (fun w' hS' => EX.move rfl) ?_
          refine GW.call 16 rfl (by kernel_rfl) rfl rfl rfl (image_d (hdev10.ext hxd15) hDl) ?_
          rintro _ _ ⟨rfl, rfl⟩
          refine ⟨hS, fun hS => ?_⟩
          refine GW.call 18 rfl (by kernel_rfl) rfl rfl rfl (rimage_d (hrd10.ext hxd15) hDl) ?_
          rintro _ _ ⟨rfl, rfl⟩
          refine ⟨hS, fun hS => ?_⟩
          refine GW.val 19 rfl (by kernel_rfl) (by kernel_rfl) (by kernel_rfl) rfl rfl hS (fun w' hS' => EX.neqS rfl rfl) ?_
          refine GW.val 20 rfl (by kernel_rfl) (by kernel_rfl) (by kernel_rfl) rfl rfl hS (fun w' hS' => EX.pickF rfl rfl) ?_
          refine GW.val 21 rfl (by kernel_rfl) (by kernel_rfl) (by kernel_rfl) rfl rfl hS (fun w' hS' => EX.move rfl) ?_
          refine GW.as 155 (.bool false) rfl (congrArg Value.bool (decide_eq_false (fun z => z rfl))) ?_
          refine GW.val 22 rfl (by kernel_rfl) (by kernel_rfl) (by kernel_rfl) rfl rfl hS (fun w' hS' => EX.move rfl) ?_
          refine GW.val 24 rfl (by kernel_rfl) (by kernel_rfl) (by kernel_rfl) rfl rfl hS (fun w' hS' => EX.move rfl) ?_
          refine GW.val 25 rfl (by kernel_rfl) (by kernel_rfl) (by kernel_rfl) rfl rfl hS (fun w' hS' => EX.nilCheck rfl) ?_
          refine GW.val 26 rfl (by kernel_rfl) (by kernel_rfl) (by kernel_rfl) rfl rfl hS (fun w' hS' => EX.fieldAddr (off := 7) Tryz.underlying66 rfl rfl ti3 rfl rfl) ?_
          refine GW.val 27 rfl (by kernel_rfl) (by kernel_rfl) (by kernel_rfl) rfl rfl hS (fun w' hS' => EX.load Tryz.underlying3 rfl rfl (hS'.cell_of rfl)) ?_
          refine GW.call 23 rfl (by kernel_rfl) rfl rfl rfl (calls_d (hdev10.ext hxd15) hDl) ?_
          rintro _ _ ⟨rfl, rfl⟩
          refine ⟨hS, fun hS => ?_⟩
          refine GW.val 28 rfl (by kernel_rfl) (by kernel_rfl) (by kernel_rfl) rfl rfl hS (fun w' hS' => by first | exact EX.neqN rfl rfl | exact EX.neqZ rfl rfl) ?_
          refine GW.val 29 rfl (by kernel_rfl) (by kernel_rfl) (by kernel_rfl) rfl rfl hS (fun w' hS' => EX.pickF rfl rfl) ?_
          refine GW.done (by kernel_rfl) ?_
          refine KW.condD rfl (fun hcc => ?_) (fun hcc => ?_)
          · exact absurd rfl hcc
          · refine KW.skip (KW.leave (KW.region ?_))
            refine OW.val rfl rfl (EX.move rfl) ?_
            refine OW.val rfl rfl (by first | exact EX.addN (b := 1) (m := 9223372036854775807) rfl rfl rfl (by omega) | exact EX.addZ (m := 9223372036854775807) rfl rfl rfl rfl (by omega)) ?_
            refine OW.val rfl rfl (EX.assign rfl) ?_
            refine OW.nil ?_
            refine KW.back3 (i + 1) (E2) (w15) ⟨rfl, rfl, rfl, rfl, trivial⟩ rfl ?_ (by omega)
            exact ⟨by omega, hDl, hSl.more (by omega), hdev10.ext hxd15, hrd10.ext hxd15, Ext.trans x10 hxd15⟩
      · refine KW.exit rfl (KW.seq (KW.region ?_))
        refine OW.call rfl rfl rfl (csave_n _ wr) ?_
        rintro _ _ ⟨rfl, rfl⟩
        refine OW.val rfl rfl (EX.assign rfl) ?_
        refine OW.nil ?_
        refine KW.seq (KW.region ?_)
        refine OW.call rfl rfl rfl (cload_n wr) ?_
        rintro _ _ ⟨rfl, rfl⟩
        refine OW.val rfl rfl (EX.move rfl) ?_
        refine OW.val rfl rfl (EX.extract rfl rfl) ?_
        refine OW.val rfl rfl (EX.extract rfl rfl) ?_
        refine OW.val rfl rfl (EX.extract rfl rfl) ?_
        refine OW.val rfl rfl (EX.assign rfl) ?_
        refine OW.val rfl rfl (EX.assign rfl) ?_
        refine OW.val rfl rfl (EX.assign rfl) ?_
        refine OW.nil ?_
        refine KW.seq ?_
        refine KW.region ?_
        refine OW.val rfl rfl (EX.move rfl) ?_
        refine OW.val rfl rfl (by first | exact EX.eqlN (b := 1) rfl rfl | exact EX.eqlZ rfl rfl) ?_
        refine OW.val rfl rfl (EX.move rfl) ?_
        refine OW.as 172 (.bool true) rfl (congrArg Value.bool (decide_eq_true (rfl))) ?_
        refine OW.val rfl rfl (EX.move rfl) ?_
        refine OW.val rfl rfl (by first | exact EX.eqlN (b := 1) rfl rfl | exact EX.eqlZ rfl rfl) ?_
        refine OW.val rfl rfl (EX.pickT rfl rfl) ?_
        refine OW.val rfl rfl (EX.move rfl) ?_
        refine OW.as 176 (.bool true) rfl (congrArg Value.bool (decide_eq_true (rfl))) ?_
        refine OW.call rfl rfl rfl (bye wr hx) ?_
        rintro _ w5 ⟨rfl, hx5⟩
        refine OW.val rfl rfl (EX.pickT rfl rfl) ?_
        refine OW.val rfl rfl (EX.assign rfl) ?_
        refine OW.nil ?_
        refine KW.ret (ret1 rfl rfl ?_)
        exact ⟨rfl, hx5⟩
end Go.Proofs.YthgfdpcpbghkpaaGreatDoor
namespace Go.Proofs.YthgfdpcpbghkpaaGreatDoor
open Go.ChangeShapes Go.WideShapes Go.ChangeAt Go.RowKit Go.Deep Rec Pth Srt Cat Dsk Wal
section
variable {H : Type} {enc : TypeId × Value → H} {W : World} {base : Nat} {v : Value} {d : DataW H} {p : List MemPlace} {r : Reach} {b0 : Nat}
theorem seven {l : List Value} (h : l.length = 8) : ∃ a b c d e f g i, l = [a, b, c, d, e, f, g, i] := by
  match l, h with
  | [a, b, c, d, e, f, g, i], _ => exact ⟨a, b, c, d, e, f, g, i, rfl⟩
set_option maxRecDepth 20000 in
theorem mems_stepU (n0 : Nat) (cs0 : List Value) (x0 : DataW H × List MemPlace) (hx : DataW.trod enc Tryz.prog W base (fun _ => true) true n0 22 cs0 = some x0) (hw : ∀ m ∈ x0.1.weights Tryz.prog 22, m ≤ reachBytes) (hb : Rows.uptoBulk x0.1 ≤ 1048576) :
    ∃ (l : List M) (A : Option Addr) (cap : Nat), cs0 = [.slice A l.length cap] ∧ l.length ≤ 140737488355328 ∧ (∀ m ∈ l, m.Ok) ∧ Sl W W.heap.size A (memsV l) := by
  obtain ⟨l, A, cap, e1, e2, _, e3, _, e4⟩ := nest_slM (α := M) M.cells M.Ok (c := 5) (fun _ => rfl) Tryz.underlying22 (by kernel_rfl) (fun n cs y hy _ hm2 => mem_stepU n cs y hy (by
    obtain ⟨es2, sp2, e5, hm2⟩ := hm2
    have q2 := bulk_mem hm2
    rw [e5] at hb
    simp only [Rows.uptoBulk] at hb
    omega)) hx hw
  rw [show Tryz.prog.bytesOf 70 = 48 by kernel_rfl] at e3
  simp only [reachBytes] at e3
  exact ⟨l, A, cap, e1, by omega, e2, e4⟩
set_option maxRecDepth 20000 in
theorem act_stepU (n : Nat) (cs : List Value) (x : DataW H × List MemPlace) (h : DataW.trod enc Tryz.prog W base (fun _ => true) true n 51 cs = some x) (hw : ∀ m ∈ x.1.weights Tryz.prog 51, m ≤ reachBytes) (hb : Rows.uptoBulk x.1 ≤ 1048576) : ∃ a : Ca, cs = a.cells ∧ a.Ok ∧ a.At W W.heap.size := by
  obtain ⟨xs, m, rfl, rfl, hl, hlen, hf⟩ := DataW.trod_struct Tryz.underlying51 h
  obtain ⟨c0, c1, c2, c3, c4, c5, c6, c7, rfl⟩ := seven (hl.trans (by kernel_rfl))
  have g : ∀ i (hi : i < 7), ∃ y, xs[i]? = some y := fun i hi => ⟨_, List.getElem?_eq_getElem (by rw [hlen]; exact hi)⟩
  obtain ⟨y0, e0⟩ := g 0 (by omega)
  obtain ⟨y1, e1⟩ := g 1 (by omega)
  obtain ⟨y2, e2⟩ := g 2 (by omega)
  obtain ⟨y3, e3⟩ := g 3 (by omega)
  obtain ⟨y4, e4⟩ := g 4 (by omega)
  obtain ⟨y5, e5⟩ := g 5 (by omega)
  obtain ⟨y6, e6⟩ := g 6 (by omega)
  have f0 : DataW.trod enc Tryz.prog W base (fun _ => true) true m 3 ((([c0, c1, c2, c3, c4, c5, c6, c7] : List Value).drop 0).take (Tryz.prog.cellsOf 3)) = some y0 := (hf 0 _ rfl).trans e0
  have f1 : DataW.trod enc Tryz.prog W base (fun _ => true) true m 4 ((([c0, c1, c2, c3, c4, c5, c6, c7] : List Value).drop 1).take (Tryz.prog.cellsOf 4)) = some y1 := (hf 1 _ rfl).trans e1
  have f2 : DataW.trod enc Tryz.prog W base (fun _ => true) true m 22 ((([c0, c1, c2, c3, c4, c5, c6, c7] : List Value).drop 2).take (Tryz.prog.cellsOf 22)) = some y2 := (hf 2 _ rfl).trans e2
  have f3 : DataW.trod enc Tryz.prog W base (fun _ => true) true m 49 ((([c0, c1, c2, c3, c4, c5, c6, c7] : List Value).drop 3).take (Tryz.prog.cellsOf 49)) = some y3 := (hf 3 _ rfl).trans e3
  have f4 : DataW.trod enc Tryz.prog W base (fun _ => true) true m 4 ((([c0, c1, c2, c3, c4, c5, c6, c7] : List Value).drop 5).take (Tryz.prog.cellsOf 4)) = some y4 := (hf 4 _ rfl).trans e4
  have f5 : DataW.trod enc Tryz.prog W base (fun _ => true) true m 3 ((([c0, c1, c2, c3, c4, c5, c6, c7] : List Value).drop 6).take (Tryz.prog.cellsOf 3)) = some y5 := (hf 5 _ rfl).trans e5
  have f6 : DataW.trod enc Tryz.prog W base (fun _ => true) true m 5 ((([c0, c1, c2, c3, c4, c5, c6, c7] : List Value).drop 7).take (Tryz.prog.cellsOf 5)) = some y6 := (hf 6 _ rfl).trans e6
  rw [show Tryz.prog.cellsOf 3 = 1 by kernel_rfl] at f0 f5
  rw [show Tryz.prog.cellsOf 4 = 1 by kernel_rfl] at f1 f4
  rw [show Tryz.prog.cellsOf 22 = 1 by kernel_rfl] at f2
  rw [show Tryz.prog.cellsOf 49 = 2 by kernel_rfl] at f3
  rw [show Tryz.prog.cellsOf 5 = 1 by kernel_rfl] at f6
  simp only [List.drop_zero, List.drop_succ_cons, List.take_succ_cons, List.take_zero] at f0 f1 f2 f3 f4 f5 f6
  obtain ⟨n0, h0, _, w0⟩ := DataW.trod_int Tryz.underlying3 f0
  obtain ⟨q1, h1, _⟩ := DataW.trod_bool Tryz.underlying4 f1
  obtain ⟨q4, h4, _⟩ := DataW.trod_bool Tryz.underlying4 f4
  obtain ⟨n5, h5, _, w5⟩ := DataW.trod_int Tryz.underlying3 f5
  obtain ⟨n6, h6, _, w6⟩ := DataW.trod_int Tryz.underlying5 f6
  obtain ⟨m6, rfl, hm6⟩ := wf_nat rfl w6
  have hd2 : (xs.map (·.1))[2]? = some y2.1 := by rw [List.getElem?_map, e2]; rfl
  have hd3 : (xs.map (·.1))[3]? = some y3.1 := by rw [List.getElem?_map, e3]; rfl
  have hwe : ∀ k ∈ DataW.weightsEach Tryz.prog [3, 4, 22, 49, 4, 3, 5] (xs.map (·.1)), k ≤ reachBytes := fun k hk => hw k (by
    simp only [DataW.weights, Tryz.underlying51]
    exact hk)
  have hb2 : Rows.uptoBulk y2.1 ≤ 1048576 := by
    have q := bulk_mem (List.mem_of_getElem? hd2)
    simp only [Rows.uptoBulk] at hb
    omega
  obtain ⟨l, nA, nk, h2, hl2, ho2, hs2⟩ := mems_stepU m _ _ f2 (fun k hk => hwe k (DataW.weights_mem_each (j := 2) rfl hd2 _ hk)) hb2
  obtain ⟨fl, h3, hf3⟩ := fall_step m _ _ f3 (fun k hk => hwe k (DataW.weights_mem_each (j := 3) rfl hd3 _ hk))
  simp only [List.cons.injEq, and_true] at h0 h1 h2 h4 h5 h6
  subst h0 h1 h2 h4 h5 h6
  obtain ⟨fa, ks, kA, kk⟩ := fl
  simp only [Fl.cells, List.cons.injEq, and_true] at h3
  obtain ⟨rfl, rfl⟩ := h3
  exact ⟨⟨n0, q1, l, nA, nk, fa, ks, kA, kk, q4, n5, m6⟩, rfl, ⟨wf_int w0, wf_int w5, hl2, ho2, hf3.at_, hf3.nil, hf3.len, by simpa [maxN] using hm6⟩, ⟨hs2, hf3.sl⟩⟩
instance : Inhabited Ca := ⟨⟨0, false, [], none, 0, 0, [], none, 0, false, 0, 0⟩⟩
set_option maxRecDepth 20000 in
theorem openUs_Act (hval : Value.okWide Tryz.prog W r b0 40 v) (hd : DataW.Trod enc Tryz.prog W base (fun _ => true) true 40 v d p)
    {ts : List TypeId} {ds : List (DataW H)} (hsz : (DataW.weightsEach Tryz.prog ts ds).all (· ≤ reachBytes) = true) {j : Nat} (hj : ts[j]? = some 40) (hdj : ds[j]? = some d) (hb : Rows.uptoBulk d ≤ 1048576) :
    ∃ (l : List Ca) (A : Option Addr) (cap : Nat), v = .slice A l.length cap ∧ (∀ a ∈ l, a.Ok) ∧ CasAt W W.heap.size A l := by
  obtain ⟨l, A, cap, h1, h2, _, _, _, h3⟩ := open_slG (α := Ca) Ca.cells (fun a => a.Ok ∧ a.At W W.heap.size) (c := 8) (fun _ => rfl) Tryz.underlying40 (by kernel_rfl) (fun n cs x hx hw hm => act_stepU n cs x hx hw (by
    obtain ⟨es, sp, rfl, hm⟩ := hm
    have q1 := bulk_mem hm
    simp only [Rows.uptoBulk] at hb
    omega)) hval hd hsz hj hdj
  exact ⟨l, A, cap, h1, fun a ha => (h2 a ha).1, Nat.le_refl _, h3, fun a ha => (h2 a ha).2⟩
end
theorem catalogPlays_z (cap : Int) (c0 : -9223372036854775808 ≤ cap) (c1 : cap ≤ 9223372036854775807) (acts : List Ca) (hok : ∀ a ∈ acts, a.Ok) (A : Option Addr) (k : Nat) (w : World) (C : Nat) (hat : CasAt w C A acts) (hG : MLen w) :
    Ret Tryz.prog 5 [.int .i64 cap, .slice A acts.length k] w fun v w' => v = .bool true ∧ Ext w w' := catalogPlays_s cap c0 c1 acts hok A k w C hat hG
end Go.Proofs.YthgfdpcpbghkpaaGreatDoor
