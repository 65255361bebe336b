/-
  disk: acts.
-/
import Derived.Test.YtdjcgffhnakeeaaDskH
import Derived.Test.YtdjcgffhnakeeaaKg
namespace Go.Proofs.Ytdjcgffhnakeeaa
open Go.RowKit Dsk
set_option linter.unusedVariables false

/-! ### Acts -/
structure Ac where
  kind : Int
  n : Int
  fill : Nat
  odd : Bool
  at_ : Int
  kv : Value
def Ac.cells (a : Ac) : List Value := [.int .i64 a.kind, .int .i64 a.n, .int .u8 (a.fill : Int), .bool a.odd, .int .i64 a.at_, a.kv]
structure Ac.Ok (a : Ac) : Prop where
  n : -9223372036854775808 ≤ a.n ∧ a.n ≤ 9223372036854775807
  fill : a.fill ≤ 255
  one : a.kv.oneCell' = true
def _root_.Go.Proofs.Ytdjcgffhnakeeaa.Dsk.Dv.act (D : Dv) (a : Ac) : Dv × List UInt8 × Nat :=
  if a.kind = 0 then D.read a.n
  else if a.kind = 1 then ((D.write a.n (sector a.fill a.odd)).1, [], (D.write a.n (sector a.fill a.odd)).2)
  else if a.kind = 2 then ((D.cut a.n).1, [], (D.cut a.n).2)
  else if a.kind = 3 then (D.sync.1, [], D.sync.2)
  else (D, [], 0)
section
variable {w : World} {B b : Nat} {D : Dv}
theorem act_d (h : DevAt w B b D) (hD : D.Ok) (hs : Small D) (a : Ac) (ha : a.Ok) (h4 : a.kind ≠ 4) (h5 : a.kind ≠ 5) :
    Ret Try.prog 21 [.pointer (some ⟨b, 0, none⟩), .agg a.cells.toArray] w fun v w' => v = .tuple #[str (D.act a).2.1, .int .i64 (((D.act a).2.2 : Nat) : Int)] ∧ DevAt w' B b (D.act a).1 ∧ Tm w w' B dty := by
  obtain ⟨n0, n1⟩ := ha.n
  have hf := ha.fill
  refine Ret.enter Try.func21 rfl Try.ntmps21 (by kernel_rfl) rfl ?_
  refine KW.seq (KW.region ?_)
  refine OW.boxS rfl rfl rfl ?_
  rintro ba w1 hge hb1 hx1
  refine OW.val rfl rfl (EX.assign rfl) ?_
  refine OW.val rfl rfl (EX.assign rfl) ?_
  refine OW.nil ?_
  refine KW.seq (KW.seq (KW.region ?_))
  refine OW.val rfl rfl (EX.fieldAddr (off := 0) Try.underlying44 rfl rfl ti3 rfl rfl) ?_
  have hc : Bk w1 ba 44 [.int .i64 a.kind, .int .i64 a.n, .int .u8 (a.fill : Int), .bool a.odd, .int .i64 a.at_, a.kv] := hb1
  have hd1 := h.ext hx1
  have t1 : Tm w w1 B dty := Tm.of_ext hx1 B dty
  refine OW.val rfl rfl (EX.load Try.underlying3 rfl rfl (hc.cell_of rfl)) ?_
  refine OW.nil ?_
  refine KW.block (KW.seq (KW.region ?_))
  refine OW.val rfl rfl (by first | exact EX.eqlN (b := 0) rfl rfl | exact EX.eqlZ rfl rfl) ?_
  refine OW.val rfl rfl (EX.assign rfl) ?_
  refine OW.nil ?_
  refine KW.condD rfl (fun k0 => ?_) (fun k0 => ?_)
  · have e : D.act a = D.read a.n := by unfold Dv.act; rw [if_pos k0]
    refine KW.seq (KW.region ?_)
    refine OW.val rfl rfl (EX.move rfl) ?_
    refine OW.val rfl rfl (EX.fieldAddr (off := 1) Try.underlying44 rfl rfl ti3 rfl rfl) ?_
    refine OW.val rfl rfl (EX.load Try.underlying3 rfl rfl (hc.cell_of rfl)) ?_
    refine OW.call rfl rfl rfl (read_d hd1 hD hs a.n n0 n1) ?_
    rintro _ w2 ⟨rfl, hd2, t2⟩
    refine OW.val rfl rfl (EX.extract rfl rfl) ?_
    refine OW.val rfl rfl (EX.extract rfl rfl) ?_
    refine OW.val rfl rfl (EX.assign rfl) ?_
    refine OW.val rfl rfl (EX.assign rfl) ?_
    refine OW.nil ?_
    refine KW.ret (ret2 rfl rfl rfl ?_)
    rw [e]
    exact ⟨rfl, hd2, t1.trans t2⟩
  · refine KW.seq (KW.region ?_)
    refine OW.val rfl rfl (by first | exact EX.eqlN (b := 1) rfl rfl | exact EX.eqlZ rfl rfl) ?_
    refine OW.val rfl rfl (EX.assign rfl) ?_
    refine OW.nil ?_
    refine KW.condD rfl (fun k1 => ?_) (fun k1 => ?_)
    · have e : D.act a = ((D.write a.n (sector a.fill a.odd)).1, [], (D.write a.n (sector a.fill a.odd)).2) := by unfold Dv.act; rw [if_neg k0, if_pos k1]
      refine KW.seq (KW.regionG (N := 11) (fun w' => Bk w' ba 44 [.int .i64 a.kind, .int .i64 a.n, .int .u8 (a.fill : Int), .bool a.odd, .int .i64 a.at_, a.kv]) (by kernel_rfl) rfl ?_)
      have hS := hc.drew
      refine GW.val 0 rfl (by kernel_rfl) (by kernel_rfl) (by kernel_rfl) rfl rfl hS (fun w' hS' => EX.move rfl) ?_
      refine GW.val 1 rfl (by kernel_rfl) (by kernel_rfl) (by kernel_rfl) rfl rfl hS (fun w' hS' => EX.fieldAddr (off := 1) Try.underlying44 rfl rfl ti3 rfl rfl) ?_
      refine GW.val 2 rfl (by kernel_rfl) (by kernel_rfl) (by kernel_rfl) rfl rfl hS (fun w' hS' => EX.load Try.underlying3 rfl rfl (hS'.cell_of rfl)) ?_
      refine GW.val 3 rfl (by kernel_rfl) (by kernel_rfl) (by kernel_rfl) rfl rfl hS (fun w' hS' => EX.fieldAddr (off := 2) Try.underlying44 rfl rfl ti5 rfl rfl) ?_
      refine GW.val 4 rfl (by kernel_rfl) (by kernel_rfl) (by kernel_rfl) rfl rfl hS (fun w' hS' => EX.load Try.underlying5 rfl rfl (hS'.cell_of rfl)) ?_
      refine GW.val 5 rfl (by kernel_rfl) (by kernel_rfl) (by kernel_rfl) rfl rfl hS (fun w' hS' => EX.fieldAddr (off := 3) Try.underlying44 rfl rfl ti4 rfl rfl) ?_
      refine GW.val 6 rfl (by kernel_rfl) (by kernel_rfl) (by kernel_rfl) rfl rfl hS (fun w' hS' => EX.load Try.underlying4 rfl rfl (hS'.cell_of rfl)) ?_
      refine GW.call 7 rfl (by kernel_rfl) rfl rfl rfl (sector_s a.fill hf a.odd w1.drew) ?_
      rintro _ w2 ⟨rfl, hx2⟩
      refine ⟨hS.ext hx2, fun hS => ?_⟩
      have hd2 := (hd1.ext (Ext.drew w1)).ext hx2
      refine GW.call 8 rfl (by kernel_rfl) rfl rfl rfl (write_d hd2 hD hs a.n n0 n1 _ (by unfold sector; rw [List.length_replicate]; split <;> omega)) ?_
      rintro _ w3 ⟨rfl, hd3, t3⟩
      refine ⟨t3.bk hS rfl, fun hS => ?_⟩
      refine GW.val 9 rfl (by kernel_rfl) (by kernel_rfl) (by kernel_rfl) rfl rfl hS (fun w' hS' => EX.assign rfl) ?_
      refine GW.val 10 rfl (by kernel_rfl) (by kernel_rfl) (by kernel_rfl) rfl rfl hS (fun w' hS' => EX.assign rfl) ?_
      refine GW.done (by kernel_rfl) ?_
      refine KW.ret (ret2 rfl rfl rfl ?_)
      rw [e]
      exact ⟨rfl, hd3, ((t1.trans (Tm.of_ext (Ext.drew w1) B dty)).trans (Tm.of_ext hx2 B dty)).trans t3⟩
    · refine KW.seq (KW.region ?_)
      refine OW.val rfl rfl (by first | exact EX.eqlN (b := 2) rfl rfl | exact EX.eqlZ rfl rfl) ?_
      refine OW.val rfl rfl (EX.assign rfl) ?_
      refine OW.nil ?_
      refine KW.condD rfl (fun k2 => ?_) (fun k2 => ?_)
      · have e : D.act a = ((D.cut a.n).1, [], (D.cut a.n).2) := by unfold Dv.act; rw [if_neg k0, if_neg k1, if_pos k2]
        refine KW.seq (KW.region ?_)
        refine OW.val rfl rfl (EX.move rfl) ?_
        refine OW.val rfl rfl (EX.fieldAddr (off := 1) Try.underlying44 rfl rfl ti3 rfl rfl) ?_
        refine OW.val rfl rfl (EX.load Try.underlying3 rfl rfl (hc.cell_of rfl)) ?_
        refine OW.call rfl rfl rfl (cut_d hd1 hD hs a.n n0 n1) ?_
        rintro _ w2 ⟨rfl, hd2, t2⟩
        refine OW.val rfl rfl (EX.assign rfl) ?_
        refine OW.val rfl rfl (EX.assign rfl) ?_
        refine OW.nil ?_
        refine KW.ret (ret2 rfl rfl rfl ?_)
        rw [e]
        exact ⟨rfl, hd2, t1.trans t2⟩
      · refine KW.seq (KW.region ?_)
        refine OW.val rfl rfl (by first | exact EX.eqlN (b := 3) rfl rfl | exact EX.eqlZ rfl rfl) ?_
        refine OW.val rfl rfl (EX.assign rfl) ?_
        refine OW.nil ?_
        refine KW.condD rfl (fun k3 => ?_) (fun k3 => ?_)
        · have e : D.act a = (D.sync.1, [], D.sync.2) := by unfold Dv.act; rw [if_neg k0, if_neg k1, if_neg k2, if_pos k3]
          refine KW.seq (KW.region ?_)
          refine OW.val rfl rfl (EX.move rfl) ?_
          refine OW.call rfl rfl rfl (sync_d hd1 hD hs) ?_
          rintro _ w2 ⟨rfl, hd2, t2⟩
          refine OW.val rfl rfl (EX.assign rfl) ?_
          refine OW.val rfl rfl (EX.assign rfl) ?_
          refine OW.nil ?_
          refine KW.ret (ret2 rfl rfl rfl ?_)
          rw [e]
          exact ⟨rfl, hd2, t1.trans t2⟩
        · have e : D.act a = (D, [], 0) := by unfold Dv.act; rw [if_neg k0, if_neg k1, if_neg k2, if_neg k3]
          refine KW.seq (KW.region ?_)
          refine OW.val rfl rfl (by first | exact EX.eqlN (b := 4) rfl rfl | exact EX.eqlZ rfl rfl) ?_
          refine OW.val rfl rfl (EX.assign rfl) ?_
          refine OW.nil ?_
          refine KW.condD rfl (fun k4 => ?_) (fun k4 => ?_)
          · exact absurd k4 h4
          · refine KW.seq (KW.region ?_)
            refine OW.val rfl rfl (by first | exact EX.eqlN (b := 5) rfl rfl | exact EX.eqlZ rfl rfl) ?_
            refine OW.val rfl rfl (EX.assign rfl) ?_
            refine OW.nil ?_
            refine KW.condD rfl (fun k5 => ?_) (fun k5 => ?_)
            · exact absurd k5 h5
            · refine KW.skip (KW.leave (KW.seq (KW.region ?_)))
              refine OW.val rfl rfl (EX.assign rfl) ?_
              refine OW.val rfl rfl (EX.assign rfl) ?_
              refine OW.nil ?_
              refine KW.ret (ret2 rfl rfl rfl ?_)
              rw [e]
              exact ⟨rfl, hd1, t1⟩
end
end Go.Proofs.Ytdjcgffhnakeeaa
