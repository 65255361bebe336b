/-
  ustar: a header with another byte; heads that differ.
-/
import Derived.Test.YtaoieiiggbpjeaaUstG
namespace Go.Proofs.Ytaoieiiggbpjeaa
open Go.RowKit Fld Ust
set_option linter.unusedVariables false
set_option linter.unusedSimpArgs false

set_option maxRecDepth 20000 in
theorem ustarTurned_s (h : Hd) (ho : h.Ok) (at_ : Int) (a0 : -9223372036854775808 ≤ at_) (a1 : at_ ≤ 9223372036854775807) (by_ : Nat) (hby : by_ ≤ 255) (w : World) :
    Ret Try.prog 7 [.agg h.cells.toArray, .int .i64 at_, .int .u8 (by_ : Int)] w fun v w' => v = .bool true ∧ Ext w w' := by
  refine Ret.enter Try.func7 rfl Try.ntmps7 (by kernel_rfl) rfl ?_
  refine KW.seq (KW.region ?_)
  refine OW.boxS rfl rfl rfl ?_
  rintro hb w1 hge1 hh1 hx1
  refine OW.val rfl rfl (EX.assign rfl) ?_
  refine OW.nil ?_
  refine KW.seq (KW.region ?_)
  replace hh1 : Bk w1 hb 25 h.cells := hh1
  refine OW.val rfl rfl (EX.loadBk Try.underlying25 rfl ti25 rfl (hh1) (rfl)) ?_
  refine OW.call rfl rfl rfl (encode_s h ho w1) ?_
  rintro _ w2 ⟨rfl, hx2⟩
  refine OW.val rfl rfl (EX.move rfl) ?_
  refine OW.val rfl rfl (EX.extract rfl rfl) ?_
  refine OW.val rfl rfl (EX.extract rfl rfl) ?_
  refine OW.val rfl rfl (EX.assign rfl) ?_
  refine OW.val rfl rfl (EX.assign rfl) ?_
  refine OW.nil ?_
  refine KW.seq (KW.seq ?_)
  have x2 := hx1.trans hx2
  refine KW.cutd1 (fun (_u : Unit) => (encH h).2 = 0 ∧ 0 ≤ at_ ∧ at_ < 512 ∧ ¬ (148 ≤ at_ ∧ at_ < 156) ∧ by_ ≠ 0) (fun (_u : Unit) => [(1, .int .i64 (at_ : Int)), (2, .int .u8 ((by_ : Nat) : Int)), (7, str ((encH h).1))]) (fun (_u : Unit) => w2) ?_ ?_
  · refine KW.region ?_
    refine OW.val rfl rfl (EX.move rfl) ?_
    refine OW.val rfl rfl (by first | exact EX.neqN (b := 0) rfl rfl | exact EX.neqZ rfl rfl) ?_
    refine OW.val rfl rfl (EX.move rfl) ?_
    refine OW.splitD 19 rfl (fun b1 => ?_) (fun b1 => ?_)
    · refine OW.pass rfl rfl ?_
      refine OW.pass rfl rfl ?_
      refine OW.val rfl rfl (EX.pickT rfl rfl) ?_
      refine OW.val rfl rfl (EX.move rfl) ?_
      refine OW.pass rfl rfl ?_
      refine OW.pass rfl rfl ?_
      refine OW.val rfl rfl (EX.pickT rfl rfl) ?_
      refine OW.val rfl rfl (EX.move rfl) ?_
      refine OW.pass rfl rfl ?_
      refine OW.pass rfl rfl ?_
      refine OW.pass rfl rfl ?_
      refine OW.pass rfl rfl ?_
      refine OW.pass rfl rfl ?_
      refine OW.pass rfl rfl ?_
      refine OW.val rfl rfl (EX.pickT rfl rfl) ?_
      refine OW.val rfl rfl (EX.move rfl) ?_
      refine OW.pass rfl rfl ?_
      refine OW.pass rfl rfl ?_
      refine OW.val rfl rfl (EX.pickT rfl rfl) ?_
      refine OW.nil ?_
      refine KW.condT rfl (KW.seq (KW.region ?_))
      refine OW.call rfl rfl rfl (awake_s w2) ?_
      rintro _ w3 ⟨rfl, hx3⟩
      refine OW.val rfl rfl (EX.assign rfl) ?_
      refine OW.nil ?_
      refine KW.ret (ret1 rfl rfl ?_)
      exact ⟨rfl, x2.trans hx3⟩
    · refine OW.val rfl rfl (EX.move rfl) ?_
      refine OW.val rfl rfl (by first | exact EX.lssN (b := 0) rfl rfl | exact EX.lssZ rfl rfl) ?_
      refine OW.val rfl rfl (EX.pickF rfl rfl) ?_
      refine OW.val rfl rfl (EX.move rfl) ?_
      refine OW.splitD 23 rfl (fun b2 => ?_) (fun b2 => ?_)
      · refine OW.pass rfl rfl ?_
        refine OW.pass rfl rfl ?_
        refine OW.val rfl rfl (EX.pickT rfl rfl) ?_
        refine OW.val rfl rfl (EX.move rfl) ?_
        refine OW.pass rfl rfl ?_
        refine OW.pass rfl rfl ?_
        refine OW.pass rfl rfl ?_
        refine OW.pass rfl rfl ?_
        refine OW.pass rfl rfl ?_
        refine OW.pass rfl rfl ?_
        refine OW.val rfl rfl (EX.pickT rfl rfl) ?_
        refine OW.val rfl rfl (EX.move rfl) ?_
        refine OW.pass rfl rfl ?_
        refine OW.pass rfl rfl ?_
        refine OW.val rfl rfl (EX.pickT rfl rfl) ?_
        refine OW.nil ?_
        refine KW.condT rfl (KW.seq (KW.region ?_))
        refine OW.call rfl rfl rfl (awake_s w2) ?_
        rintro _ w3 ⟨rfl, hx3⟩
        refine OW.val rfl rfl (EX.assign rfl) ?_
        refine OW.nil ?_
        refine KW.ret (ret1 rfl rfl ?_)
        exact ⟨rfl, x2.trans hx3⟩
      · refine OW.val rfl rfl (EX.move rfl) ?_
        refine OW.val rfl rfl (by first | exact EX.geqN (b := 512) rfl rfl | exact EX.geqZ rfl rfl) ?_
        refine OW.val rfl rfl (EX.pickF rfl rfl) ?_
        refine OW.val rfl rfl (EX.move rfl) ?_
        refine OW.splitD 27 rfl (fun b3 => ?_) (fun b3 => ?_)
        · refine OW.pass rfl rfl ?_
          refine OW.pass rfl rfl ?_
          refine OW.pass rfl rfl ?_
          refine OW.pass rfl rfl ?_
          refine OW.pass rfl rfl ?_
          refine OW.pass rfl rfl ?_
          refine OW.val rfl rfl (EX.pickT rfl rfl) ?_
          refine OW.val rfl rfl (EX.move rfl) ?_
          refine OW.pass rfl rfl ?_
          refine OW.pass rfl rfl ?_
          refine OW.val rfl rfl (EX.pickT rfl rfl) ?_
          refine OW.nil ?_
          refine KW.condT rfl (KW.seq (KW.region ?_))
          refine OW.call rfl rfl rfl (awake_s w2) ?_
          rintro _ w3 ⟨rfl, hx3⟩
          refine OW.val rfl rfl (EX.assign rfl) ?_
          refine OW.nil ?_
          refine KW.ret (ret1 rfl rfl ?_)
          exact ⟨rfl, x2.trans hx3⟩
        · refine OW.val rfl rfl (EX.move rfl) ?_
          refine OW.val rfl rfl (by first | exact EX.geqN (b := 148) rfl rfl | exact EX.geqZ rfl rfl) ?_
          refine OW.val rfl rfl (EX.move rfl) ?_
          refine OW.splitD 30 rfl (fun b4 => ?_) (fun b4 => ?_)
          · refine OW.val rfl rfl (EX.move rfl) ?_
            refine OW.val rfl rfl (by first | exact EX.lssN (b := 156) rfl rfl | exact EX.lssZ rfl rfl) ?_
            refine OW.val rfl rfl (EX.pickT rfl rfl) ?_
            refine OW.val rfl rfl (EX.pickF rfl rfl) ?_
            refine OW.val rfl rfl (EX.move rfl) ?_
            refine OW.splitD 35 rfl (fun b5 => ?_) (fun b5 => ?_)
            · refine OW.pass rfl rfl ?_
              refine OW.pass rfl rfl ?_
              refine OW.val rfl rfl (EX.pickT rfl rfl) ?_
              refine OW.nil ?_
              refine KW.condT rfl (KW.seq (KW.region ?_))
              refine OW.call rfl rfl rfl (awake_s w2) ?_
              rintro _ w3 ⟨rfl, hx3⟩
              refine OW.val rfl rfl (EX.assign rfl) ?_
              refine OW.nil ?_
              refine KW.ret (ret1 rfl rfl ?_)
              exact ⟨rfl, x2.trans hx3⟩
            · refine OW.val rfl rfl (EX.move rfl) ?_
              refine OW.val rfl rfl (by first | exact EX.eqlN (b := 0) rfl rfl | exact EX.eqlZ rfl rfl) ?_
              refine OW.val rfl rfl (EX.pickF rfl rfl) ?_
              refine OW.nil ?_
              refine KW.condD rfl (fun b6 => ?_) (fun b6 => ?_)
              · refine KW.seq (KW.region ?_)
                refine OW.call rfl rfl rfl (awake_s w2) ?_
                rintro _ w3 ⟨rfl, hx3⟩
                refine OW.val rfl rfl (EX.assign rfl) ?_
                refine OW.nil ?_
                refine KW.ret (ret1 rfl rfl ?_)
                exact ⟨rfl, x2.trans hx3⟩
              · refine KW.skip ?_
                refine KW.meet1 (()) ⟨rfl, rfl, rfl, trivial⟩ rfl ?_
                exact ⟨by omega, by omega, by omega, by omega, by omega⟩
          · refine OW.pass rfl rfl ?_
            refine OW.pass rfl rfl ?_
            refine OW.val rfl rfl (EX.pickF rfl rfl) ?_
            refine OW.val rfl rfl (EX.pickF rfl rfl) ?_
            refine OW.val rfl rfl (EX.move rfl) ?_
            refine OW.val rfl rfl (EX.move rfl) ?_
            refine OW.val rfl rfl (by first | exact EX.eqlN (b := 0) rfl rfl | exact EX.eqlZ rfl rfl) ?_
            refine OW.val rfl rfl (EX.pickF rfl rfl) ?_
            refine OW.nil ?_
            refine KW.condD rfl (fun b6 => ?_) (fun b6 => ?_)
            · refine KW.seq (KW.region ?_)
              refine OW.call rfl rfl rfl (awake_s w2) ?_
              rintro _ w3 ⟨rfl, hx3⟩
              refine OW.val rfl rfl (EX.assign rfl) ?_
              refine OW.nil ?_
              refine KW.ret (ret1 rfl rfl ?_)
              exact ⟨rfl, x2.trans hx3⟩
            · refine KW.skip ?_
              refine KW.meet1 (()) ⟨rfl, rfl, rfl, trivial⟩ rfl ?_
              exact ⟨by omega, by omega, by omega, by omega, by omega⟩
  · rintro _ ⟨he, h0, h1, h2, h3⟩
    obtain ⟨e1, e2, hm, e4⟩ := enc_ok he
    have la := hdText_len hm e1 e2
    have hturn := fun k hk hn v hv => dec_turned (h := h) hm e1 e2 (k := k) hk hn (v := v) hv
    rw [e4]
    generalize ht : (hdText h, (0 : Nat)).1 = t
    have ht' : hdText h = t := ht
    rw [ht'] at la hturn
    obtain ⟨j, rfl⟩ := Int.eq_ofNat_of_zero_le h0
    have hj : j < t.length := by omega
    refine KW.seq (KW.seq (KW.region ?_))
    refine OW.val rfl rfl (EX.move rfl) ?_
    refine OW.val rfl rfl (EX.lenS Try.underlying9 rfl) ?_
    refine OW.val rfl rfl (by first | exact EX.neqN (b := 512) rfl rfl | exact EX.neqZ rfl rfl) ?_
    refine OW.nil ?_
    refine KW.condD rfl (fun a5 => ?_) (fun a5 => ?_)
    · exact absurd la (by omega)
    · refine KW.skip (KW.seq (KW.region ?_))
      refine OW.val rfl rfl (EX.move rfl) ?_
      refine OW.bytesOf rfl rfl Try.underlying9 Try.underlying38 Try.underlying5 rfl (by omega) ?_
      rintro cap rs w3 hgb hc hmx hl hx3
      refine OW.val rfl rfl (EX.assign rfl) ?_
      refine OW.nil ?_
      refine KW.seq (KW.region ?_)
      refine OW.val rfl rfl (EX.move rfl) ?_
      refine OW.val rfl rfl (EX.move rfl) ?_
      refine OW.val rfl rfl (by first | exact EX.indexAddrS0 Try.underlying38 ti5 rfl rfl (by omega) | exact EX.indexAddrS1 Try.underlying38 ti5 rfl rfl (by omega)) ?_
      have hel : (bytesV t ++ rs)[j]? = some (.int .u8 ((t[j].toNat : Nat) : Int)) := by
        rw [List.getElem?_append_left (by simpa [bytesV] using hj)]
        simp [bytesV, hj]
      have hcj := (t[j]).toNat_lt
      have hxl : t[j].toNat ^^^ by_ < 256 := Nat.xor_lt_two_pow (n := 8) hcj (by omega)
      refine OW.val rfl rfl (EX.load Try.underlying5 rfl rfl (hgb.cell_of hel)) ?_
      refine OW.val rfl rfl (EX.move rfl) ?_
      refine OW.val rfl rfl (EX.xorN (m := 255) rfl rfl rfl (by omega)) ?_
      refine OW.val rfl rfl (by first | exact EX.indexAddrS0 Try.underlying38 ti5 rfl rfl (by omega) | exact EX.indexAddrS1 Try.underlying38 ti5 rfl rfl (by omega)) ?_
      refine OW.storeB rfl ti5 rfl rfl (by first | rfl | assumption | exact Own.one (by assumption)) (hgb) (by simp [bytesV]; omega) ?_
      rintro w4 hb4 hm4
      refine OW.nil ?_
      refine KW.seq (KW.region ?_)
      refine OW.val rfl rfl (EX.move rfl) ?_
      have hset : (bytesV t ++ rs).set j (.int .u8 ((t[j].toNat ^^^ by_ : Nat) : Int)) = bytesV (t.set j (UInt8.ofNat (t[j].toNat ^^^ by_))) ++ rs := by
        rw [List.set_append_left _ _ (by simpa [bytesV] using hj)]
        congr 1
        have : (UInt8.ofNat (t[j].toNat ^^^ by_)).toNat = t[j].toNat ^^^ by_ := by
          rw [UInt8.toNat_ofNat']
          exact Nat.mod_eq_of_lt hxl
        simp only [bytesV, List.map_set, this]
      rw [hset] at hb4
      have x3 : Ext w w3 := x2.trans hx3
      have x4 : Ext w w4 := below_mo x3 hm4 x3.size (fun k hk => by simp at hk; have := x2.size; omega)
      have hgd : t.getD j 0 = t[j] := by simp [List.getD_eq_getElem?_getD, hj]
      have hdec := hturn j (by omega) (by omega) (UInt8.ofNat (t[j].toNat ^^^ by_)) (by
        rw [hgd, UInt8.toNat_ofNat', Nat.mod_eq_of_lt hxl]
        exact xor_ne h3)
      refine OW.val rfl rfl (EX.strOf Try.underlying38 Try.underlying5 Try.underlying9 rfl (hb4.slp) (by simp)) ?_
      have hdc := decode_s (t.set j (UInt8.ofNat (t[j].toNat ^^^ by_))) (by simp; omega) w4
      rw [hdec] at hdc
      refine OW.call rfl rfl rfl (hdc) ?_
      rintro _ w5 ⟨rfl, hx5⟩
      refine OW.val rfl rfl (EX.move rfl) ?_
      refine OW.val rfl rfl (EX.extract rfl rfl) ?_
      refine OW.val rfl rfl (EX.extract rfl rfl) ?_
      refine OW.allocB (l := [str [], .int .i64 0, .int .u8 0, .int .i64 0, .int .i64 0, str [], str [], str [], .int .i64 0, .int .i64 0]) rfl rfl ti25 rfl ?_
      rintro yb w6 hge6 hy6 hx6
      refine OW.storeS rfl ti25 rfl rfl rfl (by first | rfl | (simp only [List.all_cons, List.all_nil, Bool.and_true, Bool.true_and, Bool.and_eq_true, Value.oneCell']; repeat (first | assumption | exact Own.one (by assumption) | constructor))) (hy6) (Nat.le_refl _) ?_
      rintro w7 hy7 hm7
      refine OW.val rfl rfl (EX.assign rfl) ?_
      refine OW.nil ?_
      refine KW.seq ?_
      replace hy7 : Bk w7 yb 25 hd0.cells := hy7
      have x6 : Ext w w6 := (x4.trans hx5).trans hx6
      have x7 : Ext w w7 := below_mo x6 hm7 x6.size (fun k hk => by simp at hk; have := (x4.trans hx5).size; omega)
      refine KW.region ?_
      refine OW.val rfl rfl (EX.move rfl) ?_
      refine OW.val rfl rfl (by first | exact EX.eqlN (b := 160) rfl rfl | exact EX.eqlZ rfl rfl) ?_
      refine OW.val rfl rfl (EX.move rfl) ?_
      refine OW.as 60 (.bool true) rfl (congrArg Value.bool (decide_eq_true (rfl))) ?_
      refine OW.val rfl rfl (EX.loadBk Try.underlying25 rfl ti25 rfl (hy7) (rfl)) ?_
      refine OW.val rfl rfl (EX.buildS (pl := [(0, 1), (1, 1), (2, 1), (3, 1), (4, 1), (5, 1), (6, 2), (8, 2)]) (ks := []) (is := []) (zs := [str [], .int .i64 0, .int .u8 0, .int .i64 0, .int .i64 0, str [], str [], str [], .int .i64 0, .int .i64 0]) Try.underlying25 ti25 (by kernel_rfl) rfl rfl rfl (by first | rfl | (simp only [List.all_cons, List.all_nil, Bool.and_true, Bool.true_and, Bool.and_eq_true, Value.oneCell']; repeat (first | assumption | exact Own.one (by assumption) | constructor))) (by simp only [setAll, List.set_cons_zero, List.set_cons_succ]; rfl)) ?_
      refine OW.val rfl rfl (EX.eqlV Try.underlying25 (by kernel_rfl) (by kernel_rfl) rfl rfl (FE.one (by decide) Try.underlying9 rfl rfl rfl (eq_str Try.underlying9) (FE.one (by decide) Try.underlying3 rfl rfl rfl (eq_int Try.underlying3) (FE.one (by decide) Try.underlying5 rfl rfl rfl (eq_int Try.underlying5) (FE.one (by decide) Try.underlying3 rfl rfl rfl (eq_int Try.underlying3) (FE.one (by decide) Try.underlying3 rfl rfl rfl (eq_int Try.underlying3) (FE.one (by decide) Try.underlying9 rfl rfl rfl (eq_str Try.underlying9) (FE.two (by decide) Try.underlying22 ti22 Try.underlying9 rfl ti9 rfl rfl (eq_str Try.underlying9) (eq_str Try.underlying9) (FE.two (by decide) Try.underlying23 ti23 Try.underlying3 rfl ti3 rfl rfl (eq_int Try.underlying3) (eq_int Try.underlying3) FE.nil)))))))) rfl) ?_
      refine OW.val rfl rfl (EX.pickT rfl rfl) ?_
      refine OW.val rfl rfl (EX.move rfl) ?_
      refine OW.as 65 (.bool true) rfl (by simp [hd0]) ?_
      refine OW.call rfl rfl rfl (awake_s w7) ?_
      rintro _ w8 ⟨rfl, hx8⟩
      refine OW.val rfl rfl (EX.pickT rfl rfl) ?_
      refine OW.val rfl rfl (EX.assign rfl) ?_
      refine OW.nil ?_
      refine KW.ret (ret1 rfl rfl ?_)
      exact ⟨rfl, x7.trans hx8⟩
set_option maxRecDepth 20000 in
theorem ustarNames_s (a : Hd) (ha : a.Ok) (b : Hd) (hb : b.Ok) (w : World) : Ret Try.prog 8 [.agg a.cells.toArray, .agg b.cells.toArray] w fun v w' => v = .bool true ∧ Ext w w' := by
  refine Ret.enter Try.func8 rfl Try.ntmps8 (by kernel_rfl) rfl ?_
  refine KW.seq (KW.region ?_)
  refine OW.boxS rfl rfl rfl ?_
  rintro ab w1 hge1 ha1 hx1
  replace ha1 : Bk w1 ab 25 a.cells := ha1
  refine OW.boxS rfl rfl rfl ?_
  rintro bb w2 hge2 hb2 hx2
  refine OW.val rfl rfl (EX.assign rfl) ?_
  refine OW.nil ?_
  refine KW.seq (KW.region ?_)
  replace hb2 : Bk w2 bb 25 b.cells := hb2
  have ha2 := ha1.ext hx2
  have x2 := hx1.trans hx2
  refine OW.val rfl rfl (EX.loadBk Try.underlying25 rfl ti25 rfl (ha2) (rfl)) ?_
  refine OW.call rfl rfl rfl (encode_s a ha w2) ?_
  rintro _ w3 ⟨rfl, hx3⟩
  refine OW.val rfl rfl (EX.move rfl) ?_
  refine OW.val rfl rfl (EX.extract rfl rfl) ?_
  refine OW.val rfl rfl (EX.extract rfl rfl) ?_
  refine OW.val rfl rfl (EX.assign rfl) ?_
  refine OW.val rfl rfl (EX.assign rfl) ?_
  refine OW.nil ?_
  refine KW.seq (KW.region ?_)
  have ha3 := ha2.ext hx3
  have hb3 := hb2.ext hx3
  refine OW.val rfl rfl (EX.loadBk Try.underlying25 rfl ti25 rfl (hb3) (rfl)) ?_
  refine OW.call rfl rfl rfl (encode_s b hb w3) ?_
  rintro _ w4 ⟨rfl, hx4⟩
  refine OW.val rfl rfl (EX.move rfl) ?_
  refine OW.val rfl rfl (EX.extract rfl rfl) ?_
  refine OW.val rfl rfl (EX.extract rfl rfl) ?_
  refine OW.val rfl rfl (EX.assign rfl) ?_
  refine OW.val rfl rfl (EX.assign rfl) ?_
  refine OW.nil ?_
  refine KW.seq ?_
  have ha4 := ha3.ext hx4
  have hb4 := hb3.ext hx4
  have x4 := (x2.trans hx3).trans hx4
  refine KW.region ?_
  refine OW.val rfl rfl (EX.move rfl) ?_
  refine OW.val rfl rfl (by first | exact EX.neqN (b := 0) rfl rfl | exact EX.neqZ rfl rfl) ?_
  refine OW.val rfl rfl (EX.move rfl) ?_
  refine OW.splitD 21 rfl (fun c1 => ?_) (fun c1 => ?_)
  · refine OW.pass rfl rfl ?_
    refine OW.pass rfl rfl ?_
    refine OW.val rfl rfl (EX.pickT rfl rfl) ?_
    refine OW.val rfl rfl (EX.move rfl) ?_
    refine OW.pass rfl rfl ?_
    refine OW.pass rfl rfl ?_
    refine OW.pass rfl rfl ?_
    refine OW.pass rfl rfl ?_
    refine OW.pass rfl rfl ?_
    refine OW.pass rfl rfl ?_
    refine OW.pass rfl rfl ?_
    refine OW.val rfl rfl (EX.pickT rfl rfl) ?_
    refine OW.val rfl rfl (EX.move rfl) ?_
    refine OW.call rfl rfl rfl (awake_s w4) ?_
    rintro _ w5 ⟨rfl, hx5⟩
    refine OW.val rfl rfl (EX.pickT rfl rfl) ?_
    refine OW.val rfl rfl (EX.assign rfl) ?_
    refine OW.nil ?_
    refine KW.ret (ret1 rfl rfl ?_)
    exact ⟨rfl, x4.trans hx5⟩
  · refine OW.val rfl rfl (EX.move rfl) ?_
    refine OW.val rfl rfl (by first | exact EX.neqN (b := 0) rfl rfl | exact EX.neqZ rfl rfl) ?_
    refine OW.val rfl rfl (EX.pickF rfl rfl) ?_
    refine OW.val rfl rfl (EX.move rfl) ?_
    refine OW.splitD 25 rfl (fun c2 => ?_) (fun c2 => ?_)
    · refine OW.pass rfl rfl ?_
      refine OW.pass rfl rfl ?_
      refine OW.pass rfl rfl ?_
      refine OW.pass rfl rfl ?_
      refine OW.pass rfl rfl ?_
      refine OW.pass rfl rfl ?_
      refine OW.pass rfl rfl ?_
      refine OW.val rfl rfl (EX.pickT rfl rfl) ?_
      refine OW.val rfl rfl (EX.move rfl) ?_
      refine OW.call rfl rfl rfl (awake_s w4) ?_
      rintro _ w5 ⟨rfl, hx5⟩
      refine OW.val rfl rfl (EX.pickT rfl rfl) ?_
      refine OW.val rfl rfl (EX.assign rfl) ?_
      refine OW.nil ?_
      refine KW.ret (ret1 rfl rfl ?_)
      exact ⟨rfl, x4.trans hx5⟩
    · have hn := names (a := a) (b := b) (by omega) (by omega)
      refine OW.val rfl rfl (EX.move rfl) ?_
      refine OW.val rfl rfl (EX.move rfl) ?_
      refine OW.val rfl rfl (EX.eqlS rfl rfl) ?_
      refine OW.val rfl rfl (EX.loadBk Try.underlying25 rfl ti25 rfl (ha4) (rfl)) ?_
      refine OW.val rfl rfl (EX.loadBk Try.underlying25 rfl ti25 rfl (hb4) (rfl)) ?_
      refine OW.val rfl rfl (EX.eqlV Try.underlying25 (by kernel_rfl) (by kernel_rfl) rfl rfl (FE.one (by decide) Try.underlying9 rfl rfl rfl (eq_str Try.underlying9) (FE.one (by decide) Try.underlying3 rfl rfl rfl (eq_int Try.underlying3) (FE.one (by decide) Try.underlying5 rfl rfl rfl (eq_int Try.underlying5) (FE.one (by decide) Try.underlying3 rfl rfl rfl (eq_int Try.underlying3) (FE.one (by decide) Try.underlying3 rfl rfl rfl (eq_int Try.underlying3) (FE.one (by decide) Try.underlying9 rfl rfl rfl (eq_str Try.underlying9) (FE.two (by decide) Try.underlying22 ti22 Try.underlying9 rfl ti9 rfl rfl (eq_str Try.underlying9) (eq_str Try.underlying9) (FE.two (by decide) Try.underlying23 ti23 Try.underlying3 rfl ti3 rfl rfl (eq_int Try.underlying3) (eq_int Try.underlying3) FE.nil)))))))) rfl) ?_
      refine OW.val rfl rfl (EX.eqlB Try.underlying4 rfl rfl) ?_
      refine OW.val rfl rfl (EX.pickF rfl rfl) ?_
      refine OW.val rfl rfl (EX.move rfl) ?_
      refine OW.as 34 (.bool true) rfl (congrArg Value.bool (by rw [hd_eq]; by_cases q : a = b <;> simp [hn, q])) ?_
      refine OW.call rfl rfl rfl (awake_s w4) ?_
      rintro _ w5 ⟨rfl, hx5⟩
      refine OW.val rfl rfl (EX.pickT rfl rfl) ?_
      refine OW.val rfl rfl (EX.assign rfl) ?_
      refine OW.nil ?_
      refine KW.ret (ret1 rfl rfl ?_)
      exact ⟨rfl, x4.trans hx5⟩
end Go.Proofs.Ytaoieiiggbpjeaa
