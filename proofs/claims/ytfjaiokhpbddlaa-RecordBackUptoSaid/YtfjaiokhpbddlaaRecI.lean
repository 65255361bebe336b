/-
  record: a record of which one byte is another one is none.
-/
import Derived.Test.YtfjaiokhpbddlaaRecO
import Derived.Test.YtfjaiokhpbddlaaRecT
namespace Go.Proofs.Ytfjaiokhpbddlaa
open Go.RowKit Rec Pth
set_option linter.unusedVariables false
set_option linter.unusedSimpArgs false

set_option maxRecDepth 20000 in
theorem recordTurned_s (x : R) (hx : x.Ok) (at_ : Int) (t0 : -9223372036854775808 ≤ at_) (t1 : at_ ≤ 9223372036854775807) (by_ : Nat) (hby : by_ ≤ 255) (w : World) :
    Ret Try.prog 6 [.agg x.cells.toArray, .int .i64 at_, .int .u8 (by_ : Int)] w fun v w' => v = .bool true ∧ Ext w w' := by
  have hk := hx.kind
  have hd := hx.data
  refine Ret.enter Try.func6 rfl Try.ntmps6 (by kernel_rfl) rfl ?_
  refine KW.seq (KW.region ?_)
  refine OW.boxS rfl rfl rfl ?_
  rintro xb w1 hge1 hb1 hx1
  refine OW.val rfl rfl (EX.assign rfl) ?_
  refine OW.nil ?_
  refine KW.seq (KW.region ?_)
  refine OW.val rfl rfl (EX.fieldAddr (off := 0) Try.underlying31 rfl rfl ti5 rfl rfl) ?_
  replace hb1 : Bk w1 xb 31 x.cells := hb1
  refine OW.val rfl rfl (EX.load Try.underlying5 rfl rfl (hb1.cell_of rfl)) ?_
  refine OW.val rfl rfl (EX.fieldAddr (off := 1) Try.underlying31 rfl rfl ti3 rfl rfl) ?_
  refine OW.val rfl rfl (EX.load Try.underlying3 rfl rfl (hb1.cell_of rfl)) ?_
  refine OW.val rfl rfl (EX.fieldAddr (off := 2) Try.underlying31 rfl rfl ti3 rfl rfl) ?_
  refine OW.val rfl rfl (EX.load Try.underlying3 rfl rfl (hb1.cell_of rfl)) ?_
  refine OW.val rfl rfl (EX.fieldAddr (off := 3) Try.underlying31 rfl rfl ti9 rfl rfl) ?_
  refine OW.val rfl rfl (EX.load Try.underlying9 rfl rfl (hb1.cell_of rfl)) ?_
  refine OW.call rfl rfl rfl (encode_s x.kind hk x.gen x.index x.data (by omega) w1) ?_
  rintro _ w2 ⟨rfl, hx2⟩
  refine OW.val rfl rfl (EX.move rfl) ?_
  refine OW.val rfl rfl (EX.extract rfl rfl) ?_
  refine OW.val rfl rfl (EX.extract rfl rfl) ?_
  refine OW.val rfl rfl (EX.assign rfl) ?_
  refine OW.val rfl rfl (EX.assign rfl) ?_
  refine OW.nil ?_
  refine KW.seq (KW.seq ?_)
  have x2 := hx1.trans hx2
  rcases he : encodeR x.kind x.gen x.index x.data with ⟨t, e⟩
  refine KW.region ?_
  refine OW.val rfl rfl (EX.move rfl) ?_
  refine OW.val rfl rfl (by first | exact EX.neqN (b := 0) rfl rfl | exact EX.neqZ rfl rfl) ?_
  refine OW.val rfl rfl (EX.move rfl) ?_
  refine OW.splitD 26 rfl (fun a1 => ?_) (fun a1 => ?_)
  · refine OW.pass rfl rfl ?_
    refine OW.pass rfl rfl ?_
    refine OW.val rfl rfl (EX.pickT rfl rfl) ?_
    refine OW.val rfl rfl (EX.move rfl) ?_
    refine OW.pass rfl rfl ?_
    refine OW.pass rfl rfl ?_
    refine OW.val rfl rfl (EX.pickT rfl rfl) ?_
    refine OW.val rfl rfl (EX.move rfl) ?_
    refine OW.pass rfl rfl ?_
    refine OW.pass rfl rfl ?_
    refine OW.val rfl rfl (EX.pickT rfl rfl) ?_
    refine OW.nil ?_
    refine KW.condT rfl (KW.seq (KW.region ?_))
    refine OW.call rfl rfl rfl (awake_s w2) ?_
    rintro _ w3 ⟨rfl, hx3⟩
    refine OW.val rfl rfl (EX.assign rfl) ?_
    refine OW.nil ?_
    refine KW.ret (ret1 rfl rfl ?_)
    exact ⟨rfl, x2.trans hx3⟩
  · obtain rfl : e = 0 := by omega
    obtain ⟨ht, hdl⟩ := enc_text he
    have htl : t.length = 512 := by rw [ht, text_length _ _ _ _ hdl]
    refine OW.val rfl rfl (EX.move rfl) ?_
    refine OW.val rfl rfl (by first | exact EX.lssN (b := 0) rfl rfl | exact EX.lssZ rfl rfl) ?_
    refine OW.val rfl rfl (EX.pickF rfl rfl) ?_
    refine OW.val rfl rfl (EX.move rfl) ?_
    refine OW.splitD 30 rfl (fun a2 => ?_) (fun a2 => ?_)
    · refine OW.pass rfl rfl ?_
      refine OW.pass rfl rfl ?_
      refine OW.val rfl rfl (EX.pickT rfl rfl) ?_
      refine OW.val rfl rfl (EX.move rfl) ?_
      refine OW.pass rfl rfl ?_
      refine OW.pass rfl rfl ?_
      refine OW.val rfl rfl (EX.pickT rfl rfl) ?_
      refine OW.nil ?_
      refine KW.condT rfl (KW.seq (KW.region ?_))
      refine OW.call rfl rfl rfl (awake_s w2) ?_
      rintro _ w3 ⟨rfl, hx3⟩
      refine OW.val rfl rfl (EX.assign rfl) ?_
      refine OW.nil ?_
      refine KW.ret (ret1 rfl rfl ?_)
      exact ⟨rfl, x2.trans hx3⟩
    · refine OW.val rfl rfl (EX.move rfl) ?_
      refine OW.val rfl rfl (by first | exact EX.geqN (b := 512) rfl rfl | exact EX.geqZ rfl rfl) ?_
      refine OW.val rfl rfl (EX.pickF rfl rfl) ?_
      refine OW.val rfl rfl (EX.move rfl) ?_
      refine OW.splitD 34 rfl (fun a3 => ?_) (fun a3 => ?_)
      · refine OW.pass rfl rfl ?_
        refine OW.pass rfl rfl ?_
        refine OW.val rfl rfl (EX.pickT rfl rfl) ?_
        refine OW.nil ?_
        refine KW.condT rfl (KW.seq (KW.region ?_))
        refine OW.call rfl rfl rfl (awake_s w2) ?_
        rintro _ w3 ⟨rfl, hx3⟩
        refine OW.val rfl rfl (EX.assign rfl) ?_
        refine OW.nil ?_
        refine KW.ret (ret1 rfl rfl ?_)
        exact ⟨rfl, x2.trans hx3⟩
      · refine OW.val rfl rfl (EX.move rfl) ?_
        refine OW.val rfl rfl (by first | exact EX.eqlN (b := 0) rfl rfl | exact EX.eqlZ rfl rfl) ?_
        refine OW.val rfl rfl (EX.pickF rfl rfl) ?_
        refine OW.nil ?_
        refine KW.condD rfl (fun a4 => ?_) (fun a4 => ?_)
        · refine KW.seq (KW.region ?_)
          refine OW.call rfl rfl rfl (awake_s w2) ?_
          rintro _ w3 ⟨rfl, hx3⟩
          refine OW.val rfl rfl (EX.assign rfl) ?_
          refine OW.nil ?_
          refine KW.ret (ret1 rfl rfl ?_)
          exact ⟨rfl, x2.trans hx3⟩
        · obtain ⟨j, rfl⟩ := Int.eq_ofNat_of_zero_le (show 0 ≤ at_ by omega)
          have hj : j < t.length := by omega
          refine KW.skip (KW.seq (KW.seq (KW.region ?_)))
          refine OW.val rfl rfl (EX.move rfl) ?_
          refine OW.val rfl rfl (EX.lenS Try.underlying9 rfl) ?_
          refine OW.val rfl rfl (by first | exact EX.neqN (b := 512) rfl rfl | exact EX.neqZ rfl rfl) ?_
          refine OW.nil ?_
          refine KW.condD rfl (fun a5 => ?_) (fun a5 => ?_)
          · exact absurd htl a5
          · refine KW.skip (KW.seq (KW.region ?_))
            refine OW.val rfl rfl (EX.move rfl) ?_
            refine OW.bytesOf rfl rfl Try.underlying9 Try.underlying46 Try.underlying5 rfl (by omega) ?_
            rintro cap rs w3 hgb hc hmx hl hx3
            refine OW.val rfl rfl (EX.assign rfl) ?_
            refine OW.nil ?_
            refine KW.seq (KW.region ?_)
            refine OW.val rfl rfl (EX.move rfl) ?_
            refine OW.val rfl rfl (EX.move rfl) ?_
            refine OW.val rfl rfl (by first | exact EX.indexAddrS0 Try.underlying46 ti5 rfl rfl (by omega) | exact EX.indexAddrS1 Try.underlying46 ti5 rfl rfl (by omega)) ?_
            have hel : (bytesV t ++ rs)[j]? = some (.int .u8 ((t[j].toNat : Nat) : Int)) := by
              rw [List.getElem?_append_left (by simpa [bytesV] using hj)]
              simp [bytesV, hj]
            have hcj := (t[j]).toNat_lt
            have hxl : t[j].toNat ^^^ by_ < 256 := Nat.xor_lt_two_pow (n := 8) hcj (by omega)
            refine OW.val rfl rfl (EX.load Try.underlying5 rfl rfl (hgb.cell_of hel)) ?_
            refine OW.val rfl rfl (EX.move rfl) ?_
            refine OW.val rfl rfl (EX.xorN (m := 255) rfl rfl rfl (by omega)) ?_
            refine OW.val rfl rfl (by first | exact EX.indexAddrS0 Try.underlying46 ti5 rfl rfl (by omega) | exact EX.indexAddrS1 Try.underlying46 ti5 rfl rfl (by omega)) ?_
            refine OW.storeB rfl ti5 rfl rfl (by first | rfl | assumption | exact Own.one (by assumption)) (hgb) (by simp [bytesV]; omega) ?_
            rintro w4 hb4 hm4
            refine OW.nil ?_
            refine KW.seq (KW.region ?_)
            refine OW.val rfl rfl (EX.move rfl) ?_
            have hset : (bytesV t ++ rs).set j (.int .u8 ((t[j].toNat ^^^ by_ : Nat) : Int)) = bytesV (t.set j (UInt8.ofNat (t[j].toNat ^^^ by_))) ++ rs := by
              rw [List.set_append_left _ _ (by simpa [bytesV] using hj)]
              congr 1
              have : (UInt8.ofNat (t[j].toNat ^^^ by_)).toNat = t[j].toNat ^^^ by_ := by
                rw [UInt8.toNat_ofNat']
                exact Nat.mod_eq_of_lt hxl
              simp only [bytesV, List.map_set, this]
            rw [hset] at hb4
            have x3 : Ext w w3 := x2.trans hx3
            have x4 : Ext w w4 := below_mo x3 hm4 x3.size (fun k hk => by simp at hk; have := x2.size; omega)
            have hne : UInt8.ofNat (t[j].toNat ^^^ by_) ≠ t[j] := fun q => by
              have q2 := congrArg UInt8.toNat q
              rw [UInt8.toNat_ofNat', Nat.mod_eq_of_lt hxl] at q2
              have q3 : t[j].toNat ^^^ (t[j].toNat ^^^ by_) = t[j].toNat ^^^ t[j].toNat := by rw [q2]
              rw [← Nat.xor_assoc, Nat.xor_self, Nat.zero_xor] at q3
              omega
            have hturn := turned he hj hne
            refine OW.val rfl rfl (EX.strOf Try.underlying46 Try.underlying5 Try.underlying9 rfl (hb4.slp) (by simp)) ?_
            have hdc := decode_s (t.set j (UInt8.ofNat (t[j].toNat ^^^ by_))) w4
            rw [hturn] at hdc
            refine OW.call rfl rfl rfl (hdc) ?_
            rintro _ w5 ⟨rfl, hx5⟩
            refine OW.val rfl rfl (EX.move rfl) ?_
            refine OW.val rfl rfl (EX.extract rfl rfl) ?_
            refine OW.val rfl rfl (EX.extract rfl rfl) ?_
            refine OW.allocB (l := [.int .u8 0, .int .i64 0, .int .i64 0, str []]) rfl rfl ti31 rfl ?_
            rintro yb w6 hge6 hy6 hx6
            refine OW.storeS rfl ti31 rfl rfl rfl (by first | rfl | (simp only [List.all_cons, List.all_nil, Bool.and_true, Bool.true_and, Bool.and_eq_true, Value.oneCell']; repeat (first | assumption | exact Own.one (by assumption) | constructor))) (hy6) (Nat.le_refl _) ?_
            rintro w7 hy7 hm7
            refine OW.val rfl rfl (EX.assign rfl) ?_
            refine OW.nil ?_
            refine KW.seq ?_
            have x6 : Ext w w6 := (x4.trans hx5).trans hx6
            have x7 : Ext w w7 := below_mo x6 hm7 x6.size (fun k hk => by simp at hk; have := (x4.trans hx5).size; omega)
            refine KW.region ?_
            refine OW.val rfl rfl (EX.move rfl) ?_
            refine OW.val rfl rfl (by first | exact EX.eqlN (b := 200) rfl rfl | exact EX.eqlZ rfl rfl) ?_
            refine OW.val rfl rfl (EX.move rfl) ?_
            refine OW.as 59 (.bool true) rfl (congrArg Value.bool (decide_eq_true (rfl))) ?_
            refine OW.val rfl rfl (EX.loadBk Try.underlying31 rfl ti31 rfl (hy7) (rfl)) ?_
            refine OW.val rfl rfl (EX.buildS (pl := [(0, 1), (1, 1), (2, 1), (3, 1)]) (ks := []) (is := []) (zs := [.int .u8 0, .int .i64 0, .int .i64 0, str []]) Try.underlying31 ti31 (by kernel_rfl) rfl rfl rfl (by first | rfl | (simp only [List.all_cons, List.all_nil, Bool.and_true, Bool.true_and, Bool.and_eq_true, Value.oneCell']; repeat (first | assumption | exact Own.one (by assumption) | constructor))) (by simp only [setAll, List.set_cons_zero, List.set_cons_succ]; rfl)) ?_
            refine OW.val rfl rfl (EX.eqlG Try.underlying31 (by kernel_rfl) (by kernel_rfl) rfl rfl (.cons (by decide) Try.underlying5 rfl rfl rfl (eq_int Try.underlying5) (.cons (by decide) Try.underlying3 rfl rfl rfl (eq_int Try.underlying3) (.cons (by decide) Try.underlying3 rfl rfl rfl (eq_int Try.underlying3) (.cons (by decide) Try.underlying9 rfl rfl rfl (eq_str Try.underlying9) .nil)))) rfl) ?_
            refine OW.val rfl rfl (EX.pickT rfl rfl) ?_
            refine OW.val rfl rfl (EX.move rfl) ?_
            refine OW.as 64 (.bool true) rfl (by simp [R0]) ?_
            refine OW.call rfl rfl rfl (awake_s w7) ?_
            rintro _ w8 ⟨rfl, hx8⟩
            refine OW.val rfl rfl (EX.pickT rfl rfl) ?_
            refine OW.val rfl rfl (EX.assign rfl) ?_
            refine OW.nil ?_
            refine KW.ret (ret1 rfl rfl ?_)
            exact ⟨rfl, x7.trans hx8⟩
end Go.Proofs.Ytfjaiokhpbddlaa
