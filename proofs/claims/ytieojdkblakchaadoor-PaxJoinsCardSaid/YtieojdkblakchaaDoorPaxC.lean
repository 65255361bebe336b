/-
  pax: records are written.
-/
import Derived.Test.YtieojdkblakchaaDoorPaxB
namespace Go.Proofs.YtieojdkblakchaaDoor
open Go.RowKit Fld Pax
set_option linter.unusedVariables false
set_option linter.unusedSimpArgs false

theorem containsEq_c (s : List UInt8) (w : World) : Ret Tryd.prog 15 [str s, str [61]] w fun v w' => v = .bool (decide ((61 : UInt8) ∈ s)) ∧ w = w' := by
  refine (Ret.of_calls Tryd.func15 (by kernel_rfl) (Tryd.strings_Contains_one ⟨s.toArray⟩ 61 w)).mono ?_
  rintro v w' ⟨rfl, rfl⟩
  refine ⟨congrArg Value.bool (decide_eq_decide.2 ?_), rfl⟩
  rw [show (⟨s.toArray⟩ : ByteArray).data.toList = s from rfl]
  rcases indexByte_lt s 61 with ⟨h1, h2⟩ | ⟨i, h1, _, _, h2⟩
  · rw [h1]
    exact ⟨fun h => absurd h (by decide), fun h => absurd h h2⟩
  · rw [h1]
    exact ⟨fun _ => h2, fun _ => by omega⟩
theorem digits_nat (n : Nat) : digits (n : Int) = Lib.decDigits n := by
  unfold digits
  rw [if_neg (by omega)]
  rfl
theorem digitsN_s (n : Nat) (h1 : n ≤ 9223372036854775807) (w : World) (ht : Env w) : Ret Tryd.prog 16 [.int .i64 (n : Int)] w fun v w' => v = str (Lib.decDigits n) ∧ Ext w w' := by
  have := digits_s (n : Int) (by omega) (by omega) w ht.tab
  rwa [digits_nat] at this
theorem encL_cons (p : Pr) (l : List Pr) (n : Nat) (out : List UInt8) : encL (p :: l) n out = if 262144 < n + sizeP p then ([], 3) else encL l (n + sizeP p) (out ++ recT p) := rfl
theorem dl_le19 {n : Nat} (h : n ≤ 9223372036854775807) : dl n ≤ 19 := dl_le 19 n (by omega) (by decide)
theorem recT_len {p : Pr} (h : dl (sizeP p) = dOf (rest p)) : (recT p).length = sizeP p := by
  unfold recT
  simp only [List.length_append, List.length_singleton]
  unfold dl at h
  rw [h]
  unfold sizeP rest
  omega
theorem okK_iff (k : List UInt8) : okK k = true ↔ ¬ (k = [] ∨ (61 : UInt8) ∈ k) := by
  unfold okK
  rw [decide_eq_true_eq, not_or]
/-- pairs that can be written: they fit a machine -/
def OkP (l : List Pr) : Prop := ∀ p ∈ l, p.key.length ≤ 1000000000000 ∧ p.val.length ≤ 1000000000000
set_option maxRecDepth 20000 in
theorem encode_s (l : List Pr) (hl : l.length ≤ 140737488355328) (hok : OkP l) (A : Option Addr) (k B : Nat) (w : World) (hG : Env w) (hs : Sl w B A (prsV l)) :
    Ret Tryd.prog 10 [.slice A l.length k] w fun v w' => v = .tuple #[str (encP l).1, .int .i64 (((encP l).2 : Nat) : Int)] ∧ Ext w w' := by
  refine Ret.enter Tryd.func10 rfl Tryd.ntmps10 (by kernel_rfl) rfl ?_
  refine KW.seq (KW.region ?_)
  refine OW.val rfl rfl (EX.assign rfl) ?_
  refine OW.val rfl rfl (EX.assign rfl) ?_
  refine OW.nil ?_
  refine KW.seq (KW.region ?_)
  refine OW.val rfl rfl (EX.assign rfl) ?_
  refine OW.nil ?_
  refine KW.seq (KW.seq (KW.region ?_))
  refine OW.val rfl rfl (EX.move rfl) ?_
  refine OW.val rfl rfl (EX.lenA Tryd.underlying22 rfl) ?_
  refine OW.val rfl rfl (EX.move rfl) ?_
  refine OW.nil ?_
  refine KW.cut1 (fun (wr : World) => l.all (fun p => okK p.key) = true ∧ Ext w wr) (fun (wr : World) => [(0, .slice A l.length k), (4, .int .i64 ((0 : Nat) : Int))]) (fun (wr : World) => wr) ?_ ?_
  · refine KW.block ?_
    refine KW.loop2 (fun (i : Nat) (wr : World) => i ≤ l.length ∧ (l.take i).all (fun p => okK p.key) = true ∧ Ext w wr) (fun (i : Nat) (wr : World) => [(0, .slice A l.length k), (4, .int .i64 ((0 : Nat) : Int)), (12, .slice A l.length k), (13, .int .i64 ((l.length : Nat) : Int)), (14, .int .i64 ((i : Nat) : Int))]) (fun (i : Nat) (wr : World) => wr) (fun (i : Nat) (wr : World) => l.length - i) (0) (w) ⟨rfl, rfl, rfl, rfl, rfl, trivial⟩ rfl ?_ ?_
    · exact ⟨by omega, rfl, Ext.refl _⟩
    · rintro i wr ⟨hi, hall, hx⟩
      refine KW.seq (KW.region ?_)
      refine OW.val rfl rfl (by first | exact EX.lssN rfl rfl | exact EX.lssZ rfl rfl) ?_
      refine OW.nil ?_
      refine KW.seq ?_
      refine KW.condD rfl (fun hlt => ?_) (fun hlt => ?_)
      · obtain ⟨b, o, rfl, _, hcell⟩ := (hs.ext hx).flat (c := 2) (fun _ => rfl) (by decide) hlt
        have hsn : l.take (i + 1) = l.take i ++ [l[i]] := (List.take_append_getElem hlt).symm
        refine KW.skip (KW.seq (KW.block (KW.seq (KW.region ?_))))
        refine OW.val rfl rfl (EX.indexAddrS Tryd.underlying22 ti36 rfl rfl (by omega)) ?_
        refine OW.val rfl rfl (EX.loadA (l := (l[i]).cells) Tryd.underlying36 rfl ti36 rfl rfl hcell) ?_
        refine OW.allocB (l := [str [], str []]) rfl rfl ti36 rfl ?_
        rintro pb w1 hge1 hp1 hx1
        refine OW.storeS rfl ti36 rfl rfl rfl (by first | rfl | (simp only [List.all_cons, List.all_nil, Bool.and_true, Bool.true_and, Bool.and_eq_true, Value.oneCell']; repeat (first | assumption | exact Own.one (by assumption) | constructor))) (hp1) (Nat.le_refl _) ?_
        rintro w2 hp2 hm2
        refine OW.nil ?_
        refine KW.seq ?_
        replace hp2 : Bk w2 pb 36 (l[i]).cells := hp2
        have x2 : Ext w w2 := below_mo (hx.trans hx1) hm2 (hx.trans hx1).size (fun k hk => by simp at hk; have := hx.size; omega)
        have no : okK (l[i]).key = false → encP l = ([], 170) := fun h => by
          unfold encP
          rw [if_neg]
          intro h2
          rw [List.all_eq_true] at h2
          have := h2 l[i] (List.getElem_mem hlt)
          rw [h] at this
          cases this
        refine KW.region ?_
        refine OW.val rfl rfl (EX.fieldAddr (off := 0) Tryd.underlying36 rfl rfl ti9 rfl rfl) ?_
        refine OW.val rfl rfl (EX.load Tryd.underlying9 rfl rfl (hp2.cell_of rfl)) ?_
        refine OW.val rfl rfl (EX.eqlS (r := []) rfl rfl) ?_
        refine OW.val rfl rfl (EX.move rfl) ?_
        refine OW.splitD 21 rfl (fun h1 => ?_) (fun h1 => ?_)
        · refine OW.pass rfl rfl ?_
          refine OW.pass rfl rfl ?_
          refine OW.pass rfl rfl ?_
          refine OW.val rfl rfl (EX.pickT rfl rfl) ?_
          refine OW.nil ?_
          refine KW.condT rfl (KW.seq (KW.region ?_))
          refine OW.val rfl rfl (EX.assign rfl) ?_
          refine OW.val rfl rfl (EX.assign rfl) ?_
          refine OW.nil ?_
          refine KW.ret (ret2 rfl rfl rfl ?_)
          rw [no (by unfold okK; rw [h1]; simp)]
          exact ⟨rfl, x2⟩
        · refine OW.val rfl rfl (EX.fieldAddr (off := 0) Tryd.underlying36 rfl rfl ti9 rfl rfl) ?_
          refine OW.val rfl rfl (EX.load Tryd.underlying9 rfl rfl (hp2.cell_of rfl)) ?_
          refine OW.call rfl rfl rfl (containsEq_c (l[i]).key w2) ?_
          rintro _ _ ⟨rfl, rfl⟩
          refine OW.val rfl rfl (EX.pickF rfl rfl) ?_
          refine OW.nil ?_
          refine KW.condD rfl (fun h2 => ?_) (fun h2 => ?_)
          · refine KW.seq (KW.region ?_)
            refine OW.val rfl rfl (EX.assign rfl) ?_
            refine OW.val rfl rfl (EX.assign rfl) ?_
            refine OW.nil ?_
            refine KW.ret (ret2 rfl rfl rfl ?_)
            rw [no (by unfold okK; simp [h2])]
            exact ⟨rfl, x2⟩
          · refine KW.skip (KW.leave (KW.region ?_))
            refine OW.val rfl rfl (by first | exact EX.addN (b := 1) (m := 9223372036854775807) rfl rfl rfl (by omega) | exact EX.addZ (m := 9223372036854775807) rfl rfl rfl rfl (by omega)) ?_
            refine OW.val rfl rfl (EX.move rfl) ?_
            refine OW.nil ?_
            refine KW.back2 (i + 1) (w2) ⟨rfl, rfl, rfl, rfl, rfl, trivial⟩ rfl ?_ (by omega)
            refine ⟨by omega, ?_, x2⟩
            rw [hsn, List.all_append, hall]
            have : okK (l[i]).key = true := (okK_iff _).2 (by simp [h1, h2])
            simp [this]
      · obtain rfl : i = l.length := by omega
        rw [List.take_length] at hall
        refine KW.exit rfl ?_
        refine KW.meet1 (wr) ⟨rfl, rfl, trivial⟩ rfl ?_
        exact ⟨hall, hx⟩
  · rintro wr ⟨hall, hx⟩
    have e0 : encP l = encL l 0 [] := by unfold encP; rw [if_pos hall]
    rw [e0]
    refine KW.seq (KW.region ?_)
    refine OW.allocB (l := [.pointer none, .slice none 0 0]) rfl rfl ti44 rfl ?_
    rintro bb w1 hge1 hb1 hx1
    refine OW.nil ?_
    refine KW.seq (KW.seq (KW.region ?_))
    refine OW.val rfl rfl (EX.move rfl) ?_
    refine OW.val rfl rfl (EX.lenA Tryd.underlying22 rfl) ?_
    refine OW.val rfl rfl (EX.move rfl) ?_
    refine OW.nil ?_
    refine KW.block ?_
    have hbd := Bd.new (B := w.heap.size) (by have := hx.size; omega) hb1
    have x1 := hx.trans hx1
    refine KW.loop4 (fun (i : Nat) (n : Nat) (out : (List UInt8)) (wr : World) => i ≤ l.length ∧ n ≤ 262144 ∧ out.length ≤ n ∧ encL (l.drop i) n out = encL l 0 [] ∧ Bd wr w.heap.size bb out ∧ Ext w wr) (fun (i : Nat) (n : Nat) (out : (List UInt8)) (wr : World) => [(4, .int .i64 ((n : Nat) : Int)), (7, .pointer (some ⟨bb, 0, none⟩)), (27, .slice A l.length k), (28, .int .i64 ((l.length : Nat) : Int)), (29, .int .i64 ((i : Nat) : Int))]) (fun (i : Nat) (n : Nat) (out : (List UInt8)) (wr : World) => wr) (fun (i : Nat) (n : Nat) (out : (List UInt8)) (wr : World) => l.length - i) (0) (0) ([]) (w1) ⟨rfl, rfl, rfl, rfl, rfl, trivial⟩ rfl ?_ ?_
    · exact ⟨by omega, by omega, by simp, rfl, hbd, x1⟩
    · rintro i n out wr ⟨hi, hn, hol, he, hbd, hx⟩
      refine KW.seq (KW.region ?_)
      refine OW.val rfl rfl (by first | exact EX.lssN rfl rfl | exact EX.lssZ rfl rfl) ?_
      refine OW.nil ?_
      refine KW.seq ?_
      refine KW.condD rfl (fun hlt => ?_) (fun hlt => ?_)
      · obtain ⟨b, o, rfl, _, hcell⟩ := (hs.ext hx).flat (c := 2) (fun _ => rfl) (by decide) hlt
        have hdr : l.drop i = l[i] :: l.drop (i + 1) := List.drop_eq_getElem_cons hlt
        have hp := hok l[i] (List.getElem_mem hlt)
        have hpe : (l[i]).cells = [str (l[i]).key, str (l[i]).val] := rfl
        rw [hdr, encL_cons] at he
        generalize l[i] = p at hp he hcell hpe
        refine KW.skip (KW.seq (KW.block (KW.seq (KW.region ?_))))
        refine OW.val rfl rfl (EX.indexAddrS Tryd.underlying22 ti36 rfl rfl (by omega)) ?_
        refine OW.val rfl rfl (EX.loadA (l := p.cells) Tryd.underlying36 rfl ti36 rfl rfl hcell) ?_
        refine OW.allocB (l := [str [], str []]) rfl rfl ti36 rfl ?_
        rintro pb w2 hge2 hp2 hx2
        refine OW.storeS rfl ti36 rfl rfl rfl (by first | rfl | (simp only [List.all_cons, List.all_nil, Bool.and_true, Bool.true_and, Bool.and_eq_true, Value.oneCell']; repeat (first | assumption | exact Own.one (by assumption) | constructor))) (hp2) (Nat.le_refl _) ?_
        rintro w3 hp3 hm3
        refine OW.nil ?_
        refine KW.seq (KW.region ?_)
        refine OW.val rfl rfl (EX.fieldAddr (off := 0) Tryd.underlying36 rfl rfl ti9 rfl rfl) ?_
        replace hp3 : Bk w3 pb 36 p.cells := hp3
        have x3 : Ext wr w3 := below_mo hx2 hm3 hx2.size (fun k hk => by simp at hk; omega)
        refine OW.val rfl rfl (EX.load Tryd.underlying9 rfl rfl (hp3.cell_of rfl)) ?_
        refine OW.val rfl rfl (EX.lenS Tryd.underlying9 rfl) ?_
        refine OW.val rfl rfl (EX.fieldAddr (off := 1) Tryd.underlying36 rfl rfl ti9 rfl rfl) ?_
        refine OW.val rfl rfl (EX.load Tryd.underlying9 rfl rfl (hp3.cell_of rfl)) ?_
        refine OW.val rfl rfl (EX.lenS Tryd.underlying9 rfl) ?_
        refine OW.val rfl rfl (by first | exact EX.addN (m := 9223372036854775807) rfl rfl rfl (by omega) | exact EX.addZ (m := 9223372036854775807) rfl rfl rfl rfl (by omega)) ?_
        refine OW.val rfl rfl (by first | exact EX.addN (b := 3) (m := 9223372036854775807) rfl rfl rfl (by omega) | exact EX.addZ (m := 9223372036854775807) rfl rfl rfl rfl (by omega)) ?_
        refine OW.val rfl rfl (EX.assign rfl) ?_
        refine OW.nil ?_
        refine KW.seq (KW.region ?_)
        refine OW.val rfl rfl (EX.move rfl) ?_
        refine OW.val rfl rfl (by first | exact EX.addN (b := 1) (m := 9223372036854775807) rfl rfl rfl (by omega) | exact EX.addZ (m := 9223372036854775807) rfl rfl rfl rfl (by omega)) ?_
        refine OW.val rfl rfl (EX.assign rfl) ?_
        refine OW.nil ?_
        refine KW.seq (KW.block ?_)
        have hr : ((p.key.length : Nat) : Int) + ((p.val.length : Nat) : Int) + 3 = ((rest p : Nat) : Int) := by unfold rest; omega
        have hrl : rest p ≤ 2000000000003 := by unfold rest; omega
        refine KW.as 10 (.int .i64 (((rest p) : Nat) : Int)) rfl (congrArg (Value.int .i64) (by unfold rest; omega)) ?_
        refine KW.as 11 (.int .i64 (((rest p + 1) : Nat) : Int)) rfl (congrArg (Value.int .i64) (by unfold rest; omega)) ?_
        refine KW.loop2 (fun (z : Nat) (wq : World) => rest p + 1 ≤ z ∧ z ≤ rest p + 20 ∧ z ≤ dl z + rest p ∧ (∀ d, 1 ≤ d → d + rest p < z → dl (d + rest p) ≠ d) ∧ Ext w3 wq) (fun (z : Nat) (wq : World) => [(4, .int .i64 ((n : Nat) : Int)), (7, .pointer (some ⟨bb, 0, none⟩)), (9, .pointer (some ⟨pb, 0, none⟩)), (10, .int .i64 (((rest p) : Nat) : Int)), (11, .int .i64 ((z : Nat) : Int)), (27, .slice (some ⟨b, o, none⟩) l.length k), (28, .int .i64 ((l.length : Nat) : Int)), (29, .int .i64 ((i : Nat) : Int))]) (fun (z : Nat) (wq : World) => wq) (fun (z : Nat) (wq : World) => rest p + 21 - z) (rest p + 1) (w3) ⟨rfl, rfl, rfl, rfl, rfl, rfl, rfl, rfl, trivial⟩ rfl ?_ ?_
        · exact ⟨by omega, by omega, by have := dl_pos (rest p + 1); omega, fun d h1 h2 => by omega, Ext.refl _⟩
        · rintro z wq ⟨hz1, hz2, hz3, hz4, hxq⟩
          have hz5 : dl z ≤ 19 := dl_le19 (by omega)
          have xq := (hx.trans x3).trans hxq
          have c1 := digitsN_s z (by omega) wq (hG.ext xq)
          have hdz : (Lib.decDigits z).length = dl z := rfl
          generalize hD : Lib.decDigits z = D at c1 hdz
          refine KW.seq (KW.seq (KW.region ?_))
          refine OW.val rfl rfl (EX.move rfl) ?_
          refine OW.call rfl rfl rfl (c1) ?_
          rintro _ w4 ⟨rfl, hx4⟩
          refine OW.val rfl rfl (EX.lenS Tryd.underlying9 rfl) ?_
          refine OW.val rfl rfl (EX.move rfl) ?_
          refine OW.val rfl rfl (by first | exact EX.addN (m := 9223372036854775807) rfl rfl rfl (by omega) | exact EX.addZ (m := 9223372036854775807) rfl rfl rfl rfl (by omega)) ?_
          refine OW.val rfl rfl (EX.move rfl) ?_
          refine OW.val rfl rfl (by first | exact EX.neqN rfl rfl | exact EX.neqZ rfl rfl) ?_
          refine OW.nil ?_
          refine KW.condD rfl (fun hne => ?_) (fun hne => ?_)
          · have c2 := digitsN_s z (by omega) w4 (hG.ext (xq.trans hx4))
            rw [hD] at c2
            refine KW.skip (KW.block (KW.region ?_))
            refine OW.val rfl rfl (EX.move rfl) ?_
            refine OW.call rfl rfl rfl (c2) ?_
            rintro _ w5 ⟨rfl, hx5⟩
            refine OW.val rfl rfl (EX.lenS Tryd.underlying9 rfl) ?_
            refine OW.val rfl rfl (EX.move rfl) ?_
            refine OW.val rfl rfl (by first | exact EX.addN (m := 9223372036854775807) rfl rfl rfl (by omega) | exact EX.addZ (m := 9223372036854775807) rfl rfl rfl rfl (by omega)) ?_
            refine OW.val rfl rfl (EX.assign rfl) ?_
            refine OW.nil ?_
            refine KW.leave ?_
            refine KW.as 11 (.int .i64 (((dl z + rest p) : Nat) : Int)) rfl (congrArg (Value.int .i64) (by omega)) ?_
            refine KW.back2 (dl z + rest p) (w5) ⟨rfl, rfl, rfl, rfl, rfl, rfl, rfl, rfl, trivial⟩ rfl ?_ (by omega)
            refine ⟨by omega, by omega, ?_, ?_, (hxq.trans hx4).trans hx5⟩
            · have := dl_mono z (dl z + rest p) hz3
              omega
            · intro d h1 h2 h3
              by_cases h4 : d + rest p < z
              · exact hz4 d h1 h4 h3
              · have := dl_mono z (d + rest p) (by omega)
                omega
          · have hzz : dl z + rest p = z := by omega
            have hd : IsD (rest p) (dl z) := by
              refine ⟨dl_pos z, by omega, by rw [hzz], fun d' h1 h2 => hz4 d' h1 (by omega)⟩
            have hdo := isD_val hd
            have hsz : sizeP p = z := by unfold sizeP; rw [← hdo]; exact hzz
            have hrt := recT_len (p := p) (by rw [hsz, ← hdo])
            have hrT : recT p = D ++ [32] ++ p.key ++ [61] ++ p.val ++ [10] := by unfold recT; rw [hsz, hD]
            rw [hsz] at hrt he
            refine KW.exit rfl (KW.seq (KW.seq (KW.region ?_)))
            refine OW.val rfl rfl (EX.move rfl) ?_
            refine OW.val rfl rfl (EX.move rfl) ?_
            refine OW.val rfl rfl (by first | exact EX.addN (m := 9223372036854775807) rfl rfl rfl (by omega) | exact EX.addZ (m := 9223372036854775807) rfl rfl rfl rfl (by omega)) ?_
            refine OW.val rfl rfl (EX.assign rfl) ?_
            refine OW.nil ?_
            refine KW.seq (KW.region ?_)
            refine OW.val rfl rfl (EX.move rfl) ?_
            refine OW.val rfl rfl (by first | exact EX.gtrN (b := 262144) rfl rfl | exact EX.gtrZ rfl rfl) ?_
            refine OW.nil ?_
            refine KW.condD rfl (fun hbig => ?_) (fun hbig => ?_)
            · rw [if_pos (by omega)] at he
              refine KW.seq (KW.region ?_)
              refine OW.val rfl rfl (EX.assign rfl) ?_
              refine OW.val rfl rfl (EX.assign rfl) ?_
              refine OW.nil ?_
              refine KW.ret (ret2 rfl rfl rfl ?_)
              rw [← he]
              exact ⟨rfl, xq.trans hx4⟩
            · rw [if_neg (by omega)] at he
              have hp4 := (hp3.ext hxq).ext hx4
              have hbd4 := ((hbd.ext x3).ext hxq).ext hx4
              have x4 := xq.trans hx4
              have c3 := digitsN_s z (by omega) w4.drew (hG.ext (x4.trans (Ext.drew w4)))
              rw [hD] at c3
              refine KW.skip (KW.regionG (N := 12) (fun w' => Bk w' pb 36 p.cells) (by kernel_rfl) rfl ?_)
              have hS := hp4.drew
              refine GW.val 0 rfl (by kernel_rfl) (by kernel_rfl) (by kernel_rfl) rfl rfl hS (fun w' hS' => EX.move rfl) ?_
              refine GW.val 3 rfl (by kernel_rfl) (by kernel_rfl) (by kernel_rfl) rfl rfl hS (fun w' hS' => EX.fieldAddr (off := 0) Tryd.underlying36 rfl rfl ti9 rfl rfl) ?_
              refine GW.val 4 rfl (by kernel_rfl) (by kernel_rfl) (by kernel_rfl) rfl rfl hS (fun w' hS' => EX.load Tryd.underlying9 rfl rfl (hS'.cell_of rfl)) ?_
              refine GW.val 7 rfl (by kernel_rfl) (by kernel_rfl) (by kernel_rfl) rfl rfl hS (fun w' hS' => EX.fieldAddr (off := 1) Tryd.underlying36 rfl rfl ti9 rfl rfl) ?_
              refine GW.val 8 rfl (by kernel_rfl) (by kernel_rfl) (by kernel_rfl) rfl rfl hS (fun w' hS' => EX.load Tryd.underlying9 rfl rfl (hS'.cell_of rfl)) ?_
              refine GW.call 1 rfl (by kernel_rfl) rfl rfl rfl (c3) ?_
              rintro _ w5 ⟨rfl, hx5⟩
              refine ⟨hS.ext hx5, fun hS => ?_⟩
              refine GW.val 2 rfl (by kernel_rfl) (by kernel_rfl) (by kernel_rfl) rfl rfl hS (fun w' hS' => EX.addS (r := [32]) rfl rfl (by first | omega | (simp only [List.length_append, List.length_cons, List.length_nil, List.length_take, List.length_drop, List.length_replicate]; omega))) ?_
              refine GW.val 5 rfl (by kernel_rfl) (by kernel_rfl) (by kernel_rfl) rfl rfl hS (fun w' hS' => EX.addS rfl rfl (by first | omega | (simp only [List.length_append, List.length_cons, List.length_nil, List.length_take, List.length_drop, List.length_replicate]; omega))) ?_
              refine GW.val 6 rfl (by kernel_rfl) (by kernel_rfl) (by kernel_rfl) rfl rfl hS (fun w' hS' => EX.addS (r := [61]) rfl rfl (by first | omega | (simp only [List.length_append, List.length_cons, List.length_nil, List.length_take, List.length_drop, List.length_replicate]; omega))) ?_
              refine GW.val 9 rfl (by kernel_rfl) (by kernel_rfl) (by kernel_rfl) rfl rfl hS (fun w' hS' => EX.addS rfl rfl (by first | omega | (simp only [List.length_append, List.length_cons, List.length_nil, List.length_take, List.length_drop, List.length_replicate]; omega))) ?_
              refine GW.val 10 rfl (by kernel_rfl) (by kernel_rfl) (by kernel_rfl) rfl rfl hS (fun w' hS' => EX.addS (r := [10]) rfl rfl (by first | omega | (simp only [List.length_append, List.length_cons, List.length_nil, List.length_take, List.length_drop, List.length_replicate]; omega))) ?_
              have hbd5 := (hbd4.ext (Ext.drew w4)).ext hx5
              have x5 := (x4.trans (Ext.drew w4)).trans hx5
              refine GW.call 11 rfl (by kernel_rfl) rfl rfl rfl (writeString_t w.heap.size bb out (D ++ [32] ++ p.key ++ [61] ++ p.val ++ [10]) w5 hbd5 (by simp) (by rw [← hrT]; omega) x5.size) ?_
              rintro _ w6 ⟨⟨q, rfl⟩, hbd6, hbl6, htm6⟩
              refine ⟨htm6.bk hS (by decide), fun hS => ?_⟩
              refine GW.done (by kernel_rfl) ?_
              refine KW.leave (KW.region ?_)
              refine OW.val rfl rfl (by first | exact EX.addN (b := 1) (m := 9223372036854775807) rfl rfl rfl (by omega) | exact EX.addZ (m := 9223372036854775807) rfl rfl rfl rfl (by omega)) ?_
              refine OW.val rfl rfl (EX.move rfl) ?_
              refine OW.nil ?_
              rw [← hrT] at hbd6
              refine KW.as 4 (.int .i64 (((n + z) : Nat) : Int)) rfl (congrArg (Value.int .i64) (by omega)) ?_
              refine KW.back4 (i + 1) (n + z) (out ++ recT p) (w6) ⟨rfl, rfl, rfl, rfl, rfl, trivial⟩ rfl ?_ (by omega)
              refine ⟨by omega, by omega, by rw [List.length_append]; omega, he, hbd6, Tm.below x5 htm6 x5.size (Nat.le_refl _)⟩
      · obtain rfl : i = l.length := by omega
        rw [List.drop_length] at he
        have e2 : encL l 0 [] = (out, 0) := he.symm
        rw [e2]
        refine KW.exit rfl (KW.seq (KW.region ?_))
        refine OW.call rfl rfl rfl (bstring_b w.heap.size bb out wr hbd (by omega) hx.size) ?_
        rintro _ w2 ⟨rfl, hx2⟩
        refine OW.val rfl rfl (EX.assign rfl) ?_
        refine OW.val rfl rfl (EX.assign rfl) ?_
        refine OW.nil ?_
        refine KW.ret (ret2 rfl rfl rfl ?_)
        exact ⟨rfl, Below.trans hx hx2⟩
end Go.Proofs.YtieojdkblakchaaDoor
