/-
  crc: the reference's division.
-/
import Derived.Test.YtfjaiokhpbddlaaCrcB
namespace Go.Proofs.Ytfjaiokhpbddlaa
open Go.RowKit
set_option linter.unusedVariables false

theorem poly_s (w : World) : Ret Try.prog 59 [] w fun v w' => Own w' w.heap.size 3 1 v 33 (ints .i64 polyP) ∧ Ext w w' := by
  refine Ret.enter Try.func59 rfl Try.ntmps59 (by kernel_rfl) rfl ?_
  refine KW.seq (KW.region ?_)
  refine OW.val rfl rfl (EX.assign rfl) ?_
  refine OW.nil ?_
  refine KW.seq (KW.region ?_)
  refine OW.call rfl rfl rfl (bits_s 4374732215 33 (by omega) (by omega) _) ?_
  rintro _ w1 ⟨u, rfl, hown, hx⟩
  refine OW.val rfl rfl (EX.move rfl) ?_
  refine OW.val rfl rfl (EX.extract rfl rfl) ?_
  refine OW.val rfl rfl (EX.extract rfl rfl) ?_
  refine OW.val rfl rfl (EX.assign rfl) ?_
  refine OW.val rfl rfl (EX.assign rfl) ?_
  refine OW.nil ?_
  refine KW.seq (KW.region ?_)
  refine OW.val rfl rfl (EX.move rfl) ?_
  refine OW.val rfl rfl (EX.assign rfl) ?_
  refine OW.nil ?_
  refine KW.ret (ret1 rfl rfl ?_)
  exact ⟨hown, hx⟩

/-- a cell of a block whose head reads as numbers -/
theorem bk_int {w : World} {b : Nat} {T : TypeId} {l : List Nat} {rest : List Value} {kd : IntKind} (h : Bk w b T (ints kd l ++ rest)) {i : Nat} (hi : i < l.length) : w.cell? ⟨b, i, none⟩ = some (.int kd (l[i] : Nat)) :=
  h.cell_of (by rw [List.getElem?_append_left (by rw [ints_length]; exact hi)]; exact ints_get hi)
theorem ints_set (k : IntKind) (l : List Nat) (i x : Nat) : (ints k l).set i (.int k (x : Nat)) = ints k (l.set i x) := by
  simp [ints, List.map_set]
theorem bk_set {w : World} {b : Nat} {T : TypeId} {l : List Nat} {rest : List Value} {kd : IntKind} (h : Bk w b T (ints kd l ++ rest)) {i : Nat} (hi : i < l.length) (x : Nat) : Bk (w.setCell ⟨b, i, none⟩ (.int kd (x : Nat))) b T (ints kd (l.set i x) ++ rest) := by
  have := h.set i (.int kd (x : Nat))
  rw [List.set_append_left _ _ (by rw [ints_length]; exact hi), ints_set] at this
  exact this

theorem rest_s (l : List Nat) (A : Option Addr) (c : Nat) (hl : ∀ x ∈ l, x ≤ 1) (h32 : 32 ≤ l.length) (hn : l.length ≤ 10000000) (w : World) (B : Nat) (hs : Sl w B A (ints .i64 l)) :
    Ret Try.prog 58 [.slice A l.length c] w fun r w' => ∃ A' c', r = .slice A' 32 c' ∧ Sl w' w'.heap.size A' (ints .i64 (restN l)) ∧ Ext w w' := by
  refine Ret.enter Try.func58 rfl Try.ntmps58 (by kernel_rfl) rfl ?_
  refine KW.seq (KW.region ?_)
  refine OW.val rfl rfl (EX.assign rfl) ?_
  refine OW.nil ?_
  refine KW.seq (KW.region ?_)
  refine OW.call rfl rfl rfl (poly_s w) ?_
  rintro u w1 ⟨hpo, hx1⟩
  refine OW.val rfl rfl (EX.assign rfl) ?_
  refine OW.nil ?_
  refine KW.seq (KW.region ?_)
  refine OW.val rfl rfl (EX.buildSlice 0 Try.underlying85 ti3 rfl rfl rfl rfl rfl (by decide)) ?_
  refine OW.val rfl rfl (EX.move rfl) ?_
  have hemp := Own.of_bk (B := w.heap.size) (s := 1) (cap := 0) (Bk.new w1 3 []) hx1.size (by simp) (by simp only [maxLen]; omega)
  have hx2 : Ext w (w1.alloc (.cells [].toArray 3)) := hx1.trans (Ext.alloc _ _)
  refine OW.appendX rfl rfl Try.underlying85 ti3 rfl (by decide) rfl rfl (hx2) (hemp) (Src.of_sl Try.underlying85 ((hs.ext hx2)) (by rw [ints_length]; omega) ints_one (by decide)) (by simp only [maxLen]; omega) (by omega) ?_
  rintro v w2 hown hext hgr hob
  refine OW.val rfl rfl (EX.assign rfl) ?_
  refine OW.nil ?_
  refine KW.seq (KW.seq (KW.region ?_))
  refine OW.val rfl rfl (EX.assign rfl) ?_
  refine OW.nil ?_
  refine KW.block ?_
  obtain ⟨gv, capv, rv, rfl, hgB, hbv, hlv, hcv, hmv⟩ := hown.blk (by rw [List.length_append, ints_length]; omega)
  obtain ⟨gp, capp, rp, rfl, _, hbp, _⟩ := hpo.blk (by rw [ints_length, polyP_length]; omega)
  have hne : gp ≠ gv := by
    have h1 := hbp.lt
    rcases hob with h | h
    · simp [Value.ownBlock] at h; omega
    · simp [Value.ownBlock] at h; omega
  have hbp2 := (hbp.alloc (.cells [].toArray 3)).grown hgr (by simp [Value.ownBlock]; have := hbp.lt; omega)
  rw [List.nil_append] at hbv
  simp only [Nat.zero_add]
  refine KW.loop3 (fun (i : Nat) (d : List Nat) (wr : World) => i ≤ l.length - 32 ∧ d.length = l.length ∧ (∀ x ∈ d, x ≤ 1) ∧ divB (l.length - 32 - i) (d.drop i) = restN l ∧ Bk wr gv 3 (ints .i64 d ++ rv) ∧ Bk wr gp 3 (ints .i64 polyP ++ rp) ∧ Ext w wr) (fun (i : Nat) (d : List Nat) (wr : World) => [(3, .slice (some ⟨gp, 0, none⟩) 33 capp), (4, .slice (some ⟨gv, 0, none⟩) l.length capv), (5, .int .i64 ((i : Nat) : Int))]) (fun (i : Nat) (d : List Nat) (wr : World) => wr) (fun (i : Nat) (d : List Nat) (wr : World) => l.length - i) (0) (l) (w2) ⟨rfl, rfl, rfl, trivial⟩ rfl ?_ ?_
  · exact ⟨by omega, rfl, hl, rfl, hbv, hbp2, hext⟩
  · rintro i d wr ⟨hi, hdl, hd1, hdiv, hbv, hbp, hx⟩
    refine KW.seq (KW.seq (KW.region ?_))
    refine OW.val rfl rfl (EX.move rfl) ?_
    refine OW.val rfl rfl (by first | exact EX.addN (b := 32) (m := 9223372036854775807) rfl rfl rfl (by omega) | exact EX.addZ (m := 9223372036854775807) rfl rfl rfl rfl (by omega)) ?_
    refine OW.val rfl rfl (EX.move rfl) ?_
    refine OW.val rfl rfl (EX.lenA Try.underlying85 rfl) ?_
    refine OW.val rfl rfl (by first | exact EX.lssN rfl rfl | exact EX.lssZ rfl rfl) ?_
    refine OW.nil ?_
    refine KW.condD rfl (fun h => ?_) (fun h => ?_)
    · refine KW.skip (KW.seq (KW.block (KW.seq (KW.region ?_))))
      refine OW.val rfl rfl (EX.move rfl) ?_
      refine OW.val rfl rfl (EX.move rfl) ?_
      refine OW.val rfl rfl (by first | exact EX.indexAddrS0 Try.underlying85 ti3 rfl rfl (by omega) | exact EX.indexAddrS1 Try.underlying85 ti3 rfl rfl (by omega)) ?_
      have hid : i < d.length := by omega
      refine OW.val rfl rfl (EX.load Try.underlying3 rfl rfl (bk_int hbv hid)) ?_
      refine OW.val rfl rfl (by first | exact EX.eqlN (b := 1) rfl rfl | exact EX.eqlZ rfl rfl) ?_
      refine OW.nil ?_
      have hdrop : d.drop i = d[i] :: d.drop (i + 1) := List.drop_eq_getElem_cons hid
      have hdiv2 : divB (l.length - 32 - (i + 1)) (divStep (d.drop i)) = restN l := by
        rw [show l.length - 32 - i = (l.length - 32 - (i + 1)) + 1 by omega, divB] at hdiv
        exact hdiv
      refine KW.condD rfl (fun h1 => ?_) (fun h1 => ?_)
      · refine KW.seq (KW.region ?_)
        refine OW.val rfl rfl (EX.assign rfl) ?_
        refine OW.nil ?_
        refine KW.block ?_
        refine KW.loop3 (fun (k : Nat) (e : List Nat) (w3 : World) => k ≤ 33 ∧ e.length = l.length ∧ (∀ j, e[j]? = (d[j]?).map fun x => if i ≤ j ∧ j < i + k then (x + polyP.getD (j - i) 0) % 2 else x) ∧ Bk w3 gv 3 (ints .i64 e ++ rv) ∧ Bk w3 gp 3 (ints .i64 polyP ++ rp) ∧ Ext w w3) (fun (k : Nat) (e : List Nat) (w3 : World) => [(3, .slice (some ⟨gp, 0, none⟩) 33 capp), (4, .slice (some ⟨gv, 0, none⟩) l.length capv), (5, .int .i64 ((i : Nat) : Int)), (6, .int .i64 ((k : Nat) : Int))]) (fun (k : Nat) (e : List Nat) (w3 : World) => w3) (fun (k : Nat) (e : List Nat) (w3 : World) => 33 - k) (0) (d) (wr) ⟨rfl, rfl, rfl, rfl, trivial⟩ rfl ?_ ?_
        · refine ⟨by omega, hdl, fun j => ?_, hbv, hbp, hx⟩
          have : ∀ x, (if i ≤ j ∧ j < i + 0 then (x + polyP.getD (j - i) 0) % 2 else x) = x := fun x => if_neg (by omega)
          simp only [this]
          simp
        · rintro k e w3 ⟨hk, hel, he, hbv3, hbp3, hx3⟩
          refine KW.seq (KW.seq (KW.region ?_))
          refine OW.val rfl rfl (EX.move rfl) ?_
          refine OW.val rfl rfl (by first | exact EX.lssN (b := 33) rfl rfl | exact EX.lssZ rfl rfl) ?_
          refine OW.nil ?_
          refine KW.condD rfl (fun h33 => ?_) (fun h33 => ?_)
          · refine KW.skip (KW.seq (KW.block ?_))
            refine KW.regionH 17 (by kernel_rfl) (by kernel_rfl) ?_
            refine HW.val rfl rfl (EX.move rfl) ?_
            refine HW.val rfl rfl (EX.move rfl) ?_
            refine HW.val rfl rfl (EX.move rfl) ?_
            refine HW.val rfl rfl (by first | exact EX.addN (m := 9223372036854775807) rfl rfl rfl (by omega) | exact EX.addZ (m := 9223372036854775807) rfl rfl rfl rfl (by omega)) ?_
            refine HW.val rfl rfl (EX.move rfl) ?_
            refine HW.val rfl rfl (EX.move rfl) ?_
            refine HW.val rfl rfl (EX.move rfl) ?_
            refine HW.val rfl rfl (by first | exact EX.addN (m := 9223372036854775807) rfl rfl rfl (by omega) | exact EX.addZ (m := 9223372036854775807) rfl rfl rfl rfl (by omega)) ?_
            refine HW.val rfl rfl (by first | exact EX.indexAddrS0 Try.underlying85 ti3 rfl rfl (by omega) | exact EX.indexAddrS1 Try.underlying85 ti3 rfl rfl (by omega)) ?_
            have hik : i + k < e.length := by omega
            have hkp : k < polyP.length := by rw [polyP_length]; exact h33
            have hek : e[i + k] = d[i + k] := by
              have := he (i + k)
              rw [List.getElem?_eq_getElem hik, List.getElem?_eq_getElem (by omega)] at this
              simpa using this
            have hd2 : d[i + k] ≤ 1 := hd1 _ (by simp)
            have hp2 : polyP[k] ≤ 1 := polyP_le _ (by simp)
            refine HW.val rfl rfl (EX.load Try.underlying3 rfl rfl (bk_int (hbv3.drew) hik)) ?_
            refine HW.val rfl rfl (EX.move rfl) ?_
            refine HW.val rfl rfl (EX.move rfl) ?_
            refine HW.val rfl rfl (by first | exact EX.indexAddrS0 Try.underlying85 ti3 rfl rfl (by omega) | exact EX.indexAddrS1 Try.underlying85 ti3 rfl rfl (by omega)) ?_
            refine HW.val rfl rfl (EX.load Try.underlying3 rfl rfl (bk_int (hbp3.drew) hkp)) ?_
            refine HW.val rfl rfl (by first | exact EX.addN (m := 9223372036854775807) rfl rfl rfl (by omega) | exact EX.addZ (m := 9223372036854775807) rfl rfl rfl rfl (by omega)) ?_
            refine HW.val rfl rfl (EX.remN (b := 2) rfl rfl (by omega)) ?_
            refine HW.val rfl rfl (by first | exact EX.indexAddrS0 Try.underlying85 ti3 rfl rfl (by omega) | exact EX.indexAddrS1 Try.underlying85 ti3 rfl rfl (by omega)) ?_
            refine HW.tail ?_
            refine OW.eff rfl (EU.storeBk ti3 rfl rfl rfl (hbv3.drew) (by simp [ints_length]; omega)) ?_
            refine OW.nil ?_
            refine KW.leave (KW.region ?_)
            refine OW.val rfl rfl (EX.move rfl) ?_
            refine OW.val rfl rfl (by first | exact EX.addN (b := 1) (m := 9223372036854775807) rfl rfl rfl (by omega) | exact EX.addZ (m := 9223372036854775807) rfl rfl rfl rfl (by omega)) ?_
            refine OW.val rfl rfl (EX.assign rfl) ?_
            refine OW.nil ?_
            refine KW.back3 (k + 1) (e.set (i + k) ((e[i + k] + polyP[k]) % 2)) (_) ⟨rfl, rfl, rfl, rfl, trivial⟩ rfl ?_ (by omega)
            refine ⟨by omega, by simpa using hel, fun j => ?_, bk_set hbv3.drew hik _, hbp3.drew.far (p := ⟨gv, i + k, none⟩) hne _, (Below.drew hx3).setCell (p := ⟨gv, i + k, none⟩) hgB _⟩
            rcases Nat.decEq j (i + k) with hj | hj
            · rw [List.getElem?_set_ne (by omega), he j]
              congr 1
              funext x
              by_cases hc : i ≤ j ∧ j < i + k
              · rw [if_pos hc, if_pos (by omega)]
              · rw [if_neg hc, if_neg (by omega)]
            · subst hj
              rw [List.getElem?_set_self (by omega), List.getElem?_eq_getElem (by omega)]
              simp only [Option.map_some]
              rw [if_pos (by omega), hek, show i + k - i = k by omega]
              simp [List.getD, hkp]
          · refine KW.exit rfl (KW.leave (KW.region ?_))
            refine OW.val rfl rfl (EX.move rfl) ?_
            refine OW.val rfl rfl (by first | exact EX.addN (b := 1) (m := 9223372036854775807) rfl rfl rfl (by omega) | exact EX.addZ (m := 9223372036854775807) rfl rfl rfl rfl (by omega)) ?_
            refine OW.val rfl rfl (EX.assign rfl) ?_
            refine OW.nil ?_
            obtain rfl : k = 33 := by omega
            refine KW.back3 (i + 1) (e) (w3) ⟨rfl, rfl, rfl, trivial⟩ rfl ?_ (by omega)
            have hadd : e.drop i = addP (d.drop i) polyP := addP_part (by rw [polyP_length]; exact he)
            refine ⟨by omega, hel, fun x hxm => ?_, ?_, hbv3, hbp3, hx3⟩
            · obtain ⟨j, hj, rfl⟩ := List.mem_iff_getElem.1 hxm
              have hjj := he j
              rw [List.getElem?_eq_getElem hj, List.getElem?_eq_getElem (by omega)] at hjj
              simp only [Option.map_some, Option.some.injEq] at hjj
              have := hd1 d[j] (by simp)
              rw [hjj]
              split <;> omega
            · have : e.drop (i + 1) = divStep (d.drop i) := by
                rw [← List.tail_drop, hadd, hdrop]
                simp only [divStep, if_pos h1]
              rw [this]
              exact hdiv2
      · refine KW.skip (KW.leave (KW.region ?_))
        refine OW.val rfl rfl (EX.move rfl) ?_
        refine OW.val rfl rfl (by first | exact EX.addN (b := 1) (m := 9223372036854775807) rfl rfl rfl (by omega) | exact EX.addZ (m := 9223372036854775807) rfl rfl rfl rfl (by omega)) ?_
        refine OW.val rfl rfl (EX.assign rfl) ?_
        refine OW.nil ?_
        refine KW.back3 (i + 1) (d) (wr) ⟨rfl, rfl, rfl, trivial⟩ rfl ?_ (by omega)
        refine ⟨by omega, hdl, hd1, ?_, hbv, hbp, hx⟩
        rw [hdrop] at hdiv2
        simp only [divStep, if_neg h1] at hdiv2
        exact hdiv2
    · refine KW.exit rfl (KW.seq (KW.region ?_))
      refine OW.val rfl rfl (EX.move rfl) ?_
      refine OW.val rfl rfl (EX.move rfl) ?_
      refine OW.val rfl rfl (EX.lenA Try.underlying85 rfl) ?_
      refine OW.val rfl rfl (by first | exact EX.subN (b := 32) (m := 9223372036854775807) rfl rfl rfl (by omega) | exact EX.subZ (m := 9223372036854775807) rfl rfl rfl rfl (by omega)) ?_
      have hsl : Sl wr wr.heap.size (some ⟨gv, 0, none⟩) (ints .i64 d) := by
        have := (Sl.of_bk (B := wr.heap.size) hbv hbv.lt).pre (ints .i64 d).length
        rwa [List.take_left] at this
      refine OW.sliceALE rfl rfl Try.underlying85 ti3 rfl rfl (by omega) (by omega) hsl (by rw [ints_length]; exact hdl) ?_
      intro A' hs'
      refine OW.val rfl rfl (EX.assign rfl) ?_
      refine OW.nil ?_
      refine KW.ret (ret1 rfl rfl ?_)
      obtain rfl : i = l.length - 32 := by omega
      refine ⟨A', _, by rw [show l.length - (l.length - 32) = 32 by omega], ?_, hx⟩
      rw [Nat.sub_self, divB] at hdiv
      rw [← hdiv]
      have : (ints .i64 d).drop (l.length - 32) = ints .i64 (d.drop (l.length - 32)) := by simp [ints, List.map_drop]
      rw [← this]
      exact hs'

theorem rmore_s (r : Nat) (hr : r < 4294967296) (s : List UInt8) (hs : s.length ≤ 100000) (w : World) :
    Ret Try.prog 52 [.int .u32 r, str s] w fun v w' => v = .int .u32 (rmore r s : Nat) ∧ Ext w w' := by
  refine Ret.enter Try.func52 rfl Try.ntmps52 (by kernel_rfl) rfl ?_
  refine KW.seq (KW.region ?_)
  refine OW.val rfl rfl (EX.assign rfl) ?_
  refine OW.nil ?_
  refine KW.seq (KW.region ?_)
  refine OW.val rfl rfl (EX.move rfl) ?_
  refine OW.call rfl rfl rfl (of_s s (by omega) w) ?_
  rintro v w1 ⟨hown, hx1⟩
  refine OW.appendZ (m := 32) rfl rfl Try.underlying85 Try.underlying3 ti3 rfl rfl rfl (hx1) (hown) (by omega) (by simp only [maxLen]; omega) (by omega) ?_
  rintro v2 w2 hown2 hx2 _ _
  refine OW.val rfl rfl (EX.assign rfl) ?_
  refine OW.nil ?_
  refine KW.seq (KW.region ?_)
  refine OW.val rfl rfl (EX.move rfl) ?_
  refine OW.val rfl rfl (by first | exact EX.convN (m := 18446744073709551615) Try.underlying38 Try.underlying56 rfl rfl (by omega) | exact EX.convW (m := 18446744073709551616) Try.underlying38 Try.underlying56 rfl rfl (by decide) | exact EX.convZ Try.underlying38 Try.underlying56 rfl) ?_
  have hz : ints .i64 (bitsOf s) ++ List.replicate 32 (Value.int .i64 0) = ints .i64 (bitsOf s ++ List.replicate 32 0) := by simp [ints]
  rw [hz] at hown2
  generalize hq : bitsOf s ++ List.replicate 32 0 = q at hown2
  have hql : q.length = 8 * s.length + 32 := by rw [← hq, List.length_append, bitsOf_length]; simp
  have hq1 : ∀ x ∈ q, x ≤ 1 := by
    intro x hx
    rw [← hq] at hx
    rcases List.mem_append.1 hx with h | h
    · exact bitsOf_le _ x h
    · rw [(List.mem_replicate.1 h).2]; omega
  obtain ⟨gv, capv, rv, rfl, hgB, hbv, hlv, hcv, hmv⟩ := hown2.blk (by rw [ints_length]; omega)
  refine OW.call rfl rfl rfl (bits_s r 32 (by omega) (by omega) _) ?_
  rintro _ w3 ⟨u, rfl, hob, hx3⟩
  refine OW.val rfl rfl (EX.move rfl) ?_
  refine OW.val rfl rfl (EX.extract rfl rfl) ?_
  refine OW.val rfl rfl (EX.extract rfl rfl) ?_
  refine OW.val rfl rfl (EX.assign rfl) ?_
  refine OW.val rfl rfl (EX.assign rfl) ?_
  refine OW.nil ?_
  refine KW.seq (KW.seq (KW.region ?_))
  refine OW.val rfl rfl (EX.assign rfl) ?_
  refine OW.nil ?_
  refine KW.block ?_
  obtain ⟨gr, capr, rr, rfl, hgrB, hbr, _⟩ := hob.blk (by rw [ints_length, bitsN_length]; omega)
  have hne : gr ≠ gv := by have := hbv.lt; omega
  have hbv3 := hbv.ext hx3
  have hx03 : Ext w w3 := hx2.trans hx3
  refine KW.loop3 (fun (i : Nat) (d : List Nat) (wr : World) => i ≤ 32 ∧ d.length = q.length ∧ (∀ j, d[j]? = (q[j]?).map fun x => if 0 ≤ j ∧ j < 0 + i then (x + (bitsN 32 r).getD (j - 0) 0) % 2 else x) ∧ Bk wr gv 3 (ints .i64 d ++ rv) ∧ Bk wr gr 3 (ints .i64 (bitsN 32 r) ++ rr) ∧ Ext w wr) (fun (i : Nat) (d : List Nat) (wr : World) => [(5, .slice (some ⟨gv, 0, none⟩) (8 * s.length + 32) capv), (6, .slice (some ⟨gr, 0, none⟩) 32 capr), (8, .int .i64 ((i : Nat) : Int))]) (fun (i : Nat) (d : List Nat) (wr : World) => wr) (fun (i : Nat) (d : List Nat) (wr : World) => 32 - i) (0) (q) (w3) ⟨rfl, rfl, rfl, trivial⟩ rfl ?_ ?_
  · refine ⟨by omega, rfl, fun j => ?_, hbv3, hbr, hx03⟩
    have : ∀ x, (if 0 ≤ j ∧ j < 0 + 0 then (x + (bitsN 32 r).getD (j - 0) 0) % 2 else x) = x := fun x => if_neg (by omega)
    simp only [this]
    simp
  · rintro i d wr ⟨hi, hdl, hd, hbv, hbr, hx⟩
    refine KW.seq (KW.seq (KW.region ?_))
    refine OW.val rfl rfl (EX.move rfl) ?_
    refine OW.val rfl rfl (by first | exact EX.lssN (b := 32) rfl rfl | exact EX.lssZ rfl rfl) ?_
    refine OW.nil ?_
    refine KW.condD rfl (fun h => ?_) (fun h => ?_)
    · refine KW.skip (KW.seq (KW.block ?_))
      refine KW.regionH 13 (by kernel_rfl) (by kernel_rfl) ?_
      refine HW.val rfl rfl (EX.move rfl) ?_
      refine HW.val rfl rfl (EX.move rfl) ?_
      refine HW.val rfl rfl (EX.move rfl) ?_
      refine HW.val rfl rfl (EX.move rfl) ?_
      refine HW.val rfl rfl (by first | exact EX.indexAddrS0 Try.underlying85 ti3 rfl rfl (by omega) | exact EX.indexAddrS1 Try.underlying85 ti3 rfl rfl (by omega)) ?_
      have hid : i < d.length := by omega
      have hir : i < (bitsN 32 r).length := by rw [bitsN_length]; omega
      have hdi : d[i] = q[i] := by
        have := hd i
        rw [List.getElem?_eq_getElem hid, List.getElem?_eq_getElem (by omega)] at this
        simpa using this
      have h1 : q[i] ≤ 1 := hq1 _ (by simp)
      have h2 : (bitsN 32 r)[i] ≤ 1 := bitsN_le _ _ _ (List.getElem_mem _)
      refine HW.val rfl rfl (EX.load Try.underlying3 rfl rfl (bk_int (hbv.drew) hid)) ?_
      refine HW.val rfl rfl (EX.move rfl) ?_
      refine HW.val rfl rfl (EX.move rfl) ?_
      refine HW.val rfl rfl (by first | exact EX.indexAddrS0 Try.underlying85 ti3 rfl rfl (by omega) | exact EX.indexAddrS1 Try.underlying85 ti3 rfl rfl (by omega)) ?_
      refine HW.val rfl rfl (EX.load Try.underlying3 rfl rfl (bk_int (hbr.drew) hir)) ?_
      refine HW.val rfl rfl (by first | exact EX.addN (m := 9223372036854775807) rfl rfl rfl (by omega) | exact EX.addZ (m := 9223372036854775807) rfl rfl rfl rfl (by omega)) ?_
      refine HW.val rfl rfl (EX.remN (b := 2) rfl rfl (by omega)) ?_
      refine HW.val rfl rfl (by first | exact EX.indexAddrS0 Try.underlying85 ti3 rfl rfl (by omega) | exact EX.indexAddrS1 Try.underlying85 ti3 rfl rfl (by omega)) ?_
      refine HW.tail ?_
      refine OW.eff rfl (EU.storeBk ti3 rfl rfl rfl (hbv.drew) (by simp [ints_length]; omega)) ?_
      refine OW.nil ?_
      refine KW.leave (KW.region ?_)
      refine OW.val rfl rfl (EX.move rfl) ?_
      refine OW.val rfl rfl (by first | exact EX.addN (b := 1) (m := 9223372036854775807) rfl rfl rfl (by omega) | exact EX.addZ (m := 9223372036854775807) rfl rfl rfl rfl (by omega)) ?_
      refine OW.val rfl rfl (EX.assign rfl) ?_
      refine OW.nil ?_
      refine KW.back3 (i + 1) (d.set i ((d[i] + (bitsN 32 r)[i]) % 2)) (_) ⟨rfl, rfl, rfl, trivial⟩ rfl ?_ (by omega)
      refine ⟨by omega, by simpa using hdl, fun j => ?_, bk_set hbv.drew hid _, hbr.drew.far (p := ⟨gv, i, none⟩) hne _, (Below.drew hx).setCell (p := ⟨gv, i, none⟩) hgB _⟩
      rcases Nat.decEq j i with hj | hj
      · rw [List.getElem?_set_ne (by omega), hd j]
        congr 1
        funext x
        by_cases hc : j < i
        · rw [if_pos (by omega), if_pos (by omega)]
        · rw [if_neg (by omega), if_neg (by omega)]
      · subst hj
        rw [List.getElem?_set_self (by omega), List.getElem?_eq_getElem (by omega)]
        simp only [Option.map_some]
        rw [if_pos (by omega), hdi]
        simp [List.getD, List.getElem?_eq_getElem hir]
    · refine KW.exit rfl (KW.seq (KW.region ?_))
      refine OW.val rfl rfl (EX.move rfl) ?_
      obtain rfl : i = 32 := by omega
      have hadd : d = addP q (bitsN 32 r) := by
        have := addP_part (d := q) (e := d) (p := bitsN 32 r) (i := 0) (by rw [bitsN_length]; exact hd)
        simpa using this
      have hd1 : ∀ x ∈ d, x ≤ 1 := by rw [hadd]; exact addP_le _ _ hq1
      have hsl : Sl wr wr.heap.size (some ⟨gv, 0, none⟩) (ints .i64 d) := by
        have := (Sl.of_bk (B := wr.heap.size) hbv hbv.lt).pre (ints .i64 d).length
        rwa [List.take_left] at this
      have hrc := rest_s d (some ⟨gv, 0, none⟩) capv hd1 (by omega) (by omega) wr _ hsl
      rw [show d.length = 8 * s.length + 32 by omega] at hrc
      refine OW.call rfl rfl rfl (hrc) ?_
      rintro _ w4 ⟨A', c', rfl, hs4, hx4⟩
      have hl4 := restN_length d (by omega)
      have hnc := number_s (restN d) A' c' (restN_le d hd1) (by omega) w4 _ hs4
      rw [hl4] at hnc
      have hlt := numN_lt (restN d) (restN_le d hd1)
      rw [hl4, show 2 ^ 32 = 4294967296 by decide] at hlt
      refine OW.call rfl rfl rfl (hnc) ?_
      rintro _ _ ⟨rfl, rfl⟩
      refine OW.val rfl rfl (by first | exact EX.convN (m := 4294967295) Try.underlying56 Try.underlying38 rfl rfl (by omega) | exact EX.convW (m := 4294967296) Try.underlying56 Try.underlying38 rfl rfl (by decide) | exact EX.convZ Try.underlying56 Try.underlying38 rfl) ?_
      refine OW.val rfl rfl (EX.assign rfl) ?_
      refine OW.nil ?_
      refine KW.ret (ret1 rfl rfl ?_)
      refine ⟨?_, hx.trans hx4⟩
      rw [rmore, hq, ← hadd]

end Go.Proofs.Ytfjaiokhpbddlaa
