/-
  pax: the last pair with a key; lists of pairs are compared.
-/
import Derived.Test.YtieojdkblakchaaDoorKv
import Derived.Test.YtieojdkblakchaaDoorKu
import Derived.Test.YtieojdkblakchaaDoorBld
import Derived.Test.YtieojdkblakchaaDoorPaxD
namespace Go.Proofs.YtieojdkblakchaaDoor
open Go.RowKit Pax
set_option linter.unusedVariables false
set_option linter.unusedSimpArgs false

def _root_.Go.Proofs.YtieojdkblakchaaDoor.Pax.Pr.cells (p : Pr) : List Value := [str p.key, str p.val]
abbrev prsV (l : List Pr) : List Value := l.flatMap Pr.cells
theorem isKey_c (p : Pr) (kb : Nat) (key : List UInt8) (w : World) (hk : Bk w kb 9 [str key]) :
    Ret Tryd.prog 14 [.agg p.cells.toArray, .pointer (some ⟨kb, 0, none⟩)] w fun v w' => v = .bool (decide (p.key = key)) ∧ Ext w w' := by
  refine Ret.enter Tryd.func14 rfl Tryd.ntmps14 (by kernel_rfl) rfl ?_
  refine KW.seq (KW.region ?_)
  refine OW.boxS rfl rfl rfl ?_
  rintro pb w1 hge1 hp1 hx1
  refine OW.val rfl rfl (EX.assign rfl) ?_
  refine OW.nil ?_
  refine KW.seq (KW.region ?_)
  refine OW.val rfl rfl (EX.fieldAddr (off := 0) Tryd.underlying36 rfl rfl ti9 rfl rfl) ?_
  replace hp1 : Bk w1 pb 36 p.cells := hp1
  have hk1 := hk.ext hx1
  refine OW.val rfl rfl (EX.load Tryd.underlying9 rfl rfl (hp1.cell_of rfl)) ?_
  refine OW.val rfl rfl (EX.load Tryd.underlying9 rfl rfl (hk1.cell_of rfl)) ?_
  refine OW.val rfl rfl (EX.eqlS rfl rfl) ?_
  refine OW.val rfl rfl (EX.assign rfl) ?_
  refine OW.nil ?_
  refine KW.ret (ret1 rfl rfl ?_)
  exact ⟨rfl, hx1⟩
set_option maxRecDepth 20000 in
theorem lastG_s (l : List Pr) (hl : l.length ≤ 140737488355328) (A : Option Addr) (k B : Nat) (kb : Nat) (key : List UInt8) (w : World) (hs : Sl w B A (prsV l)) (hk : Bk w kb 9 [str key]) :
    Ret Tryd.prog 13 [.slice A l.length k, .func (.func 14) #[] #[.pointer (some ⟨kb, 0, none⟩)]] w fun v w' => ∃ p : Pr, v = .tuple #[.agg p.cells.toArray, .bool (lastP l key).2] ∧ p.val = (lastP l key).1 ∧ Ext w w' := by
  refine Ret.enter Tryd.func13 rfl Tryd.ntmps13 (by kernel_rfl) rfl ?_
  refine KW.seq (KW.region ?_)
  refine OW.allocB (l := [str [], str []]) rfl rfl ti36 rfl ?_
  rintro rb w1 hge1 hr1 hx1
  refine OW.val rfl rfl (EX.assign rfl) ?_
  refine OW.nil ?_
  refine KW.seq (KW.seq (KW.region ?_))
  refine OW.val rfl rfl (EX.move rfl) ?_
  refine OW.val rfl rfl (EX.lenA Tryd.underlying22 rfl) ?_
  refine OW.val rfl rfl (by first | exact EX.subN (b := 1) (m := 9223372036854775807) rfl rfl rfl (by omega) | exact EX.subZ (m := 9223372036854775807) rfl rfl rfl rfl (by omega)) ?_
  refine OW.val rfl rfl (EX.assign rfl) ?_
  refine OW.nil ?_
  refine KW.block ?_
  refine KW.loop2 (fun (j : Nat) (wr : World) => j ≤ l.length ∧ lastP (l.take j) key = lastP l key ∧ Bk wr rb 36 [str [], str []] ∧ Ext w wr) (fun (j : Nat) (wr : World) => [(0, .slice A l.length k), (1, .func (.func 14) #[] #[.pointer (some ⟨kb, 0, none⟩)]), (4, .pointer (some ⟨rb, 0, none⟩)), (6, .int .i64 (((j : Int) - 1) : Int))]) (fun (j : Nat) (wr : World) => wr) (fun (j : Nat) (wr : World) => j) (l.length) (w1) ⟨rfl, rfl, rfl, rfl, trivial⟩ rfl ?_ ?_
  · exact ⟨Nat.le_refl _, by rw [List.take_length], hr1, hx1⟩
  · rintro j wr ⟨hj, he, hr, hx⟩
    refine KW.seq (KW.seq (KW.region ?_))
    refine OW.val rfl rfl (EX.move rfl) ?_
    refine OW.val rfl rfl (by first | exact EX.geqN (b := 0) rfl rfl | exact EX.geqZ rfl rfl) ?_
    refine OW.nil ?_
    refine KW.condD rfl (fun hpos => ?_) (fun hpos => ?_)
    · obtain ⟨i, rfl⟩ : ∃ i, j = i + 1 := ⟨j - 1, by omega⟩
      have hi : i < l.length := by omega
      obtain ⟨b, o, rfl, _, hcell⟩ := (hs.ext hx).flat (c := 2) (fun _ => rfl) (by decide) hi
      have hsn : l.take (i + 1) = l.take i ++ [l[i]] := (List.take_append_getElem hi).symm
      rw [hsn, lastP_snoc] at he
      refine KW.as 6 (.int .i64 ((i : Nat) : Int)) rfl (congrArg (Value.int .i64) (by omega)) ?_
      refine KW.skip (KW.seq (KW.block (KW.seq (KW.region ?_))))
      refine OW.val rfl rfl (EX.move rfl) ?_
      refine OW.val rfl rfl (EX.move rfl) ?_
      refine OW.val rfl rfl (EX.move rfl) ?_
      refine OW.val rfl rfl (EX.indexAddrS Tryd.underlying22 ti36 rfl rfl (by omega)) ?_
      refine OW.val rfl rfl (EX.loadA (l := (l[i]).cells) Tryd.underlying36 rfl ti36 rfl rfl hcell) ?_
      refine OW.callV rfl rfl rfl rfl rfl (isKey_c l[i] kb key wr (hk.ext hx)) ?_
      rintro _ w2 ⟨rfl, hx2⟩
      refine OW.nil ?_
      have hr2 := hr.ext hx2
      have x2 := hx.trans hx2
      refine KW.condD rfl (fun hkey => ?_) (fun hkey => ?_)
      · rw [if_pos hkey] at he
        obtain ⟨b', o', e', _, hcell2⟩ := (hs.ext x2).flat (c := 2) (fun _ => rfl) (by decide) hi
        cases e'
        refine KW.seq (KW.region ?_)
        refine OW.val rfl rfl (EX.move rfl) ?_
        refine OW.val rfl rfl (EX.move rfl) ?_
        refine OW.val rfl rfl (EX.indexAddrS Tryd.underlying22 ti36 rfl rfl (by omega)) ?_
        refine OW.val rfl rfl (EX.loadA (l := (l[i]).cells) Tryd.underlying36 rfl ti36 rfl rfl hcell2) ?_
        refine OW.storeS rfl ti36 rfl rfl rfl (by first | rfl | (simp only [List.all_cons, List.all_nil, Bool.and_true, Bool.true_and, Bool.and_eq_true, Value.oneCell']; repeat (first | assumption | exact Own.one (by assumption) | constructor))) (hr2) (Nat.le_refl _) ?_
        rintro w3 hr3 hm3
        refine OW.val rfl rfl (EX.assign rfl) ?_
        refine OW.nil ?_
        refine KW.ret (retC2 rfl Tryd.underlying36 rfl ti36 rfl rfl (hr3) rfl ?_)
        rw [← he]
        exact ⟨l[i], rfl, rfl, below_mo x2 hm3 x2.size (fun k hk => by simp at hk; omega)⟩
      · rw [if_neg hkey] at he
        refine KW.skip (KW.leave (KW.region ?_))
        refine OW.val rfl rfl (EX.move rfl) ?_
        refine OW.val rfl rfl (by first | exact EX.subN (b := 1) (m := 9223372036854775807) rfl rfl rfl (by omega) | exact EX.subZ (m := 9223372036854775807) rfl rfl rfl rfl (by omega)) ?_
        refine OW.val rfl rfl (EX.assign rfl) ?_
        refine OW.nil ?_
        refine KW.back2 (i) (w2) ⟨rfl, rfl, rfl, rfl, trivial⟩ rfl ?_ (by omega)
        exact ⟨by omega, he, hr2, x2⟩
    · obtain rfl : j = 0 := by omega
      rw [List.take_zero] at he
      refine KW.exit rfl (KW.seq (KW.region ?_))
      refine OW.allocB (l := [str [], str []]) rfl rfl ti36 rfl ?_
      rintro nb w2 hge2 hn2 hx2
      refine OW.nil ?_
      refine KW.seq (KW.region ?_)
      have hr2 := hr.ext hx2
      have x2 := hx.trans hx2
      refine OW.val rfl rfl (EX.loadBk Tryd.underlying36 rfl ti36 rfl (hn2) (rfl)) ?_
      refine OW.storeS rfl ti36 rfl rfl rfl (by first | rfl | (simp only [List.all_cons, List.all_nil, Bool.and_true, Bool.true_and, Bool.and_eq_true, Value.oneCell']; repeat (first | assumption | exact Own.one (by assumption) | constructor))) (hr2) (Nat.le_refl _) ?_
      rintro w3 hr3 hm3
      refine OW.val rfl rfl (EX.assign rfl) ?_
      refine OW.nil ?_
      refine KW.ret (retC2 rfl Tryd.underlying36 rfl ti36 rfl rfl (hr3) rfl ?_)
      rw [← he]
      exact ⟨⟨[], []⟩, rfl, rfl, below_mo x2 hm3 x2.size (fun k hk => by simp at hk; omega)⟩
theorem last_s (l : List Pr) (hl : l.length ≤ 140737488355328) (A : Option Addr) (k B : Nat) (key : List UInt8) (w : World) (hs : Sl w B A (prsV l)) :
    Ret Tryd.prog 6 [.slice A l.length k, str key] w fun v w' => v = .tuple #[str (lastP l key).1, .bool (lastP l key).2] ∧ Ext w w' := by
  refine Ret.enter Tryd.func6 rfl Tryd.ntmps6 (by kernel_rfl) rfl ?_
  refine KW.seq (KW.region ?_)
  refine OW.boxB rfl rfl rfl rfl ?_
  rintro kb w1 hge1 hk1 hx1
  refine OW.val rfl rfl (EX.assign rfl) ?_
  refine OW.val rfl rfl (EX.assign rfl) ?_
  refine OW.nil ?_
  refine KW.seq (KW.region ?_)
  refine OW.val rfl rfl (EX.move rfl) ?_
  refine OW.val rfl rfl (EX.makeFunc rfl rfl) ?_
  refine OW.call rfl rfl rfl (lastG_s l hl A k B kb key w1 (hs.ext hx1) hk1) ?_
  rintro _ w2 ⟨p, rfl, hp, hx2⟩
  refine OW.val rfl rfl (EX.move rfl) ?_
  refine OW.val rfl rfl (EX.extract rfl rfl) ?_
  refine OW.val rfl rfl (EX.extract rfl rfl) ?_
  refine OW.allocB (l := [str [], str []]) rfl rfl ti36 rfl ?_
  rintro pb w3 hge3 hp3 hx3
  refine OW.storeS rfl ti36 rfl rfl rfl (by first | rfl | (simp only [List.all_cons, List.all_nil, Bool.and_true, Bool.true_and, Bool.and_eq_true, Value.oneCell']; repeat (first | assumption | exact Own.one (by assumption) | constructor))) (hp3) (Nat.le_refl _) ?_
  rintro w4 hp4 hm4
  refine OW.val rfl rfl (EX.assign rfl) ?_
  refine OW.nil ?_
  refine KW.seq (KW.region ?_)
  refine OW.val rfl rfl (EX.fieldAddr (off := 1) Tryd.underlying36 rfl rfl ti9 rfl rfl) ?_
  replace hp4 : Bk w4 pb 36 p.cells := hp4
  refine OW.val rfl rfl (EX.load Tryd.underlying9 rfl rfl (hp4.cell_of rfl)) ?_
  refine OW.val rfl rfl (EX.move rfl) ?_
  refine OW.val rfl rfl (EX.assign rfl) ?_
  refine OW.val rfl rfl (EX.assign rfl) ?_
  refine OW.nil ?_
  have x3 := (hx1.trans hx2).trans hx3
  refine KW.ret (ret2 rfl rfl rfl ?_)
  rw [hp]
  exact ⟨rfl, below_mo x3 hm4 x3.size (fun k hk => by simp at hk; have := (hx1.trans hx2).size; omega)⟩
theorem rlast_s (l : List Pr) (hl : l.length ≤ 140737488355328) (A : Option Addr) (k B : Nat) (key : List UInt8) (w : World) (hs : Sl w B A (prsV l)) :
    Ret Tryd.prog 7 [.slice A l.length k, str key] w fun v w' => v = .tuple #[str (lastP l key).1, .bool (lastP l key).2] ∧ w = w' := by
  refine Ret.enter Tryd.func7 rfl Tryd.ntmps7 (by kernel_rfl) rfl ?_
  refine KW.seq (KW.region ?_)
  refine OW.val rfl rfl (EX.assign rfl) ?_
  refine OW.val rfl rfl (EX.assign rfl) ?_
  refine OW.nil ?_
  refine KW.seq (KW.region ?_)
  refine OW.val rfl rfl (EX.assign rfl) ?_
  refine OW.nil ?_
  refine KW.seq (KW.region ?_)
  refine OW.val rfl rfl (EX.assign rfl) ?_
  refine OW.nil ?_
  refine KW.seq (KW.seq (KW.region ?_))
  refine OW.val rfl rfl (EX.assign rfl) ?_
  refine OW.nil ?_
  refine KW.block ?_
  refine KW.loop1 (fun (i : Nat) => i ≤ l.length) (fun (i : Nat) => [(0, .slice A l.length k), (1, str (key)), (6, str ((lastP (l.take i) key).1)), (7, .bool (lastP (l.take i) key).2), (8, .int .i64 ((i : Nat) : Int))]) (fun (i : Nat) => w) (fun (i : Nat) => l.length - i) (0) ⟨rfl, rfl, rfl, rfl, rfl, trivial⟩ rfl ?_ ?_
  · exact Nat.zero_le _
  · rintro i hi
    refine KW.seq (KW.seq (KW.region ?_))
    refine OW.val rfl rfl (EX.move rfl) ?_
    refine OW.val rfl rfl (EX.move rfl) ?_
    refine OW.val rfl rfl (EX.lenA Tryd.underlying22 rfl) ?_
    refine OW.val rfl rfl (by first | exact EX.lssN rfl rfl | exact EX.lssZ rfl rfl) ?_
    refine OW.nil ?_
    refine KW.condD rfl (fun hlt => ?_) (fun hlt => ?_)
    · obtain ⟨b, o, rfl, _, hcell⟩ := hs.flat (c := 2) (fun _ => rfl) (by decide) hlt
      have hsn : lastP (l.take (i + 1)) key = if (l[i]).key = key then ((l[i]).val, true) else lastP (l.take i) key := by
        rw [← List.take_append_getElem hlt, lastP_snoc]
      refine KW.skip (KW.seq (KW.block (KW.seq (KW.region ?_))))
      refine OW.val rfl rfl (EX.move rfl) ?_
      refine OW.val rfl rfl (EX.move rfl) ?_
      refine OW.val rfl rfl (EX.indexAddrS Tryd.underlying22 ti36 rfl rfl (by omega)) ?_
      refine OW.val rfl rfl (EX.fieldAddr (off := 0) Tryd.underlying36 rfl rfl ti9 rfl rfl) ?_
      refine OW.val rfl rfl (EX.load Tryd.underlying9 rfl rfl (hcell 0 _ rfl)) ?_
      refine OW.val rfl rfl (EX.move rfl) ?_
      refine OW.val rfl rfl (EX.eqlS rfl rfl) ?_
      refine OW.nil ?_
      refine KW.condD rfl (fun hk => ?_) (fun hk => ?_)
      · rw [if_pos hk] at hsn
        refine KW.seq (KW.region ?_)
        refine OW.val rfl rfl (EX.move rfl) ?_
        refine OW.val rfl rfl (EX.move rfl) ?_
        refine OW.val rfl rfl (EX.indexAddrS Tryd.underlying22 ti36 rfl rfl (by omega)) ?_
        refine OW.val rfl rfl (EX.fieldAddr (off := 1) Tryd.underlying36 rfl rfl ti9 rfl rfl) ?_
        refine OW.val rfl rfl (EX.load Tryd.underlying9 rfl rfl (hcell 1 _ rfl)) ?_
        refine OW.val rfl rfl (EX.assign rfl) ?_
        refine OW.nil ?_
        refine KW.region ?_
        refine OW.val rfl rfl (EX.assign rfl) ?_
        refine OW.nil ?_
        refine KW.leave (KW.region ?_)
        refine OW.val rfl rfl (EX.move rfl) ?_
        refine OW.val rfl rfl (by first | exact EX.addN (b := 1) (m := 9223372036854775807) rfl rfl rfl (by omega) | exact EX.addZ (m := 9223372036854775807) rfl rfl rfl rfl (by omega)) ?_
        refine OW.val rfl rfl (EX.assign rfl) ?_
        refine OW.nil ?_
        refine KW.as 6 (str ((lastP (l.take (i + 1)) key).1)) rfl (by rw [hsn]) ?_
        refine KW.as 7 (.bool (lastP (l.take (i + 1)) key).2) rfl (by rw [hsn]) ?_
        refine KW.back1 (i + 1) ⟨rfl, rfl, rfl, rfl, rfl, trivial⟩ rfl ?_ (by omega)
        omega
      · rw [if_neg hk] at hsn
        refine KW.skip (KW.leave (KW.region ?_))
        refine OW.val rfl rfl (EX.move rfl) ?_
        refine OW.val rfl rfl (by first | exact EX.addN (b := 1) (m := 9223372036854775807) rfl rfl rfl (by omega) | exact EX.addZ (m := 9223372036854775807) rfl rfl rfl rfl (by omega)) ?_
        refine OW.val rfl rfl (EX.assign rfl) ?_
        refine OW.nil ?_
        refine KW.as 6 (str ((lastP (l.take (i + 1)) key).1)) rfl (by rw [hsn]) ?_
        refine KW.as 7 (.bool (lastP (l.take (i + 1)) key).2) rfl (by rw [hsn]) ?_
        refine KW.back1 (i + 1) ⟨rfl, rfl, rfl, rfl, rfl, trivial⟩ rfl ?_ (by omega)
        omega
    · obtain rfl : i = l.length := by omega
      rw [List.take_length]
      refine KW.exit rfl (KW.seq (KW.region ?_))
      refine OW.val rfl rfl (EX.move rfl) ?_
      refine OW.val rfl rfl (EX.move rfl) ?_
      refine OW.val rfl rfl (EX.assign rfl) ?_
      refine OW.val rfl rfl (EX.assign rfl) ?_
      refine OW.nil ?_
      refine KW.ret (ret2 rfl rfl rfl ?_)
      exact ⟨rfl, rfl⟩
theorem pr_ne (a b : Pr) : (!([decide (a.key = b.key), decide (a.val = b.val)].all id)) = decide (a ≠ b) := by
  obtain ⟨a1, a2⟩ := a
  obtain ⟨b1, b2⟩ := b
  rw [Bool.eq_iff_iff]
  by_cases c1 : a1 = b1 <;> by_cases c2 : a2 = b2 <;> simp [c1, c2]
set_option maxRecDepth 20000 in
theorem same_s (l1 l2 : List Pr) (A1 A2 : Option Addr) (k1 k2 : Nat) (w : World) (B1 B2 : Nat) (h1 : Sl w B1 A1 (prsV l1)) (h2 : Sl w B2 A2 (prsV l2)) (hn : l1.length ≤ 140737488355328) :
    Ret Tryd.prog 12 [.slice A1 l1.length k1, .slice A2 l2.length k2] w fun v w' => v = .bool (decide (l1 = l2)) ∧ Ext w w' := by
  refine Ret.enter Tryd.func12 rfl Tryd.ntmps12 (by kernel_rfl) rfl ?_
  refine KW.seq (KW.region ?_)
  refine OW.val rfl rfl (EX.assign rfl) ?_
  refine OW.nil ?_
  refine KW.seq (KW.seq (KW.region ?_))
  refine OW.val rfl rfl (EX.move rfl) ?_
  refine OW.val rfl rfl (EX.lenA Tryd.underlying22 rfl) ?_
  refine OW.val rfl rfl (EX.move rfl) ?_
  refine OW.val rfl rfl (EX.lenA Tryd.underlying22 rfl) ?_
  refine OW.val rfl rfl (by first | exact EX.neqN rfl rfl | exact EX.neqZ rfl rfl) ?_
  refine OW.nil ?_
  refine KW.condD rfl (fun hl => ?_) (fun hl => ?_)
  · refine KW.seq (KW.region ?_)
    refine OW.val rfl rfl (EX.assign rfl) ?_
    refine OW.nil ?_
    refine KW.ret (ret1 rfl rfl ?_)
    refine ⟨congrArg Value.bool (decide_eq_false (fun e => hl (by rw [e]))).symm, Ext.refl _⟩
  · have hll : l1.length = l2.length := by omega
    refine KW.skip (KW.seq (KW.seq (KW.region ?_)))
    refine OW.val rfl rfl (EX.assign rfl) ?_
    refine OW.nil ?_
    refine KW.block ?_
    refine KW.loop2 (fun (i : Nat) (wr : World) => i ≤ l1.length ∧ (∀ j, j < i → l1[j]? = l2[j]?) ∧ Ext w wr) (fun (i : Nat) (wr : World) => [(0, .slice A1 l1.length k1), (1, .slice A2 l2.length k2), (5, .int .i64 ((i : Nat) : Int))]) (fun (i : Nat) (wr : World) => wr) (fun (i : Nat) (wr : World) => l1.length - i) (0) (w) ⟨rfl, rfl, rfl, trivial⟩ rfl ?_ ?_
    · exact ⟨by omega, fun j hj => by omega, Ext.refl _⟩
    · rintro i wr ⟨hi, he, hx⟩
      refine KW.seq (KW.seq (KW.region ?_))
      refine OW.val rfl rfl (EX.move rfl) ?_
      refine OW.val rfl rfl (EX.move rfl) ?_
      refine OW.val rfl rfl (EX.lenA Tryd.underlying22 rfl) ?_
      refine OW.val rfl rfl (by first | exact EX.lssN rfl rfl | exact EX.lssZ rfl rfl) ?_
      refine OW.nil ?_
      refine KW.condD rfl (fun hlt => ?_) (fun hlt => ?_)
      · have hlt2 : i < l2.length := by omega
        obtain ⟨b1, o1, rfl, _, hc1⟩ := (h1.ext hx).flat (c := 2) (fun _ => rfl) (by decide) hlt
        obtain ⟨b2, o2, rfl, _, hc2⟩ := (h2.ext hx).flat (c := 2) (fun _ => rfl) (by decide) hlt2
        refine KW.skip (KW.seq (KW.block (KW.seq ?_)))
        refine KW.regionQ (by kernel_rfl) (by kernel_rfl) ?_
        refine QW.val rfl rfl (fun _ => EX.move rfl) ?_
        refine QW.val rfl rfl (fun _ => EX.move rfl) ?_
        refine QW.val rfl rfl (fun _ => EX.indexAddrS Tryd.underlying22 ti36 rfl rfl (by omega)) ?_
        refine QW.val rfl rfl (fun _ => EX.loadA (w := wr.drewN _) (l := (l1[i]).cells) Tryd.underlying36 rfl ti36 rfl rfl hc1) ?_
        refine QW.val rfl rfl (fun _ => EX.move rfl) ?_
        refine QW.val rfl rfl (fun _ => EX.move rfl) ?_
        refine QW.val rfl rfl (fun _ => EX.indexAddrS Tryd.underlying22 ti36 rfl rfl (by omega)) ?_
        refine QW.val rfl rfl (fun _ => EX.loadA (w := wr.drewN _) (l := (l2[i]).cells) Tryd.underlying36 rfl ti36 rfl rfl hc2) ?_
        refine QW.val rfl rfl (fun _ => EX.neqG Tryd.underlying36 (by kernel_rfl) (by kernel_rfl) rfl rfl (.cons (by decide) Tryd.underlying9 rfl rfl rfl (eq_str Tryd.underlying9) (.cons (by decide) Tryd.underlying9 rfl rfl rfl (eq_str Tryd.underlying9) .nil)) rfl) ?_
        refine QW.nil (fun nq => ?_)
        refine KW.as 25 (.bool (decide (l1[i] ≠ l2[i]))) rfl (congrArg Value.bool (pr_ne _ _)) ?_
        refine KW.condD rfl (fun hne => ?_) (fun hne => ?_)
        · refine KW.seq (KW.region ?_)
          refine OW.val rfl rfl (EX.assign rfl) ?_
          refine OW.nil ?_
          refine KW.ret (ret1 rfl rfl ?_)
          refine ⟨congrArg Value.bool (decide_eq_false (fun e => hne ?_)).symm, hx.trans (Ext.drewN wr nq)⟩
          subst e
          rfl
        · refine KW.skip (KW.leave (KW.region ?_))
          refine OW.val rfl rfl (EX.move rfl) ?_
          refine OW.val rfl rfl (by first | exact EX.addN (b := 1) (m := 9223372036854775807) rfl rfl rfl (by omega) | exact EX.addZ (m := 9223372036854775807) rfl rfl rfl rfl (by omega)) ?_
          refine OW.val rfl rfl (EX.assign rfl) ?_
          refine OW.nil ?_
          refine KW.back2 (i + 1) (wr.drewN nq) ⟨rfl, rfl, rfl, trivial⟩ rfl ?_ (by omega)
          refine ⟨by omega, fun j hj => ?_, hx.trans (Ext.drewN wr nq)⟩
          by_cases e : j = i
          · subst e
            rw [List.getElem?_eq_getElem hlt, List.getElem?_eq_getElem hlt2]
            exact congrArg some (by simpa using hne)
          · exact he j (by omega)
      · obtain rfl : i = l1.length := by omega
        refine KW.exit rfl (KW.seq (KW.region ?_))
        refine OW.val rfl rfl (EX.assign rfl) ?_
        refine OW.nil ?_
        refine KW.ret (ret1 rfl rfl ?_)
        refine ⟨congrArg Value.bool (decide_eq_true ?_).symm, hx⟩
        apply List.ext_getElem?
        intro j
        by_cases hj : j < l1.length
        · exact he j hj
        · rw [List.getElem?_eq_none (by omega), List.getElem?_eq_none (by omega)]
end Go.Proofs.YtieojdkblakchaaDoor
