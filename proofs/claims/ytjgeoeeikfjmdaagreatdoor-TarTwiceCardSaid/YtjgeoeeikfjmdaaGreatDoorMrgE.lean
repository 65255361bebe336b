/-
  What the statements rest on, part 5 of 7: many small texts, one behind the other.
-/
import Derived.Test.YtjgeoeeikfjmdaaGreatDoorMrgD
import Derived.Lib.ItoaLen
import Derived.Lib.AppendIntMem
import Derived.Lib.LaidTab
/- pax: the last pair with a key; lists of pairs are compared. -/
namespace Go.Proofs.YtjgeoeeikfjmdaaGreatDoor
set_option linter.unnecessarySimpa false
open Go.RowKit Pax
set_option linter.unusedVariables false
set_option linter.unusedSimpArgs false

def _root_.Go.Proofs.YtjgeoeeikfjmdaaGreatDoor.Pax.Pr.cells (p : Pr) : List Value := [str p.key, str p.val]
abbrev prsV (l : List Pr) : List Value := l.flatMap Pr.cells
theorem isKey_c (p : Pr) (kb : Nat) (key : List UInt8) (w : World) (hk : Bk w kb 9 [str key]) :
    Ret Tryz.prog 118 [.agg p.cells.toArray, .pointer (some ⟨kb, 0, none⟩)] w fun v w' => v = .bool (decide (p.key = key)) ∧ Ext w w' := by
  refine Ret.enter Tryz.func118 rfl Tryz.ntmps118 (by kernel_rfl) rfl ?_
  refine KW.seq (KW.region ?_)
  refine OW.boxS rfl rfl rfl ?_
  rintro pb w1 hge1 hp1 hx1
  refine OW.val rfl rfl (EX.assign rfl) ?_
  refine OW.nil ?_
  refine KW.seq (KW.region ?_)
  refine OW.val rfl rfl (EX.fieldAddr (off := 0) Tryz.underlying49 rfl rfl ti9 rfl rfl) ?_
  replace hp1 : Bk w1 pb 49 p.cells := hp1
  have hk1 := hk.ext hx1
  refine OW.val rfl rfl (EX.load Tryz.underlying9 rfl rfl (hp1.cell_of rfl)) ?_
  refine OW.val rfl rfl (EX.load Tryz.underlying9 rfl rfl (hk1.cell_of rfl)) ?_
  refine OW.val rfl rfl (EX.eqlS rfl rfl) ?_
  refine OW.val rfl rfl (EX.assign rfl) ?_
  refine OW.nil ?_
  refine KW.ret (ret1 rfl rfl ?_)
  exact ⟨rfl, hx1⟩
set_option maxRecDepth 20000 in
theorem lastG_s (l : List Pr) (hl : l.length ≤ 140737488355328) (A : Option Addr) (k B : Nat) (kb : Nat) (key : List UInt8) (w : World) (hs : Sl w B A (prsV l)) (hk : Bk w kb 9 [str key]) :
    Ret Tryz.prog 117 [.slice A l.length k, .func (.func 118) #[] #[.pointer (some ⟨kb, 0, none⟩)]] w fun v w' => ∃ p : Pr, v = .tuple #[.agg p.cells.toArray, .bool (lastP l key).2] ∧ p.val = (lastP l key).1 ∧ Ext w w' := by
  refine Ret.enter Tryz.func117 rfl Tryz.ntmps117 (by kernel_rfl) rfl ?_
  refine KW.seq (KW.region ?_)
  refine OW.allocB (l := [str [], str []]) rfl rfl ti49 rfl ?_
  rintro rb w1 hge1 hr1 hx1
  refine OW.val rfl rfl (EX.assign rfl) ?_
  refine OW.nil ?_
  refine KW.seq (KW.seq (KW.region ?_))
  refine OW.val rfl rfl (EX.move rfl) ?_
  refine OW.val rfl rfl (EX.lenA Tryz.underlying50 rfl) ?_
  refine OW.val rfl rfl (by first | exact EX.subN (b := 1) (m := 9223372036854775807) rfl rfl rfl (by omega) | exact EX.subZ (m := 9223372036854775807) rfl rfl rfl rfl (by omega)) ?_
  refine OW.val rfl rfl (EX.assign rfl) ?_
  refine OW.nil ?_
  refine KW.block ?_
  refine KW.loop2 (fun (j : Nat) (wr : World) => j ≤ l.length ∧ lastP (l.take j) key = lastP l key ∧ Bk wr rb 49 [str [], str []] ∧ Ext w wr) (fun (j : Nat) (wr : World) => [(0, .slice A l.length k), (1, .func (.func 118) #[] #[.pointer (some ⟨kb, 0, none⟩)]), (4, .pointer (some ⟨rb, 0, none⟩)), (6, .int .i64 (((j : Int) - 1) : Int))]) (fun (j : Nat) (wr : World) => wr) (fun (j : Nat) (wr : World) => j) (l.length) (w1) ⟨rfl, rfl, rfl, rfl, trivial⟩ rfl ?_ ?_
  · exact ⟨Nat.le_refl _, by rw [List.take_length], hr1, hx1⟩
  · rintro j wr ⟨hj, he, hr, hx⟩
    refine KW.seq (KW.seq (KW.region ?_))
    refine OW.val rfl rfl (EX.move rfl) ?_
    refine OW.val rfl rfl (by first | exact EX.geqN (b := 0) rfl rfl | exact EX.geqZ rfl rfl) ?_
    refine OW.nil ?_
    refine KW.condD rfl (fun hpos => ?_) (fun hpos => ?_)
    · obtain ⟨i, rfl⟩ : ∃ i, j = i + 1 := ⟨j - 1, by omega⟩
      have hi : i < l.length := by omega
      obtain ⟨b, o, rfl, _, hcell⟩ := (hs.ext hx).flat (c := 2) (fun _ => rfl) (by decide) hi
      have hsn : l.take (i + 1) = l.take i ++ [l[i]] := (List.take_append_getElem hi).symm
      rw [hsn, lastP_snoc] at he
      refine KW.as 6 (.int .i64 ((i : Nat) : Int)) rfl (congrArg (Value.int .i64) (by omega)) ?_
      refine KW.skip (KW.seq (KW.block (KW.seq (KW.region ?_))))
      refine OW.val rfl rfl (EX.move rfl) ?_
      refine OW.val rfl rfl (EX.move rfl) ?_
      refine OW.val rfl rfl (EX.move rfl) ?_
      refine OW.val rfl rfl (EX.indexAddrS Tryz.underlying50 ti49 rfl rfl (by omega)) ?_
      refine OW.val rfl rfl (EX.loadA (l := (l[i]).cells) Tryz.underlying49 rfl ti49 rfl rfl hcell) ?_
      refine OW.callV rfl rfl rfl rfl rfl (isKey_c l[i] kb key wr (hk.ext hx)) ?_
      rintro _ w2 ⟨rfl, hx2⟩
      refine OW.nil ?_
      have hr2 := hr.ext hx2
      have x2 := hx.trans hx2
      refine KW.condD rfl (fun hkey => ?_) (fun hkey => ?_)
      · rw [if_pos hkey] at he
        obtain ⟨b', o', e', _, hcell2⟩ := (hs.ext x2).flat (c := 2) (fun _ => rfl) (by decide) hi
        cases e'
        refine KW.seq (KW.region ?_)
        refine OW.val rfl rfl (EX.move rfl) ?_
        refine OW.val rfl rfl (EX.move rfl) ?_
        refine OW.val rfl rfl (EX.indexAddrS Tryz.underlying50 ti49 rfl rfl (by omega)) ?_
        refine OW.val rfl rfl (EX.loadA (l := (l[i]).cells) Tryz.underlying49 rfl ti49 rfl rfl hcell2) ?_
        refine OW.storeS rfl ti49 rfl rfl rfl (by first | rfl | (simp only [List.all_cons, List.all_nil, Bool.and_true, Bool.true_and, Bool.and_eq_true, Value.oneCell']; repeat (first | assumption | exact Own.one (by assumption) | constructor))) (hr2) (Nat.le_refl _) ?_
        rintro w3 hr3 hm3
        refine OW.val rfl rfl (EX.assign rfl) ?_
        refine OW.nil ?_
        refine KW.ret (retC2 rfl Tryz.underlying49 rfl ti49 rfl rfl (hr3) rfl ?_)
        rw [← he]
        exact ⟨l[i], rfl, rfl, below_mo x2 hm3 x2.size (fun k hk => by simp at hk; omega)⟩
      · rw [if_neg hkey] at he
        refine KW.skip (KW.leave (KW.region ?_))
        refine OW.val rfl rfl (EX.move rfl) ?_
        refine OW.val rfl rfl (by first | exact EX.subN (b := 1) (m := 9223372036854775807) rfl rfl rfl (by omega) | exact EX.subZ (m := 9223372036854775807) rfl rfl rfl rfl (by omega)) ?_
        refine OW.val rfl rfl (EX.assign rfl) ?_
        refine OW.nil ?_
        refine KW.back2 (i) (w2) ⟨rfl, rfl, rfl, rfl, trivial⟩ rfl ?_ (by omega)
        exact ⟨by omega, he, hr2, x2⟩
    · obtain rfl : j = 0 := by omega
      rw [List.take_zero] at he
      refine KW.exit rfl (KW.seq (KW.region ?_))
      refine OW.allocB (l := [str [], str []]) rfl rfl ti49 rfl ?_
      rintro nb w2 hge2 hn2 hx2
      refine OW.nil ?_
      refine KW.seq (KW.region ?_)
      have hr2 := hr.ext hx2
      have x2 := hx.trans hx2
      refine OW.val rfl rfl (EX.loadBk Tryz.underlying49 rfl ti49 rfl (hn2) (rfl)) ?_
      refine OW.storeS rfl ti49 rfl rfl rfl (by first | rfl | (simp only [List.all_cons, List.all_nil, Bool.and_true, Bool.true_and, Bool.and_eq_true, Value.oneCell']; repeat (first | assumption | exact Own.one (by assumption) | constructor))) (hr2) (Nat.le_refl _) ?_
      rintro w3 hr3 hm3
      refine OW.val rfl rfl (EX.assign rfl) ?_
      refine OW.nil ?_
      refine KW.ret (retC2 rfl Tryz.underlying49 rfl ti49 rfl rfl (hr3) rfl ?_)
      rw [← he]
      exact ⟨⟨[], []⟩, rfl, rfl, below_mo x2 hm3 x2.size (fun k hk => by simp at hk; omega)⟩
theorem last_s (l : List Pr) (hl : l.length ≤ 140737488355328) (A : Option Addr) (k B : Nat) (key : List UInt8) (w : World) (hs : Sl w B A (prsV l)) :
    Ret Tryz.prog 87 [.slice A l.length k, str key] w fun v w' => v = .tuple #[str (lastP l key).1, .bool (lastP l key).2] ∧ Ext w w' := by
  refine Ret.enter Tryz.func87 rfl Tryz.ntmps87 (by kernel_rfl) rfl ?_
  refine KW.seq (KW.region ?_)
  refine OW.boxB rfl rfl rfl rfl ?_
  rintro kb w1 hge1 hk1 hx1
  refine OW.val rfl rfl (EX.assign rfl) ?_
  refine OW.val rfl rfl (EX.assign rfl) ?_
  refine OW.nil ?_
  refine KW.seq (KW.region ?_)
  refine OW.val rfl rfl (EX.move rfl) ?_
  refine OW.val rfl rfl (EX.makeFunc rfl rfl) ?_
  refine OW.call rfl rfl rfl (lastG_s l hl A k B kb key w1 (hs.ext hx1) hk1) ?_
  rintro _ w2 ⟨p, rfl, hp, hx2⟩
  refine OW.val rfl rfl (EX.move rfl) ?_
  refine OW.val rfl rfl (EX.extract rfl rfl) ?_
  refine OW.val rfl rfl (EX.extract rfl rfl) ?_
  refine OW.allocB (l := [str [], str []]) rfl rfl ti49 rfl ?_
  rintro pb w3 hge3 hp3 hx3
  refine OW.storeS rfl ti49 rfl rfl rfl (by first | rfl | (simp only [List.all_cons, List.all_nil, Bool.and_true, Bool.true_and, Bool.and_eq_true, Value.oneCell']; repeat (first | assumption | exact Own.one (by assumption) | constructor))) (hp3) (Nat.le_refl _) ?_
  rintro w4 hp4 hm4
  refine OW.val rfl rfl (EX.assign rfl) ?_
  refine OW.nil ?_
  refine KW.seq (KW.region ?_)
  refine OW.val rfl rfl (EX.fieldAddr (off := 1) Tryz.underlying49 rfl rfl ti9 rfl rfl) ?_
  replace hp4 : Bk w4 pb 49 p.cells := hp4
  refine OW.val rfl rfl (EX.load Tryz.underlying9 rfl rfl (hp4.cell_of rfl)) ?_
  refine OW.val rfl rfl (EX.move rfl) ?_
  refine OW.val rfl rfl (EX.assign rfl) ?_
  refine OW.val rfl rfl (EX.assign rfl) ?_
  refine OW.nil ?_
  have x3 := (hx1.trans hx2).trans hx3
  refine KW.ret (ret2 rfl rfl rfl ?_)
  rw [hp]
  exact ⟨rfl, below_mo x3 hm4 x3.size (fun k hk => by simp at hk; have := (hx1.trans hx2).size; omega)⟩
theorem rlast_s (l : List Pr) (hl : l.length ≤ 140737488355328) (A : Option Addr) (k B : Nat) (key : List UInt8) (w : World) (hs : Sl w B A (prsV l)) :
    Ret Tryz.prog 61 [.slice A l.length k, str key] w fun v w' => v = .tuple #[str (lastP l key).1, .bool (lastP l key).2] ∧ w = w' := by
  refine Ret.enter Tryz.func61 rfl Tryz.ntmps61 (by kernel_rfl) rfl ?_
  refine KW.seq (KW.region ?_)
  refine OW.val rfl rfl (EX.assign rfl) ?_
  refine OW.val rfl rfl (EX.assign rfl) ?_
  refine OW.nil ?_
  refine KW.seq (KW.region ?_)
  refine OW.val rfl rfl (EX.assign rfl) ?_
  refine OW.nil ?_
  refine KW.seq (KW.region ?_)
  refine OW.val rfl rfl (EX.assign rfl) ?_
  refine OW.nil ?_
  refine KW.seq (KW.seq (KW.region ?_))
  refine OW.val rfl rfl (EX.assign rfl) ?_
  refine OW.nil ?_
  refine KW.block ?_
  refine KW.loop1 (fun (i : Nat) => i ≤ l.length) (fun (i : Nat) => [(0, .slice A l.length k), (1, str (key)), (6, str ((lastP (l.take i) key).1)), (7, .bool (lastP (l.take i) key).2), (8, .int .i64 ((i : Nat) : Int))]) (fun (i : Nat) => w) (fun (i : Nat) => l.length - i) (0) ⟨rfl, rfl, rfl, rfl, rfl, trivial⟩ rfl ?_ ?_
  · exact Nat.zero_le _
  · rintro i hi
    refine KW.seq (KW.seq (KW.region ?_))
    refine OW.val rfl rfl (EX.move rfl) ?_
    refine OW.val rfl rfl (EX.move rfl) ?_
    refine OW.val rfl rfl (EX.lenA Tryz.underlying50 rfl) ?_
    refine OW.val rfl rfl (by first | exact EX.lssN rfl rfl | exact EX.lssZ rfl rfl) ?_
    refine OW.nil ?_
    refine KW.condD rfl (fun hlt => ?_) (fun hlt => ?_)
    · obtain ⟨b, o, rfl, _, hcell⟩ := hs.flat (c := 2) (fun _ => rfl) (by decide) hlt
      have hsn : lastP (l.take (i + 1)) key = if (l[i]).key = key then ((l[i]).val, true) else lastP (l.take i) key := by
        rw [← List.take_append_getElem hlt, lastP_snoc]
      refine KW.skip (KW.seq (KW.block (KW.seq (KW.region ?_))))
      refine OW.val rfl rfl (EX.move rfl) ?_
      refine OW.val rfl rfl (EX.move rfl) ?_
      refine OW.val rfl rfl (EX.indexAddrS Tryz.underlying50 ti49 rfl rfl (by omega)) ?_
      refine OW.val rfl rfl (EX.fieldAddr (off := 0) Tryz.underlying49 rfl rfl ti9 rfl rfl) ?_
      refine OW.val rfl rfl (EX.load Tryz.underlying9 rfl rfl (hcell 0 _ rfl)) ?_
      refine OW.val rfl rfl (EX.move rfl) ?_
      refine OW.val rfl rfl (EX.eqlS rfl rfl) ?_
      refine OW.nil ?_
      refine KW.condD rfl (fun hk => ?_) (fun hk => ?_)
      · rw [if_pos hk] at hsn
        refine KW.seq (KW.region ?_)
        refine OW.val rfl rfl (EX.move rfl) ?_
        refine OW.val rfl rfl (EX.move rfl) ?_
        refine OW.val rfl rfl (EX.indexAddrS Tryz.underlying50 ti49 rfl rfl (by omega)) ?_
        refine OW.val rfl rfl (EX.fieldAddr (off := 1) Tryz.underlying49 rfl rfl ti9 rfl rfl) ?_
        refine OW.val rfl rfl (EX.load Tryz.underlying9 rfl rfl (hcell 1 _ rfl)) ?_
        refine OW.val rfl rfl (EX.assign rfl) ?_
        refine OW.nil ?_
        refine KW.region ?_
        refine OW.val rfl rfl (EX.assign rfl) ?_
        refine OW.nil ?_
        refine KW.leave (KW.region ?_)
        refine OW.val rfl rfl (EX.move rfl) ?_
        refine OW.val rfl rfl (by first | exact EX.addN (b := 1) (m := 9223372036854775807) rfl rfl rfl (by omega) | exact EX.addZ (m := 9223372036854775807) rfl rfl rfl rfl (by omega)) ?_
        refine OW.val rfl rfl (EX.assign rfl) ?_
        refine OW.nil ?_
        refine KW.as 6 (str ((lastP (l.take (i + 1)) key).1)) rfl (by rw [hsn]) ?_
        refine KW.as 7 (.bool (lastP (l.take (i + 1)) key).2) rfl (by rw [hsn]) ?_
        refine KW.back1 (i + 1) ⟨rfl, rfl, rfl, rfl, rfl, trivial⟩ rfl ?_ (by omega)
        omega
      · rw [if_neg hk] at hsn
        refine KW.skip (KW.leave (KW.region ?_))
        refine OW.val rfl rfl (EX.move rfl) ?_
        refine OW.val rfl rfl (by first | exact EX.addN (b := 1) (m := 9223372036854775807) rfl rfl rfl (by omega) | exact EX.addZ (m := 9223372036854775807) rfl rfl rfl rfl (by omega)) ?_
        refine OW.val rfl rfl (EX.assign rfl) ?_
        refine OW.nil ?_
        refine KW.as 6 (str ((lastP (l.take (i + 1)) key).1)) rfl (by rw [hsn]) ?_
        refine KW.as 7 (.bool (lastP (l.take (i + 1)) key).2) rfl (by rw [hsn]) ?_
        refine KW.back1 (i + 1) ⟨rfl, rfl, rfl, rfl, rfl, trivial⟩ rfl ?_ (by omega)
        omega
    · obtain rfl : i = l.length := by omega
      rw [List.take_length]
      refine KW.exit rfl (KW.seq (KW.region ?_))
      refine OW.val rfl rfl (EX.move rfl) ?_
      refine OW.val rfl rfl (EX.move rfl) ?_
      refine OW.val rfl rfl (EX.assign rfl) ?_
      refine OW.val rfl rfl (EX.assign rfl) ?_
      refine OW.nil ?_
      refine KW.ret (ret2 rfl rfl rfl ?_)
      exact ⟨rfl, rfl⟩
theorem pr_ne (a b : Pr) : (!([decide (a.key = b.key), decide (a.val = b.val)].all id)) = decide (a ≠ b) := by
  obtain ⟨a1, a2⟩ := a
  obtain ⟨b1, b2⟩ := b
  rw [Bool.eq_iff_iff]
  by_cases c1 : a1 = b1 <;> by_cases c2 : a2 = b2 <;> simp [c1, c2]
end Go.Proofs.YtjgeoeeikfjmdaaGreatDoor
/- fields: decimal numbers are read and told, by the program. -/
namespace Go.Proofs.YtjgeoeeikfjmdaaGreatDoor
set_option linter.unnecessarySimpa false
set_option linter.unusedSimpArgs false
open Go.RowKit Fld
set_option linter.unusedVariables false

theorem u8_of_toNatU {c : UInt8} {n : Nat} (hn : n < 256) (h : c.toNat = n) : c = UInt8.ofNat n := by
  rw [← h]; simp
theorem dec_bad {s : List UInt8} (h : s = [] ∨ (s.head? = some 48 ∧ s ≠ [48])) : dec s = (0, 150) := by unfold dec; rw [if_pos h]
theorem dec_nodig {s : List UInt8} {i : Nat} (hi : i < s.length) (h : dig s[i] = false) : dec s = (0, 150) := by
  unfold dec
  split
  · rfl
  · rw [if_neg]
    simp only [List.all_eq_true]
    intro h'
    have := h' _ (List.getElem_mem hi)
    simp [h] at this
theorem head_48 {s : List UInt8} (h0 : 0 < s.length) (h : s[0].toNat = 48) : s.head? = some 48 := by
  rw [List.head?_eq_getElem?, List.getElem?_eq_getElem h0, u8_of_toNatU (by omega) h]; rfl
theorem head_n48 {s : List UInt8} (h0 : 0 < s.length) (h : ¬ s[0].toNat = 48) : ¬ s.head? = some 48 := by
  rw [List.head?_eq_getElem?, List.getElem?_eq_getElem h0]
  intro e
  injection e with e
  rw [e] at h
  exact h (by decide)
theorem all_snoc {s : List UInt8} {i : Nat} (hi : i < s.length) (h : (s.take i).all dig = true) (hd : dig s[i] = true) : (s.take (i + 1)).all dig = true := by
  rw [take_snoc' s i hi, List.all_append, h]; simp [hd]
theorem dec_end {s : List UInt8} (h : ¬ (s = [] ∨ (s.head? = some 48 ∧ s ≠ [48]))) (ha : (s.take s.length).all dig = true) : dec s = (if 9007199254740992 < fold 10 0 s then (0, 3) else (fold 10 0 s, 0)) := by
  rw [List.take_length] at ha
  unfold dec
  rw [if_neg h, if_pos ha]

theorem decimal_s (s : List UInt8) (hs : s.length ≤ 140737488355328) (w : World) :
    Ret Tryz.prog 88 [str s] w fun v w' => v = .tuple #[.int .i64 ((dec s).1 : Nat), .int .i64 ((dec s).2 : Nat)] ∧ w = w' := by
  refine Ret.enter Tryz.func88 rfl Tryz.ntmps88 (by kernel_rfl) rfl ?_
  refine KW.seq (KW.region ?_)
  refine OW.val rfl rfl (EX.assign rfl) ?_
  refine OW.val rfl rfl (EX.assign rfl) ?_
  refine OW.nil ?_
  refine KW.seq (KW.seq ?_)
  refine KW.region ?_
  refine OW.val rfl rfl (EX.move rfl) ?_
  refine OW.val rfl rfl (EX.eqlS (r := []) rfl rfl) ?_
  refine OW.val rfl rfl (EX.move rfl) ?_
  refine OW.splitD 8 rfl (fun h0 => ?_) (fun h0 => ?_)
  · have hd := dec_bad (s := s) (.inl h0)
    refine OW.pass rfl rfl ?_
    refine OW.pass rfl rfl ?_
    refine OW.pass rfl rfl ?_
    refine OW.pass rfl rfl ?_
    refine OW.pass rfl rfl ?_
    refine OW.pass rfl rfl ?_
    refine OW.pass rfl rfl ?_
    refine OW.val rfl rfl (EX.pickT rfl rfl) ?_
    refine OW.nil ?_
    refine KW.condT rfl (KW.seq (KW.region ?_))
    refine OW.val rfl rfl (EX.assign rfl) ?_
    refine OW.val rfl rfl (EX.assign rfl) ?_
    refine OW.nil ?_
    refine KW.ret (ret2 rfl rfl rfl ?_)
    rw [hd]
    exact ⟨rfl, rfl⟩
  · have hp : 0 < s.length := List.length_pos_iff.2 h0
    refine OW.val rfl rfl (EX.move rfl) ?_
    refine OW.val rfl rfl (EX.indexS (i := 0) Tryz.underlying9 rfl rfl (List.getElem?_eq_getElem (by omega))) ?_
    refine OW.val rfl rfl (by first | exact EX.eqlN (b := 48) rfl rfl | exact EX.eqlZ rfl rfl) ?_
    refine OW.val rfl rfl (EX.move rfl) ?_
    refine OW.splitD 12 rfl (fun h1 => ?_) (fun h1 => ?_)
    · refine OW.val rfl rfl (EX.move rfl) ?_
      refine OW.val rfl rfl (EX.neqS (r := [48]) rfl rfl) ?_
      refine OW.val rfl rfl (EX.pickT rfl rfl) ?_
      refine OW.val rfl rfl (EX.pickF rfl rfl) ?_
      refine OW.nil ?_
      refine KW.condD rfl (fun h2 => ?_) (fun h2 => ?_)
      · have hd := dec_bad (s := s) (.inr ⟨head_48 hp h1, h2⟩)
        refine KW.seq (KW.region ?_)
        refine OW.val rfl rfl (EX.assign rfl) ?_
        refine OW.val rfl rfl (EX.assign rfl) ?_
        refine OW.nil ?_
        refine KW.ret (ret2 rfl rfl rfl ?_)
        rw [hd]
        exact ⟨rfl, rfl⟩
      · have hgood : ¬ (s = [] ∨ (s.head? = some 48 ∧ s ≠ [48])) := by rintro (h | h); exact h0 h; exact h2 h.2
        have h2' : s = [48] := Classical.not_not.1 h2
        subst h2'
        have hd : dec [48] = (0, 0) := by decide +kernel
        refine KW.skip (KW.seq (KW.region ?_))
        refine OW.val rfl rfl (EX.assign rfl) ?_
        refine OW.nil ?_
        refine KW.seq (KW.seq (KW.region ?_))
        refine OW.val rfl rfl (EX.move rfl) ?_
        refine OW.val rfl rfl (EX.lenS Tryz.underlying9 rfl) ?_
        refine OW.val rfl rfl (EX.move rfl) ?_
        refine OW.nil ?_
        refine KW.block ?_
        refine KW.loop1 (fun (i : Nat) => i ≤ 1) (fun (i : Nat) => [(0, str ([48])), (4, .int .i64 ((0 : Nat) : Int)), (18, .int .i64 ((1 : Nat) : Int)), (19, .int .i64 ((i : Nat) : Int))]) (fun (i : Nat) => w) (fun (i : Nat) => 1 - i) (0) ⟨rfl, rfl, rfl, rfl, trivial⟩ rfl ?_ ?_
        · omega
        · rintro i hi
          refine KW.seq (KW.region ?_)
          refine OW.val rfl rfl (by first | exact EX.lssN rfl rfl | exact EX.lssZ rfl rfl) ?_
          refine OW.nil ?_
          refine KW.seq ?_
          refine KW.condD rfl (fun hl => ?_) (fun hl => ?_)
          · obtain rfl : i = 0 := by omega
            have hc : ([48] : List UInt8)[0].toNat = 48 := rfl
            refine KW.skip (KW.seq (KW.block (KW.seq (KW.region ?_))))
            refine OW.val rfl rfl (EX.move rfl) ?_
            refine OW.val rfl rfl (EX.assign rfl) ?_
            refine OW.nil ?_
            refine KW.seq (KW.seq ?_)
            refine KW.region ?_
            refine OW.val rfl rfl (EX.move rfl) ?_
            refine OW.val rfl rfl (EX.move rfl) ?_
            refine OW.val rfl rfl (EX.indexS Tryz.underlying9 rfl rfl (List.getElem?_eq_getElem (by omega))) ?_
            refine OW.val rfl rfl (by first | exact EX.lssN (b := 48) rfl rfl | exact EX.lssZ rfl rfl) ?_
            refine OW.val rfl rfl (EX.move rfl) ?_
            refine OW.splitD 26 rfl (fun h3 => ?_) (fun h3 => ?_)
            · omega
            · refine OW.val rfl rfl (EX.move rfl) ?_
              refine OW.val rfl rfl (EX.move rfl) ?_
              refine OW.val rfl rfl (EX.indexS Tryz.underlying9 rfl rfl (List.getElem?_eq_getElem (by omega))) ?_
              refine OW.val rfl rfl (by first | exact EX.gtrN (b := 57) rfl rfl | exact EX.gtrZ rfl rfl) ?_
              refine OW.val rfl rfl (EX.pickF rfl rfl) ?_
              refine OW.nil ?_
              refine KW.condD rfl (fun h4 => ?_) (fun h4 => ?_)
              · omega
              · refine KW.skip (KW.seq (KW.region ?_))
                refine OW.val rfl rfl (EX.move rfl) ?_
                refine OW.val rfl rfl (by first | exact EX.leqN (b := 9007199254740992) rfl rfl | exact EX.leqZ rfl rfl) ?_
                refine OW.nil ?_
                refine KW.as 33 (.bool true) rfl (congrArg Value.bool (decide_eq_true (by omega))) ?_
                refine KW.condT rfl (KW.region ?_)
                refine OW.val rfl rfl (EX.move rfl) ?_
                refine OW.val rfl rfl (by first | exact EX.mulN (a := 10) (m := 9223372036854775807) rfl rfl rfl (by omega) | exact EX.mulZ (m := 9223372036854775807) rfl rfl rfl rfl (by omega)) ?_
                refine OW.val rfl rfl (EX.move rfl) ?_
                refine OW.val rfl rfl (EX.move rfl) ?_
                refine OW.val rfl rfl (EX.indexS Tryz.underlying9 rfl rfl (List.getElem?_eq_getElem (by omega))) ?_
                refine OW.val rfl rfl (EX.subN (b := 48) (m := 255) rfl rfl rfl (by omega)) ?_
                refine OW.val rfl rfl (by first | exact EX.convN (m := 9223372036854775807) Tryz.underlying5 Tryz.underlying3 rfl rfl (by omega) | exact EX.convZ Tryz.underlying5 Tryz.underlying3 rfl) ?_
                refine OW.val rfl rfl (by first | exact EX.addN (m := 9223372036854775807) rfl rfl rfl (by omega) | exact EX.addZ (m := 9223372036854775807) rfl rfl rfl rfl (by omega)) ?_
                refine OW.val rfl rfl (EX.assign rfl) ?_
                refine OW.nil ?_
                refine KW.leave (KW.region ?_)
                refine OW.val rfl rfl (by first | exact EX.addN (b := 1) (m := 9223372036854775807) rfl rfl rfl (by omega) | exact EX.addZ (m := 9223372036854775807) rfl rfl rfl rfl (by omega)) ?_
                refine OW.val rfl rfl (EX.move rfl) ?_
                refine OW.nil ?_
                refine KW.back1 (1) ⟨rfl, rfl, rfl, rfl, trivial⟩ rfl ?_ (by omega)
                omega
          · refine KW.exit rfl (KW.seq (KW.seq (KW.region ?_)))
            refine OW.val rfl rfl (EX.move rfl) ?_
            refine OW.val rfl rfl (by first | exact EX.gtrN (b := 9007199254740992) rfl rfl | exact EX.gtrZ rfl rfl) ?_
            refine OW.nil ?_
            refine KW.as 44 (.bool false) rfl (congrArg Value.bool (decide_eq_false (by omega))) ?_
            refine KW.condF rfl (KW.skip (KW.seq (KW.region ?_)))
            refine OW.val rfl rfl (EX.move rfl) ?_
            refine OW.val rfl rfl (EX.assign rfl) ?_
            refine OW.val rfl rfl (EX.assign rfl) ?_
            refine OW.nil ?_
            refine KW.ret (ret2 rfl rfl rfl ?_)
            rw [hd]
            exact ⟨rfl, rfl⟩
    · have hgood : ¬ (s = [] ∨ (s.head? = some 48 ∧ s ≠ [48])) := by rintro (h | h); exact h0 h; exact head_n48 hp h1 h.1
      refine OW.pass rfl rfl ?_
      refine OW.pass rfl rfl ?_
      refine OW.val rfl rfl (EX.pickF rfl rfl) ?_
      refine OW.val rfl rfl (EX.pickF rfl rfl) ?_
      refine OW.nil ?_
      refine KW.condF rfl (KW.skip (KW.seq (KW.region ?_)))
      refine OW.val rfl rfl (EX.assign rfl) ?_
      refine OW.nil ?_
      refine KW.seq (KW.seq (KW.region ?_))
      refine OW.val rfl rfl (EX.move rfl) ?_
      refine OW.val rfl rfl (EX.lenS Tryz.underlying9 rfl) ?_
      refine OW.val rfl rfl (EX.move rfl) ?_
      refine OW.nil ?_
      refine KW.block ?_
      refine KW.loop2 (fun (i : Nat) (n : Nat) => i ≤ s.length ∧ n = fold 10 0 (s.take i) ∧ n ≤ 90071992547409920 + 255 ∧ (s.take i).all dig = true) (fun (i : Nat) (n : Nat) => [(0, str (s)), (4, .int .i64 ((n : Nat) : Int)), (18, .int .i64 ((s.length : Nat) : Int)), (19, .int .i64 ((i : Nat) : Int))]) (fun (i : Nat) (n : Nat) => w) (fun (i : Nat) (n : Nat) => s.length - i) (0) (0) ⟨rfl, rfl, rfl, rfl, trivial⟩ rfl ?_ ?_
      · exact ⟨by omega, by simp [fold], by omega, by simp⟩
      · rintro i n ⟨hi, hn, hb, ha⟩
        refine KW.seq (KW.region ?_)
        refine OW.val rfl rfl (by first | exact EX.lssN rfl rfl | exact EX.lssZ rfl rfl) ?_
        refine OW.nil ?_
        refine KW.seq ?_
        refine KW.condD rfl (fun hl => ?_) (fun hl => ?_)
        · have hc : s[i].toNat < 256 := s[i].toNat_lt
          refine KW.skip (KW.seq (KW.block (KW.seq (KW.region ?_))))
          refine OW.val rfl rfl (EX.move rfl) ?_
          refine OW.val rfl rfl (EX.assign rfl) ?_
          refine OW.nil ?_
          refine KW.seq (KW.seq ?_)
          refine KW.region ?_
          refine OW.val rfl rfl (EX.move rfl) ?_
          refine OW.val rfl rfl (EX.move rfl) ?_
          refine OW.val rfl rfl (EX.indexS Tryz.underlying9 rfl rfl (List.getElem?_eq_getElem (by omega))) ?_
          refine OW.val rfl rfl (by first | exact EX.lssN (b := 48) rfl rfl | exact EX.lssZ rfl rfl) ?_
          refine OW.val rfl rfl (EX.move rfl) ?_
          refine OW.splitD 26 rfl (fun h3 => ?_) (fun h3 => ?_)
          · have hd := dec_nodig hl (by simp only [dig, Bool.and_eq_false_iff, decide_eq_false_iff_not]; omega)
            refine OW.pass rfl rfl ?_
            refine OW.pass rfl rfl ?_
            refine OW.pass rfl rfl ?_
            refine OW.pass rfl rfl ?_
            refine OW.val rfl rfl (EX.pickT rfl rfl) ?_
            refine OW.nil ?_
            refine KW.condT rfl (KW.seq (KW.region ?_))
            refine OW.val rfl rfl (EX.assign rfl) ?_
            refine OW.val rfl rfl (EX.assign rfl) ?_
            refine OW.nil ?_
            refine KW.ret (ret2 rfl rfl rfl ?_)
            rw [hd]
            exact ⟨rfl, rfl⟩
          · refine OW.val rfl rfl (EX.move rfl) ?_
            refine OW.val rfl rfl (EX.move rfl) ?_
            refine OW.val rfl rfl (EX.indexS Tryz.underlying9 rfl rfl (List.getElem?_eq_getElem (by omega))) ?_
            refine OW.val rfl rfl (by first | exact EX.gtrN (b := 57) rfl rfl | exact EX.gtrZ rfl rfl) ?_
            refine OW.val rfl rfl (EX.pickF rfl rfl) ?_
            refine OW.nil ?_
            refine KW.condD rfl (fun h4 => ?_) (fun h4 => ?_)
            · have hd := dec_nodig hl (by simp only [dig, Bool.and_eq_false_iff, decide_eq_false_iff_not]; omega)
              refine KW.seq (KW.region ?_)
              refine OW.val rfl rfl (EX.assign rfl) ?_
              refine OW.val rfl rfl (EX.assign rfl) ?_
              refine OW.nil ?_
              refine KW.ret (ret2 rfl rfl rfl ?_)
              rw [hd]
              exact ⟨rfl, rfl⟩
            · have hdg : dig s[i] = true := by simp only [dig, Bool.and_eq_true, decide_eq_true_eq]; omega
              have hf := fold_snoc 10 (s.take i) s[i] 0
              rw [← take_snoc' s i hl, ← hn] at hf
              refine KW.skip (KW.seq (KW.region ?_))
              refine OW.val rfl rfl (EX.move rfl) ?_
              refine OW.val rfl rfl (by first | exact EX.leqN (b := 9007199254740992) rfl rfl | exact EX.leqZ rfl rfl) ?_
              refine OW.nil ?_
              refine KW.condD rfl (fun h5 => ?_) (fun h5 => ?_)
              · rw [if_pos h5] at hf
                refine KW.region ?_
                refine OW.val rfl rfl (EX.move rfl) ?_
                refine OW.val rfl rfl (by first | exact EX.mulN (a := 10) (m := 9223372036854775807) rfl rfl rfl (by omega) | exact EX.mulZ (m := 9223372036854775807) rfl rfl rfl rfl (by omega)) ?_
                refine OW.val rfl rfl (EX.move rfl) ?_
                refine OW.val rfl rfl (EX.move rfl) ?_
                refine OW.val rfl rfl (EX.indexS Tryz.underlying9 rfl rfl (List.getElem?_eq_getElem (by omega))) ?_
                refine OW.val rfl rfl (EX.subN (b := 48) (m := 255) rfl rfl rfl (by omega)) ?_
                refine OW.val rfl rfl (by first | exact EX.convN (m := 9223372036854775807) Tryz.underlying5 Tryz.underlying3 rfl rfl (by omega) | exact EX.convZ Tryz.underlying5 Tryz.underlying3 rfl) ?_
                refine OW.val rfl rfl (by first | exact EX.addN (m := 9223372036854775807) rfl rfl rfl (by omega) | exact EX.addZ (m := 9223372036854775807) rfl rfl rfl rfl (by omega)) ?_
                refine OW.val rfl rfl (EX.assign rfl) ?_
                refine OW.nil ?_
                refine KW.leave (KW.region ?_)
                refine OW.val rfl rfl (by first | exact EX.addN (b := 1) (m := 9223372036854775807) rfl rfl rfl (by omega) | exact EX.addZ (m := 9223372036854775807) rfl rfl rfl rfl (by omega)) ?_
                refine OW.val rfl rfl (EX.move rfl) ?_
                refine OW.nil ?_
                refine KW.back2 (i + 1) (10 * n + (s[i].toNat - 48)) ⟨rfl, rfl, rfl, rfl, trivial⟩ rfl ?_ (by omega)
                exact ⟨by omega, hf.symm, by omega, all_snoc hl ha hdg⟩
              · rw [if_neg h5] at hf
                refine KW.skip (KW.leave (KW.region ?_))
                refine OW.val rfl rfl (by first | exact EX.addN (b := 1) (m := 9223372036854775807) rfl rfl rfl (by omega) | exact EX.addZ (m := 9223372036854775807) rfl rfl rfl rfl (by omega)) ?_
                refine OW.val rfl rfl (EX.move rfl) ?_
                refine OW.nil ?_
                refine KW.back2 (i + 1) (n) ⟨rfl, rfl, rfl, rfl, trivial⟩ rfl ?_ (by omega)
                exact ⟨by omega, hf.symm, by omega, all_snoc hl ha hdg⟩
        · obtain rfl : i = s.length := by omega
          have hd := dec_end hgood ha
          rw [List.take_length] at hn
          rw [← hn] at hd
          refine KW.exit rfl (KW.seq (KW.seq (KW.region ?_)))
          refine OW.val rfl rfl (EX.move rfl) ?_
          refine OW.val rfl rfl (by first | exact EX.gtrN (b := 9007199254740992) rfl rfl | exact EX.gtrZ rfl rfl) ?_
          refine OW.nil ?_
          refine KW.condD rfl (fun h6 => ?_) (fun h6 => ?_)
          · rw [if_pos h6] at hd
            refine KW.seq (KW.region ?_)
            refine OW.val rfl rfl (EX.assign rfl) ?_
            refine OW.val rfl rfl (EX.assign rfl) ?_
            refine OW.nil ?_
            refine KW.ret (ret2 rfl rfl rfl ?_)
            rw [hd]
            exact ⟨rfl, rfl⟩
          · rw [if_neg h6] at hd
            refine KW.skip (KW.seq (KW.region ?_))
            refine OW.val rfl rfl (EX.move rfl) ?_
            refine OW.val rfl rfl (EX.assign rfl) ?_
            refine OW.val rfl rfl (EX.assign rfl) ?_
            refine OW.nil ?_
            refine KW.ret (ret2 rfl rfl rfl ?_)
            rw [hd]
            exact ⟨rfl, rfl⟩
theorem ext_grow (w : World) (k : Nat) (os : Array Obj) : Ext w (Sort.grow (w.drewN k) os) :=
  ⟨rfl, rfl, rfl, by show w.heap.size ≤ (w.heap ++ os).size; rw [Array.size_append]; omega, fun j hj => by
    show (w.heap ++ os)[j]? = w.heap[j]?
    rw [Array.getElem?_append_left hj]⟩
abbrev Tab (w : World) : Prop := Lib.TabBelow Tryz.prog w.heap.size w "internal/strconv.uint64pow10" .u64 Lib.pow10Tab
theorem Tab.ext {w w' : World} (h : Tab w) (hx : Ext w w') : Tab w' := fun w2 h2 => h w2 (Ext.trans hx h2)
theorem digits_s (n : Int) (h0 : -9223372036854775808 ≤ n) (h1 : n ≤ 9223372036854775807) (w : World) (ht : Tab w) :
    Ret Tryz.prog 47 [.int .i64 n] w fun v w' => v = str (digits n) ∧ Ext w w' := by
  refine Ret.enter Tryz.func47 rfl Tryz.ntmps47 (by kernel_rfl) rfl ?_
  refine KW.seq (KW.region ?_)
  refine OW.val rfl rfl (EX.assign rfl) ?_
  refine OW.nil ?_
  refine KW.seq (KW.seq (KW.region ?_))
  refine OW.val rfl rfl (EX.move rfl) ?_
  refine OW.val rfl rfl (by first | exact EX.lssN (b := 0) rfl rfl | exact EX.lssZ rfl rfl) ?_
  refine OW.nil ?_
  refine KW.condD rfl (fun h => ?_) (fun h => ?_)
  · have hd : digits n = [] := by unfold digits; rw [if_pos (by omega)]
    refine KW.seq (KW.region ?_)
    refine OW.val rfl rfl (EX.assign rfl) ?_
    refine OW.nil ?_
    refine KW.ret (ret1 rfl rfl ?_)
    rw [hd]
    exact ⟨rfl, Ext.refl _⟩
  · have hd : digits n = Lib.itoa n := by
      unfold digits Lib.itoa
      rw [if_neg (by omega), if_neg (by omega)]
    refine KW.skip (KW.seq (KW.region ?_))
    refine OW.val rfl rfl (EX.move rfl) ?_
    refine OW.call rfl rfl rfl (Ret.of_calls Tryz.func77 (by kernel_rfl) (Tryz.strconv_Itoa n h0 h1 w ht.here)) ?_
    rintro _ w' ⟨rfl, k, os, rfl⟩
    refine OW.val rfl rfl (EX.assign rfl) ?_
    refine OW.nil ?_
    refine KW.ret (ret1 rfl rfl ?_)
    rw [hd]
    exact ⟨rfl, ext_grow _ _ _⟩
end Go.Proofs.YtjgeoeeikfjmdaaGreatDoor
/- pax: records are read. -/
namespace Go.Proofs.YtjgeoeeikfjmdaaGreatDoor
set_option linter.unnecessarySimpa false
open Go.RowKit Fld Pax
set_option linter.unusedVariables false
set_option linter.unusedSimpArgs false

/-- what strings.Cut and strconv.Itoa ask of the world -/
structure Env (w : World) : Prop where
  tab : Tab w
  mlen : ∃ m : Int, w.cell? ⟨0, 0, none⟩ = some (.int .i64 m)
theorem Env.ext {w w' : World} (h : Env w) (hx : Ext w w') : Env w' := by
  refine ⟨h.tab.ext hx, ?_⟩
  obtain ⟨m, hm⟩ := h.mlen
  refine ⟨m, ?_⟩
  have hlt : 0 < w.heap.size := World.block_lt_of_cell? w _ hm
  have := hx.block _ hlt
  unfold World.cell? at hm ⊢
  rwa [this]
theorem index_byte (c : UInt8) : ∀ s : List UInt8, Lib.index s [c] = Lib.indexByte s c
  | [] => rfl
  | b :: s => by
    unfold Lib.index Lib.indexByte
    rw [index_byte c s]
    by_cases h : b = c
    · subst h; simp
    · have : ([c] : List UInt8).isPrefixOf (b :: s) = false := by simp [List.isPrefixOf, Ne.symm h]
      simp [this, h]
theorem cut_at (s : List UInt8) (c : UInt8) : Lib.cut s [c] = cutAt s c := by
  unfold Lib.cut cutAt
  rw [index_byte]
  rcases indexByte_lt s c with ⟨h1, h2⟩ | ⟨i, h1, h2, h3, h4⟩
  · rw [h1, if_neg (by decide), if_neg h2]
  · rw [h1, if_pos (by omega), if_pos h4, h3]
    have e := List.takeWhile_append_dropWhile (p := (· != c)) (l := s)
    rw [h3] at e
    have e2 : s.dropWhile (· != c) = s.drop i := by
      have h5 := List.take_append_drop i s
      have h6 : s.take i ++ s.dropWhile (· != c) = s.take i ++ s.drop i := by rw [e, h5]
      exact List.append_cancel_left h6
    rw [e2, List.drop_drop]
    rfl
theorem cut_c (s : List UInt8) (c : UInt8) (hs : s.length ≤ 1000000000) (w : World) (hG : Env w) :
    Ret Tryz.prog 116 [str s, str [c]] w fun v w' => v = .tuple #[str (cutAt s c).1, str (cutAt s c).2.1, .bool (cutAt s c).2.2] ∧ Ext w w' := by
  obtain ⟨m, hm⟩ := hG.mlen
  refine (Ret.of_calls Tryz.func116 (by kernel_rfl) ((Tryz.strings_Cut ⟨s.toArray⟩ ⟨#[c]⟩ m w (by show s.length < _; omega) hm).mono (fun e w' q => q))).mono ?_
  rintro v w' ⟨rfl, n, rfl⟩
  refine ⟨?_, Ext.drewN w n⟩
  rw [show (⟨s.toArray⟩ : ByteArray).data.toList = s from rfl, show (⟨#[c]⟩ : ByteArray).data.toList = [c] from rfl, cut_at]
theorem dl_succ (f : Nat) (q : List UInt8) (out : List Pr) : decL (f + 1) q out = if q = [] then (out, 0) else match dstep q with
    | some (p, n) => decL f (q.drop n) (out ++ [p])
    | none => ([], 170) := rfl
theorem dec_le (s : List UInt8) : (dec s).1 ≤ 9007199254740992 := by
  unfold dec
  split
  · decide
  · split
    · split
      · decide
      · show fold 10 0 s ≤ _
        omega
    · decide
set_option maxRecDepth 20000 in
theorem pdecode_s (s : List UInt8) (hs : s.length ≤ 140737488355328) (w : World) (hG : Env w) :
    Ret Tryz.prog 86 [str s] w fun v w' => ∃ u, v = .tuple #[u, .int .i64 (((decP s).2 : Nat) : Int)] ∧ Own w' w.heap.size 49 2 u (decP s).1.length (prsV (decP s).1) ∧ Ext w w' := by
  have nil : ∀ w' : World, Own w' w.heap.size 49 2 (.slice none 0 0) ([] : List Pr).length (prsV []) := fun w' => Own.nil _ _ _ _
  refine Ret.enter Tryz.func86 rfl Tryz.ntmps86 (by kernel_rfl) rfl ?_
  refine KW.seq (KW.region ?_)
  refine OW.val rfl rfl (EX.assign rfl) ?_
  refine OW.val rfl rfl (EX.assign rfl) ?_
  refine OW.nil ?_
  refine KW.scope (KW.seq (KW.seq (KW.region ?_)))
  refine OW.val rfl rfl (EX.move rfl) ?_
  refine OW.val rfl rfl (EX.lenS Tryz.underlying9 rfl) ?_
  refine OW.val rfl rfl (by first | exact EX.gtrN (b := 262144) rfl rfl | exact EX.gtrZ rfl rfl) ?_
  refine OW.nil ?_
  refine KW.condD rfl (fun hbig => ?_) (fun hbig => ?_)
  · have e : decP s = ([], 3) := by unfold decP; rw [if_pos (by omega)]
    refine KW.seq (KW.region ?_)
    refine OW.val rfl rfl (EX.assign rfl) ?_
    refine OW.val rfl rfl (EX.assign rfl) ?_
    refine OW.nil ?_
    refine KW.ret (ret2 rfl rfl rfl ?_)
    rw [e]
    exact ⟨_, rfl, nil w, Ext.refl _⟩
  · have e0 : decP s = decL (s.length + 1) s [] := by unfold decP; rw [if_neg (by omega)]
    refine KW.skip (KW.seq (KW.region ?_))
    refine OW.val rfl rfl (EX.assign rfl) ?_
    refine OW.nil ?_
    refine KW.seq (KW.label (KW.seq (KW.block ?_)))
    refine KW.loop4 (fun (q : (List UInt8)) (out : (List Pr)) (v : Value) (wr : World) => q.length ≤ s.length ∧ out.length + q.length ≤ s.length ∧ decL (s.length + 1) s [] = decL (q.length + 1) q out ∧ Own wr w.heap.size 49 2 v out.length (prsV out) ∧ Ext w wr) (fun (q : (List UInt8)) (out : (List Pr)) (v : Value) (wr : World) => [(0, str (q)), (4, v)]) (fun (q : (List UInt8)) (out : (List Pr)) (v : Value) (wr : World) => wr) (fun (q : (List UInt8)) (out : (List Pr)) (v : Value) (wr : World) => q.length) (s) ([]) (.slice none 0 0) (w) ⟨rfl, rfl, trivial⟩ rfl ?_ ?_
    · exact ⟨Nat.le_refl _, by simp, rfl, nil w, Ext.refl _⟩
    · rintro q out v wr ⟨hq, hol, he, hown, hx⟩
      refine KW.block (KW.seq (KW.seq (KW.region ?_)))
      refine OW.val rfl rfl (EX.move rfl) ?_
      refine OW.val rfl rfl (EX.eqlS (r := []) rfl rfl) ?_
      refine OW.nil ?_
      refine KW.condD rfl (fun hnil => ?_) (fun hnil => ?_)
      · subst hnil
        refine KW.exit rfl (KW.seq (KW.region ?_))
        refine OW.val rfl rfl (EX.move rfl) ?_
        refine OW.val rfl rfl (EX.assign rfl) ?_
        refine OW.val rfl rfl (EX.assign rfl) ?_
        refine OW.nil ?_
        refine KW.ret (ret2 rfl rfl rfl ?_)
        rw [e0, he]
        exact ⟨v, rfl, hown, hx⟩
      · have hqb : q.length ≤ 262144 := by omega
        have no : dstep q = none → decP s = ([], 170) := fun h => by rw [e0, he, dl_succ, if_neg hnil, h]
        have c1 := cut_c q 32 (by omega) wr (hG.ext hx)
        have hd1 := cutAt_len q 32
        have hd2 : (dec (cutAt q 32).1).2 = (dec (cutAt q 32).1).2 := rfl
        have hn1 := dec_le (cutAt q 32).1
        have hdst : dstep q = if (cutAt q 32).2.2 = true ∧ (dec (cutAt q 32).1).2 = 0 ∧ (dec (cutAt q 32).1).1 ≤ q.length ∧ (cutAt q 32).1.length + 2 ≤ (dec (cutAt q 32).1).1 ∧ q.getD ((dec (cutAt q 32).1).1 - 1) 0 = 10 then (if (cutAt ((q.drop ((cutAt q 32).1.length + 1)).take ((dec (cutAt q 32).1).1 - 1 - ((cutAt q 32).1.length + 1))) 61).2.2 = true ∧ (cutAt ((q.drop ((cutAt q 32).1.length + 1)).take ((dec (cutAt q 32).1).1 - 1 - ((cutAt q 32).1.length + 1))) 61).1 ≠ [] then some (⟨(cutAt ((q.drop ((cutAt q 32).1.length + 1)).take ((dec (cutAt q 32).1).1 - 1 - ((cutAt q 32).1.length + 1))) 61).1, (cutAt ((q.drop ((cutAt q 32).1.length + 1)).take ((dec (cutAt q 32).1).1 - 1 - ((cutAt q 32).1.length + 1))) 61).2.1⟩, (dec (cutAt q 32).1).1) else none) else none := rfl
        generalize (cutAt q 32).2.1 = rest at c1
        generalize (cutAt q 32).2.2 = ok at c1 hdst
        generalize (cutAt q 32).1 = d at c1 hd1 hd2 hn1 hdst
        have c2 := fun w' => decimal_s d (by omega) w'
        generalize (dec d).1 = n at c2 hn1 hdst
        generalize (dec d).2 = e at c2 hd2 hdst
        refine KW.skip (KW.seq (KW.region ?_))
        refine OW.val rfl rfl (EX.move rfl) ?_
        refine OW.call rfl rfl rfl (c1) ?_
        rintro _ w1 ⟨rfl, hx1⟩
        refine OW.val rfl rfl (EX.move rfl) ?_
        refine OW.val rfl rfl (EX.extract rfl rfl) ?_
        refine OW.val rfl rfl (EX.extract rfl rfl) ?_
        refine OW.val rfl rfl (EX.extract rfl rfl) ?_
        refine OW.val rfl rfl (EX.assign rfl) ?_
        refine OW.val rfl rfl (EX.assign rfl) ?_
        refine OW.val rfl rfl (EX.assign rfl) ?_
        refine OW.nil ?_
        refine KW.seq (KW.region ?_)
        refine OW.val rfl rfl (EX.move rfl) ?_
        refine OW.call rfl rfl rfl (c2 w1) ?_
        rintro _ w1 ⟨rfl, rfl⟩
        refine OW.val rfl rfl (EX.move rfl) ?_
        refine OW.val rfl rfl (EX.extract rfl rfl) ?_
        refine OW.val rfl rfl (EX.extract rfl rfl) ?_
        refine OW.val rfl rfl (EX.assign rfl) ?_
        refine OW.val rfl rfl (EX.assign rfl) ?_
        refine OW.nil ?_
        refine KW.seq (KW.seq ?_)
        have x1 := hx.trans hx1
        have bye : dstep q = none → ∃ u : Value, Value.tuple #[.slice none 0 0, .int .i64 ((170 : Nat) : Int)] = .tuple #[u, .int .i64 (((decP s).2 : Nat) : Int)] ∧ Own w1 w.heap.size 49 2 u (decP s).1.length (prsV (decP s).1) ∧ Ext w w1 := fun h => by
          rw [no h]
          exact ⟨_, rfl, nil w1, x1⟩
        rcases ok with _ | _
        · skip
          refine KW.region ?_
          refine OW.val rfl rfl (EX.move rfl) ?_
          refine OW.val rfl rfl (by first | exact EX.notD rfl | exact EX.notB rfl) ?_
          refine OW.val rfl rfl (EX.move rfl) ?_
          refine OW.pass rfl rfl ?_
          refine OW.pass rfl rfl ?_
          refine OW.val rfl rfl (EX.pickT rfl rfl) ?_
          refine OW.val rfl rfl (EX.move rfl) ?_
          refine OW.pass rfl rfl ?_
          refine OW.pass rfl rfl ?_
          refine OW.pass rfl rfl ?_
          refine OW.pass rfl rfl ?_
          refine OW.val rfl rfl (EX.pickT rfl rfl) ?_
          refine OW.val rfl rfl (EX.move rfl) ?_
          refine OW.pass rfl rfl ?_
          refine OW.pass rfl rfl ?_
          refine OW.pass rfl rfl ?_
          refine OW.pass rfl rfl ?_
          refine OW.pass rfl rfl ?_
          refine OW.val rfl rfl (EX.pickT rfl rfl) ?_
          refine OW.val rfl rfl (EX.move rfl) ?_
          refine OW.pass rfl rfl ?_
          refine OW.pass rfl rfl ?_
          refine OW.pass rfl rfl ?_
          refine OW.pass rfl rfl ?_
          refine OW.pass rfl rfl ?_
          refine OW.val rfl rfl (EX.pickT rfl rfl) ?_
          refine OW.nil ?_
          refine KW.condT rfl (KW.seq (KW.region ?_))
          refine OW.val rfl rfl (EX.assign rfl) ?_
          refine OW.val rfl rfl (EX.assign rfl) ?_
          refine OW.nil ?_
          refine KW.ret (ret2 rfl rfl rfl ?_)
          exact bye (by rw [hdst, if_neg (fun h => by cases h.1)])
        · skip
          refine KW.region ?_
          refine OW.val rfl rfl (EX.move rfl) ?_
          refine OW.val rfl rfl (by first | exact EX.notD rfl | exact EX.notB rfl) ?_
          refine OW.val rfl rfl (EX.move rfl) ?_
          refine OW.val rfl rfl (EX.move rfl) ?_
          refine OW.val rfl rfl (by first | exact EX.neqN (b := 0) rfl rfl | exact EX.neqZ rfl rfl) ?_
          refine OW.val rfl rfl (EX.pickF rfl rfl) ?_
          refine OW.val rfl rfl (EX.move rfl) ?_
          refine OW.splitD 34 rfl (fun a1 => ?_) (fun a1 => ?_)
          · refine OW.pass rfl rfl ?_
            refine OW.pass rfl rfl ?_
            refine OW.pass rfl rfl ?_
            refine OW.pass rfl rfl ?_
            refine OW.val rfl rfl (EX.pickT rfl rfl) ?_
            refine OW.val rfl rfl (EX.move rfl) ?_
            refine OW.pass rfl rfl ?_
            refine OW.pass rfl rfl ?_
            refine OW.pass rfl rfl ?_
            refine OW.pass rfl rfl ?_
            refine OW.pass rfl rfl ?_
            refine OW.val rfl rfl (EX.pickT rfl rfl) ?_
            refine OW.val rfl rfl (EX.move rfl) ?_
            refine OW.pass rfl rfl ?_
            refine OW.pass rfl rfl ?_
            refine OW.pass rfl rfl ?_
            refine OW.pass rfl rfl ?_
            refine OW.pass rfl rfl ?_
            refine OW.val rfl rfl (EX.pickT rfl rfl) ?_
            refine OW.nil ?_
            refine KW.condT rfl (KW.seq (KW.region ?_))
            refine OW.val rfl rfl (EX.assign rfl) ?_
            refine OW.val rfl rfl (EX.assign rfl) ?_
            refine OW.nil ?_
            refine KW.ret (ret2 rfl rfl rfl ?_)
            exact bye (by rw [hdst, if_neg (fun h => a1 h.2.1)])
          · refine OW.val rfl rfl (EX.move rfl) ?_
            refine OW.val rfl rfl (EX.move rfl) ?_
            refine OW.val rfl rfl (EX.lenS Tryz.underlying9 rfl) ?_
            refine OW.val rfl rfl (by first | exact EX.gtrN rfl rfl | exact EX.gtrZ rfl rfl) ?_
            refine OW.val rfl rfl (EX.pickF rfl rfl) ?_
            refine OW.val rfl rfl (EX.move rfl) ?_
            refine OW.splitD 40 rfl (fun a2 => ?_) (fun a2 => ?_)
            · refine OW.pass rfl rfl ?_
              refine OW.pass rfl rfl ?_
              refine OW.pass rfl rfl ?_
              refine OW.pass rfl rfl ?_
              refine OW.pass rfl rfl ?_
              refine OW.val rfl rfl (EX.pickT rfl rfl) ?_
              refine OW.val rfl rfl (EX.move rfl) ?_
              refine OW.pass rfl rfl ?_
              refine OW.pass rfl rfl ?_
              refine OW.pass rfl rfl ?_
              refine OW.pass rfl rfl ?_
              refine OW.pass rfl rfl ?_
              refine OW.val rfl rfl (EX.pickT rfl rfl) ?_
              refine OW.nil ?_
              refine KW.condT rfl (KW.seq (KW.region ?_))
              refine OW.val rfl rfl (EX.assign rfl) ?_
              refine OW.val rfl rfl (EX.assign rfl) ?_
              refine OW.nil ?_
              refine KW.ret (ret2 rfl rfl rfl ?_)
              exact bye (by rw [hdst, if_neg (fun h => by have := h.2.2.1; omega)])
            · refine OW.val rfl rfl (EX.move rfl) ?_
              refine OW.val rfl rfl (EX.move rfl) ?_
              refine OW.val rfl rfl (EX.lenS Tryz.underlying9 rfl) ?_
              refine OW.val rfl rfl (by first | exact EX.addN (b := 2) (m := 9223372036854775807) rfl rfl rfl (by omega) | exact EX.addZ (m := 9223372036854775807) rfl rfl rfl rfl (by omega)) ?_
              refine OW.val rfl rfl (by first | exact EX.lssN rfl rfl | exact EX.lssZ rfl rfl) ?_
              refine OW.val rfl rfl (EX.pickF rfl rfl) ?_
              refine OW.val rfl rfl (EX.move rfl) ?_
              refine OW.splitD 47 rfl (fun a3 => ?_) (fun a3 => ?_)
              · refine OW.pass rfl rfl ?_
                refine OW.pass rfl rfl ?_
                refine OW.pass rfl rfl ?_
                refine OW.pass rfl rfl ?_
                refine OW.pass rfl rfl ?_
                refine OW.val rfl rfl (EX.pickT rfl rfl) ?_
                refine OW.nil ?_
                refine KW.condT rfl (KW.seq (KW.region ?_))
                refine OW.val rfl rfl (EX.assign rfl) ?_
                refine OW.val rfl rfl (EX.assign rfl) ?_
                refine OW.nil ?_
                refine KW.ret (ret2 rfl rfl rfl ?_)
                exact bye (by rw [hdst, if_neg (fun h => by have := h.2.2.2.1; omega)])
              · have hlt : n - 1 < q.length := by omega
                have hg : q.getD (n - 1) 0 = q[n - 1] := by simp [List.getD_eq_getElem?_getD, hlt]
                refine OW.val rfl rfl (EX.move rfl) ?_
                refine OW.val rfl rfl (EX.move rfl) ?_
                refine OW.val rfl rfl (by first | exact EX.subN (b := 1) (m := 9223372036854775807) rfl rfl rfl (by omega) | exact EX.subZ (m := 9223372036854775807) rfl rfl rfl rfl (by omega)) ?_
                refine OW.val rfl rfl (EX.indexS Tryz.underlying9 rfl rfl (List.getElem?_eq_getElem (by omega))) ?_
                refine OW.val rfl rfl (by first | exact EX.neqN (b := 10) rfl rfl | exact EX.neqZ rfl rfl) ?_
                refine OW.val rfl rfl (EX.pickF rfl rfl) ?_
                refine OW.nil ?_
                refine KW.condD rfl (fun a4 => ?_) (fun a4 => ?_)
                · refine KW.seq (KW.region ?_)
                  refine OW.val rfl rfl (EX.assign rfl) ?_
                  refine OW.val rfl rfl (EX.assign rfl) ?_
                  refine OW.nil ?_
                  refine KW.ret (ret2 rfl rfl rfl ?_)
                  exact bye (by rw [hdst, if_neg (fun h => a4 (by have := h.2.2.2.2; rw [hg] at this; rw [this]; rfl))])
                · have h10 : q.getD (n - 1) 0 = 10 := by rw [hg]; exact UInt8.toNat_inj.1 (by simpa using a4)
                  rw [if_pos ⟨rfl, by omega, by omega, by omega, h10⟩] at hdst
                  have hml : ((q.drop (d.length + 1)).take (n - 1 - (d.length + 1))).length ≤ 262144 := by rw [List.length_take, List.length_drop]; omega
                  have c3 := cut_c ((q.drop (d.length + 1)).take (n - 1 - (d.length + 1))) 61 (by omega) w1 (hG.ext x1)
                  have hkl := cutAt_len ((q.drop (d.length + 1)).take (n - 1 - (d.length + 1))) 61
                  generalize (cutAt ((q.drop (d.length + 1)).take (n - 1 - (d.length + 1))) 61).2.1 = val at c3 hdst
                  generalize (cutAt ((q.drop (d.length + 1)).take (n - 1 - (d.length + 1))) 61).2.2 = ok2 at c3 hdst
                  generalize (cutAt ((q.drop (d.length + 1)).take (n - 1 - (d.length + 1))) 61).1 = key at c3 hdst hkl
                  refine KW.skip (KW.seq (KW.region ?_))
                  refine OW.val rfl rfl (EX.move rfl) ?_
                  refine OW.val rfl rfl (EX.move rfl) ?_
                  refine OW.val rfl rfl (EX.lenS Tryz.underlying9 rfl) ?_
                  refine OW.val rfl rfl (by first | exact EX.addN (b := 1) (m := 9223372036854775807) rfl rfl rfl (by omega) | exact EX.addZ (m := 9223372036854775807) rfl rfl rfl rfl (by omega)) ?_
                  refine OW.val rfl rfl (EX.move rfl) ?_
                  refine OW.val rfl rfl (by first | exact EX.subN (b := 1) (m := 9223372036854775807) rfl rfl rfl (by omega) | exact EX.subZ (m := 9223372036854775807) rfl rfl rfl rfl (by omega)) ?_
                  refine OW.val rfl rfl (EX.sliceLH Tryz.underlying9 rfl rfl rfl (by omega)) ?_
                  refine OW.call rfl rfl rfl (c3) ?_
                  rintro _ w2 ⟨rfl, hx2⟩
                  refine OW.val rfl rfl (EX.move rfl) ?_
                  refine OW.val rfl rfl (EX.extract rfl rfl) ?_
                  refine OW.val rfl rfl (EX.extract rfl rfl) ?_
                  refine OW.val rfl rfl (EX.extract rfl rfl) ?_
                  refine OW.val rfl rfl (EX.assign rfl) ?_
                  refine OW.val rfl rfl (EX.assign rfl) ?_
                  refine OW.val rfl rfl (EX.assign rfl) ?_
                  refine OW.nil ?_
                  refine KW.seq (KW.seq ?_)
                  have x2 := x1.trans hx2
                  have bye2 : dstep q = none → ∃ u : Value, Value.tuple #[.slice none 0 0, .int .i64 ((170 : Nat) : Int)] = .tuple #[u, .int .i64 (((decP s).2 : Nat) : Int)] ∧ Own w2 w.heap.size 49 2 u (decP s).1.length (prsV (decP s).1) ∧ Ext w w2 := fun h => by
                    rw [no h]
                    exact ⟨_, rfl, nil w2, x2⟩
                  rcases ok2 with _ | _
                  · skip
                    refine KW.region ?_
                    refine OW.val rfl rfl (EX.move rfl) ?_
                    refine OW.val rfl rfl (by first | exact EX.notD rfl | exact EX.notB rfl) ?_
                    refine OW.val rfl rfl (EX.move rfl) ?_
                    refine OW.pass rfl rfl ?_
                    refine OW.pass rfl rfl ?_
                    refine OW.val rfl rfl (EX.pickT rfl rfl) ?_
                    refine OW.nil ?_
                    refine KW.condT rfl (KW.seq (KW.region ?_))
                    refine OW.val rfl rfl (EX.assign rfl) ?_
                    refine OW.val rfl rfl (EX.assign rfl) ?_
                    refine OW.nil ?_
                    refine KW.ret (ret2 rfl rfl rfl ?_)
                    exact bye2 (by rw [hdst, if_neg (fun h => by cases h.1)])
                  · skip
                    refine KW.region ?_
                    refine OW.val rfl rfl (EX.move rfl) ?_
                    refine OW.val rfl rfl (by first | exact EX.notD rfl | exact EX.notB rfl) ?_
                    refine OW.val rfl rfl (EX.move rfl) ?_
                    refine OW.val rfl rfl (EX.move rfl) ?_
                    refine OW.val rfl rfl (EX.eqlS (r := []) rfl rfl) ?_
                    refine OW.val rfl rfl (EX.pickF rfl rfl) ?_
                    refine OW.nil ?_
                    refine KW.condD rfl (fun b1 => ?_) (fun b1 => ?_)
                    · refine KW.seq (KW.region ?_)
                      refine OW.val rfl rfl (EX.assign rfl) ?_
                      refine OW.val rfl rfl (EX.assign rfl) ?_
                      refine OW.nil ?_
                      refine KW.ret (ret2 rfl rfl rfl ?_)
                      exact bye2 (by rw [hdst, if_neg (fun h => h.2 b1)])
                    · rw [if_pos ⟨rfl, b1⟩] at hdst
                      have hown2 := (hown.ext hx1).ext hx2
                      refine KW.skip (KW.seq (KW.region ?_))
                      refine OW.val rfl rfl (EX.move rfl) ?_
                      refine OW.val rfl rfl (EX.move rfl) ?_
                      refine OW.val rfl rfl (EX.move rfl) ?_
                      refine OW.val rfl rfl (EX.buildS (pl := [(0, 1), (1, 1)]) (ks := [0, 1]) (is := [0, 1]) (zs := [str [], str []]) Tryz.underlying49 ti49 (by kernel_rfl) rfl rfl rfl (by first | rfl | (simp only [List.all_cons, List.all_nil, Bool.and_true, Bool.true_and, Bool.and_eq_true, Value.oneCell']; repeat (first | assumption | exact Own.one (by assumption) | constructor))) (by simp only [setAll, List.set_cons_zero, List.set_cons_succ]; rfl)) ?_
                      refine OW.pushS rfl rfl (fun _ => rfl) rfl Tryz.underlying50 ti49 rfl (by decide) (by decide) rfl rfl (fun _ => rfl) (by first | rfl | assumption | (simp only [List.all_cons, List.all_nil, Bool.and_true, Bool.true_and, Bool.and_eq_true, Value.oneCell']; repeat (first | assumption | constructor))) (x2) (hown2) (by simp only [maxLen]; omega) (by omega) ?_
                      rintro _ v3 w3 hown3 hx3 _
                      refine OW.val rfl rfl (EX.assign rfl) ?_
                      refine OW.nil ?_
                      refine KW.region ?_
                      refine OW.val rfl rfl (EX.move rfl) ?_
                      refine OW.val rfl rfl (EX.move rfl) ?_
                      refine OW.val rfl rfl (EX.sliceLE Tryz.underlying9 rfl rfl (by omega)) ?_
                      refine OW.val rfl rfl (EX.assign rfl) ?_
                      refine OW.nil ?_
                      refine KW.leave ?_
                      refine KW.back4 (q.drop n) (out ++ [⟨key, val⟩]) (v3) (w3) ⟨rfl, rfl, trivial⟩ rfl ?_ (by rw [List.length_drop]; omega)
                      refine ⟨by rw [List.length_drop]; omega, by rw [List.length_drop, List.length_append, List.length_singleton]; omega, ?_, ?_, hx3⟩
                      · rw [he, dl_succ, if_neg hnil, hdst]
                        simp only
                        exact ((decL_out _ (q.drop n) _ (by rw [List.length_drop]; omega)).2 _ (by omega)).symm
                      · rw [List.length_append, List.length_singleton, prsV, List.flatMap_append]
                        simpa [Pr.cells] using hown3
end Go.Proofs.YtjgeoeeikfjmdaaGreatDoor
/- pax: records are written. -/
namespace Go.Proofs.YtjgeoeeikfjmdaaGreatDoor
set_option linter.unnecessarySimpa false
open Go.RowKit Fld Pax
set_option linter.unusedVariables false
set_option linter.unusedSimpArgs false

theorem containsEq_c (s : List UInt8) (w : World) : Ret Tryz.prog 46 [str s, str [61]] w fun v w' => v = .bool (decide ((61 : UInt8) ∈ s)) ∧ w = w' := by
  refine (Ret.of_calls Tryz.func46 (by kernel_rfl) (Tryz.strings_Contains_one ⟨s.toArray⟩ 61 w)).mono ?_
  rintro v w' ⟨rfl, rfl⟩
  refine ⟨congrArg Value.bool (decide_eq_decide.2 ?_), rfl⟩
  rw [show (⟨s.toArray⟩ : ByteArray).data.toList = s from rfl]
  rcases indexByte_lt s 61 with ⟨h1, h2⟩ | ⟨i, h1, _, _, h2⟩
  · rw [h1]
    exact ⟨fun h => absurd h (by decide), fun h => absurd h h2⟩
  · rw [h1]
    exact ⟨fun _ => h2, fun _ => by omega⟩
theorem digits_nat (n : Nat) : digits (n : Int) = Lib.decDigits n := by
  unfold digits
  rw [if_neg (by omega)]
  rfl
theorem digitsN_s (n : Nat) (h1 : n ≤ 9223372036854775807) (w : World) (ht : Env w) : Ret Tryz.prog 47 [.int .i64 (n : Int)] w fun v w' => v = str (Lib.decDigits n) ∧ Ext w w' := by
  have := digits_s (n : Int) (by omega) (by omega) w ht.tab
  rwa [digits_nat] at this
theorem encL_cons (p : Pr) (l : List Pr) (n : Nat) (out : List UInt8) : encL (p :: l) n out = if 262144 < n + sizeP p then ([], 3) else encL l (n + sizeP p) (out ++ recT p) := rfl
theorem dl_le19 {n : Nat} (h : n ≤ 9223372036854775807) : dl n ≤ 19 := dl_le 19 n (by omega) (by decide)
theorem recT_len {p : Pr} (h : dl (sizeP p) = dOf (rest p)) : (recT p).length = sizeP p := by
  unfold recT
  simp only [List.length_append, List.length_singleton]
  unfold dl at h
  rw [h]
  unfold sizeP rest
  omega
theorem okK_iff (k : List UInt8) : okK k = true ↔ ¬ (k = [] ∨ (61 : UInt8) ∈ k) := by
  unfold okK
  rw [decide_eq_true_eq, not_or]
/-- pairs that can be written: they fit a machine -/
def OkP (l : List Pr) : Prop := ∀ p ∈ l, p.key.length ≤ 1000000000000 ∧ p.val.length ≤ 1000000000000
set_option maxRecDepth 20000 in
theorem pencode_s (l : List Pr) (hl : l.length ≤ 140737488355328) (hok : OkP l) (A : Option Addr) (k B : Nat) (w : World) (hG : Env w) (hs : Sl w B A (prsV l)) :
    Ret Tryz.prog 23 [.slice A l.length k] w fun v w' => v = .tuple #[str (encP l).1, .int .i64 (((encP l).2 : Nat) : Int)] ∧ Ext w w' := by
  refine Ret.enter Tryz.func23 rfl Tryz.ntmps23 (by kernel_rfl) rfl ?_
  refine KW.seq (KW.region ?_)
  refine OW.val rfl rfl (EX.assign rfl) ?_
  refine OW.val rfl rfl (EX.assign rfl) ?_
  refine OW.nil ?_
  refine KW.seq (KW.region ?_)
  refine OW.val rfl rfl (EX.assign rfl) ?_
  refine OW.nil ?_
  refine KW.seq (KW.seq (KW.region ?_))
  refine OW.val rfl rfl (EX.move rfl) ?_
  refine OW.val rfl rfl (EX.lenA Tryz.underlying50 rfl) ?_
  refine OW.val rfl rfl (EX.move rfl) ?_
  refine OW.nil ?_
  refine KW.cut1 (fun (wr : World) => l.all (fun p => okK p.key) = true ∧ Ext w wr) (fun (wr : World) => [(0, .slice A l.length k), (4, .int .i64 ((0 : Nat) : Int))]) (fun (wr : World) => wr) ?_ ?_
  · refine KW.block ?_
    refine KW.loop2 (fun (i : Nat) (wr : World) => i ≤ l.length ∧ (l.take i).all (fun p => okK p.key) = true ∧ Ext w wr) (fun (i : Nat) (wr : World) => [(0, .slice A l.length k), (4, .int .i64 ((0 : Nat) : Int)), (12, .slice A l.length k), (13, .int .i64 ((l.length : Nat) : Int)), (14, .int .i64 ((i : Nat) : Int))]) (fun (i : Nat) (wr : World) => wr) (fun (i : Nat) (wr : World) => l.length - i) (0) (w) ⟨rfl, rfl, rfl, rfl, rfl, trivial⟩ rfl ?_ ?_
    · exact ⟨by omega, rfl, Ext.refl _⟩
    · rintro i wr ⟨hi, hall, hx⟩
      refine KW.seq (KW.region ?_)
      refine OW.val rfl rfl (by first | exact EX.lssN rfl rfl | exact EX.lssZ rfl rfl) ?_
      refine OW.nil ?_
      refine KW.seq ?_
      refine KW.condD rfl (fun hlt => ?_) (fun hlt => ?_)
      · obtain ⟨b, o, rfl, _, hcell⟩ := (hs.ext hx).flat (c := 2) (fun _ => rfl) (by decide) hlt
        have hsn : l.take (i + 1) = l.take i ++ [l[i]] := (List.take_append_getElem hlt).symm
        refine KW.skip (KW.seq (KW.block (KW.seq (KW.region ?_))))
        refine OW.val rfl rfl (EX.indexAddrS Tryz.underlying50 ti49 rfl rfl (by omega)) ?_
        refine OW.val rfl rfl (EX.loadA (l := (l[i]).cells) Tryz.underlying49 rfl ti49 rfl rfl hcell) ?_
        refine OW.allocB (l := [str [], str []]) rfl rfl ti49 rfl ?_
        rintro pb w1 hge1 hp1 hx1
        refine OW.storeS rfl ti49 rfl rfl rfl (by first | rfl | (simp only [List.all_cons, List.all_nil, Bool.and_true, Bool.true_and, Bool.and_eq_true, Value.oneCell']; repeat (first | assumption | exact Own.one (by assumption) | constructor))) (hp1) (Nat.le_refl _) ?_
        rintro w2 hp2 hm2
        refine OW.nil ?_
        refine KW.seq ?_
        replace hp2 : Bk w2 pb 49 (l[i]).cells := hp2
        have x2 : Ext w w2 := below_mo (hx.trans hx1) hm2 (hx.trans hx1).size (fun k hk => by simp at hk; have := hx.size; omega)
        have no : okK (l[i]).key = false → encP l = ([], 170) := fun h => by
          unfold encP
          rw [if_neg]
          intro h2
          rw [List.all_eq_true] at h2
          have := h2 l[i] (List.getElem_mem hlt)
          rw [h] at this
          cases this
        refine KW.region ?_
        refine OW.val rfl rfl (EX.fieldAddr (off := 0) Tryz.underlying49 rfl rfl ti9 rfl rfl) ?_
        refine OW.val rfl rfl (EX.load Tryz.underlying9 rfl rfl (hp2.cell_of rfl)) ?_
        refine OW.val rfl rfl (EX.eqlS (r := []) rfl rfl) ?_
        refine OW.val rfl rfl (EX.move rfl) ?_
        refine OW.splitD 21 rfl (fun h1 => ?_) (fun h1 => ?_)
        · refine OW.pass rfl rfl ?_
          refine OW.pass rfl rfl ?_
          refine OW.pass rfl rfl ?_
          refine OW.val rfl rfl (EX.pickT rfl rfl) ?_
          refine OW.nil ?_
          refine KW.condT rfl (KW.seq (KW.region ?_))
          refine OW.val rfl rfl (EX.assign rfl) ?_
          refine OW.val rfl rfl (EX.assign rfl) ?_
          refine OW.nil ?_
          refine KW.ret (ret2 rfl rfl rfl ?_)
          rw [no (by unfold okK; rw [h1]; simp)]
          exact ⟨rfl, x2⟩
        · refine OW.val rfl rfl (EX.fieldAddr (off := 0) Tryz.underlying49 rfl rfl ti9 rfl rfl) ?_
          refine OW.val rfl rfl (EX.load Tryz.underlying9 rfl rfl (hp2.cell_of rfl)) ?_
          refine OW.call rfl rfl rfl (containsEq_c (l[i]).key w2) ?_
          rintro _ _ ⟨rfl, rfl⟩
          refine OW.val rfl rfl (EX.pickF rfl rfl) ?_
          refine OW.nil ?_
          refine KW.condD rfl (fun h2 => ?_) (fun h2 => ?_)
          · refine KW.seq (KW.region ?_)
            refine OW.val rfl rfl (EX.assign rfl) ?_
            refine OW.val rfl rfl (EX.assign rfl) ?_
            refine OW.nil ?_
            refine KW.ret (ret2 rfl rfl rfl ?_)
            rw [no (by unfold okK; simp [h2])]
            exact ⟨rfl, x2⟩
          · refine KW.skip (KW.leave (KW.region ?_))
            refine OW.val rfl rfl (by first | exact EX.addN (b := 1) (m := 9223372036854775807) rfl rfl rfl (by omega) | exact EX.addZ (m := 9223372036854775807) rfl rfl rfl rfl (by omega)) ?_
            refine OW.val rfl rfl (EX.move rfl) ?_
            refine OW.nil ?_
            refine KW.back2 (i + 1) (w2) ⟨rfl, rfl, rfl, rfl, rfl, trivial⟩ rfl ?_ (by omega)
            refine ⟨by omega, ?_, x2⟩
            rw [hsn, List.all_append, hall]
            have : okK (l[i]).key = true := (okK_iff _).2 (by simp [h1, h2])
            simp [this]
      · obtain rfl : i = l.length := by omega
        rw [List.take_length] at hall
        refine KW.exit rfl ?_
        refine KW.meet1 (wr) ⟨rfl, rfl, trivial⟩ rfl ?_
        exact ⟨hall, hx⟩
  · rintro wr ⟨hall, hx⟩
    have e0 : encP l = encL l 0 [] := by unfold encP; rw [if_pos hall]
    rw [e0]
    refine KW.seq (KW.region ?_)
    refine OW.allocB (l := [.pointer none, .slice none 0 0]) rfl rfl ti57 rfl ?_
    rintro bb w1 hge1 hb1 hx1
    refine OW.nil ?_
    refine KW.seq (KW.seq (KW.region ?_))
    refine OW.val rfl rfl (EX.move rfl) ?_
    refine OW.val rfl rfl (EX.lenA Tryz.underlying50 rfl) ?_
    refine OW.val rfl rfl (EX.move rfl) ?_
    refine OW.nil ?_
    refine KW.block ?_
    have hbd := Bd.new (B := w.heap.size) (by have := hx.size; omega) hb1
    have x1 := hx.trans hx1
    refine KW.loop4 (fun (i : Nat) (n : Nat) (out : (List UInt8)) (wr : World) => i ≤ l.length ∧ n ≤ 262144 ∧ out.length ≤ n ∧ encL (l.drop i) n out = encL l 0 [] ∧ Bd wr w.heap.size bb out ∧ Ext w wr) (fun (i : Nat) (n : Nat) (out : (List UInt8)) (wr : World) => [(4, .int .i64 ((n : Nat) : Int)), (7, .pointer (some ⟨bb, 0, none⟩)), (27, .slice A l.length k), (28, .int .i64 ((l.length : Nat) : Int)), (29, .int .i64 ((i : Nat) : Int))]) (fun (i : Nat) (n : Nat) (out : (List UInt8)) (wr : World) => wr) (fun (i : Nat) (n : Nat) (out : (List UInt8)) (wr : World) => l.length - i) (0) (0) ([]) (w1) ⟨rfl, rfl, rfl, rfl, rfl, trivial⟩ rfl ?_ ?_
    · exact ⟨by omega, by omega, by simp, rfl, hbd, x1⟩
    · rintro i n out wr ⟨hi, hn, hol, he, hbd, hx⟩
      refine KW.seq (KW.region ?_)
      refine OW.val rfl rfl (by first | exact EX.lssN rfl rfl | exact EX.lssZ rfl rfl) ?_
      refine OW.nil ?_
      refine KW.seq ?_
      refine KW.condD rfl (fun hlt => ?_) (fun hlt => ?_)
      · obtain ⟨b, o, rfl, _, hcell⟩ := (hs.ext hx).flat (c := 2) (fun _ => rfl) (by decide) hlt
        have hdr : l.drop i = l[i] :: l.drop (i + 1) := List.drop_eq_getElem_cons hlt
        have hp := hok l[i] (List.getElem_mem hlt)
        have hpe : (l[i]).cells = [str (l[i]).key, str (l[i]).val] := rfl
        rw [hdr, encL_cons] at he
        generalize l[i] = p at hp he hcell hpe
        refine KW.skip (KW.seq (KW.block (KW.seq (KW.region ?_))))
        refine OW.val rfl rfl (EX.indexAddrS Tryz.underlying50 ti49 rfl rfl (by omega)) ?_
        refine OW.val rfl rfl (EX.loadA (l := p.cells) Tryz.underlying49 rfl ti49 rfl rfl hcell) ?_
        refine OW.allocB (l := [str [], str []]) rfl rfl ti49 rfl ?_
        rintro pb w2 hge2 hp2 hx2
        refine OW.storeS rfl ti49 rfl rfl rfl (by first | rfl | (simp only [List.all_cons, List.all_nil, Bool.and_true, Bool.true_and, Bool.and_eq_true, Value.oneCell']; repeat (first | assumption | exact Own.one (by assumption) | constructor))) (hp2) (Nat.le_refl _) ?_
        rintro w3 hp3 hm3
        refine OW.nil ?_
        refine KW.seq (KW.region ?_)
        refine OW.val rfl rfl (EX.fieldAddr (off := 0) Tryz.underlying49 rfl rfl ti9 rfl rfl) ?_
        replace hp3 : Bk w3 pb 49 p.cells := hp3
        have x3 : Ext wr w3 := below_mo hx2 hm3 hx2.size (fun k hk => by simp at hk; omega)
        refine OW.val rfl rfl (EX.load Tryz.underlying9 rfl rfl (hp3.cell_of rfl)) ?_
        refine OW.val rfl rfl (EX.lenS Tryz.underlying9 rfl) ?_
        refine OW.val rfl rfl (EX.fieldAddr (off := 1) Tryz.underlying49 rfl rfl ti9 rfl rfl) ?_
        refine OW.val rfl rfl (EX.load Tryz.underlying9 rfl rfl (hp3.cell_of rfl)) ?_
        refine OW.val rfl rfl (EX.lenS Tryz.underlying9 rfl) ?_
        refine OW.val rfl rfl (by first | exact EX.addN (m := 9223372036854775807) rfl rfl rfl (by omega) | exact EX.addZ (m := 9223372036854775807) rfl rfl rfl rfl (by omega)) ?_
        refine OW.val rfl rfl (by first | exact EX.addN (b := 3) (m := 9223372036854775807) rfl rfl rfl (by omega) | exact EX.addZ (m := 9223372036854775807) rfl rfl rfl rfl (by omega)) ?_
        refine OW.val rfl rfl (EX.assign rfl) ?_
        refine OW.nil ?_
        refine KW.seq (KW.region ?_)
        refine OW.val rfl rfl (EX.move rfl) ?_
        refine OW.val rfl rfl (by first | exact EX.addN (b := 1) (m := 9223372036854775807) rfl rfl rfl (by omega) | exact EX.addZ (m := 9223372036854775807) rfl rfl rfl rfl (by omega)) ?_
        refine OW.val rfl rfl (EX.assign rfl) ?_
        refine OW.nil ?_
        refine KW.seq (KW.block ?_)
        have hr : ((p.key.length : Nat) : Int) + ((p.val.length : Nat) : Int) + 3 = ((rest p : Nat) : Int) := by unfold rest; omega
        have hrl : rest p ≤ 2000000000003 := by unfold rest; omega
        refine KW.as 10 (.int .i64 (((rest p) : Nat) : Int)) rfl (congrArg (Value.int .i64) (by unfold rest; omega)) ?_
        refine KW.as 11 (.int .i64 (((rest p + 1) : Nat) : Int)) rfl (congrArg (Value.int .i64) (by unfold rest; omega)) ?_
        refine KW.loop2 (fun (z : Nat) (wq : World) => rest p + 1 ≤ z ∧ z ≤ rest p + 20 ∧ z ≤ dl z + rest p ∧ (∀ d, 1 ≤ d → d + rest p < z → dl (d + rest p) ≠ d) ∧ Ext w3 wq) (fun (z : Nat) (wq : World) => [(4, .int .i64 ((n : Nat) : Int)), (7, .pointer (some ⟨bb, 0, none⟩)), (9, .pointer (some ⟨pb, 0, none⟩)), (10, .int .i64 (((rest p) : Nat) : Int)), (11, .int .i64 ((z : Nat) : Int)), (27, .slice (some ⟨b, o, none⟩) l.length k), (28, .int .i64 ((l.length : Nat) : Int)), (29, .int .i64 ((i : Nat) : Int))]) (fun (z : Nat) (wq : World) => wq) (fun (z : Nat) (wq : World) => rest p + 21 - z) (rest p + 1) (w3) ⟨rfl, rfl, rfl, rfl, rfl, rfl, rfl, rfl, trivial⟩ rfl ?_ ?_
        · exact ⟨by omega, by omega, by have := dl_pos (rest p + 1); omega, fun d h1 h2 => by omega, Ext.refl _⟩
        · rintro z wq ⟨hz1, hz2, hz3, hz4, hxq⟩
          have hz5 : dl z ≤ 19 := dl_le19 (by omega)
          have xq := (hx.trans x3).trans hxq
          have c1 := digitsN_s z (by omega) wq (hG.ext xq)
          have hdz : (Lib.decDigits z).length = dl z := rfl
          generalize hD : Lib.decDigits z = D at c1 hdz
          refine KW.seq (KW.seq (KW.region ?_))
          refine OW.val rfl rfl (EX.move rfl) ?_
          refine OW.call rfl rfl rfl (c1) ?_
          rintro _ w4 ⟨rfl, hx4⟩
          refine OW.val rfl rfl (EX.lenS Tryz.underlying9 rfl) ?_
          refine OW.val rfl rfl (EX.move rfl) ?_
          refine OW.val rfl rfl (by first | exact EX.addN (m := 9223372036854775807) rfl rfl rfl (by omega) | exact EX.addZ (m := 9223372036854775807) rfl rfl rfl rfl (by omega)) ?_
          refine OW.val rfl rfl (EX.move rfl) ?_
          refine OW.val rfl rfl (by first | exact EX.neqN rfl rfl | exact EX.neqZ rfl rfl) ?_
          refine OW.nil ?_
          refine KW.condD rfl (fun hne => ?_) (fun hne => ?_)
          · have c2 := digitsN_s z (by omega) w4 (hG.ext (xq.trans hx4))
            rw [hD] at c2
            refine KW.skip (KW.block (KW.region ?_))
            refine OW.val rfl rfl (EX.move rfl) ?_
            refine OW.call rfl rfl rfl (c2) ?_
            rintro _ w5 ⟨rfl, hx5⟩
            refine OW.val rfl rfl (EX.lenS Tryz.underlying9 rfl) ?_
            refine OW.val rfl rfl (EX.move rfl) ?_
            refine OW.val rfl rfl (by first | exact EX.addN (m := 9223372036854775807) rfl rfl rfl (by omega) | exact EX.addZ (m := 9223372036854775807) rfl rfl rfl rfl (by omega)) ?_
            refine OW.val rfl rfl (EX.assign rfl) ?_
            refine OW.nil ?_
            refine KW.leave ?_
            refine KW.as 11 (.int .i64 (((dl z + rest p) : Nat) : Int)) rfl (congrArg (Value.int .i64) (by omega)) ?_
            refine KW.back2 (dl z + rest p) (w5) ⟨rfl, rfl, rfl, rfl, rfl, rfl, rfl, rfl, trivial⟩ rfl ?_ (by omega)
            refine ⟨by omega, by omega, ?_, ?_, (hxq.trans hx4).trans hx5⟩
            · have := dl_mono z (dl z + rest p) hz3
              omega
            · intro d h1 h2 h3
              by_cases h4 : d + rest p < z
              · exact hz4 d h1 h4 h3
              · have := dl_mono z (d + rest p) (by omega)
                omega
          · have hzz : dl z + rest p = z := by omega
            have hd : IsD (rest p) (dl z) := by
              refine ⟨dl_pos z, by omega, by rw [hzz], fun d' h1 h2 => hz4 d' h1 (by omega)⟩
            have hdo := isD_val hd
            have hsz : sizeP p = z := by unfold sizeP; rw [← hdo]; exact hzz
            have hrt := recT_len (p := p) (by rw [hsz, ← hdo])
            have hrT : recT p = D ++ [32] ++ p.key ++ [61] ++ p.val ++ [10] := by unfold recT; rw [hsz, hD]
            rw [hsz] at hrt he
            refine KW.exit rfl (KW.seq (KW.seq (KW.region ?_)))
            refine OW.val rfl rfl (EX.move rfl) ?_
            refine OW.val rfl rfl (EX.move rfl) ?_
            refine OW.val rfl rfl (by first | exact EX.addN (m := 9223372036854775807) rfl rfl rfl (by omega) | exact EX.addZ (m := 9223372036854775807) rfl rfl rfl rfl (by omega)) ?_
            refine OW.val rfl rfl (EX.assign rfl) ?_
            refine OW.nil ?_
            refine KW.seq (KW.region ?_)
            refine OW.val rfl rfl (EX.move rfl) ?_
            refine OW.val rfl rfl (by first | exact EX.gtrN (b := 262144) rfl rfl | exact EX.gtrZ rfl rfl) ?_
            refine OW.nil ?_
            refine KW.condD rfl (fun hbig => ?_) (fun hbig => ?_)
            · rw [if_pos (by omega)] at he
              refine KW.seq (KW.region ?_)
              refine OW.val rfl rfl (EX.assign rfl) ?_
              refine OW.val rfl rfl (EX.assign rfl) ?_
              refine OW.nil ?_
              refine KW.ret (ret2 rfl rfl rfl ?_)
              rw [← he]
              exact ⟨rfl, xq.trans hx4⟩
            · rw [if_neg (by omega)] at he
              have hp4 := (hp3.ext hxq).ext hx4
              have hbd4 := ((hbd.ext x3).ext hxq).ext hx4
              have x4 := xq.trans hx4
              have c3 := digitsN_s z (by omega) w4.drew (hG.ext (x4.trans (Ext.drew w4)))
              rw [hD] at c3
              refine KW.skip (KW.regionG (N := 12) (fun w' => Bk w' pb 49 p.cells) (by kernel_rfl) rfl ?_)
              have hS := hp4.drew
              refine GW.val 0 rfl (by kernel_rfl) (by kernel_rfl) (by kernel_rfl) rfl rfl hS (fun w' hS' => EX.move rfl) ?_
              refine GW.val 3 rfl (by kernel_rfl) (by kernel_rfl) (by kernel_rfl) rfl rfl hS (fun w' hS' => EX.fieldAddr (off := 0) Tryz.underlying49 rfl rfl ti9 rfl rfl) ?_
              refine GW.val 4 rfl (by kernel_rfl) (by kernel_rfl) (by kernel_rfl) rfl rfl hS (fun w' hS' => EX.load Tryz.underlying9 rfl rfl (hS'.cell_of rfl)) ?_
              refine GW.val 7 rfl (by kernel_rfl) (by kernel_rfl) (by kernel_rfl) rfl rfl hS (fun w' hS' => EX.fieldAddr (off := 1) Tryz.underlying49 rfl rfl ti9 rfl rfl) ?_
              refine GW.val 8 rfl (by kernel_rfl) (by kernel_rfl) (by kernel_rfl) rfl rfl hS (fun w' hS' => EX.load Tryz.underlying9 rfl rfl (hS'.cell_of rfl)) ?_
              refine GW.call 1 rfl (by kernel_rfl) rfl rfl rfl (c3) ?_
              rintro _ w5 ⟨rfl, hx5⟩
              refine ⟨hS.ext hx5, fun hS => ?_⟩
              refine GW.val 2 rfl (by kernel_rfl) (by kernel_rfl) (by kernel_rfl) rfl rfl hS (fun w' hS' => EX.addS (r := [32]) rfl rfl (by first | omega | (simp only [List.length_append, List.length_cons, List.length_nil, List.length_take, List.length_drop, List.length_replicate]; omega))) ?_
              refine GW.val 5 rfl (by kernel_rfl) (by kernel_rfl) (by kernel_rfl) rfl rfl hS (fun w' hS' => EX.addS rfl rfl (by first | omega | (simp only [List.length_append, List.length_cons, List.length_nil, List.length_take, List.length_drop, List.length_replicate]; omega))) ?_
              refine GW.val 6 rfl (by kernel_rfl) (by kernel_rfl) (by kernel_rfl) rfl rfl hS (fun w' hS' => EX.addS (r := [61]) rfl rfl (by first | omega | (simp only [List.length_append, List.length_cons, List.length_nil, List.length_take, List.length_drop, List.length_replicate]; omega))) ?_
              refine GW.val 9 rfl (by kernel_rfl) (by kernel_rfl) (by kernel_rfl) rfl rfl hS (fun w' hS' => EX.addS rfl rfl (by first | omega | (simp only [List.length_append, List.length_cons, List.length_nil, List.length_take, List.length_drop, List.length_replicate]; omega))) ?_
              refine GW.val 10 rfl (by kernel_rfl) (by kernel_rfl) (by kernel_rfl) rfl rfl hS (fun w' hS' => EX.addS (r := [10]) rfl rfl (by first | omega | (simp only [List.length_append, List.length_cons, List.length_nil, List.length_take, List.length_drop, List.length_replicate]; omega))) ?_
              have hbd5 := (hbd4.ext (Ext.drew w4)).ext hx5
              have x5 := (x4.trans (Ext.drew w4)).trans hx5
              refine GW.call 11 rfl (by kernel_rfl) rfl rfl rfl (writeString_t w.heap.size bb out (D ++ [32] ++ p.key ++ [61] ++ p.val ++ [10]) w5 hbd5 (by simp) (by rw [← hrT]; omega) x5.size) ?_
              rintro _ w6 ⟨⟨q, rfl⟩, hbd6, hbl6, htm6⟩
              refine ⟨htm6.bk hS (by decide), fun hS => ?_⟩
              refine GW.done (by kernel_rfl) ?_
              refine KW.leave (KW.region ?_)
              refine OW.val rfl rfl (by first | exact EX.addN (b := 1) (m := 9223372036854775807) rfl rfl rfl (by omega) | exact EX.addZ (m := 9223372036854775807) rfl rfl rfl rfl (by omega)) ?_
              refine OW.val rfl rfl (EX.move rfl) ?_
              refine OW.nil ?_
              rw [← hrT] at hbd6
              refine KW.as 4 (.int .i64 (((n + z) : Nat) : Int)) rfl (congrArg (Value.int .i64) (by omega)) ?_
              refine KW.back4 (i + 1) (n + z) (out ++ recT p) (w6) ⟨rfl, rfl, rfl, rfl, rfl, trivial⟩ rfl ?_ (by omega)
              refine ⟨by omega, by omega, by rw [List.length_append]; omega, he, hbd6, Tm.below x5 htm6 x5.size (Nat.le_refl _)⟩
      · obtain rfl : i = l.length := by omega
        rw [List.drop_length] at he
        have e2 : encL l 0 [] = (out, 0) := he.symm
        rw [e2]
        refine KW.exit rfl (KW.seq (KW.region ?_))
        refine OW.call rfl rfl rfl (bstring_b w.heap.size bb out wr hbd (by omega) hx.size) ?_
        rintro _ w2 ⟨rfl, hx2⟩
        refine OW.val rfl rfl (EX.assign rfl) ?_
        refine OW.val rfl rfl (EX.assign rfl) ?_
        refine OW.nil ?_
        refine KW.ret (ret2 rfl rfl rfl ?_)
        exact ⟨rfl, Below.trans hx hx2⟩
end Go.Proofs.YtjgeoeeikfjmdaaGreatDoor
/- tar: a file's sectors, by the program and the document. -/
namespace Go.Proofs.YtjgeoeeikfjmdaaGreatDoor
set_option linter.unnecessarySimpa false
open Go.RowKit Fld Ust Pax Pth Tar
set_option linter.unusedVariables false
set_option linter.unusedSimpArgs false

def _root_.Go.Proofs.YtjgeoeeikfjmdaaGreatDoor.Tar.En.cells (x : En) : List Value := [str x.path, str x.data]
abbrev ensV (l : List En) : List Value := l.flatMap En.cells
theorem filled_s (n : Nat) (h : n ≤ 9007199254740992) (w : World) : Ret Tryz.prog 45 [.int .i64 ((n : Nat) : Int)] w fun v w' => v = .int .i64 ((fil n : Nat) : Int) ∧ w = w' := by
  refine Ret.enter Tryz.func45 rfl Tryz.ntmps45 (by kernel_rfl) rfl ?_
  refine KW.seq (KW.region ?_)
  refine OW.val rfl rfl (EX.assign rfl) ?_
  refine OW.nil ?_
  refine KW.seq (KW.region ?_)
  refine OW.val rfl rfl (EX.move rfl) ?_
  refine OW.val rfl rfl (by first | exact EX.addN (b := 512) (m := 9223372036854775807) rfl rfl rfl (by omega) | exact EX.addZ (m := 9223372036854775807) rfl rfl rfl rfl (by omega)) ?_
  refine OW.val rfl rfl (by first | exact EX.subN (b := 1) (m := 9223372036854775807) rfl rfl rfl (by omega) | exact EX.subZ (m := 9223372036854775807) rfl rfl rfl rfl (by omega)) ?_
  refine OW.val rfl rfl (EX.quoN (b := 512) (m := 9223372036854775807) rfl rfl rfl (by omega)) ?_
  refine OW.val rfl rfl (by first | exact EX.mulN (b := 512) (m := 9223372036854775807) rfl rfl rfl (by omega) | exact EX.mulZ (m := 9223372036854775807) rfl rfl rfl rfl (by omega)) ?_
  refine OW.val rfl rfl (EX.assign rfl) ?_
  refine OW.nil ?_
  refine KW.ret (ret1 rfl rfl ?_)
  exact ⟨rfl, rfl⟩
theorem hdOf_ok {p : List UInt8} {k n : Nat} (hp : p.length ≤ 1000000) (hk : k ≤ 255) (hn : n ≤ 9007199254740992) : (hdOf p k n).Ok :=
  ⟨hk, by show p.length ≤ _; omega, by show (0 : Nat) ≤ _; omega, by show (0 : Nat) ≤ _; omega, by show (0 : Nat) ≤ _; omega, by unfold I64 hdOf; simp only; omega, by unfold I64 hdOf; simp only; omega, by unfold I64 hdOf; simp only; omega, by unfold I64 hdOf; simp only; omega, by unfold I64 hdOf; simp only; omega⟩
theorem sectors_s (p : List UInt8) (k : Nat) (d : List UInt8) (g : Tar.Good p k d.length) (hp : p.length ≤ 1000000) (hk : k ≤ 255) (hd : d.length ≤ 1000000) (w : World) :
    Ret Tryz.prog 22 [str p, .int .u8 (k : Int), str d] w fun v w' => v = .tuple #[str (sect p k d), .int .i64 ((0 : Nat) : Int)] ∧ Ext w w' := by
  have c1 := encode_s (hdOf p k d.length) (hdOf_ok hp hk (by omega)) w
  rw [g.enc] at c1
  have hl : (hdText (hdOf p k d.length)).length = 512 := g.len
  have hf := fil_ge d.length
  have hf2 := fil_le d.length
  unfold sect
  generalize hdText (hdOf p k d.length) = h at c1 hl
  refine Ret.enter Tryz.func22 rfl Tryz.ntmps22 (by kernel_rfl) rfl ?_
  refine KW.seq (KW.region ?_)
  refine OW.val rfl rfl (EX.assign rfl) ?_
  refine OW.val rfl rfl (EX.assign rfl) ?_
  refine OW.nil ?_
  refine KW.seq (KW.region ?_)
  refine OW.val rfl rfl (EX.move rfl) ?_
  refine OW.val rfl rfl (EX.move rfl) ?_
  refine OW.val rfl rfl (EX.move rfl) ?_
  refine OW.val rfl rfl (EX.lenS Tryz.underlying9 rfl) ?_
  refine OW.val rfl rfl (EX.buildS (pl := [(0, 1), (1, 1), (2, 1), (3, 1), (4, 1), (5, 1), (6, 2), (8, 2)]) (ks := [0, 2, 1, 3]) (is := [0, 2, 1, 3]) (zs := [str [], .int .i64 0, .int .u8 0, .int .i64 0, .int .i64 0, str [], str [], str [], .int .i64 0, .int .i64 0]) Tryz.underlying72 ti72 (by kernel_rfl) rfl rfl rfl (by first | rfl | (simp only [List.all_cons, List.all_nil, Bool.and_true, Bool.true_and, Bool.and_eq_true, Value.oneCell']; repeat (first | assumption | exact Own.one (by assumption) | constructor))) (by simp only [setAll, List.set_cons_zero, List.set_cons_succ]; rfl)) ?_
  refine OW.call rfl rfl rfl (c1) ?_
  rintro _ w1 ⟨rfl, hx1⟩
  refine OW.val rfl rfl (EX.move rfl) ?_
  refine OW.val rfl rfl (EX.extract rfl rfl) ?_
  refine OW.val rfl rfl (EX.extract rfl rfl) ?_
  refine OW.val rfl rfl (EX.assign rfl) ?_
  refine OW.val rfl rfl (EX.assign rfl) ?_
  refine OW.nil ?_
  refine KW.seq (KW.seq (KW.region ?_))
  refine OW.val rfl rfl (EX.move rfl) ?_
  refine OW.val rfl rfl (by first | exact EX.neqN (b := 0) rfl rfl | exact EX.neqZ rfl rfl) ?_
  refine OW.nil ?_
  refine KW.as 20 (.bool false) rfl (congrArg Value.bool (decide_eq_false ((fun h => h rfl)))) ?_
  refine KW.condF rfl (KW.skip (KW.seq (KW.region ?_)))
  refine OW.val rfl rfl (EX.move rfl) ?_
  refine OW.val rfl rfl (EX.move rfl) ?_
  refine OW.val rfl rfl (EX.addS rfl rfl (by first | omega | (simp only [List.length_append, List.length_cons, List.length_nil, List.length_take, List.length_drop, List.length_replicate]; omega))) ?_
  refine OW.val rfl rfl (EX.move rfl) ?_
  refine OW.val rfl rfl (EX.lenS Tryz.underlying9 rfl) ?_
  refine OW.call rfl rfl rfl (filled_s d.length (by omega) w1) ?_
  rintro _ _ ⟨rfl, rfl⟩
  refine OW.val rfl rfl (EX.move rfl) ?_
  refine OW.val rfl rfl (EX.lenS Tryz.underlying9 rfl) ?_
  refine OW.val rfl rfl (by first | exact EX.subN (m := 9223372036854775807) rfl rfl rfl (by omega) | exact EX.subZ (m := 9223372036854775807) rfl rfl rfl rfl (by omega)) ?_
  refine OW.makeB rfl rfl Tryz.underlying55 ti5 rfl rfl rfl (by omega) (by omega) ?_
  rintro b w2 hge hb hx2
  rw [← bytesV_nul] at hb
  have hnl := nul_length (fil d.length - d.length)
  refine OW.val rfl rfl (EX.strOf Tryz.underlying55 Tryz.underlying5 Tryz.underlying9 rfl (hb.sl) (nul_length _)) ?_
  refine OW.val rfl rfl (EX.addS rfl rfl (by first | omega | (simp only [List.length_append, List.length_cons, List.length_nil, List.length_take, List.length_drop, List.length_replicate]; omega))) ?_
  refine OW.val rfl rfl (EX.assign rfl) ?_
  refine OW.val rfl rfl (EX.assign rfl) ?_
  refine OW.nil ?_
  refine KW.ret (ret2 rfl rfl rfl ?_)
  exact ⟨rfl, hx1.trans hx2⟩
set_option maxRecDepth 20000 in
theorem entry_s (x : En) (hp : x.path.length ≤ 1000000000000) (hd : x.data.length ≤ 140737488355328) (w : World) (hG : Env w) :
    Ret Tryz.prog 9 [.agg x.cells.toArray] w fun v w' => v = .tuple #[str (entE x).1, .int .i64 (((entE x).2 : Nat) : Int)] ∧ Ext w w' := by
  refine Ret.enter Tryz.func9 rfl Tryz.ntmps9 (by kernel_rfl) rfl ?_
  refine KW.seq (KW.region ?_)
  refine OW.boxS rfl rfl rfl ?_
  rintro xb w1 hge1 hb1 hx1
  refine OW.val rfl rfl (EX.assign rfl) ?_
  refine OW.val rfl rfl (EX.assign rfl) ?_
  refine OW.nil ?_
  refine KW.seq (KW.seq (KW.region ?_))
  refine OW.val rfl rfl (EX.fieldAddr (off := 0) Tryz.underlying23 rfl rfl ti9 rfl rfl) ?_
  replace hb1 : Bk w1 xb 23 x.cells := hb1
  refine OW.val rfl rfl (EX.load Tryz.underlying9 rfl rfl (hb1.cell_of rfl)) ?_
  refine OW.call rfl rfl rfl (check_s x.path hp w1) ?_
  rintro _ w2 ⟨rfl, hx2⟩
  refine OW.val rfl rfl (EX.assign rfl) ?_
  refine OW.nil ?_
  refine KW.seq (KW.region ?_)
  refine OW.val rfl rfl (EX.move rfl) ?_
  refine OW.val rfl rfl (by first | exact EX.neqN (b := 0) rfl rfl | exact EX.neqZ rfl rfl) ?_
  refine OW.nil ?_
  have x2 := hx1.trans hx2
  have hb2 := hb1.ext hx2
  refine KW.condD rfl (fun hc => ?_) (fun hc => ?_)
  · have e : entE x = ([], 140) := by unfold entE; rw [if_pos (by omega)]
    have hc2 : checkP x.path = 140 := by unfold checkP at hc ⊢; split at hc; (· simp at hc); (· rename_i q; rw [if_neg q])
    refine KW.seq (KW.region ?_)
    refine OW.val rfl rfl (EX.move rfl) ?_
    refine OW.val rfl rfl (EX.assign rfl) ?_
    refine OW.val rfl rfl (EX.assign rfl) ?_
    refine OW.nil ?_
    refine KW.ret (ret2 rfl rfl rfl ?_)
    rw [e, hc2]
    exact ⟨rfl, x2⟩
  · have hc0 : checkP x.path = 0 := by omega
    obtain ⟨hcl, hne, h120, hz⟩ := check_clean hc0
    refine KW.skip (KW.seq (KW.seq (KW.region ?_)))
    refine OW.val rfl rfl (EX.fieldAddr (off := 1) Tryz.underlying23 rfl rfl ti9 rfl rfl) ?_
    refine OW.val rfl rfl (EX.load Tryz.underlying9 rfl rfl (hb2.cell_of rfl)) ?_
    refine OW.val rfl rfl (EX.lenS Tryz.underlying9 rfl) ?_
    refine OW.val rfl rfl (by first | exact EX.gtrN (b := 262144) rfl rfl | exact EX.gtrZ rfl rfl) ?_
    refine OW.nil ?_
    refine KW.condD rfl (fun hbig => ?_) (fun hbig => ?_)
    · have e : entE x = ([], 3) := by unfold entE; rw [if_neg (by omega), if_pos (by omega)]
      refine KW.seq (KW.region ?_)
      refine OW.val rfl rfl (EX.assign rfl) ?_
      refine OW.val rfl rfl (EX.assign rfl) ?_
      refine OW.nil ?_
      refine KW.ret (ret2 rfl rfl rfl ?_)
      rw [e]
      exact ⟨rfl, x2⟩
    · have hd2 : x.data.length ≤ 262144 := by omega
      have e : entE x = (entT x, 0) := by unfold entE; rw [if_neg (by omega), if_neg (by omega)]
      refine KW.skip (KW.seq (KW.seq (KW.region ?_)))
      refine OW.val rfl rfl (EX.fieldAddr (off := 0) Tryz.underlying23 rfl rfl ti9 rfl rfl) ?_
      refine OW.val rfl rfl (EX.load Tryz.underlying9 rfl rfl (hb2.cell_of rfl)) ?_
      refine OW.call rfl rfl rfl (psplit_s x.path (by omega) w2) ?_
      rintro _ w3 ⟨r, rfl, hr, hx3⟩
      refine OW.val rfl rfl (EX.move rfl) ?_
      refine OW.val rfl rfl (EX.extract rfl rfl) ?_
      refine OW.val rfl rfl (EX.extract rfl rfl) ?_
      refine OW.val rfl rfl (EX.extract rfl rfl) ?_
      refine OW.val rfl rfl (EX.assign rfl) ?_
      refine OW.val rfl rfl (EX.assign rfl) ?_
      refine OW.val rfl rfl (EX.assign rfl) ?_
      refine OW.nil ?_
      refine KW.seq (KW.region ?_)
      refine OW.val rfl rfl (EX.move rfl) ?_
      refine OW.nil ?_
      obtain rfl := split_val hr
      have x3 := x2.trans hx3
      have hb3 := hb2.ext hx3
      rcases hs : (splitP x.path).2.2 with _ | _
      · refine KW.condF rfl (KW.skip (KW.seq (KW.region ?_)))
        refine OW.val rfl rfl (EX.fieldAddr (off := 0) Tryz.underlying23 rfl rfl ti9 rfl rfl) ?_
        have hns : ¬ (splitP x.path).2.2 = true := by rw [hs]; decide
        have e2 : entT x = sect pname 120 (recT ⟨pkey, x.path⟩) ++ sect (x.path.take 100) 48 x.data := by unfold entT; rw [if_neg hns]
        have hl100 := not_split hns
        have hrl := rec_len (path_rest h120)
        have hfx := fix_small _ (path_rest h120)
        have hsz : sizeP ⟨pkey, x.path⟩ ≤ 300 := by unfold sizeP; have := path_rest h120; omega
        have g1 := good_pax (n := (recT ⟨pkey, x.path⟩).length) (by omega)
        have g2 := good_cut hc0 hd2
        have hl1 := sect_len g1
        have hl2 := sect_len g2
        have hf1 := fil_le (recT ⟨pkey, x.path⟩).length
        have hf2 := fil_le x.data.length
        refine OW.val rfl rfl (EX.load Tryz.underlying9 rfl rfl (hb3.cell_of rfl)) ?_
        refine OW.val rfl rfl (EX.buildS (pl := [(0, 1), (1, 1)]) (ks := [0, 1]) (is := [0, 1]) (zs := [str [], str []]) Tryz.underlying49 ti49 (by kernel_rfl) rfl rfl rfl (by first | rfl | (simp only [List.all_cons, List.all_nil, Bool.and_true, Bool.true_and, Bool.and_eq_true, Value.oneCell']; repeat (first | assumption | exact Own.one (by assumption) | constructor))) (by simp only [setAll, List.set_cons_zero, List.set_cons_succ]; rfl)) ?_
        refine OW.buildG 1 ([[str pkey, str x.path]]) rfl rfl Tryz.underlying50 ti49 rfl (by decide) rfl rfl rfl (by repeat' (first | exact List.forall_mem_nil _ | refine List.forall_mem_cons.2 ⟨by first | rfl | assumption, ?_⟩)) (by decide) ?_
        rintro pb w4 hge4 hp4 hx4
        replace hp4 : Bk w4 pb 49 (prsV [⟨pkey, x.path⟩]) := hp4
        have x4 := x3.trans hx4
        have c1 := pencode_s [⟨pkey, x.path⟩] (by simp) (by intro p hp; simp only [List.mem_singleton] at hp; subst hp; exact ⟨by show pkey.length ≤ _; decide, hp⟩) (some ⟨pb, 0, none⟩) 1 _ w4 (hG.ext x4) (Sl.of_bk hp4 hp4.lt)
        rw [path_enc h120] at c1
        refine OW.call rfl rfl rfl (c1) ?_
        rintro _ w5 ⟨rfl, hx5⟩
        refine OW.val rfl rfl (EX.move rfl) ?_
        refine OW.val rfl rfl (EX.extract rfl rfl) ?_
        refine OW.val rfl rfl (EX.extract rfl rfl) ?_
        refine OW.val rfl rfl (EX.assign rfl) ?_
        refine OW.val rfl rfl (EX.assign rfl) ?_
        refine OW.nil ?_
        refine KW.seq (KW.region ?_)
        refine OW.val rfl rfl (EX.move rfl) ?_
        have c2 := sectors_s pname 120 (recT ⟨pkey, x.path⟩) g1 (by decide) (by decide) (by omega) w5
        refine OW.call rfl rfl rfl (c2) ?_
        rintro _ w6 ⟨rfl, hx6⟩
        refine OW.val rfl rfl (EX.move rfl) ?_
        refine OW.val rfl rfl (EX.extract rfl rfl) ?_
        refine OW.val rfl rfl (EX.extract rfl rfl) ?_
        refine OW.val rfl rfl (EX.assign rfl) ?_
        refine OW.val rfl rfl (EX.assign rfl) ?_
        refine OW.nil ?_
        refine KW.seq ?_
        have hb6 := ((hb3.ext hx4).ext hx5).ext hx6
        have x6 := (x4.trans hx5).trans hx6
        refine KW.regionG (N := 11) (fun w' => Bk w' xb 23 x.cells) (by kernel_rfl) rfl ?_
        have hS := hb6.drew
        refine GW.val 0 rfl (by kernel_rfl) (by kernel_rfl) (by kernel_rfl) rfl rfl hS (fun w' hS' => EX.fieldAddr (off := 0) Tryz.underlying23 rfl rfl ti9 rfl rfl) ?_
        refine GW.val 1 rfl (by kernel_rfl) (by kernel_rfl) (by kernel_rfl) rfl rfl hS (fun w' hS' => EX.load Tryz.underlying9 rfl rfl (hS'.cell_of rfl)) ?_
        refine GW.val 2 rfl (by kernel_rfl) (by kernel_rfl) (by kernel_rfl) rfl rfl hS (fun w' hS' => EX.sliceFH (j := 100) Tryz.underlying9 rfl rfl (by omega)) ?_
        refine GW.val 3 rfl (by kernel_rfl) (by kernel_rfl) (by kernel_rfl) rfl rfl hS (fun w' hS' => EX.fieldAddr (off := 1) Tryz.underlying23 rfl rfl ti9 rfl rfl) ?_
        refine GW.val 4 rfl (by kernel_rfl) (by kernel_rfl) (by kernel_rfl) rfl rfl hS (fun w' hS' => EX.load Tryz.underlying9 rfl rfl (hS'.cell_of rfl)) ?_
        have c3 := fun w => sectors_s (x.path.take 100) 48 x.data g2 (by rw [List.length_take]; omega) (by decide) (by omega) w
        refine GW.call 5 rfl (by kernel_rfl) rfl rfl rfl (c3 _) ?_
        rintro _ w7 ⟨rfl, hx7⟩
        refine ⟨hS.ext hx7, fun hS => ?_⟩
        refine GW.val 6 rfl (by kernel_rfl) (by kernel_rfl) (by kernel_rfl) rfl rfl hS (fun w' hS' => EX.move rfl) ?_
        refine GW.val 7 rfl (by kernel_rfl) (by kernel_rfl) (by kernel_rfl) rfl rfl hS (fun w' hS' => EX.extract rfl rfl) ?_
        refine GW.val 8 rfl (by kernel_rfl) (by kernel_rfl) (by kernel_rfl) rfl rfl hS (fun w' hS' => EX.extract rfl rfl) ?_
        refine GW.val 9 rfl (by kernel_rfl) (by kernel_rfl) (by kernel_rfl) rfl rfl hS (fun w' hS' => EX.assign rfl) ?_
        refine GW.val 10 rfl (by kernel_rfl) (by kernel_rfl) (by kernel_rfl) rfl rfl hS (fun w' hS' => EX.assign rfl) ?_
        refine GW.done (by kernel_rfl) ?_
        refine KW.seq (KW.region ?_)
        refine OW.val rfl rfl (EX.move rfl) ?_
        refine OW.val rfl rfl (EX.move rfl) ?_
        refine OW.val rfl rfl (EX.addS rfl rfl (by first | omega | (simp only [List.length_append, List.length_cons, List.length_nil, List.length_take, List.length_drop, List.length_replicate]; omega))) ?_
        refine OW.val rfl rfl (EX.move rfl) ?_
        refine OW.val rfl rfl (EX.assign rfl) ?_
        refine OW.val rfl rfl (EX.assign rfl) ?_
        refine OW.nil ?_
        refine KW.ret (ret2 rfl rfl rfl ?_)
        rw [e, e2]
        exact ⟨rfl, (x6.trans (Ext.drew w6)).trans hx7⟩
      · refine KW.condT rfl (KW.seq (KW.region ?_))
        refine OW.val rfl rfl (EX.fieldAddr (off := 0) Tryz.underlying23 rfl rfl ti9 rfl rfl) ?_
        have e2 : entT x = sect x.path 48 x.data := by unfold entT; rw [if_pos hs]
        have g := good_one hc0 hd2 hs
        refine OW.val rfl rfl (EX.load Tryz.underlying9 rfl rfl (hb3.cell_of rfl)) ?_
        refine OW.val rfl rfl (EX.fieldAddr (off := 1) Tryz.underlying23 rfl rfl ti9 rfl rfl) ?_
        refine OW.val rfl rfl (EX.load Tryz.underlying9 rfl rfl (hb3.cell_of rfl)) ?_
        refine OW.call rfl rfl rfl (sectors_s x.path 48 x.data g (by omega) (by decide) (by omega) w3) ?_
        rintro _ w4 ⟨rfl, hx4⟩
        refine OW.val rfl rfl (EX.extract rfl rfl) ?_
        refine OW.val rfl rfl (EX.extract rfl rfl) ?_
        refine OW.val rfl rfl (EX.assign rfl) ?_
        refine OW.val rfl rfl (EX.assign rfl) ?_
        refine OW.nil ?_
        refine KW.ret (ret2 rfl rfl rfl ?_)
        rw [e, e2]
        exact ⟨rfl, x3.trans hx4⟩
end Go.Proofs.YtjgeoeeikfjmdaaGreatDoor
/- Appends of one element onto a slice, where more than new blocks was changed ahead: what is changed is named. -/
namespace Go.Proofs.YtjgeoeeikfjmdaaGreatDoor
set_option linter.unnecessarySimpa false
open Go.RowKit
set_option linter.unusedVariables false
set_option linter.unusedSimpArgs false
section
variable {P : Program} {R : Act → World → Prop} {ops : Array Oper} {rest : List Oper} {k : List KI} {n : Nat} {σ : Sig} {w : World} {x y : Operand} {t e ty ty1 : TypeId} {pos pos1 : String} {after after1 : Array Edge} {gd gd1 : Option (Nat × Bool)} {d d1 : Nat} {s bs B : Nat}
theorem EX.remZ {k : IntKind} {a b : Int} {t' : TypeId} (hx : ev σ x = some (.int k a)) (hy : ev σ y = some (.int k b)) (h : b ≠ 0) : EX P n σ (.binOp .rem t x y t') ty w (.int k (a.tmod b)) w :=
  EX.binI hx hy (by
    unfold binOp
    simp only [ne_eq, not_true_eq_false, if_false, Op.intDiv, if_neg h]
    rfl)
theorem Mo.append {w w1 w' : World} {row : Option Nat} (hx : Ext w w1) (h : w1.grownBy w' row) : Mo w w' row.toList :=
  (Mo.of_ext hx _).trans (Mo.grown h fun k e => by rw [e]; simp)
/-- changes to blocks that were not there at the beginning need no name -/
theorem Tm.fresh {w w1 w2 : World} {B : Nat} {p : TypeId → Bool} {S : List Nat} (h : Tm w w1 B p) (hm : Mo w1 w2 S) (hS : ∀ k ∈ S, w.heap.size ≤ k) : Tm w w2 B p := by
  obtain ⟨S0, h0, hp⟩ := h
  refine ⟨S0, Mo.fresh (S := S0 ++ S) ((h0.mono (by simp; exact fun k hk => .inl hk)).trans (hm.mono (by simp; exact fun k hk => .inr hk))) ?_, hp⟩
  intro k hk hlt
  rcases List.mem_append.1 hk with q | q
  · exact q
  · have := hS k q
    omega
theorem OW.pushSB (B : Nat) {z : Value} (hg1 : wantS ops σ gd1 = some true) (hd1 : Nat.blt d1 n = true) (hg : ∀ u, wantS ops ((d1, u) :: σ) gd = some true) (hd : Nat.blt d n = true) (ht : P.underlying t = some (.slice e)) (hi : TI P e z s bs) (hzs : z.cells.size = s) (hs0 : 0 < s) (hs : s ≤ 16777216)
    {v : Value} {vs : List Value} {l : Nat} {xs : List Value} (hy : ev σ y = some (.agg vs.toArray)) (hl : vs.length = s) (hx : ∀ q, ev ((d1, q) :: σ) x = some v) (hu : vs.all (·.oneCell') = true) (hB : B ≤ w.heap.size) (hown : Own w B e s v l xs)
    (h63 : l + 1 ≤ maxLen) (hbytes : (l + 1) * bs ≤ 140737488355328)
    (h : ∀ q v' w', Own w' B e s v' (l + 1) (xs ++ vs) → Mo w w' v.ownBlock.toList → (v'.ownBlock = v.ownBlock ∨ ∃ g, v'.ownBlock = some g ∧ w.heap.size ≤ g) → OW P R ops rest k n ((d, v') :: (d1, q) :: σ) w') :
    OW P R ops (⟨some d1, .buildSlice t 1 #[(0, y)], ty1, pos1, after1, gd1⟩ :: ⟨some d, .call { callee := .builtin .append, args := #[x, .tmp d1], argTypes := #[t, t] }, ty, pos, after, gd⟩ :: rest) k n σ w := by
  refine OW.val hg1 hd1 (EX.buildSlice1 ht hi hzs hs0 hs hy hl) ?_
  have hx1 : Ext w (w.alloc (.cells vs.toArray e)) := Ext.alloc w _
  have hb := Bk.new w e vs
  refine OW.append B (hg _) hd ht hi hzs hs0 (hx _) (lk_cons_same _ _ _) (hown.alloc _) (Src.of_sl ht (Sl.of_bk hb hb.lt) (by omega) (fun u hm => List.all_eq_true.1 hu u hm) hs0) h63 hbytes (Nat.le_trans hB hx1.size) ?_
  intro v' w' h1 h2 h3
  exact h _ v' w' h1 (Mo.append hx1 h2) (h3.imp id fun e => ⟨_, e, hx1.size⟩)
theorem OW.pushB (B : Nat) {z : Value} (hg1 : wantS ops σ gd1 = some true) (hd1 : Nat.blt d1 n = true) (hg : ∀ u, wantS ops ((d1, u) :: σ) gd = some true) (hd : Nat.blt d n = true) (ht : P.underlying t = some (.slice e)) (hi : TI P e z 1 bs) (hz1 : z.oneCell' = true)
    {v u : Value} {l : Nat} {xs : List Value} (hy : ev σ y = some u) (hx : ∀ q, ev ((d1, q) :: σ) x = some v) (hu : u.oneCell' = true) (hB : B ≤ w.heap.size) (hown : Own w B e 1 v l xs)
    (h63 : l + 1 ≤ maxLen) (hbytes : (l + 1) * bs ≤ 140737488355328)
    (h : ∀ q v' w', Own w' B e 1 v' (l + 1) (xs ++ [u]) → Mo w w' v.ownBlock.toList → (v'.ownBlock = v.ownBlock ∨ ∃ g, v'.ownBlock = some g ∧ w.heap.size ≤ g) → OW P R ops rest k n ((d, v') :: (d1, q) :: σ) w') :
    OW P R ops (⟨some d1, .buildSlice t 1 #[(0, y)], ty1, pos1, after1, gd1⟩ :: ⟨some d, .call { callee := .builtin .append, args := #[x, .tmp d1], argTypes := #[t, t] }, ty, pos, after, gd⟩ :: rest) k n σ w := by
  refine OW.val hg1 hd1 (EX.buildSlice (vs := [u]) 1 ht hi hz1 (by simp [evs, hy]) rfl rfl (by simp [hu]) (by decide)) ?_
  have hx1 : Ext w (w.alloc (.cells [u].toArray e)) := Ext.alloc w _
  have hb := Bk.new w e [u]
  refine OW.append B (hg _) hd ht hi (by rw [oneCell_cells hz1]; rfl) (by decide) (hx _) (lk_cons_same _ _ _) (hown.alloc _) (Src.of_sl ht (Sl.of_bk hb hb.lt) rfl (by simpa using hu) (by decide)) h63 hbytes (Nat.le_trans hB hx1.size) ?_
  intro v' w' h1 h2 h3
  exact h _ v' w' h1 (Mo.append hx1 h2) (h3.imp id fun e => ⟨_, e, hx1.size⟩)
end
section
variable {P : Program} {R : Act → World → Prop} {ops : Array Oper} {S : World → Prop} {fuel : Nat} {listed : Array Bool} {k : List KI} {n : Nat} {σ : Sig} {w : World} {x y : Operand} {t t' e ty : TypeId} {pos : String} {after : Array Edge} {gd : Option (Nat × Bool)} {d : Nat}
/-- append in a drawn region that holds calls or stores -/
theorem GW.append (i B : Nat) {z : Value} {s bs : Nat} (hi' : ops[i]? = some ⟨some d, .call { callee := .builtin .append, args := #[x, y], argTypes := #[t, t'] }, ty, pos, after, gd⟩) (hr : Region.ready .any ops listed = [i])
    (hg : wantS ops σ gd = some true) (hd : Nat.blt d n = true) (ht : P.underlying t = some (.slice e)) (hi : TI P e z s bs) (hzs : z.cells.size = s) (hs0 : 0 < s)
    {v xv : Value} {m l : Nat} {xs news : List Value} (hx : ev σ x = some v) (hy : ev σ y = some xv) (hown : Own w B e s v l xs) (hsrc : Src P s t' xv m news w)
    (h63 : l + m ≤ maxLen) (hbytes : (l + m) * bs ≤ 140737488355328) (hB : B ≤ w.heap.size)
    (h : ∀ v' w', Own w' B e s v' (l + m) (xs ++ news) → w.grownBy w' v.ownBlock → (v'.ownBlock = v.ownBlock ∨ v'.ownBlock = some w.heap.size) → S w' ∧ (S w' → GW P R ops S fuel (listed.setIfInBounds i true) k n ((d, v') :: σ) w')) : GW P R ops S (fuel + 1) listed k n σ w := by
  obtain ⟨v', w', hrun, h2, h3, h4⟩ := run_append (P := P) B t t' ty e ht hi hzs hs0 hown hsrc h63 hbytes hB
  refine GW.new i hi' hr hg hd (v := v') (w' := w') ?_ (h v' w' h2 h3 h4)
  intro A ha dst pos after g
  simp only [execOp, resolve, invoke, builtin, Sem.run_bind, Sem.run_pure, Result.andThen_ok, List.map_toArray, List.map_cons, List.map_nil, ha.ev hx, ha.ev hy, hrun]
end
end Go.Proofs.YtjgeoeeikfjmdaaGreatDoor
/- 'for x, e := range seq' where the iterator writes into blocks of its own, and where the round's first variable is a struct in a block of its own. Steps in a round's frame that were lacking. No program is spoken of. -/
namespace Go.Proofs.YtjgeoeeikfjmdaaGreatDoor
set_option linter.unnecessarySimpa false
open Go.RowKit
set_option linter.unusedSimpArgs false
set_option linter.unusedVariables false
section
variable {P : Program} {R : RP} {ops : Array Oper} {rest : List Oper} {k : List KI} {n : Nat} {σ : Sig} {w w0 : World} {x y t : Operand} {T T' e ty ty1 : TypeId} {pos pos1 : String} {after after1 : Array Edge} {gd gd1 : Option (Nat × Bool)} {d d1 : Nat} {v z : Value} {s bs : Nat} {l : List Value}
theorem OR.boxS (hg : wantS ops σ gd = some true) (hd : Nat.blt d n = true) (hx : ev σ x = some (.agg l.toArray))
    (h : ∀ b w', w.heap.size ≤ b → Bk w' b T l → Ext w w' → OR P R ops rest k n ((d, .pointer (some ⟨b, 0, none⟩)) :: σ) w') :
    OR P R ops (⟨some d, .box T x, ty, pos, after, gd⟩ :: rest) k n σ w :=
  OR.val hg hd (EX.box (l := l) hx (by simp [Value.cells])) (h _ _ (Nat.le_refl _) (Bk.new w T l) (Ext.alloc w _))
theorem OR.storeS {b o : Nat} {vs : List Value} (hg : wantS ops σ gd = some true) (hi : TI P T z s bs) (hx : ev σ x = some (.pointer (some ⟨b, o, none⟩))) (hy : ev σ y = some (.agg vs.toArray)) (hs : vs.length = s) (h1 : vs.all (·.oneCell') = true) (hb : Bk w b T' l) (hlt : o + vs.length ≤ l.length)
    (h : ∀ w', Bk w' b T' (l.take o ++ vs ++ l.drop (o + vs.length)) → Mo w w' [b] → OR P R ops rest k n σ w') :
    OR P R ops (⟨none, .store T x y, ty, pos, after, gd⟩ :: rest) k n σ w := by
  obtain ⟨w', he, hb', hg'⟩ := EU.storeA (P := P) (n := n) (ty := ty) hi hx hy hs h1 hb hlt
  exact OR.eff hg he (h w' hb' (Mo.grown hg' (fun k e => by simp at e; simp [e])))
theorem OR.pushS {t e : TypeId} {z : Value} (hg1 : wantS ops σ gd1 = some true) (hd1 : Nat.blt d1 n = true) (hg : ∀ u, wantS ops ((d1, u) :: σ) gd = some true) (hd : Nat.blt d n = true) (ht : P.underlying t = some (.slice e)) (hi : TI P e z s bs) (hzs : z.cells.size = s) (hs0 : 0 < s) (hs : s ≤ 16777216)
    {v : Value} {vs : List Value} {l : Nat} {xs : List Value} (hy : ev σ y = some (.agg vs.toArray)) (hl : vs.length = s) (hx : ∀ q, ev ((d1, q) :: σ) x = some v) (hu : vs.all (·.oneCell') = true) (hext : Ext w0 w) (hown : Own w w0.heap.size e s v l xs)
    (h63 : l + 1 ≤ maxLen) (hbytes : (l + 1) * bs ≤ 140737488355328)
    (h : ∀ q v' w', Own w' w0.heap.size e s v' (l + 1) (xs ++ vs) → Ext w0 w' → w.grownBy w' v.ownBlock → OR P R ops rest k n ((d, v') :: (d1, q) :: σ) w') :
    OR P R ops (⟨some d1, .buildSlice t 1 #[(0, y)], ty1, pos1, after1, gd1⟩ :: ⟨some d, .call { callee := .builtin .append, args := #[x, .tmp d1], argTypes := #[t, t] }, ty, pos, after, gd⟩ :: rest) k n σ w := by
  refine OR.val hg1 hd1 (EX.buildSlice1 ht hi hzs hs0 hs hy hl) ?_
  have hx1 : Ext w0 (w.alloc (.cells vs.toArray e)) := hext.trans (Ext.alloc w _)
  have hb := Bk.new w e vs
  refine OR.appendX (hg _) hd ht hi hzs hs0 (hx _) (lk_cons_same _ _ _) hx1 (hown.alloc _) (Src.of_sl ht (Sl.of_bk hb hb.lt) (by omega) (fun u hm => List.all_eq_true.1 hu u hm) hs0) h63 hbytes ?_
  intro v' w' h1 h2 h3 h4
  refine h _ v' w' h1 h2 ⟨h3.os, h3.tape, h3.output, by have := h3.size; simp at this; omega, fun j hj hne => ?_⟩
  rw [h3.block j (by simp; omega) hne]
  exact Below.heap_alloc w _ j hj
theorem OR.pushSB {t e : TypeId} (B : Nat) {z : Value} (hg1 : wantS ops σ gd1 = some true) (hd1 : Nat.blt d1 n = true) (hg : ∀ u, wantS ops ((d1, u) :: σ) gd = some true) (hd : Nat.blt d n = true) (ht : P.underlying t = some (.slice e)) (hi : TI P e z s bs) (hzs : z.cells.size = s) (hs0 : 0 < s) (hs : s ≤ 16777216)
    {v : Value} {vs : List Value} {l : Nat} {xs : List Value} (hy : ev σ y = some (.agg vs.toArray)) (hl : vs.length = s) (hx : ∀ q, ev ((d1, q) :: σ) x = some v) (hu : vs.all (·.oneCell') = true) (hB : B ≤ w.heap.size) (hown : Own w B e s v l xs)
    (h63 : l + 1 ≤ maxLen) (hbytes : (l + 1) * bs ≤ 140737488355328)
    (h : ∀ q v' w', Own w' B e s v' (l + 1) (xs ++ vs) → Mo w w' v.ownBlock.toList → (v'.ownBlock = v.ownBlock ∨ ∃ g, v'.ownBlock = some g ∧ w.heap.size ≤ g) → OR P R ops rest k n ((d, v') :: (d1, q) :: σ) w') :
    OR P R ops (⟨some d1, .buildSlice t 1 #[(0, y)], ty1, pos1, after1, gd1⟩ :: ⟨some d, .call { callee := .builtin .append, args := #[x, .tmp d1], argTypes := #[t, t] }, ty, pos, after, gd⟩ :: rest) k n σ w := by
  refine OR.val hg1 hd1 (EX.buildSlice1 ht hi hzs hs0 hs hy hl) ?_
  have hx1 : Ext w (w.alloc (.cells vs.toArray e)) := Ext.alloc w _
  have hb := Bk.new w e vs
  refine OR.append B (hg _) hd ht hi hzs hs0 (hx _) (lk_cons_same _ _ _) (hown.alloc _) (Src.of_sl ht (Sl.of_bk hb hb.lt) (by omega) (fun u hm => List.all_eq_true.1 hu u hm) hs0) h63 hbytes (Nat.le_trans hB hx1.size) ?_
  intro v' w' h1 h2 h3
  exact h _ v' w' h1 (Mo.append hx1 h2) (h3.imp id fun e => ⟨_, e, hx1.size⟩)
/-- a call of yield with two values -/
theorem OR.yield2 {x y t : Operand} {ats : Array TypeId} {lr : Nat} {v u : Value} {Q : Value → World → Prop} (hr : R.round = none)
    (hg : wantS ops σ gd = some true) (hd : Nat.blt d n = true) (ht : ev σ t = some (.func (.yield lr) #[] #[])) (hx : ev σ x = some v) (hy' : ev σ y = some u) (hc : YieldR P (R.m - 1) lr [v, u] w Q)
    (h : ∀ u w', Q u w' → OR P R ops rest k n ((d, u) :: σ) w') :
    OR P R ops (⟨some d, .call { callee := .value t, args := #[x, y], argTypes := ats }, ty, pos, after, gd⟩ :: rest) k n σ w := fun a ha => by
  obtain ⟨ro, m, ds, post⟩ := R
  simp only at hr
  subst hr
  obtain ⟨fn, tmps, assign, body, hy, hR⟩ := hc
  have et : a.eval t = .func (.yield lr) #[] #[] := by have := ha.fr.ev ht; rwa [evalD] at this
  have ex : a.eval x = v := by have := ha.fr.ev hx; rwa [evalD] at this
  have ey : a.eval y = u := by have := ha.fr.ev hy'; rwa [evalD] at this
  unfold wpListIn
  rw [if_pos (wantD ha (o := ⟨some d, .call { callee := .value t, args := #[x, y], argTypes := ats }, ty, pos, after, gd⟩) hg)]
  refine ⟨fun _ _ => trivial, ?_⟩
  have h1 : (execOp a.eval ⟨some d, .call { callee := .value t, args := #[x, y], argTypes := ats }, ty, pos, after, gd⟩).run P w = .ok (.round lr fn tmps assign body) w := by
    simp only [execOp, resolve, Deferred.ofValue, et, Sem.run_bind, Sem.run_pure, Result.andThen_ok, invoke]
    simpa [ex, ey] using hy
  rw [RP.semAt _ h1 (by simp)]
  refine ⟨fun q => (by cases q), ?_⟩
  have hR' : RoundIn (RP.F ⟨none, m, ds, post⟩) (m - 1) P lr fn tmps assign body w _ := hR
  refine hR'.mono fun e w'' ⟨u, he, q⟩ => ?_
  subst he
  exact h u w'' q _ (ha.put hd u)
end
/-! ### Results in cells, behind a range over a function -/
section
variable {P : Program} {fn : Func} {Q : Value → World → Prop} {n m D : Nat} {σ : Sig} {w : World} {R : RP}
theorem loadVar_flat {T T' : TypeId} {b : Nat} {v : Value} {d : TypeDesc} (hu : P.underlying T = some d) (hd : flat d = true) (hb : Bk w b T' [v]) : (loadVar T ⟨b, 0, none⟩).run P w = .ok v w := by
  have hc := hb.cell_of (i := 0) (v := v) rfl
  simp [loadVar, run_isAgg hu, hd, Sem.run_bind, load, Sem.run, hc]
theorem results_cells {t u : Nat} {T U : TypeId} (h : fn.results = #[.cell t T, .cell u U]) (tmps : Array Value) (P : Program) (w : World) :
    (results fn tmps).run P w = ((asAddr (tmps.getD t undef)).run P w).andThen fun a w₁ => ((loadVar T a).run P w₁).andThen fun v w₂ => ((asAddr (tmps.getD u undef)).run P w₂).andThen fun a' w₃ => ((loadVar U a').run P w₃).andThen fun v' w₄ => .ok (.tuple #[v, v']) w₄ := by
  simp only [results, h]
  simp [Sem.run_bind, Result.andThen]
  repeat' (first | rfl | split)
theorem run_cells {t u : Nat} {T U T' U' : TypeId} {b c : Nat} {v x : Value} {d d' : TypeDesc} (hs : fn.results = #[.cell t T, .cell u U]) (hu : P.underlying T = some d) (hd : flat d = true) (hu' : P.underlying U = some d') (hd' : flat d' = true)
    (hv : lk σ t = some (.pointer (some ⟨b, 0, none⟩))) (hx : lk σ u = some (.pointer (some ⟨c, 0, none⟩))) (hb : Bk w b T' [v]) (hc : Bk w c U' [x]) (a : Act) (ha : FrD R n σ a) : (results fn a.tmps).run P w = .ok (.tuple #[v, x]) w := by
  rw [results_cells hs]
  have e1 := ha.fr.val t _ hv
  have e2 := ha.fr.val u _ hx
  simp only at e1 e2
  simp [e1, e2, asAddr, loadVar_flat hu hd hb, loadVar_flat hu' hd' hc, Result.andThen]
theorem retRC2 {e : Exit} (he : e = .normal ∨ e = .ret) {t u : Nat} {T U T' U' : TypeId} {b c : Nat} {v x : Value} {d d' : TypeDesc} (hds : R.ds = []) (hp : R.post = bodyPostM Fence.wide m P fn (fun e w' => ∃ v, e = .returned v ∧ Q v w')) (hs : fn.results = #[.cell t T, .cell u U]) (hu : P.underlying T = some d) (hd : flat d = true) (hu' : P.underlying U = some d') (hd' : flat d' = true)
    (hv : lk σ t = some (.pointer (some ⟨b, 0, none⟩))) (hx : lk σ u = some (.pointer (some ⟨c, 0, none⟩))) (hb : Bk w b T' [v]) (hc : Bk w c U' [x]) (hq : Q (.tuple #[v, x]) w) : ∀ a, FrD R n σ a → R.post e a w :=
  retR_of he hds hp (fun a ha => run_cells hs hu hd hu' hd' hv hx hb hc a ha) hq
theorem retMC2 {e : Exit} (he : e = .normal ∨ e = .ret) {t u : Nat} {T U T' U' : TypeId} {b c : Nat} {v x : Value} {d d' : TypeDesc} (hds : R.ds = [{ target := .collected D, args := #[] }]) (hp : R.post = bodyPostM Fence.wide m P fn (fun e w' => ∃ v, e = .returned v ∧ Q v w')) (hK : w.heap[D]? = some (.deferred (some []))) (hs : fn.results = #[.cell t T, .cell u U]) (hu : P.underlying T = some d) (hd : flat d = true) (hu' : P.underlying U = some d') (hd' : flat d' = true)
    (hv : lk σ t = some (.pointer (some ⟨b, 0, none⟩))) (hx : lk σ u = some (.pointer (some ⟨c, 0, none⟩))) (hb : Bk w b T' [v]) (hc : Bk w c U' [x]) (hq : Q (.tuple #[v, x]) (w.putObj D (.deferred none))) : ∀ a, FrD R n σ a → R.post e a w := fun a ha => by
  have nb : ∀ {b : Nat} {T : TypeId} {l : List Value}, Bk w b T l → b ≠ D := fun {b T l} h e => by
    subst e
    obtain ⟨fr, h1, _⟩ := h
    rw [hK] at h1
    cases h1
  rw [hp]
  have h1 : LeavesInM Fence.wide m P fn a.tmps (fun e w' => ∃ v, e = .returned v ∧ Q v w') a.defers .returning w := by
    rw [ha.df, hds]
    exact ⟨by simp, .inl ⟨D, _, rfl, run_takeDeferred hK, _, run_cells hs hu hd hu' hd' hv hx (hb.putObj (nb hb) _) (hc.putObj (nb hc) _) a ha, _, rfl, hq⟩⟩
  rcases he with rfl | rfl <;> exact h1
end
/-- a struct's cells, and two values -/
theorem retC3 {n : Nat} {σ : Sig} {w : World} {P : Program} {fn : Func} {Q : Value → World → Prop} {t u q : Nat} {T T' : TypeId} {b s bs : Nat} {z x y : Value} {d : TypeDesc} {l : List Value} (hs : fn.results = #[.cell t T, .tmp u, .tmp q]) (hu : P.underlying T = some d) (hd : flat d = false) (hi : TI P T z s bs) (hv : lk σ t = some (.pointer (some ⟨b, 0, none⟩))) (hx : lk σ u = some x) (hy : lk σ q = some y)
    (hb : Bk w b T' l) (hl : l.length = s) (hq : Q (.tuple #[.agg l.toArray, x, y]) w) : ∀ a, Fr n σ a → bodyPost P fn (fun e w' => ∃ v, e = .returned v ∧ Q v w') .ret a w :=
  ret_of (fun a ha => by
    have h := EX.loadBk (P := P) (n := n) (σ := σ) (x := .tmp t) (ty := 0) hu hd hi hv hb hl a ha none "" #[] none
    have h1 : (loadVar T ⟨b, 0, none⟩).run P w = .ok (.agg l.toArray) w := by
      have et : a.eval (.tmp t) = .pointer (some ⟨b, 0, none⟩) := ha.ev (x := .tmp t) hv
      simp only [execOp, et, Instr.loadAt, Instr.sureAddr, Sem.run_bind, Sem.run_pure, Result.andThen_ok] at h
      cases hr : (loadVar T ⟨b, 0, none⟩).run P w with
      | ok v w' => rw [hr] at h; simpa using h
      | halt q w' => rw [hr] at h; simp at h
    have e1 := ha.val t _ hv
    have e2 := ha.val u _ hx
    have e3 := ha.val q _ hy
    simp only [results, hs]
    simp [Sem.run_bind, e1, e2, e3, asAddr, h1]) hq
section
variable {P : Program} {R : Act → World → Prop} {k : List KI} {n : Nat} {σ : Sig} {w : World} {c c' : Code}
theorem KW.cutd4 {α β γ δ : Type} (I : α → β → γ → δ → Prop) (S : α → β → γ → δ → Sig) (W : α → β → γ → δ → World) (h : KW P R (.code c :: .code c' :: .asr (Met4 n I S W) :: k) n σ w)
    (h2 : ∀ x0 x1 x2 x3, I x0 x1 x2 x3 → KW P R k n (S x0 x1 x2 x3) (W x0 x1 x2 x3)) : KW P R (.code c :: .code c' :: k) n σ w :=
  KW.cutd (fun p : α × β × γ × δ => I p.1 p.2.1 p.2.2.1 p.2.2.2) (fun p => S p.1 p.2.1 p.2.2.1 p.2.2.2) (fun p => W p.1 p.2.1 p.2.2.1 p.2.2.2) h fun p hp => h2 p.1 p.2.1 p.2.2.1 p.2.2.2 hp
theorem KW.cutd5 {α β γ δ ε : Type} (I : α → β → γ → δ → ε → Prop) (S : α → β → γ → δ → ε → Sig) (W : α → β → γ → δ → ε → World) (h : KW P R (.code c :: .code c' :: .asr (Met5 n I S W) :: k) n σ w)
    (h2 : ∀ x0 x1 x2 x3 x4, I x0 x1 x2 x3 x4 → KW P R k n (S x0 x1 x2 x3 x4) (W x0 x1 x2 x3 x4)) : KW P R (.code c :: .code c' :: k) n σ w :=
  KW.cutd (fun p : α × β × γ × δ × ε => I p.1 p.2.1 p.2.2.1 p.2.2.2.1 p.2.2.2.2) (fun p => S p.1 p.2.1 p.2.2.1 p.2.2.2.1 p.2.2.2.2) (fun p => W p.1 p.2.1 p.2.2.1 p.2.2.2.1 p.2.2.2.2) h fun p hp => h2 p.1 p.2.1 p.2.2.1 p.2.2.2.1 p.2.2.2.2 hp
theorem KW.cutd6 {α β γ δ ε ζ : Type} (I : α → β → γ → δ → ε → ζ → Prop) (S : α → β → γ → δ → ε → ζ → Sig) (W : α → β → γ → δ → ε → ζ → World) (h : KW P R (.code c :: .code c' :: .asr (Met6 n I S W) :: k) n σ w)
    (h2 : ∀ x0 x1 x2 x3 x4 x5, I x0 x1 x2 x3 x4 x5 → KW P R k n (S x0 x1 x2 x3 x4 x5) (W x0 x1 x2 x3 x4 x5)) : KW P R (.code c :: .code c' :: k) n σ w :=
  KW.cutd (fun p : α × β × γ × δ × ε × ζ => I p.1 p.2.1 p.2.2.1 p.2.2.2.1 p.2.2.2.2.1 p.2.2.2.2.2) (fun p => S p.1 p.2.1 p.2.2.1 p.2.2.2.1 p.2.2.2.2.1 p.2.2.2.2.2) (fun p => W p.1 p.2.1 p.2.2.1 p.2.2.2.1 p.2.2.2.2.1 p.2.2.2.2.2) h fun p hp => h2 p.1 p.2.1 p.2.2.1 p.2.2.2.1 p.2.2.2.2.1 p.2.2.2.2.2 hp
theorem KW.cutd7 {α β γ δ ε ζ η : Type} (I : α → β → γ → δ → ε → ζ → η → Prop) (S : α → β → γ → δ → ε → ζ → η → Sig) (W : α → β → γ → δ → ε → ζ → η → World) (h : KW P R (.code c :: .code c' :: .asr (Met7 n I S W) :: k) n σ w)
    (h2 : ∀ x0 x1 x2 x3 x4 x5 x6, I x0 x1 x2 x3 x4 x5 x6 → KW P R k n (S x0 x1 x2 x3 x4 x5 x6) (W x0 x1 x2 x3 x4 x5 x6)) : KW P R (.code c :: .code c' :: k) n σ w :=
  KW.cutd (fun p : α × β × γ × δ × ε × ζ × η => I p.1 p.2.1 p.2.2.1 p.2.2.2.1 p.2.2.2.2.1 p.2.2.2.2.2.1 p.2.2.2.2.2.2) (fun p => S p.1 p.2.1 p.2.2.1 p.2.2.2.1 p.2.2.2.2.1 p.2.2.2.2.2.1 p.2.2.2.2.2.2) (fun p => W p.1 p.2.1 p.2.2.1 p.2.2.2.1 p.2.2.2.2.1 p.2.2.2.2.2.1 p.2.2.2.2.2.2) h fun p hp => h2 p.1 p.2.1 p.2.2.1 p.2.2.2.1 p.2.2.2.2.1 p.2.2.2.2.2.1 p.2.2.2.2.2.2 hp
end
/-! ### The statement -/
/-- what is said abides: changes in the blocks S, and in blocks from B on that hold no cells -/
def Abd {β : Type} (S : List Nat) (B : Nat) (I : β → World → Prop) : Prop := ∀ s W W' T, I s W → Mo W W' T → (∀ k ∈ T, k ∈ S ∨ (B ≤ k ∧ ∃ o : Obj, W.heap[k]? = some o ∧ o.isCells = false)) → I s W'
def AbS {β : Type} (S : List Nat) (J : β → World → Prop) : Prop := ∀ s W W', J s W → Mo W W' S → J s W'
/-- an iterator that writes into its own blocks S -/
def SeqM {α : Type} (n : Nat) (P : Program) (g : Nat) (lb : List Value) (encs : α → List Value) (S : List Nat) (G : World → Prop) (Fin Stop : List α → Prop) (N : Nat) (w : World) : Prop :=
  ∀ (l : Nat) (J Jx : List α → World → Prop) (W : World), Ext w W → AbS S J → AbS S Jx → (∀ pre W1, J pre W1 → G W1) →
    (∀ pre x W1, J pre W1 → pre.length < N → YieldR P (n - 1) l (encs x) W1 fun v W' => (v = .bool true ∧ J (pre ++ [x]) W' ∧ ∀ k ∈ S, W'.heap[k]? = W1.heap[k]?) ∨ (v = .bool false ∧ Jx (pre ++ [x]) W')) →
    J [] W → CallsIn Fence.wide n P g (#[.func (.yield l) #[] #[]] ++ lb.toArray) W fun e W' => (∃ v, e = .returned v) ∧ ((∃ xs, Fin xs ∧ J xs W') ∨ (∃ pre, Stop pre ∧ Jx pre W'))
theorem mo_putObj (w : World) (l : Nat) (o : Obj) : Mo w (w.putObj l o) [l] := ⟨rfl, rfl, rfl, by simp, fun k _ hk => World.putObj_heap_other (by simpa using hk)⟩
theorem Bk.abd {W W' : World} {S T : List Nat} {b B : Nat} {U : TypeId} {l : List Value} (h : Bk W b U l) (hm : Mo W W' T) (hT : ∀ k ∈ T, k ∈ S ∨ (B ≤ k ∧ ∃ o : Obj, W.heap[k]? = some o ∧ o.isCells = false)) (hb : b ∉ S) : Bk W' b U l :=
  h.mo hm fun hk => by
    rcases hT b hk with q | ⟨_, o, ho, hc⟩
    · exact hb q
    · obtain ⟨fr, h1, _⟩ := h
      rw [h1] at ho
      cases ho
      cases hc
theorem Own.abd {W W' : World} {S T : List Nat} {B B0 s n : Nat} {U : TypeId} {v : Value} {xs : List Value} (h : Own W B0 U s v n xs) (hm : Mo W W' T) (hT : ∀ k ∈ T, k ∈ S ∨ (B ≤ k ∧ ∃ o : Obj, W.heap[k]? = some o ∧ o.isCells = false)) (hb : ∀ k, v.ownBlock = some k → k ∉ S) : Own W' B0 U s v n xs :=
  h.mo hm fun k hk hkT => by
    rcases hT k hkT with q | ⟨_, o, ho, hc⟩
    · exact hb k hk q
    · obtain ⟨_, l, fr, h1, _⟩ := h.blkT k hk
      rw [h1] at ho
      cases ho
      cases hc
theorem abd_ge {T S : List Nat} {W : World} {B C : Nat} (hT : ∀ k ∈ T, k ∈ S ∨ (B ≤ k ∧ ∃ o : Obj, W.heap[k]? = some o ∧ o.isCells = false)) (hS : ∀ k ∈ S, C ≤ k) (hB : C ≤ B) : ∀ k ∈ T, C ≤ k := fun k hk => by
  rcases hT k hk with q | ⟨q, _⟩
  · exact hS k q
  · omega
theorem KeepsOthers.at {W W' : World} (h : KeepsOthers W W') {k : Nat} {o : Obj} (hk : W.heap[k]? = some o) (ho : o.isCells = false) : W'.heap[k]? = some o := h.same k o hk ho
section
variable {P : Program} {R : RP} {k : List KI} {n : Nat} {σ : Sig} {w : World}
theorem KR.rangeM {α : Type} (hr : R.round = none) (hm : 1 ≤ R.m) {g : Operand} {p1 p2 d1 d2 id1 id2 : Nat} {T ty1 ty2 ty3 : TypeId} {pos1 pos2 pos3 : String} {af1 af2 af3 : Array Edge} {body : Code} {gf : Nat} {lb : List Value} {fn : Func} {z : Value} {s bs : Nat}
    (hf : P.funcs[gf]? = some fn) (hn : (!(fn.name == "runtime.NumGoroutine") && fn.body.isSome) = true)
    (hg : ev σ g = some (.func (.func gf) #[] lb.toArray)) (hp1 : Nat.blt p1 n = true) (hp2 : Nat.blt p2 n = true) (hd1 : Nat.blt d1 n = true) (hd2 : Nat.blt d2 n = true) (hpp : p1 ≠ p2)
    (hd1p1 : d1 ≠ p1) (hd1p2 : d1 ≠ p2)
    (hi : TI P T z s bs) (hz : z.cells.toList.length = s)
    (cells : α → List Value) (val : α → Value) (hc : ∀ x, (cells x).length = s) (hc1 : ∀ x, (cells x).all (·.oneCell') = true)
    {S : List Nat} {G : World → Prop} {Fin Stop : List α → Prop} {N : Nat} (hS : ∀ k ∈ S, k < w.heap.size) (hseq : SeqM (R.m - 1) P gf lb (fun x => [.agg (cells x).toArray, val x]) S G Fin Stop N w)
    (I : List α → World → Prop) (Ix : Code → List α → World → Prop) (hI : Abd S w.heap.size I) (hIx : ∀ c, Abd S w.heap.size (Ix c)) (hIG : ∀ pre W, I pre W → G W) (h0 : I [] w)
    (hbody : ∀ (l : Nat) (pre : List α) (x : α) (b : Nat) (W : World), I pre W → pre.length < N → w.heap.size ≤ b → Bk W b T (cells x) → KR P ⟨some l, R.m - 1 - 1, [], ownPostK (fun A B => ∀ k ∈ S, B.heap[k]? = A.heap[k]?) I Ix (pre ++ [x]) W⟩ [.code body] n ((d2, val x) :: (d1, .pointer (some ⟨b, 0, none⟩)) :: (p2, val x) :: (p1, .agg (cells x).toArray) :: σ) W)
    (hdone : ∀ (D : Nat) (xs : List α) (W : World), w.heap.size ≤ D → Fin xs → I xs W → W.heap[D]? = some (.deferred (some [])) → KR P (R.mark D) k n σ W)
    (hstop : ∀ (D : Nat) (c : Code) (pre : List α) (W : World), w.heap.size ≤ D → Stop pre → Ix c pre W → W.heap[D]? = some (.deferred (some [])) → KR P (R.mark D) (.code c :: k) n σ W) :
    KR P R (.code (.rangeFunc g #[p1, p2] (.seq (.region id1 #[⟨some d1, .alloc T, ty1, pos1, af1, none⟩, ⟨none, .store T (.tmp d1) (.tmp p1), ty2, pos2, af2, none⟩] false) (.region id2 #[⟨some d2, .assign (.tmp p2), ty3, pos3, af3, none⟩] false)) body) :: k) n σ w := fun a ha => by
  obtain ⟨ro, m, ds, post⟩ := R
  simp only at hr
  subst hr
  have hge : a.eval g = .func (.func gf) #[] lb.toArray := ha.ev hg
  show Code.wpIn Fence.wide m P _ (psr P _ k) a w
  refine wpIn_rangeFunc fun fno hfn => ?_
  generalize hasg : Code.seq (.region id1 #[⟨some d1, .alloc T, ty1, pos1, af1, none⟩, ⟨none, .store T (.tmp d1) (.tmp p1), ty2, pos2, af2, none⟩] false) (.region id2 #[⟨some d2, .assign (.tmp p2), ty3, pos3, af3, none⟩] false) = asg
  obtain ⟨rec, hrec⟩ : ∃ rec : LoopState → Option Code → Loop, rec = fun st pe => { state := st, pending := pe, fn := fno, tmps := a.tmps, params := #[p1, p2], assign := asg, body := body, defers := w.heap.size } := ⟨_, rfl⟩
  obtain ⟨l, hl⟩ : ∃ l, l = w.heap.size + 1 := ⟨_, rfl⟩
  have hxa : Ext w (w.alloc (.deferred (some []))) := Ext.alloc w _
  have hxb : Ext (w.alloc (.deferred (some []))) ((w.alloc (.deferred (some []))).alloc (.loop (rec .ready none))) := Ext.alloc _ _
  have hL1 : ((w.alloc (.deferred (some []))).alloc (.loop (rec .ready none))).heap[l]? = some (.loop (rec .ready none)) := by
    have := World.alloc_heap_new (w.alloc (.deferred (some []))) (.loop (rec .ready none))
    rwa [World.size_alloc, ← hl] at this
  have hK1 : ((w.alloc (.deferred (some []))).alloc (.loop (rec .ready none))).heap[w.heap.size]? = some (.deferred (some [])) :=
    (hxb.block _ (by simp)).trans (World.alloc_heap_new w _)
  have hW1 := run_enterLoop_outer (P := P) (w := w) fno a.tmps #[p1, p2] asg body
  rw [show ({ state := .ready, pending := none, fn := fno, tmps := a.tmps, params := #[p1, p2], assign := asg, body := body, defers := w.heap.size } : Loop) = rec .ready none by rw [hrec], ← hl] at hW1
  generalize ((w.alloc (.deferred (some []))).alloc (.loop (rec .ready none))) = W1 at hxb hL1 hK1 hW1
  have hx1 : Ext w W1 := hxa.trans hxb
  have nS : ∀ j, w.heap.size ≤ j → j ∉ S := fun j hj hm => by have := hS j hm; omega
  have keep : ∀ {A B : World} {T' : List Nat} {j : Nat} {o : Obj}, Mo A B T' → j ∉ T' → A.heap[j]? = some o → B.heap[j]? = some o := fun {A B T' j o} hm hj ho =>
    (hm.block j (Array.getElem?_eq_some_iff.1 ho).1 hj).trans ho
  have nl : ∀ {A : World} {q : Loop}, A.heap[l]? = some (.loop q) → ∀ k ∈ [l], k ∈ S ∨ (w.heap.size ≤ k ∧ ∃ o : Obj, A.heap[k]? = some o ∧ o.isCells = false) := fun {A q} h k hk => by
    simp only [List.mem_singleton] at hk
    subst hk
    exact .inr ⟨by omega, _, h, rfl⟩
  have ab : ∀ {T' : List Nat} {A : World}, (∀ k ∈ T', k ∈ S) → ∀ k ∈ T', k ∈ S ∨ (w.heap.size ≤ k ∧ ∃ o : Obj, A.heap[k]? = some o ∧ o.isCells = false) := fun h k hk => .inl (h k hk)
  have hKl : w.heap.size ≠ l := by omega
  refine ⟨l, [{ target := .collected w.heap.size, args := #[] }], W1, { target := .fn (.func gf) lb.toArray, args := #[.func (.yield l) #[] #[]] }, W1, gf, #[.func (.yield l) #[] #[]] ++ lb.toArray, W1, hW1, ?_, fun _ _ => trivial, ?_, fun _ => hm, ?_⟩
  · simp only [resolve, hge]
    simp [go_sem]
  · have eg : ∀ args w, (callFunc gf args).run P w = .ok (.enter gf args) w := fun args w => run_callFunc hf hn args
    simp [invoke, go_sem, eg]
  · refine (hseq l (fun pre W => I pre W ∧ W.heap[l]? = some (.loop (rec .ready none)) ∧ W.heap[w.heap.size]? = some (.deferred (some [])))
      (fun pre W => ∃ c, Ix c pre W ∧ W.heap[l]? = some (.loop (rec .done (some c))) ∧ W.heap[w.heap.size]? = some (.deferred (some []))) W1 hx1
      (fun q A B h hm => ⟨hI q A B S h.1 hm (ab fun _ hk => hk), keep hm (nS _ (by omega)) h.2.1, keep hm (nS _ (by omega)) h.2.2⟩)
      (fun q A B h hm => by
        obtain ⟨c, h1, h2, h3⟩ := h
        exact ⟨c, hIx c q A B S h1 hm (ab fun _ hk => hk), keep hm (nS _ (by omega)) h2, keep hm (nS _ (by omega)) h3⟩)
      (fun q A h => hIG q A h.1) ?_ ⟨hI [] w W1 [] h0 (Mo.of_ext hx1 _) (fun _ hk => by cases hk), hL1, hK1⟩).mono ?_
    · rintro pre x W ⟨hi1, hl1, hk1⟩ hlen
      have hy := run_yield (P := P) (args := #[.agg (cells x).toArray, val x]) hl1 (by rw [hrec]; rfl)
      rw [hrec] at hy
      refine ⟨fno, _, asg, body, hy, roundIn_of_wpIn hfn ?_⟩
      have ez : ((#[p1, p2] : Array Tmp).zip #[Value.agg (cells x).toArray, val x]).foldl (fun t (p, v) => t.setIfInBounds p v) a.tmps = (a.tmps.setIfInBounds p1 (.agg (cells x).toArray)).setIfInBounds p2 (val x) := by simp
      simp only
      rw [ez]
      generalize hR' : (Exit.then (fun a₁ w₁ => ∃ w₂, (Instr.beginRound l).run P w₁ = .ok () w₂ ∧ body.wpIn (Fence.wide.inRound l) (m - 1 - 1) P (roundPost P l fun e W' => ∃ v, e = .returned v ∧ ((v = .bool true ∧ (I (pre ++ [x]) W' ∧ W'.heap[l]? = some (.loop (rec .ready none)) ∧ W'.heap[w.heap.size]? = some (.deferred (some []))) ∧ ∀ k ∈ S, W'.heap[k]? = W.heap[k]?) ∨ (v = .bool false ∧ ∃ c, Ix c (pre ++ [x]) W' ∧ W'.heap[l]? = some (.loop (rec .done (some c))) ∧ W'.heap[w.heap.size]? = some (.deferred (some []))))) a₁ w₂) (fun _ _ _ => False) : Exit → Act → World → Prop) = PQ
      have key : KR P ⟨some l, m - 1 - 1, [], PQ⟩ [.code asg] n ((p2, val x) :: (p1, .agg (cells x).toArray) :: σ) W := by
        subst hasg
        refine KR.seq (KR.region ?_)
        refine OR.allocB rfl hd1 hi rfl fun b Wa hb hbk hxa => ?_
        refine OR.storeS (T := T) (vs := cells x) rfl hi (lk_cons_same _ _ _) (by simp [ev, lk_cons, hd1p1, Ne.symm hpp]) (hc x) (hc1 x) hbk (by rw [hz, hc x]; omega) fun Wb hbk2 hmo => ?_
        refine OR.nil (KR.region ?_)
        refine OR.val (v := val x) rfl hd2 (EX.assign (by simp [ev, lk_cons, hd1p2])) ?_
        refine OR.nil (KR.done fun a₁ ha₁ => ?_)
        have hbk3 : Bk Wb b T (cells x) := by
          have e : z.cells.toList.take 0 ++ cells x ++ z.cells.toList.drop (0 + (cells x).length) = cells x := by
            rw [List.take_zero, List.nil_append, List.drop_of_length_le (by rw [hz, hc x]; omega), List.append_nil]
          rwa [e] at hbk2
        have hm0 : Mo W Wb [] := Mo.fresh (S := [b]) ((Mo.of_ext hxa _).trans hmo) (fun k hk hlt => by simp at hk; omega)
        have hl2 := keep hm0 (by simp) hl1
        have hk2 := keep hm0 (by simp) hk1
        have hi2 := hI _ _ _ _ hi1 hm0 (fun _ hk => by cases hk)
        have hlt : l < Wb.heap.size := (Array.getElem?_eq_some_iff.1 hl2).1
        have hbg := run_beginRound (P := P) hl2 (by rw [hrec])
        have hi3 := hI _ _ _ _ hi2 (mo_putObj Wb l (.loop { rec .ready none with state := .busy })) (nl hl2)
        have hl3 : (Wb.putObj l (.loop { rec .ready none with state := .busy })).heap[l]? = some (.loop { rec .ready none with state := .busy }) := World.putObj_heap_same hlt
        have hk3 : (Wb.putObj l (.loop { rec .ready none with state := .busy })).heap[w.heap.size]? = some (.deferred (some [])) := (World.putObj_heap_other hKl).trans hk2
        have hs3 : ∀ k ∈ S, (Wb.putObj l (.loop { rec .ready none with state := .busy })).heap[k]? = W.heap[k]? := fun k hk => by
          have hkw := hS k hk
          have hlW : l < W.heap.size := (Array.getElem?_eq_some_iff.1 hl1).1
          exact (World.putObj_heap_other (by omega)).trans (hm0.block k (by omega) (by simp))
        have hb3 : Bk (Wb.putObj l (.loop { rec .ready none with state := .busy })) b T (cells x) := hbk3.putObj (fun e => by
          subst e
          obtain ⟨fr, q, _⟩ := hbk3
          rw [hl2] at q
          cases q) _
        have hlW : l < W.heap.size := (Array.getElem?_eq_some_iff.1 hl1).1
        generalize Wb.putObj l (.loop { rec .ready none with state := .busy }) = Wc at hbg hi3 hl3 hk3 hs3 hb3
        show PQ .normal a₁ Wb
        subst hR'
        refine ⟨Wc, hbg, ?_⟩
        have hb := hbody l pre x b Wc hi3 hlen (by omega) hb3 a₁ ⟨ha₁.fr, ha₁.df⟩
        have hb' : body.wpIn (Fence.wide.inRound l) (m - 1 - 1) P (ownPostK (fun A B => ∀ k ∈ S, B.heap[k]? = A.heap[k]?) I Ix (pre ++ [x]) Wc) a₁ Wc := Code.wpIn_mono (fun e a' w' q => by cases e <;> exact q) hb
        refine Code.wpIn_mono ?_ hb'
        have fin : ∀ (jump : Option Code) (W3 : World), KeepsOthers Wc W3 →
            (Instr.endRound l jump).run P W3 = .ok (.bool jump.isNone) (W3.putObj l (.loop (rec (if jump.isNone then .ready else .done) jump))) ∧ W3.heap[l]? = some (.loop { rec .ready none with state := .busy }) ∧
            (W3.putObj l (.loop (rec (if jump.isNone then .ready else .done) jump))).heap[l]? = some (.loop (rec (if jump.isNone then .ready else .done) jump)) ∧
            (W3.putObj l (.loop (rec (if jump.isNone then .ready else .done) jump))).heap[w.heap.size]? = some (.deferred (some [])) := fun jump W3 hk3' => by
          have hl4 := hk3'.same _ _ hl3 rfl
          have hr := run_endRound (P := P) jump hl4
          rw [hrec] at hr ⊢
          exact ⟨hr, by rw [hrec] at hl4; exact hl4, World.putObj_heap_same (Array.getElem?_eq_some_iff.1 hl4).1, (World.putObj_heap_other hKl).trans (hk3'.same _ _ hk3 rfl)⟩
        rintro e a3 W3 hp
        cases e with
        | normal =>
          obtain ⟨h1, h2, h3⟩ := hp
          obtain ⟨g1, g2, g3, g4⟩ := fin none W3 h1
          refine ⟨_, _, g1, _, rfl, .inl ⟨rfl, ⟨hI _ _ _ _ h3 (mo_putObj _ _ _) (nl g2), g3, g4⟩, fun k hk => ?_⟩⟩
          have hkw := hS k hk
          exact (World.putObj_heap_other (by omega)).trans ((h2 k hk).trans (hs3 k hk))
        | ret =>
          obtain ⟨h1, h3⟩ := hp
          obtain ⟨g1, g2, g3, g4⟩ := fin (some .ret) W3 h1
          exact ⟨_, _, g1, _, rfl, .inr ⟨rfl, .ret, hIx _ _ _ _ _ h3 (mo_putObj _ _ _) (nl g2), g3, g4⟩⟩
        | exit id =>
          obtain ⟨h1, h3⟩ := hp
          obtain ⟨g1, g2, g3, g4⟩ := fin (some (.exit id)) W3 h1
          exact ⟨_, _, g1, _, rfl, .inr ⟨rfl, .exit id, hIx _ _ _ _ _ h3 (mo_putObj _ _ _) (nl g2), g3, g4⟩⟩
        | goto t =>
          obtain ⟨h1, h3⟩ := hp
          obtain ⟨g1, g2, g3, g4⟩ := fin (some (.goto t)) W3 h1
          exact ⟨_, _, g1, _, rfl, .inr ⟨rfl, .goto t, hIx _ _ _ _ _ h3 (mo_putObj _ _ _) (nl g2), g3, g4⟩⟩
        | panic ch => exact hp.elim
        | outgrown => exact hp.elim
      exact key _ ⟨(ha.fr.put hp1 _).put hp2 _, rfl⟩
    · rintro e W2 ⟨⟨v, rfl⟩, (⟨xs, hF, hi2, hl2, hk2⟩ | ⟨pre, hP, c, hi2, hl2, hk2⟩)⟩
      · obtain ⟨o, he⟩ : ∃ o, (Instr.endLoop l).run P W2 = .ok none (W2.putObj l o) := by
          have he := run_endLoop (P := P) hl2 (by rw [hrec]; simp)
          rw [show (rec LoopState.ready none).pending = none by rw [hrec]] at he
          exact ⟨_, he⟩
        have h := hdone w.heap.size xs _ (Nat.le_refl _) hF (hI _ _ _ _ hi2 (mo_putObj W2 l o) (nl hl2)) ((World.putObj_heap_other hKl).trans hk2) { a with defers := { target := .collected w.heap.size, args := #[] } :: a.defers } ⟨ha.fr, by show _ :: a.defers = _ :: ds; rw [ha.df]⟩
        rw [psr_mark] at h
        exact ⟨none, _, he, h⟩
      · obtain ⟨o, he⟩ : ∃ o, (Instr.endLoop l).run P W2 = .ok (some c) (W2.putObj l o) := by
          have he := run_endLoop (P := P) hl2 (by rw [hrec]; simp)
          rw [show (rec LoopState.done (some c)).pending = some c by rw [hrec]] at he
          exact ⟨_, he⟩
        have h := hstop w.heap.size c pre _ (Nat.le_refl _) hP (hIx c _ _ _ _ hi2 (mo_putObj W2 l o) (nl hl2)) ((World.putObj_heap_other hKl).trans hk2) { a with defers := { target := .collected w.heap.size, args := #[] } :: a.defers } ⟨ha.fr, by show _ :: a.defers = _ :: ds; rw [ha.df]⟩
        rw [psr_mark] at h
        exact ⟨some c, _, he, h⟩
end
end Go.Proofs.YtjgeoeeikfjmdaaGreatDoor
/- tar: the file that stands first is read. -/
namespace Go.Proofs.YtjgeoeeikfjmdaaGreatDoor
set_option linter.unnecessarySimpa false
open Go.RowKit Fld Ust Pax Pth Tar
set_option linter.unusedVariables false
set_option linter.unusedSimpArgs false

theorem num_most (s : List UInt8) : (num s).1 ≤ 9007199254740992 := by
  unfold num
  simp only
  split
  · decide
  · split
    · decide
    · show fold 8 0 _ ≤ _
      omega
theorem pathD_most (s : List UInt8) : (pathD s).length ≤ 300 := by
  have h1 := cut_le (sl s 345 155)
  have h2 := cut_le (sl s 0 100)
  have h3 : (sl s 345 155).length ≤ 155 := by unfold sl; rw [List.length_take]; omega
  have h4 : (sl s 0 100).length ≤ 100 := by unfold sl; rw [List.length_take]; omega
  unfold pathD
  split
  · simp only [List.length_append, List.length_singleton]
    omega
  · omega
structure HdB (h : Hd) : Prop where
  size : ∃ m : Nat, h.size = (m : Int) ∧ m ≤ 9007199254740992
  path : h.path.length ≤ 300
  kind : h.kind ≤ 255
theorem hd0_b : HdB hd0 := ⟨⟨0, rfl, by decide⟩, by decide, by decide⟩
theorem kindD_most (s : List UInt8) : kindD s ≤ 255 := by
  unfold kindD
  have := (s.getD 156 0).toNat_lt
  split <;> omega
theorem head_b (s : List UInt8) : HdB (headT s).1 := by
  have hD : HdB (decH (s.take 512)).1 := by
    unfold decH
    split
    · exact ⟨⟨_, rfl, num_most _⟩, pathD_most _, kindD_most _⟩
    · exact hd0_b
  unfold headT
  split
  · exact hd0_b
  · split
    · exact hD
    · exact hd0_b
theorem head_e (s : List UInt8) : (headT s).2 = 0 ∨ ((headT s).2 = 180 ∧ (headT s).1 = hd0) := by
  unfold headT
  split
  · exact .inr ⟨rfl, rfl⟩
  · split
    · exact .inl rfl
    · exact .inr ⟨rfl, rfl⟩
theorem cutAt_snd (s : List UInt8) (c : UInt8) : (cutAt s c).2.1.length ≤ s.length := by
  unfold cutAt
  split
  · have h := (List.dropWhile_suffix (l := s) (fun x => x != c)).length_le
    simp only [List.length_drop]
    omega
  · simp
theorem dstep_val {s : List UInt8} {p : Pr} {n : Nat} (h : dstep s = some (p, n)) : p.val.length ≤ s.length := by
  unfold dstep at h
  simp only at h
  split at h
  · split at h
    · simp only [Option.some.injEq, Prod.mk.injEq] at h
      obtain ⟨rfl, _⟩ := h
      refine Nat.le_trans (cutAt_snd _ _) ?_
      rw [List.length_take, List.length_drop]
      omega
    · cases h
  · cases h
theorem decL_vals : ∀ (f : Nat) (s : List UInt8) (out : List Pr) (M : Nat), s.length ≤ M → (∀ p ∈ out, p.val.length ≤ M) → ∀ p ∈ (decL f s out).1, p.val.length ≤ M
  | 0, s, out, M, hs, ho, p, hp => by simp [decL] at hp
  | f + 1, s, out, M, hs, ho, p, hp => by
    rw [decL] at hp
    split at hp
    · exact ho p hp
    · split at hp
      · rename_i q n hq
        refine decL_vals f _ _ M (by rw [List.length_drop]; omega) (fun r hr => ?_) p hp
        rcases List.mem_append.1 hr with hr | hr
        · exact ho r hr
        · simp only [List.mem_singleton] at hr
          subst hr
          have := dstep_val hq
          omega
      · simp at hp
theorem decP_vals (s : List UInt8) : ∀ p ∈ (decP s).1, p.val.length ≤ s.length := by
  unfold decP
  split
  · simp
  · exact decL_vals _ _ _ _ (Nat.le_refl _) (by simp)
theorem decL_len : ∀ (f : Nat) (q : List UInt8) (out : List Pr), (decL f q out).1.length ≤ out.length + q.length := by
  intro f
  induction f with
  | zero => intro q out; simp [decL]
  | succ f ih =>
    intro q out
    rw [dl_succ]
    split
    · simp
    · rcases hd : dstep q with _ | ⟨p, n⟩
      · simp
      · have h1 := dstep_pos hd
        have h2 := ih (q.drop n) (out ++ [p])
        simp only [List.length_append, List.length_singleton, List.length_drop] at h2
        simp only
        omega
theorem decP_most (s : List UInt8) : (decP s).1.length ≤ s.length := by
  unfold decP
  split
  · simp
  · have := decL_len (s.length + 1) s []
    simpa using this
theorem lastP_val {l : List Pr} {k : List UInt8} {M : Nat} (h : ∀ p ∈ l, p.val.length ≤ M) : (lastP l k).1.length ≤ M := by
  unfold lastP
  split
  · rename_i p hp
    exact h p (by have := List.mem_of_find?_eq_some hp; simpa using this)
  · simp
theorem header_s (s : List UInt8) (hs : s.length ≤ 140737488355328) (w : World) : Ret Tryz.prog 56 [str s] w fun v w' => v = .tuple #[.agg (headT s).1.cells.toArray, .int .i64 (((headT s).2 : Nat) : Int)] ∧ Ext w w' := by
  refine Ret.enter Tryz.func56 rfl Tryz.ntmps56 (by kernel_rfl) rfl ?_
  refine KW.seq (KW.region ?_)
  refine OW.allocB (l := [str [], .int .i64 0, .int .u8 0, .int .i64 0, .int .i64 0, str [], str [], str [], .int .i64 0, .int .i64 0]) rfl rfl ti72 rfl ?_
  rintro rb w1 hge1 hr1 hx1
  refine OW.val rfl rfl (EX.assign rfl) ?_
  refine OW.nil ?_
  refine KW.seq (KW.seq (KW.region ?_))
  refine OW.val rfl rfl (EX.move rfl) ?_
  refine OW.val rfl rfl (EX.lenS Tryz.underlying9 rfl) ?_
  refine OW.val rfl rfl (by first | exact EX.lssN (b := 512) rfl rfl | exact EX.lssZ rfl rfl) ?_
  refine OW.nil ?_
  refine KW.condD rfl (fun hl => ?_) (fun hl => ?_)
  · have e : headT s = (hd0, 180) := by unfold headT; rw [if_pos (by omega)]
    refine KW.seq (KW.region ?_)
    refine OW.val rfl rfl (EX.buildS (pl := [(0, 1), (1, 1), (2, 1), (3, 1), (4, 1), (5, 1), (6, 2), (8, 2)]) (ks := []) (is := []) (zs := [str [], .int .i64 0, .int .u8 0, .int .i64 0, .int .i64 0, str [], str [], str [], .int .i64 0, .int .i64 0]) Tryz.underlying72 ti72 (by kernel_rfl) rfl rfl rfl (by first | rfl | (simp only [List.all_cons, List.all_nil, Bool.and_true, Bool.true_and, Bool.and_eq_true, Value.oneCell']; repeat (first | assumption | exact Own.one (by assumption) | constructor))) (by simp only [setAll, List.set_cons_zero, List.set_cons_succ]; rfl)) ?_
    refine OW.storeS rfl ti72 rfl rfl rfl (by first | rfl | (simp only [List.all_cons, List.all_nil, Bool.and_true, Bool.true_and, Bool.and_eq_true, Value.oneCell']; repeat (first | assumption | exact Own.one (by assumption) | constructor))) (hr1) (Nat.le_refl _) ?_
    rintro w2 hr2 hm2
    refine OW.val rfl rfl (EX.assign rfl) ?_
    refine OW.nil ?_
    refine KW.ret (retC2 rfl Tryz.underlying72 rfl ti72 rfl rfl (hr2) rfl ?_)
    rw [e]
    exact ⟨rfl, below_mo hx1 hm2 hx1.size (fun k hk => by simp at hk; omega)⟩
  · have h512 : 512 ≤ s.length := by omega
    have c1 := decode_s (s.take 512) (by rw [List.length_take]; omega) w1
    refine KW.skip (KW.seq (KW.region ?_))
    refine OW.val rfl rfl (EX.move rfl) ?_
    refine OW.val rfl rfl (EX.sliceFH (j := 512) Tryz.underlying9 rfl rfl (by omega)) ?_
    refine OW.call rfl rfl rfl (c1) ?_
    rintro _ w2 ⟨rfl, hx2⟩
    refine OW.val rfl rfl (EX.move rfl) ?_
    refine OW.val rfl rfl (EX.extract rfl rfl) ?_
    refine OW.val rfl rfl (EX.extract rfl rfl) ?_
    refine OW.allocB (l := [str [], .int .i64 0, .int .u8 0, .int .i64 0, .int .i64 0, str [], str [], str [], .int .i64 0, .int .i64 0]) rfl rfl ti72 rfl ?_
    rintro hb w3 hge3 hh3 hx3
    refine OW.storeS rfl ti72 rfl rfl rfl (by first | rfl | (simp only [List.all_cons, List.all_nil, Bool.and_true, Bool.true_and, Bool.and_eq_true, Value.oneCell']; repeat (first | assumption | exact Own.one (by assumption) | constructor))) (hh3) (Nat.le_refl _) ?_
    rintro w4 hh4 hm4
    refine OW.val rfl rfl (EX.assign rfl) ?_
    refine OW.nil ?_
    refine KW.seq (KW.seq (KW.region ?_))
    refine OW.val rfl rfl (EX.move rfl) ?_
    refine OW.val rfl rfl (by first | exact EX.neqN (b := 0) rfl rfl | exact EX.neqZ rfl rfl) ?_
    refine OW.nil ?_
    replace hh4 : Bk w4 hb 72 (decH (s.take 512)).1.cells := hh4
    have x3 := (hx1.trans hx2).trans hx3
    have hlt1 := hr1.lt
    have hne : rb ≠ hb := by have := hx2.size; omega
    have hr4 : Bk w4 rb 72 hd0.cells := ((hr1.ext hx2).ext hx3).mo hm4 (by simp; exact hne)
    have x4 : Ext w w4 := below_mo x3 hm4 x3.size (fun k hk => by simp at hk; have := hx1.size; have := hx2.size; omega)
    refine KW.condD rfl (fun he => ?_) (fun he => ?_)
    · have e : headT s = (hd0, 180) := by unfold headT; rw [if_neg (by omega), if_neg (by omega)]
      refine KW.seq (KW.region ?_)
      refine OW.val rfl rfl (EX.buildS (pl := [(0, 1), (1, 1), (2, 1), (3, 1), (4, 1), (5, 1), (6, 2), (8, 2)]) (ks := []) (is := []) (zs := [str [], .int .i64 0, .int .u8 0, .int .i64 0, .int .i64 0, str [], str [], str [], .int .i64 0, .int .i64 0]) Tryz.underlying72 ti72 (by kernel_rfl) rfl rfl rfl (by first | rfl | (simp only [List.all_cons, List.all_nil, Bool.and_true, Bool.true_and, Bool.and_eq_true, Value.oneCell']; repeat (first | assumption | exact Own.one (by assumption) | constructor))) (by simp only [setAll, List.set_cons_zero, List.set_cons_succ]; rfl)) ?_
      refine OW.storeS rfl ti72 rfl rfl rfl (by first | rfl | (simp only [List.all_cons, List.all_nil, Bool.and_true, Bool.true_and, Bool.and_eq_true, Value.oneCell']; repeat (first | assumption | exact Own.one (by assumption) | constructor))) (hr4) (Nat.le_refl _) ?_
      rintro w5 hr5 hm5
      refine OW.val rfl rfl (EX.assign rfl) ?_
      refine OW.nil ?_
      refine KW.ret (retC2 rfl Tryz.underlying72 rfl ti72 rfl rfl (hr5) rfl ?_)
      rw [e]
      exact ⟨rfl, below_mo x4 hm5 x4.size (fun k hk => by simp at hk; omega)⟩
    · have e : headT s = ((decH (s.take 512)).1, 0) := by unfold headT; rw [if_neg (by omega), if_pos (by omega)]
      refine KW.skip (KW.seq (KW.region ?_))
      refine OW.val rfl rfl (EX.loadBk Tryz.underlying72 rfl ti72 rfl (hh4) (rfl)) ?_
      refine OW.storeS rfl ti72 rfl rfl rfl (by first | rfl | (simp only [List.all_cons, List.all_nil, Bool.and_true, Bool.true_and, Bool.and_eq_true, Value.oneCell']; repeat (first | assumption | exact Own.one (by assumption) | constructor))) (hr4) (Nat.le_refl _) ?_
      rintro w5 hr5 hm5
      refine OW.val rfl rfl (EX.assign rfl) ?_
      refine OW.nil ?_
      replace hr5 : Bk w5 rb 72 (decH (s.take 512)).1.cells := hr5
      refine KW.ret (retC2 rfl Tryz.underlying72 rfl ti72 rfl rfl (hr5) rfl ?_)
      rw [e]
      exact ⟨rfl, below_mo x4 hm5 x4.size (fun k hk => by simp at hk; omega)⟩
set_option maxRecDepth 20000 in
theorem data_s (s : List UInt8) (hs : s.length ≤ 140737488355328) (n : Nat) (hn : n ≤ 9007199254740992) (w : World) :
    Ret Tryz.prog 57 [str s, .int .i64 (n : Int)] w fun v w' => v = .tuple #[str (dataT s n).1, .int .i64 (((dataT s n).2.1 : Nat) : Int), .bool (dataT s n).2.2] ∧ Ext w w' := by
  have hf := fil_ge n
  have hf2 := fil_le n
  have no : s.length < fil n + 512 → dataT s n = ([], 0, false) := fun h => by unfold dataT; rw [if_pos h]
  have yes : ¬ s.length < fil n + 512 → dataT s n = ((s.drop 512).take n, 512 + fil n, true) := fun h => by unfold dataT; rw [if_neg h]
  refine Ret.enter Tryz.func57 rfl Tryz.ntmps57 (by kernel_rfl) rfl ?_
  refine KW.seq (KW.region ?_)
  refine OW.val rfl rfl (EX.assign rfl) ?_
  refine OW.val rfl rfl (EX.assign rfl) ?_
  refine OW.val rfl rfl (EX.assign rfl) ?_
  refine OW.nil ?_
  refine KW.seq (KW.seq ?_)
  refine KW.region ?_
  refine OW.val rfl rfl (EX.move rfl) ?_
  refine OW.val rfl rfl (EX.move rfl) ?_
  refine OW.val rfl rfl (EX.lenS Tryz.underlying9 rfl) ?_
  refine OW.val rfl rfl (by first | exact EX.subN (b := 512) (m := 9223372036854775807) rfl rfl rfl (by omega) | exact EX.subZ (m := 9223372036854775807) rfl rfl rfl rfl (by omega)) ?_
  refine OW.val rfl rfl (by first | exact EX.gtrN rfl rfl | exact EX.gtrZ rfl rfl) ?_
  refine OW.val rfl rfl (EX.move rfl) ?_
  refine OW.splitD 12 rfl (fun h1 => ?_) (fun h1 => ?_)
  · refine OW.pass rfl rfl ?_
    refine OW.pass rfl rfl ?_
    refine OW.pass rfl rfl ?_
    refine OW.pass rfl rfl ?_
    refine OW.pass rfl rfl ?_
    refine OW.pass rfl rfl ?_
    refine OW.val rfl rfl (EX.pickT rfl rfl) ?_
    refine OW.nil ?_
    refine KW.condT rfl (KW.seq (KW.region ?_))
    refine OW.val rfl rfl (EX.assign rfl) ?_
    refine OW.val rfl rfl (EX.assign rfl) ?_
    refine OW.val rfl rfl (EX.assign rfl) ?_
    refine OW.nil ?_
    refine KW.ret (ret3 rfl rfl rfl rfl ?_)
    rw [no (by omega)]
    exact ⟨rfl, Ext.refl _⟩
  · refine OW.val rfl rfl (EX.move rfl) ?_
    refine OW.call rfl rfl rfl (filled_s n hn w) ?_
    rintro _ _ ⟨rfl, rfl⟩
    refine OW.val rfl rfl (EX.move rfl) ?_
    refine OW.val rfl rfl (EX.lenS Tryz.underlying9 rfl) ?_
    refine OW.val rfl rfl (by first | exact EX.subN (b := 512) (m := 9223372036854775807) rfl rfl rfl (by omega) | exact EX.subZ (m := 9223372036854775807) rfl rfl rfl rfl (by omega)) ?_
    refine OW.val rfl rfl (by first | exact EX.gtrN rfl rfl | exact EX.gtrZ rfl rfl) ?_
    refine OW.val rfl rfl (EX.pickF rfl rfl) ?_
    refine OW.nil ?_
    refine KW.condD rfl (fun h2 => ?_) (fun h2 => ?_)
    · refine KW.seq (KW.region ?_)
      refine OW.val rfl rfl (EX.assign rfl) ?_
      refine OW.val rfl rfl (EX.assign rfl) ?_
      refine OW.val rfl rfl (EX.assign rfl) ?_
      refine OW.nil ?_
      refine KW.ret (ret3 rfl rfl rfl rfl ?_)
      rw [no (by omega)]
      exact ⟨rfl, Ext.refl _⟩
    · have e : (s.take (512 + n)).drop 512 = (s.drop 512).take n := by rw [List.drop_take]; congr 1; omega
      refine KW.skip (KW.seq ?_)
      refine KW.regionQ (by kernel_rfl) (by kernel_rfl) ?_
      refine QW.val rfl rfl (fun _ => EX.move rfl) ?_
      refine QW.val rfl rfl (fun _ => EX.move rfl) ?_
      refine QW.val rfl rfl (fun _ => by first | exact EX.addN (a := 512) (m := 9223372036854775807) rfl rfl rfl (by omega) | exact EX.addZ (m := 9223372036854775807) rfl rfl rfl rfl (by omega)) ?_
      refine QW.val rfl rfl (fun _ => EX.sliceLH (i := 512) Tryz.underlying9 rfl rfl rfl (by omega)) ?_
      refine QW.val rfl rfl (fun _ => EX.move rfl) ?_
      refine QW.call rfl rfl rfl (fun _ => RetQ.of (filled_s n hn _)) ?_
      refine QW.val rfl rfl (fun _ => by first | exact EX.addN (a := 512) (m := 9223372036854775807) rfl rfl rfl (by omega) | exact EX.addZ (m := 9223372036854775807) rfl rfl rfl rfl (by omega)) ?_
      refine QW.val rfl rfl (fun _ => EX.assign rfl) ?_
      refine QW.val rfl rfl (fun _ => EX.assign rfl) ?_
      refine QW.val rfl rfl (fun _ => EX.assign rfl) ?_
      refine QW.nil (fun nq => ?_)
      refine KW.ret (ret3 rfl rfl rfl rfl ?_)
      rw [yes (by omega)]
      exact ⟨by simp [e], Ext.drewN w nq⟩
end Go.Proofs.YtjgeoeeikfjmdaaGreatDoor
/- tar: Read. -/
namespace Go.Proofs.YtjgeoeeikfjmdaaGreatDoor
set_option linter.unnecessarySimpa false
open Go.RowKit Fld Ust Pax Pth Tar
set_option linter.unusedVariables false
set_option linter.unusedSimpArgs false

def pthOf (pairs : List Pr) (h : Hd) : List UInt8 := if (lastP pairs pkey).2 then (lastP pairs pkey).1 else h.path
def szOf (pairs : List Pr) (h : Hd) : Nat × Nat := if (lastP pairs skey).2 then dec (lastP pairs skey).1 else (h.size.toNat, 0)
theorem restT_eq (t : List UInt8) (used : Nat) (pairs : List Pr) (h : Hd) : restT t used pairs h = if (szOf pairs h).2 = 0 ∧ (dataT t (szOf pairs h).1).2.2 = true ∧ (cleanP (pthOf pairs h)).2 = 0 then (⟨(cleanP (pthOf pairs h)).1, (dataT t (szOf pairs h).1).1⟩, used + (dataT t (szOf pairs h).1).2.1, 0) else (en0, 0, 180) := rfl
theorem szOf_most (pairs : List Pr) {h : Hd} (hb : HdB h) : (szOf pairs h).1 ≤ 9007199254740992 := by
  obtain ⟨m, h1, h2⟩ := hb.size
  unfold szOf
  split
  · exact dec_le _
  · show h.size.toNat ≤ _
    omega
theorem dataT_le (t : List UInt8) (n : Nat) : (dataT t n).2.1 ≤ t.length := by
  unfold dataT
  split
  · simp
  · show 512 + fil n ≤ _
    omega
theorem clean_e (s : List UInt8) : (cleanP s).2 = 0 ∨ (cleanP s).2 = 140 := by
  unfold cleanP
  split
  · exact .inl rfl
  · exact .inr rfl
theorem readT_x {s : List UInt8} (h1 : (headT s).2 = 0) (h2 : (headT s).1.kind = 120) : readT s = if (dataT s (headT s).1.size.toNat).2.2 = true ∧ (decP (dataT s (headT s).1.size.toNat).1).2 = 0 ∧ (headT (s.drop (dataT s (headT s).1.size.toNat).2.1)).2 = 0 ∧ (headT (s.drop (dataT s (headT s).1.size.toNat).2.1)).1.kind = 48 then restT (s.drop (dataT s (headT s).1.size.toNat).2.1) (dataT s (headT s).1.size.toNat).2.1 (decP (dataT s (headT s).1.size.toNat).1).1 (headT (s.drop (dataT s (headT s).1.size.toNat).2.1)).1 else (en0, 0, 180) := by
  unfold readT
  rw [if_neg (by omega), if_pos h2]
theorem readT_0 {s : List UInt8} (h1 : (headT s).2 = 0) (h2 : (headT s).1.kind = 48) : readT s = restT s 0 [] (headT s).1 := by
  unfold readT
  rw [if_neg (by omega), if_neg (by omega), if_pos h2]
theorem readT_no {s : List UInt8} (h1 : (headT s).2 = 0) (h2 : (headT s).1.kind ≠ 120) (h3 : (headT s).1.kind ≠ 48) : readT s = (en0, 0, 180) := by
  unfold readT
  rw [if_neg (by omega), if_neg h2, if_neg h3]
theorem readT_bad {s : List UInt8} (h1 : (headT s).2 ≠ 0) : readT s = (en0, 0, 180) := by
  unfold readT
  rw [if_pos h1]
set_option maxRecDepth 20000 in
theorem read_s (s : List UInt8) (hs : s.length ≤ 140737488355328) (w : World) (hG : Env w) :
    Ret Tryz.prog 58 [str s] w fun v w' => v = .tuple #[.agg (readT s).1.cells.toArray, .int .i64 (((readT s).2.1 : Nat) : Int), .int .i64 (((readT s).2.2 : Nat) : Int)] ∧ Ext w w' := by
  have hB1 := head_b s
  have hE1 := head_e s
  have hH1 := header_s s hs
  refine Ret.enter Tryz.func58 rfl Tryz.ntmps58 (by kernel_rfl) rfl ?_
  refine KW.seq (KW.region ?_)
  refine OW.allocB (l := [str [], str []]) rfl rfl ti23 rfl ?_
  rintro rb w1 hge1 hr1 hx1
  refine OW.val rfl rfl (EX.assign rfl) ?_
  refine OW.val rfl rfl (EX.assign rfl) ?_
  refine OW.nil ?_
  refine KW.seq (KW.region ?_)
  refine OW.val rfl rfl (EX.move rfl) ?_
  replace hr1 : Bk w1 rb 23 en0.cells := hr1
  refine OW.call rfl rfl rfl (hH1 w1) ?_
  rintro _ w2 ⟨rfl, hx2⟩
  refine OW.val rfl rfl (EX.move rfl) ?_
  refine OW.val rfl rfl (EX.extract rfl rfl) ?_
  refine OW.val rfl rfl (EX.extract rfl rfl) ?_
  refine OW.allocB (l := [str [], .int .i64 0, .int .u8 0, .int .i64 0, .int .i64 0, str [], str [], str [], .int .i64 0, .int .i64 0]) rfl rfl ti72 rfl ?_
  rintro hb w3 hge3 hh3 hx3
  refine OW.storeS rfl ti72 rfl rfl rfl (by first | rfl | (simp only [List.all_cons, List.all_nil, Bool.and_true, Bool.true_and, Bool.and_eq_true, Value.oneCell']; repeat (first | assumption | exact Own.one (by assumption) | constructor))) (hh3) (Nat.le_refl _) ?_
  rintro w4 hh4 hm4
  refine OW.val rfl rfl (EX.assign rfl) ?_
  refine OW.nil ?_
  refine KW.seq (KW.region ?_)
  refine OW.val rfl rfl (EX.assign rfl) ?_
  refine OW.nil ?_
  refine KW.seq (KW.region ?_)
  refine OW.val rfl rfl (EX.assign rfl) ?_
  refine OW.nil ?_
  refine KW.seq (KW.seq ?_)
  replace hh4 : Bk w4 hb 72 (headT s).1.cells := hh4
  have x3 := (hx1.trans hx2).trans hx3
  have hlt1 := hr1.lt
  have hne : rb ≠ hb := by have := hx2.size; omega
  have hbge : w.heap.size ≤ hb := by have := hx1.size; have := hx2.size; omega
  have hr4 : Bk w4 rb 23 en0.cells := ((hr1.ext hx2).ext hx3).mo hm4 (by simp; exact hne)
  have x4 : Ext w w4 := below_mo x3 hm4 x3.size (fun k hk => by simp at hk; omega)
  have bye : ∀ (wa wb : World), Ext w wa → Mo wa wb [rb] → Ext w wb := fun wa wb xa hm => below_mo xa hm xa.size (fun k hk => by simp at hk; omega)
  refine KW.cutd6 (fun (H : Hd) (e : Nat) (pv : Value) (pairs : (List Pr)) (used : Nat) (wr : World) => Ext w wr ∧ Bk wr rb 23 en0.cells ∧ Bk wr hb 72 H.cells ∧ HdB H ∧ used ≤ s.length ∧ e ≤ 180 ∧ pairs.length ≤ 262144 ∧ (∀ p ∈ pairs, p.val.length ≤ 262144) ∧ (∃ B, Own wr B 49 2 pv pairs.length (prsV pairs)) ∧ readT s = (if e = 0 ∧ H.kind = 48 then restT (s.drop used) used pairs H else (en0, 0, 180))) (fun (H : Hd) (e : Nat) (pv : Value) (pairs : (List Pr)) (used : Nat) (wr : World) => [(0, str (s)), (2, .pointer (some ⟨rb, 0, none⟩)), (5, .pointer (some ⟨hb, 0, none⟩)), (6, .int .i64 ((e : Nat) : Int)), (7, pv), (8, .int .i64 ((used : Nat) : Int))]) (fun (H : Hd) (e : Nat) (pv : Value) (pairs : (List Pr)) (used : Nat) (wr : World) => wr) ?_ ?_
  · refine KW.region ?_
    refine OW.val rfl rfl (EX.move rfl) ?_
    refine OW.val rfl rfl (by first | exact EX.eqlN (b := 0) rfl rfl | exact EX.eqlZ rfl rfl) ?_
    refine OW.val rfl rfl (EX.move rfl) ?_
    refine OW.splitD 29 rfl (fun h1 => ?_) (fun h1 => ?_)
    · have e0 : (headT s).2 = 0 := by omega
      refine OW.val rfl rfl (EX.fieldAddr (off := 2) Tryz.underlying72 rfl rfl ti5 rfl rfl) ?_
      refine OW.val rfl rfl (EX.load Tryz.underlying5 rfl rfl (hh4.cell_of rfl)) ?_
      refine OW.val rfl rfl (by first | exact EX.eqlN (b := 120) rfl rfl | exact EX.eqlZ rfl rfl) ?_
      refine OW.val rfl rfl (EX.pickT rfl rfl) ?_
      refine OW.nil ?_
      refine KW.condD rfl (fun h2 => ?_) (fun h2 => ?_)
      · have hk : (headT s).1.kind = 120 := by omega
        obtain ⟨m, hm1, hm2⟩ := hB1.size
        have hrx := readT_x e0 hk
        have hmn : (headT s).1.size.toNat = m := by omega
        rw [hmn] at hrx
        have hd := fun w => data_s s hs m hm2 w
        have hdl := dataT_le s m
        have hdl2 : (dataT s m).1.length ≤ s.length := by
          unfold dataT
          split
          · simp
          · show ((s.drop 512).take m).length ≤ _
            rw [List.length_take, List.length_drop]
            omega
        generalize (dataT s m).1 = rec at hd hrx hdl2
        generalize (dataT s m).2.1 = n at hd hrx hdl
        generalize (dataT s m).2.2 = ok at hd hrx
        refine KW.seq (KW.region ?_)
        refine OW.val rfl rfl (EX.move rfl) ?_
        refine OW.val rfl rfl (EX.fieldAddr (off := 1) Tryz.underlying72 rfl rfl ti3 rfl rfl) ?_
        refine OW.val rfl rfl (EX.load Tryz.underlying3 rfl rfl (hh4.cell_of rfl)) ?_
        refine OW.as 37 (.int .i64 ((m : Nat) : Int)) rfl (congrArg (Value.int .i64) hm1) ?_
        refine OW.call rfl rfl rfl (hd w4) ?_
        rintro _ w5 ⟨rfl, hx5⟩
        refine OW.val rfl rfl (EX.move rfl) ?_
        refine OW.val rfl rfl (EX.extract rfl rfl) ?_
        refine OW.val rfl rfl (EX.extract rfl rfl) ?_
        refine OW.val rfl rfl (EX.extract rfl rfl) ?_
        refine OW.val rfl rfl (EX.assign rfl) ?_
        refine OW.val rfl rfl (EX.assign rfl) ?_
        refine OW.val rfl rfl (EX.assign rfl) ?_
        refine OW.nil ?_
        refine KW.seq (KW.seq (KW.region ?_))
        refine OW.val rfl rfl (EX.move rfl) ?_
        refine OW.val rfl rfl (by first | exact EX.notD rfl | exact EX.notB rfl) ?_
        refine OW.nil ?_
        have x5 := x4.trans hx5
        have hr5 := hr4.ext hx5
        have hh5 := hh4.ext hx5
        rcases ok with _ | _
        · refine KW.condT rfl (KW.seq (KW.region ?_))
          refine OW.val rfl rfl (EX.buildS (pl := [(0, 1), (1, 1)]) (ks := []) (is := []) (zs := [str [], str []]) Tryz.underlying23 ti23 (by kernel_rfl) rfl rfl rfl (by first | rfl | (simp only [List.all_cons, List.all_nil, Bool.and_true, Bool.true_and, Bool.and_eq_true, Value.oneCell']; repeat (first | assumption | exact Own.one (by assumption) | constructor))) (by simp only [setAll, List.set_cons_zero, List.set_cons_succ]; rfl)) ?_
          refine OW.storeS rfl ti23 rfl rfl rfl (by first | rfl | (simp only [List.all_cons, List.all_nil, Bool.and_true, Bool.true_and, Bool.and_eq_true, Value.oneCell']; repeat (first | assumption | exact Own.one (by assumption) | constructor))) (hr5) (Nat.le_refl _) ?_
          rintro w6 hr6 hm6
          refine OW.val rfl rfl (EX.assign rfl) ?_
          refine OW.val rfl rfl (EX.assign rfl) ?_
          refine OW.nil ?_
          refine KW.ret (retC3 rfl Tryz.underlying23 rfl ti23 rfl rfl rfl (hr6) rfl ?_)
          rw [hrx, if_neg (fun q => by cases q.1)]
          exact ⟨rfl, bye _ _ x5 hm6⟩
        · refine KW.condF rfl (KW.skip (KW.seq (KW.region ?_)))
          refine OW.val rfl rfl (EX.move rfl) ?_
          have c2 := pdecode_s rec (by omega) w5 (hG.ext x5)
          have hv := decP_vals rec
          have hn := decP_most rec
          have hbig : 262144 < rec.length → decP rec = ([], 3) := fun h => by unfold decP; rw [if_pos h]
          have he2 : (decP rec).2 ≤ 180 := by
            unfold decP
            split
            · decide
            · have key : ∀ (f : Nat) (q : List UInt8) (o : List Pr), (decL f q o).2 ≤ 180 := by
                intro f
                induction f with
                | zero => intro q o; show 170 ≤ 180; decide
                | succ f ih =>
                  intro q o
                  rw [dl_succ]
                  split
                  · show 0 ≤ 180; decide
                  · split
                    · exact ih _ _
                    · show 170 ≤ 180; decide
              exact key _ _ _
          refine OW.call rfl rfl rfl (c2) ?_
          rintro _ w6 ⟨u, rfl, hown, hx6⟩
          refine OW.val rfl rfl (EX.move rfl) ?_
          refine OW.val rfl rfl (EX.extract rfl rfl) ?_
          refine OW.val rfl rfl (EX.extract rfl rfl) ?_
          refine OW.val rfl rfl (EX.assign rfl) ?_
          refine OW.val rfl rfl (EX.assign rfl) ?_
          refine OW.nil ?_
          refine KW.seq (KW.region ?_)
          refine OW.val rfl rfl (EX.move rfl) ?_
          refine OW.val rfl rfl (by first | exact EX.eqlN (b := 0) rfl rfl | exact EX.eqlZ rfl rfl) ?_
          refine OW.nil ?_
          have x6 := x5.trans hx6
          have hr6 := hr5.ext hx6
          have hh6 := hh5.ext hx6
          have hpl : (decP rec).1.length ≤ 262144 := by
            rcases Nat.lt_or_ge 262144 rec.length with q | q
            · rw [hbig q]; simp
            · omega
          have hpv : ∀ p ∈ (decP rec).1, p.val.length ≤ 262144 := fun p hp => by
            rcases Nat.lt_or_ge 262144 rec.length with q | q
            · rw [hbig q] at hp; cases hp
            · have := hv p hp; omega
          refine KW.condD rfl (fun h3 => ?_) (fun h3 => ?_)
          · have e3 : (decP rec).2 = 0 := by omega
            have c3 := header_s (s.drop n) (by rw [List.length_drop]; omega) w6
            refine KW.seq (KW.region ?_)
            refine OW.val rfl rfl (EX.move rfl) ?_
            refine OW.val rfl rfl (EX.assign rfl) ?_
            refine OW.nil ?_
            refine KW.region ?_
            refine OW.val rfl rfl (EX.move rfl) ?_
            refine OW.val rfl rfl (EX.move rfl) ?_
            refine OW.val rfl rfl (EX.sliceLE Tryz.underlying9 rfl rfl (by omega)) ?_
            refine OW.call rfl rfl rfl (c3) ?_
            rintro _ w7 ⟨rfl, hx7⟩
            refine OW.val rfl rfl (EX.move rfl) ?_
            refine OW.val rfl rfl (EX.extract rfl rfl) ?_
            refine OW.val rfl rfl (EX.extract rfl rfl) ?_
            have x7 := x6.trans hx7
            refine OW.storeS rfl ti72 rfl rfl rfl (by first | rfl | (simp only [List.all_cons, List.all_nil, Bool.and_true, Bool.true_and, Bool.and_eq_true, Value.oneCell']; repeat (first | assumption | exact Own.one (by assumption) | constructor))) ((hh6.ext hx7)) (Nat.le_refl _) ?_
            rintro w8 hh8 hm8
            refine OW.val rfl rfl (EX.assign rfl) ?_
            refine OW.nil ?_
            replace hh8 : Bk w8 hb 72 (headT (s.drop n)).1.cells := hh8
            have hr8 := (hr6.ext hx7).mo hm8 (by simp; exact hne)
            have x8 : Ext w w8 := below_mo x7 hm8 x7.size (fun k hk => by simp at hk; omega)
            have hown8 := (hown.ext hx7).mo hm8 (fun k hk => by simp; exact fun z => (hown.ext hx7).ne (hh6.ext hx7) (by decide) k hk z.symm)
            refine KW.meet6 ((headT (s.drop n)).1) ((headT (s.drop n)).2) (u) ((decP rec).1) (n) (w8) ⟨rfl, rfl, rfl, rfl, rfl, rfl, trivial⟩ rfl ?_
            refine ⟨x8, hr8, hh8, head_b _, hdl, by rcases head_e (s.drop n) with q | ⟨q, _⟩ <;> omega, hpl, hpv, ⟨_, hown8⟩, ?_⟩
            rw [hrx]
            by_cases q : (headT (s.drop n)).2 = 0 ∧ (headT (s.drop n)).1.kind = 48
            · rw [if_pos ⟨rfl, e3, q⟩, if_pos q]
            · rw [if_neg (fun z => q z.2.2), if_neg q]
          · refine KW.skip ?_
            refine KW.meet6 ((headT s).1) ((decP rec).2) (u) ((decP rec).1) (0) (w6) ⟨rfl, rfl, rfl, rfl, rfl, rfl, trivial⟩ rfl ?_
            refine ⟨x6, hr6, hh6, hB1, Nat.zero_le _, he2, hpl, hpv, ⟨_, hown⟩, ?_⟩
            rw [hrx, if_neg (fun z => h3 (by have := z.2.1; omega)), if_neg (fun z => h3 (by have := z.1; omega))]
      · refine KW.skip ?_
        refine KW.meet6 ((headT s).1) ((headT s).2) (.slice none 0 0) ([]) (0) (w4) ⟨rfl, rfl, rfl, rfl, rfl, rfl, trivial⟩ rfl ?_
        refine ⟨x4, hr4, hh4, hB1, Nat.zero_le _, by omega, by simp, by simp, ⟨0, Own.nil _ _ _ _⟩, ?_⟩
        by_cases q : (headT s).1.kind = 48
        · rw [readT_0 e0 q, if_pos ⟨e0, q⟩]
          rfl
        · rw [readT_no e0 (by omega) q, if_neg (fun z => q z.2)]
    · refine OW.pass rfl rfl ?_
      refine OW.pass rfl rfl ?_
      refine OW.pass rfl rfl ?_
      refine OW.val rfl rfl (EX.pickF rfl rfl) ?_
      refine OW.nil ?_
      refine KW.condF rfl (KW.skip ?_)
      refine KW.meet6 ((headT s).1) ((headT s).2) (.slice none 0 0) ([]) (0) (w4) ⟨rfl, rfl, rfl, rfl, rfl, rfl, trivial⟩ rfl ?_
      refine ⟨x4, hr4, hh4, hB1, Nat.zero_le _, by rcases hE1 with q | ⟨q, _⟩ <;> omega, by simp, by simp, ⟨0, Own.nil _ _ _ _⟩, ?_⟩
      rw [readT_bad (by omega), if_neg (fun z => by have := z.1; omega)]
  · rintro H e pv pairs used wr ⟨xr, hrr, hhr, hBH, hul, he, hpl, hpv, ⟨B, hown⟩, hread⟩
    obtain ⟨A, c, rfl, _, hsl⟩ := hown.slice
    refine KW.seq (KW.seq (KW.region ?_))
    refine OW.val rfl rfl (EX.move rfl) ?_
    refine OW.val rfl rfl (by first | exact EX.neqN (b := 0) rfl rfl | exact EX.neqZ rfl rfl) ?_
    refine OW.val rfl rfl (EX.move rfl) ?_
    refine OW.splitD 62 rfl (fun h1 => ?_) (fun h1 => ?_)
    · refine OW.pass rfl rfl ?_
      refine OW.pass rfl rfl ?_
      refine OW.pass rfl rfl ?_
      refine OW.val rfl rfl (EX.pickT rfl rfl) ?_
      refine OW.nil ?_
      refine KW.condT rfl (KW.seq (KW.region ?_))
      refine OW.val rfl rfl (EX.buildS (pl := [(0, 1), (1, 1)]) (ks := []) (is := []) (zs := [str [], str []]) Tryz.underlying23 ti23 (by kernel_rfl) rfl rfl rfl (by first | rfl | (simp only [List.all_cons, List.all_nil, Bool.and_true, Bool.true_and, Bool.and_eq_true, Value.oneCell']; repeat (first | assumption | exact Own.one (by assumption) | constructor))) (by simp only [setAll, List.set_cons_zero, List.set_cons_succ]; rfl)) ?_
      refine OW.storeS rfl ti23 rfl rfl rfl (by first | rfl | (simp only [List.all_cons, List.all_nil, Bool.and_true, Bool.true_and, Bool.and_eq_true, Value.oneCell']; repeat (first | assumption | exact Own.one (by assumption) | constructor))) (hrr) (Nat.le_refl _) ?_
      rintro wa hra hma
      refine OW.val rfl rfl (EX.assign rfl) ?_
      refine OW.val rfl rfl (EX.assign rfl) ?_
      refine OW.nil ?_
      refine KW.ret (retC3 rfl Tryz.underlying23 rfl ti23 rfl rfl rfl (hra) rfl ?_)
      rw [hread, if_neg (fun z => by have := z.1; omega)]
      exact ⟨rfl, bye _ _ xr hma⟩
    · refine OW.val rfl rfl (EX.fieldAddr (off := 2) Tryz.underlying72 rfl rfl ti5 rfl rfl) ?_
      refine OW.val rfl rfl (EX.load Tryz.underlying5 rfl rfl (hhr.cell_of rfl)) ?_
      refine OW.val rfl rfl (by first | exact EX.neqN (b := 48) rfl rfl | exact EX.neqZ rfl rfl) ?_
      refine OW.val rfl rfl (EX.pickF rfl rfl) ?_
      refine OW.nil ?_
      refine KW.condD rfl (fun h2 => ?_) (fun h2 => ?_)
      · refine KW.seq (KW.region ?_)
        refine OW.val rfl rfl (EX.buildS (pl := [(0, 1), (1, 1)]) (ks := []) (is := []) (zs := [str [], str []]) Tryz.underlying23 ti23 (by kernel_rfl) rfl rfl rfl (by first | rfl | (simp only [List.all_cons, List.all_nil, Bool.and_true, Bool.true_and, Bool.and_eq_true, Value.oneCell']; repeat (first | assumption | exact Own.one (by assumption) | constructor))) (by simp only [setAll, List.set_cons_zero, List.set_cons_succ]; rfl)) ?_
        refine OW.storeS rfl ti23 rfl rfl rfl (by first | rfl | (simp only [List.all_cons, List.all_nil, Bool.and_true, Bool.true_and, Bool.and_eq_true, Value.oneCell']; repeat (first | assumption | exact Own.one (by assumption) | constructor))) (hrr) (Nat.le_refl _) ?_
        rintro wa hra hma
        refine OW.val rfl rfl (EX.assign rfl) ?_
        refine OW.val rfl rfl (EX.assign rfl) ?_
        refine OW.nil ?_
        refine KW.ret (retC3 rfl Tryz.underlying23 rfl ti23 rfl rfl rfl (hra) rfl ?_)
        rw [hread, if_neg (fun z => by have := z.2; omega)]
        exact ⟨rfl, bye _ _ xr hma⟩
      · have e0 : e = 0 := by omega
        subst e0
        rw [if_pos ⟨rfl, by omega⟩, restT_eq] at hread
        obtain ⟨m, hm1, hm2⟩ := hBH.size
        have hmn : H.size.toNat = m := by omega
        have hl1 := lastP_val (k := pkey) hpv
        have hl2 := lastP_val (k := skey) hpv
        have hdm := dec_le (lastP pairs skey).1
        have hpo : (lastP pairs pkey).2 = true → pthOf pairs H = (lastP pairs pkey).1 := fun q => by unfold pthOf; rw [if_pos q]
        have hpn : ¬ (lastP pairs pkey).2 = true → pthOf pairs H = H.path := fun q => by unfold pthOf; rw [if_neg q]
        have hso : (lastP pairs skey).2 = true → szOf pairs H = dec (lastP pairs skey).1 := fun q => by unfold szOf; rw [if_pos q]
        have hsn : ¬ (lastP pairs skey).2 = true → szOf pairs H = (m, 0) := fun q => by unfold szOf; rw [if_neg q, hmn]
        have hpm : (pthOf pairs H).length ≤ 262144 := by
          have := hBH.path
          by_cases q : (lastP pairs pkey).2 = true
          · rw [hpo q]; exact hl1
          · rw [hpn q]; omega
        have hsm := szOf_most pairs hBH
        generalize pthOf pairs H = path at hread hpo hpn hpm
        generalize szOf pairs H = sz at hread hso hsn hsm
        refine KW.skip (KW.seq ?_)
        refine KW.regionQ (by kernel_rfl) (by kernel_rfl) ?_
        refine QW.val rfl rfl (fun _ => EX.fieldAddr (off := 0) Tryz.underlying72 rfl rfl ti9 rfl rfl) ?_
        refine QW.val rfl rfl (fun _ => EX.load Tryz.underlying9 rfl rfl (hhr.cell_of rfl)) ?_
        refine QW.val rfl rfl (fun _ => EX.fieldAddr (off := 1) Tryz.underlying72 rfl rfl ti3 rfl rfl) ?_
        refine QW.val rfl rfl (fun _ => EX.load Tryz.underlying3 rfl rfl (hhr.cell_of rfl)) ?_
        refine QW.val rfl rfl (fun _ => EX.assign rfl) ?_
        refine QW.val rfl rfl (fun _ => EX.assign rfl) ?_
        refine QW.nil (fun nq => ?_)
        refine KW.seq (KW.seq (KW.region ?_))
        refine OW.val rfl rfl (EX.move rfl) ?_
        have hx1 : Ext wr (wr.drewN nq) := Ext.drewN wr nq
        have xq := xr.trans hx1
        have hrq := hrr.ext hx1
        have hslq := hsl.ext hx1
        have hGq := hG.ext xq
        generalize wr.drewN nq = wq at hx1 xq hrq hslq hGq
        refine OW.as 13 (.int .i64 ((m : Nat) : Int)) rfl (congrArg (Value.int .i64) hm1) ?_
        refine OW.call rfl rfl rfl (last_s pairs (by omega) A c _ pkey wq hslq) ?_
        rintro _ w5 ⟨rfl, hx5⟩
        refine OW.val rfl rfl (EX.move rfl) ?_
        refine OW.val rfl rfl (EX.extract rfl rfl) ?_
        refine OW.val rfl rfl (EX.extract rfl rfl) ?_
        refine OW.val rfl rfl (EX.assign rfl) ?_
        refine OW.val rfl rfl (EX.assign rfl) ?_
        refine OW.nil ?_
        refine KW.seq (KW.region ?_)
        refine OW.val rfl rfl (EX.move rfl) ?_
        refine OW.nil ?_
        refine KW.cut1 (fun (_u : Unit) => True) (fun (_u : Unit) => [(0, str (s)), (2, .pointer (some ⟨rb, 0, none⟩)), (6, .int .i64 ((0 : Nat) : Int)), (7, .slice A pairs.length c), (8, .int .i64 ((used : Nat) : Int)), (12, str (path)), (13, .int .i64 ((m : Nat) : Int))]) (fun (_u : Unit) => w5) ?_ ?_
        · refine KW.cond rfl (fun h3 => ?_) (fun h3 => ?_)
          · refine KW.region ?_
            refine OW.val rfl rfl (EX.move rfl) ?_
            refine OW.val rfl rfl (EX.assign rfl) ?_
            refine OW.nil ?_
            refine KW.as 12 (str (path)) rfl ((congrArg str (hpo h3)).symm) ?_
            refine KW.meet1 (()) ⟨rfl, rfl, rfl, rfl, rfl, rfl, rfl, trivial⟩ rfl ?_
            trivial
          · refine KW.skip ?_
            refine KW.as 12 (str (path)) rfl ((congrArg str (hpn (by rw [h3]; decide))).symm) ?_
            refine KW.meet1 (()) ⟨rfl, rfl, rfl, rfl, rfl, rfl, rfl, trivial⟩ rfl ?_
            trivial
        · rintro _ _
          refine KW.seq (KW.seq (KW.region ?_))
          refine OW.val rfl rfl (EX.move rfl) ?_
          refine OW.call rfl rfl rfl (last_s pairs (by omega) A c _ skey w5 (hslq.ext hx5)) ?_
          rintro _ w6 ⟨rfl, hx6⟩
          refine OW.val rfl rfl (EX.move rfl) ?_
          refine OW.val rfl rfl (EX.extract rfl rfl) ?_
          refine OW.val rfl rfl (EX.extract rfl rfl) ?_
          refine OW.val rfl rfl (EX.assign rfl) ?_
          refine OW.val rfl rfl (EX.assign rfl) ?_
          refine OW.nil ?_
          refine KW.seq (KW.region ?_)
          refine OW.val rfl rfl (EX.move rfl) ?_
          refine OW.nil ?_
          refine KW.cut1 (fun (_u : Unit) => True) (fun (_u : Unit) => [(0, str (s)), (2, .pointer (some ⟨rb, 0, none⟩)), (6, .int .i64 ((sz.2 : Nat) : Int)), (8, .int .i64 ((used : Nat) : Int)), (12, str (path)), (13, .int .i64 ((sz.1 : Nat) : Int))]) (fun (_u : Unit) => w6) ?_ ?_
          · refine KW.cond rfl (fun h4 => ?_) (fun h4 => ?_)
            · refine KW.region ?_
              refine OW.val rfl rfl (EX.move rfl) ?_
              refine OW.call rfl rfl rfl (decimal_s (lastP pairs skey).1 (by omega) w6) ?_
              rintro _ _ ⟨rfl, rfl⟩
              refine OW.val rfl rfl (EX.move rfl) ?_
              refine OW.val rfl rfl (EX.extract rfl rfl) ?_
              refine OW.val rfl rfl (EX.extract rfl rfl) ?_
              refine OW.val rfl rfl (EX.assign rfl) ?_
              refine OW.val rfl rfl (EX.assign rfl) ?_
              refine OW.nil ?_
              refine KW.as 13 (.int .i64 ((sz.1 : Nat) : Int)) rfl ((congrArg (fun z : Nat × Nat => Value.int .i64 ((z.1 : Nat) : Int)) (hso h4)).symm) ?_
              refine KW.as 6 (.int .i64 ((sz.2 : Nat) : Int)) rfl ((congrArg (fun z : Nat × Nat => Value.int .i64 ((z.2 : Nat) : Int)) (hso h4)).symm) ?_
              refine KW.meet1 (()) ⟨rfl, rfl, rfl, rfl, rfl, rfl, trivial⟩ rfl ?_
              trivial
            · refine KW.skip ?_
              refine KW.as 13 (.int .i64 ((sz.1 : Nat) : Int)) rfl ((congrArg (fun z : Nat × Nat => Value.int .i64 ((z.1 : Nat) : Int)) (hsn (by rw [h4]; decide))).symm) ?_
              refine KW.as 6 (.int .i64 ((sz.2 : Nat) : Int)) rfl ((congrArg (fun z : Nat × Nat => Value.int .i64 ((z.2 : Nat) : Int)) (hsn (by rw [h4]; decide))).symm) ?_
              refine KW.meet1 (()) ⟨rfl, rfl, rfl, rfl, rfl, rfl, trivial⟩ rfl ?_
              trivial
          · rintro _ _
            have x6 := (xq.trans hx5).trans hx6
            have hr6 := (hrq.ext hx5).ext hx6
            have hd := fun w => data_s (s.drop used) (by rw [List.length_drop]; omega) sz.1 hsm w
            have hdl := dataT_le (s.drop used) sz.1
            rw [List.length_drop] at hdl
            have hce := clean_e path
            have hcl := fun w => clean_s path (by omega) w
            generalize (dataT (s.drop used) sz.1).1 = content at hd hread
            generalize (dataT (s.drop used) sz.1).2.1 = n at hd hread hdl
            generalize (dataT (s.drop used) sz.1).2.2 = ok at hd hread
            generalize (cleanP path).1 = cp at hcl hread
            generalize (cleanP path).2 = ce at hcl hread hce
            generalize sz.2 = se at hread
            refine KW.seq (KW.region ?_)
            refine OW.val rfl rfl (EX.move rfl) ?_
            refine OW.val rfl rfl (EX.move rfl) ?_
            refine OW.val rfl rfl (EX.sliceLE Tryz.underlying9 rfl rfl (by omega)) ?_
            refine OW.val rfl rfl (EX.move rfl) ?_
            refine OW.call rfl rfl rfl (hd w6) ?_
            rintro _ w7 ⟨rfl, hx7⟩
            refine OW.val rfl rfl (EX.move rfl) ?_
            refine OW.val rfl rfl (EX.extract rfl rfl) ?_
            refine OW.val rfl rfl (EX.extract rfl rfl) ?_
            refine OW.val rfl rfl (EX.extract rfl rfl) ?_
            refine OW.val rfl rfl (EX.assign rfl) ?_
            refine OW.val rfl rfl (EX.assign rfl) ?_
            refine OW.val rfl rfl (EX.assign rfl) ?_
            refine OW.nil ?_
            refine KW.seq (KW.region ?_)
            refine OW.val rfl rfl (EX.move rfl) ?_
            refine OW.call rfl rfl rfl (hcl w7) ?_
            rintro _ w8 ⟨rfl, hx8⟩
            refine OW.val rfl rfl (EX.move rfl) ?_
            refine OW.val rfl rfl (EX.extract rfl rfl) ?_
            refine OW.val rfl rfl (EX.extract rfl rfl) ?_
            refine OW.val rfl rfl (EX.assign rfl) ?_
            refine OW.val rfl rfl (EX.assign rfl) ?_
            refine OW.nil ?_
            refine KW.seq (KW.seq ?_)
            have x8 := (x6.trans hx7).trans hx8
            have hr8 := (hr6.ext hx7).ext hx8
            have bad : ¬ (se = 0 ∧ ok = true ∧ ce = 0) → readT s = (en0, 0, 180) := fun z => by rw [hread, if_neg z]
            refine KW.region ?_
            refine OW.val rfl rfl (EX.move rfl) ?_
            refine OW.val rfl rfl (by first | exact EX.neqN (b := 0) rfl rfl | exact EX.neqZ rfl rfl) ?_
            refine OW.val rfl rfl (EX.move rfl) ?_
            refine OW.splitD 106 rfl (fun a1 => ?_) (fun a1 => ?_)
            · refine OW.pass rfl rfl ?_
              refine OW.pass rfl rfl ?_
              refine OW.val rfl rfl (EX.pickT rfl rfl) ?_
              refine OW.val rfl rfl (EX.move rfl) ?_
              refine OW.pass rfl rfl ?_
              refine OW.pass rfl rfl ?_
              refine OW.val rfl rfl (EX.pickT rfl rfl) ?_
              refine OW.nil ?_
              refine KW.condT rfl (KW.seq (KW.region ?_))
              refine OW.val rfl rfl (EX.buildS (pl := [(0, 1), (1, 1)]) (ks := []) (is := []) (zs := [str [], str []]) Tryz.underlying23 ti23 (by kernel_rfl) rfl rfl rfl (by first | rfl | (simp only [List.all_cons, List.all_nil, Bool.and_true, Bool.true_and, Bool.and_eq_true, Value.oneCell']; repeat (first | assumption | exact Own.one (by assumption) | constructor))) (by simp only [setAll, List.set_cons_zero, List.set_cons_succ]; rfl)) ?_
              refine OW.storeS rfl ti23 rfl rfl rfl (by first | rfl | (simp only [List.all_cons, List.all_nil, Bool.and_true, Bool.true_and, Bool.and_eq_true, Value.oneCell']; repeat (first | assumption | exact Own.one (by assumption) | constructor))) (hr8) (Nat.le_refl _) ?_
              rintro w9 hr9 hm9
              refine OW.val rfl rfl (EX.assign rfl) ?_
              refine OW.val rfl rfl (EX.assign rfl) ?_
              refine OW.nil ?_
              refine KW.ret (retC3 rfl Tryz.underlying23 rfl ti23 rfl rfl rfl (hr9) rfl ?_)
              rw [bad (fun z => a1 (by omega))]
              exact ⟨rfl, bye _ _ x8 hm9⟩
            · refine OW.val rfl rfl (EX.move rfl) ?_
              refine OW.val rfl rfl (by first | exact EX.notD rfl | exact EX.notB rfl) ?_
              refine OW.val rfl rfl (EX.pickF rfl rfl) ?_
              refine OW.val rfl rfl (EX.move rfl) ?_
              rcases ok with _ | _
              · refine OW.pass rfl rfl ?_
                refine OW.pass rfl rfl ?_
                refine OW.val rfl rfl (EX.pickT rfl rfl) ?_
                refine OW.nil ?_
                refine KW.condT rfl (KW.seq (KW.region ?_))
                refine OW.val rfl rfl (EX.buildS (pl := [(0, 1), (1, 1)]) (ks := []) (is := []) (zs := [str [], str []]) Tryz.underlying23 ti23 (by kernel_rfl) rfl rfl rfl (by first | rfl | (simp only [List.all_cons, List.all_nil, Bool.and_true, Bool.true_and, Bool.and_eq_true, Value.oneCell']; repeat (first | assumption | exact Own.one (by assumption) | constructor))) (by simp only [setAll, List.set_cons_zero, List.set_cons_succ]; rfl)) ?_
                refine OW.storeS rfl ti23 rfl rfl rfl (by first | rfl | (simp only [List.all_cons, List.all_nil, Bool.and_true, Bool.true_and, Bool.and_eq_true, Value.oneCell']; repeat (first | assumption | exact Own.one (by assumption) | constructor))) (hr8) (Nat.le_refl _) ?_
                rintro w9 hr9 hm9
                refine OW.val rfl rfl (EX.assign rfl) ?_
                refine OW.val rfl rfl (EX.assign rfl) ?_
                refine OW.nil ?_
                refine KW.ret (retC3 rfl Tryz.underlying23 rfl ti23 rfl rfl rfl (hr9) rfl ?_)
                rw [bad (fun z => by cases z.2.1)]
                exact ⟨rfl, bye _ _ x8 hm9⟩
              · refine OW.val rfl rfl (EX.move rfl) ?_
                refine OW.val rfl rfl (by first | exact EX.neqN (b := 0) rfl rfl | exact EX.neqZ rfl rfl) ?_
                refine OW.val rfl rfl (EX.pickF rfl rfl) ?_
                refine OW.nil ?_
                refine KW.condD rfl (fun a3 => ?_) (fun a3 => ?_)
                · refine KW.seq (KW.region ?_)
                  refine OW.val rfl rfl (EX.buildS (pl := [(0, 1), (1, 1)]) (ks := []) (is := []) (zs := [str [], str []]) Tryz.underlying23 ti23 (by kernel_rfl) rfl rfl rfl (by first | rfl | (simp only [List.all_cons, List.all_nil, Bool.and_true, Bool.true_and, Bool.and_eq_true, Value.oneCell']; repeat (first | assumption | exact Own.one (by assumption) | constructor))) (by simp only [setAll, List.set_cons_zero, List.set_cons_succ]; rfl)) ?_
                  refine OW.storeS rfl ti23 rfl rfl rfl (by first | rfl | (simp only [List.all_cons, List.all_nil, Bool.and_true, Bool.true_and, Bool.and_eq_true, Value.oneCell']; repeat (first | assumption | exact Own.one (by assumption) | constructor))) (hr8) (Nat.le_refl _) ?_
                  rintro w9 hr9 hm9
                  refine OW.val rfl rfl (EX.assign rfl) ?_
                  refine OW.val rfl rfl (EX.assign rfl) ?_
                  refine OW.nil ?_
                  refine KW.ret (retC3 rfl Tryz.underlying23 rfl ti23 rfl rfl rfl (hr9) rfl ?_)
                  rw [bad (fun z => a3 (by omega))]
                  exact ⟨rfl, bye _ _ x8 hm9⟩
                · rw [if_pos ⟨by omega, rfl, by omega⟩] at hread
                  refine KW.skip (KW.seq (KW.region ?_))
                  refine OW.val rfl rfl (EX.move rfl) ?_
                  refine OW.val rfl rfl (EX.move rfl) ?_
                  refine OW.val rfl rfl (EX.buildS (pl := [(0, 1), (1, 1)]) (ks := [0, 1]) (is := [0, 1]) (zs := [str [], str []]) Tryz.underlying23 ti23 (by kernel_rfl) rfl rfl rfl (by first | rfl | (simp only [List.all_cons, List.all_nil, Bool.and_true, Bool.true_and, Bool.and_eq_true, Value.oneCell']; repeat (first | assumption | exact Own.one (by assumption) | constructor))) (by simp only [setAll, List.set_cons_zero, List.set_cons_succ]; rfl)) ?_
                  refine OW.val rfl rfl (EX.move rfl) ?_
                  refine OW.val rfl rfl (EX.move rfl) ?_
                  refine OW.val rfl rfl (by first | exact EX.addN (m := 9223372036854775807) rfl rfl rfl (by omega) | exact EX.addZ (m := 9223372036854775807) rfl rfl rfl rfl (by omega)) ?_
                  refine OW.storeS rfl ti23 rfl rfl rfl (by first | rfl | (simp only [List.all_cons, List.all_nil, Bool.and_true, Bool.true_and, Bool.and_eq_true, Value.oneCell']; repeat (first | assumption | exact Own.one (by assumption) | constructor))) (hr8) (Nat.le_refl _) ?_
                  rintro w9 hr9 hm9
                  refine OW.val rfl rfl (EX.assign rfl) ?_
                  refine OW.val rfl rfl (EX.assign rfl) ?_
                  refine OW.nil ?_
                  replace hr9 : Bk w9 rb 23 (En.cells ⟨cp, content⟩) := hr9
                  refine KW.ret (retC3 rfl Tryz.underlying23 rfl ti23 rfl rfl rfl (hr9) rfl ?_)
                  rw [hread]
                  exact ⟨rfl, bye _ _ x8 hm9⟩
end Go.Proofs.YtjgeoeeikfjmdaaGreatDoor
/- tar: the iterator over a text's files; Unpack. -/
namespace Go.Proofs.YtjgeoeeikfjmdaaGreatDoor
set_option linter.unnecessarySimpa false
open Go.RowKit Fld Ust Pax Pth Tar
set_option linter.unusedVariables false
set_option linter.unusedSimpArgs false

/-! ### In plain words: what the iterator hands out -/
abbrev EnE := En × Nat
def isZ (s : List UInt8) : Bool := decide (512 ≤ s.length ∧ zeroH (s.take 512) = true)
def isO (h : Hd × Nat) : Bool := decide (h.2 = 0 ∧ (h.1.kind = 53 ∨ h.1.kind = 103))
def seqT : Nat → List UInt8 → List (En × Nat)
  | 0, _ => []
  | f + 1, s => if isZ s = true then []
    else if isO (headT s) = true then (if (dataT s (headT s).1.size.toNat).2.2 = true then seqT f (s.drop (dataT s (headT s).1.size.toNat).2.1) else [(en0, 180)])
    else if (headT s).2 ≠ 0 ∨ (readT s).2.2 ≠ 0 then [(en0, 180)] else ((readT s).1, 0) :: seqT f (s.drop (readT s).2.1)
theorem dataT_pos {s : List UInt8} {n : Nat} (h : (dataT s n).2.2 = true) : 512 ≤ (dataT s n).2.1 := by
  unfold dataT at h ⊢
  split
  · rename_i q
    rw [if_pos q] at h
    cases h
  · show 512 ≤ 512 + fil n
    omega
theorem restT_pos {t : List UInt8} {u : Nat} {p : List Pr} {h : Hd} (hz : (restT t u p h).2.2 = 0) : 512 ≤ (restT t u p h).2.1 ∧ (restT t u p h).2.1 ≤ u + t.length := by
  rw [restT_eq] at hz ⊢
  split at hz
  · rename_i q
    rw [if_pos q]
    have := dataT_pos q.2.1
    have := dataT_le t (szOf p h).1
    show 512 ≤ u + _ ∧ u + _ ≤ _
    omega
  · cases hz
theorem readT_pos {s : List UInt8} (h : (readT s).2.2 = 0) : 512 ≤ (readT s).2.1 ∧ (readT s).2.1 ≤ s.length := by
  by_cases h1 : (headT s).2 = 0
  · by_cases h2 : (headT s).1.kind = 120
    · rw [readT_x h1 h2] at h ⊢
      split at h
      · rename_i q
        rw [if_pos q]
        have h3 := restT_pos h
        have h4 := dataT_le s (headT s).1.size.toNat
        rw [List.length_drop] at h3
        omega
      · cases h
    · by_cases h3 : (headT s).1.kind = 48
      · rw [readT_0 h1 h3] at h ⊢
        have := restT_pos h
        omega
      · rw [readT_no h1 h2 h3] at h
        cases h
  · rw [readT_bad h1] at h
    cases h
theorem readT_e (s : List UInt8) : (readT s).2.2 = 0 ∨ readT s = (en0, 0, 180) := by
  have hr : ∀ t u p h, (restT t u p h).2.2 = 0 ∨ restT t u p h = (en0, 0, 180) := fun t u p h => by
    rw [restT_eq]
    split
    · exact .inl rfl
    · exact .inr rfl
  by_cases h1 : (headT s).2 = 0
  · by_cases h2 : (headT s).1.kind = 120
    · rw [readT_x h1 h2]
      split
      · exact hr _ _ _ _
      · exact .inr rfl
    · by_cases h3 : (headT s).1.kind = 48
      · rw [readT_0 h1 h3]
        exact hr _ _ _ _
      · rw [readT_no h1 h2 h3]
        exact .inr rfl
  · rw [readT_bad h1]
    exact .inr rfl
theorem seqT_len : ∀ (f : Nat) (s : List UInt8), (seqT f s).length ≤ f
  | 0, _ => by simp [seqT]
  | f + 1, s => by
    rw [seqT]
    split
    · simp
    · split
      · split
        · exact Nat.le_succ_of_le (seqT_len f _)
        · simp
      · split
        · simp
        · simpa using seqT_len f _
theorem unp_seq : ∀ (f : Nat) (s : List UInt8) (out : List En), s.length < f → ((∀ p ∈ seqT f s, p.2 = 0) ∧ unpT f s out = (out ++ (seqT f s).map (·.1), 0)) ∨ ((∃ p ∈ seqT f s, p.2 ≠ 0) ∧ unpT f s out = ([], 180))
  | 0, s, out, h => by omega
  | f + 1, s, out, h => by
    rw [seqT, unpT]
    by_cases hz : 512 ≤ s.length ∧ zeroH (s.take 512) = true
    · rw [if_pos hz, if_pos (by simp [isZ, hz])]
      exact .inl ⟨by simp, by simp⟩
    · rw [if_neg hz, if_neg (by simpa [isZ] using hz)]
      by_cases ho : (headT s).2 = 0 ∧ ((headT s).1.kind = 53 ∨ (headT s).1.kind = 103)
      · rw [if_pos ho, if_pos (by simpa [isO] using ho)]
        by_cases hd : (dataT s (headT s).1.size.toNat).2.2 = true
        · rw [if_pos hd, if_pos hd]
          have := dataT_pos hd
          have := dataT_le s (headT s).1.size.toNat
          exact unp_seq f _ out (by rw [List.length_drop]; omega)
        · rw [if_neg hd, if_neg hd]
          exact .inr ⟨⟨_, List.mem_singleton.2 rfl, by decide⟩, rfl⟩
      · rw [if_neg ho, if_neg (by simpa [isO] using ho)]
        by_cases hb : (headT s).2 ≠ 0 ∨ (readT s).2.2 ≠ 0
        · rw [if_pos hb, if_pos hb]
          exact .inr ⟨⟨_, List.mem_singleton.2 rfl, by decide⟩, rfl⟩
        · rw [if_neg hb, if_neg hb]
          have hr0 : (readT s).2.2 = 0 := by omega
          have hp := readT_pos hr0
          rcases unp_seq f (s.drop (readT s).2.1) (out ++ [(readT s).1]) (by rw [List.length_drop]; omega) with ⟨h1, h2⟩ | ⟨⟨p, h1, h2⟩, h3⟩
          · refine .inl ⟨fun p hp => ?_, by rw [h2]; simp⟩
            rcases List.mem_cons.1 hp with rfl | hp
            · rfl
            · exact h1 p hp
          · exact .inr ⟨⟨p, List.mem_cons_of_mem _ h1, h2⟩, h3⟩
theorem ensV_snoc (l : List En) (x : En) : ensV (l ++ [x]) = ensV l ++ x.cells := by simp [ensV]
theorem ensV_one (l : List En) : ∀ u ∈ ensV l, u.oneCell' = true := by
  intro u hu
  obtain ⟨p, _, h⟩ := List.mem_flatMap.1 hu
  simp only [En.cells, List.mem_cons, List.not_mem_nil, or_false] at h
  rcases h with rfl | rfl <;> rfl
/-! ### The iterator -/
set_option maxRecDepth 20000 in
theorem iter_t (sb : Nat) (s : List UInt8) (hs : s.length ≤ 524288) (w : World) (hsb : Bk w sb 9 [str s]) :
    SeqM 2 Tryz.prog 54 [.pointer (some ⟨sb, 0, none⟩)] (fun x : En × Nat => [.agg x.1.cells.toArray, .int .i64 ((x.2 : Nat) : Int)]) [sb] Env (fun xs => xs = seqT (s.length + 1) s) (fun pre => pre <+: seqT (s.length + 1) s) (s.length + 1) w := fun l J Jx W hW hJ hJx hJG hY h0 => by
  have hb0 : Bk W sb 9 [str s] := hsb.ext hW
  obtain ⟨full, hfull⟩ : ∃ full, full = seqT (s.length + 1) s := ⟨_, rfl⟩
  rw [← hfull]
  have hsl := seqT_len (s.length + 1) s
  rw [← hfull] at hsl
  have hret : Ret Tryz.prog 54 [.func (.yield l) #[] #[], .pointer (some ⟨sb, 0, none⟩)] W fun v W' => (∃ xs, xs = full ∧ J xs W') ∨ (∃ pre, pre <+: full ∧ Jx pre W') := by
    refine Ret.enterR 2 Tryz.func54 rfl Tryz.ntmps54 (by kernel_rfl) rfl ?_
    refine KR.scope (fun _ _ _ h => h) (KR.seq (KR.label (KR.block ?_)))
    refine KR.loop4 (fun (q : (List UInt8)) (f : Nat) (pre : (List EnE)) (wr : World) => J pre wr ∧ Bk wr sb 9 [str q] ∧ q.length < f ∧ q.length ≤ s.length ∧ full = pre ++ seqT f q) (fun (q : (List UInt8)) (f : Nat) (pre : (List EnE)) (wr : World) => [(0, .func (.yield l) #[] #[]), (1, .pointer (some ⟨sb, 0, none⟩))]) (fun (q : (List UInt8)) (f : Nat) (pre : (List EnE)) (wr : World) => wr) (fun (q : (List UInt8)) (f : Nat) (pre : (List EnE)) (wr : World) => q.length) (s) (s.length + 1) ([]) (W) ⟨rfl, rfl, trivial⟩ rfl ?_ ?_
    · exact ⟨h0, hb0, Nat.lt_succ_self _, Nat.le_refl _, hfull⟩
    · rintro q f pre wr ⟨hj, hb, hf, hq, he⟩
      obtain ⟨f, rfl⟩ : ∃ g, f = g + 1 := ⟨f - 1, by omega⟩
      have hG := hJG pre wr hj
      rw [seqT] at he
      have hl1 := congrArg List.length he
      rw [List.length_append] at hl1
      refine KR.block (KR.seq (KR.seq ?_))
      refine KR.cut1 (fun (_u : Unit) => True) (fun (_u : Unit) => [(0, .func (.yield l) #[] #[]), (1, .pointer (some ⟨sb, 0, none⟩)), (17, .bool (isZ q))]) (fun (_u : Unit) => wr) ?_ ?_
      · refine KR.region ?_
        refine OR.val rfl rfl (EX.load Tryz.underlying9 rfl rfl (hb.cell_of rfl)) ?_
        refine OR.val rfl rfl (EX.lenS Tryz.underlying9 rfl) ?_
        refine OR.val rfl rfl (by first | exact EX.geqN (b := 512) rfl rfl | exact EX.geqZ rfl rfl) ?_
        refine OR.val rfl rfl (EX.move rfl) ?_
        refine OR.splitD 13 rfl (fun a1 => ?_) (fun a1 => ?_)
        · skip
          refine OR.val rfl rfl (EX.load Tryz.underlying9 rfl rfl (hb.cell_of rfl)) ?_
          refine OR.val rfl rfl (EX.sliceFH (j := 512) Tryz.underlying9 rfl rfl (by omega)) ?_
          refine OR.call rfl rfl rfl (zero_s (q.take 512) wr) ?_
          rintro _ _ ⟨rfl, rfl⟩
          refine OR.val rfl rfl (EX.pickT rfl rfl) ?_
          refine OR.nil ?_
          refine KR.as 17 (.bool (isZ q)) rfl (congrArg Value.bool (by unfold isZ; rw [Bool.eq_iff_iff, decide_eq_true_eq]; exact ⟨fun h => ⟨by omega, h⟩, fun h => h.2⟩)) ?_
          refine KR.meet1 (()) ⟨rfl, rfl, rfl, trivial⟩ rfl ?_
          trivial
        · refine OR.pass rfl rfl ?_
          refine OR.pass rfl rfl ?_
          refine OR.pass rfl rfl ?_
          refine OR.val rfl rfl (EX.pickF rfl rfl) ?_
          refine OR.nil ?_
          refine KR.as 17 (.bool (isZ q)) rfl (congrArg Value.bool (decide_eq_false (fun h => a1 (by omega))).symm) ?_
          refine KR.meet1 (()) ⟨rfl, rfl, rfl, trivial⟩ rfl ?_
          trivial
      · rintro _ _
        refine KR.cond rfl (fun hz => ?_) (fun hz => ?_)
        · rw [if_pos hz, List.append_nil] at he
          refine KR.ret (retR0 (.inr rfl) rfl rfl rfl ?_)
          exact .inl ⟨pre, he.symm, hj⟩
        · rw [if_neg (by rw [hz]; decide)] at he
          have hHb := head_b q
          have hHe := head_e q
          refine KR.skip (KR.seq (KR.region ?_))
          refine OR.val rfl rfl (EX.load Tryz.underlying9 rfl rfl (hb.cell_of rfl)) ?_
          refine OR.call rfl rfl rfl (header_s q (by omega) wr) ?_
          rintro _ w1 ⟨rfl, hx1⟩
          refine OR.val rfl rfl (EX.move rfl) ?_
          refine OR.val rfl rfl (EX.extract rfl rfl) ?_
          refine OR.val rfl rfl (EX.extract rfl rfl) ?_
          refine OR.allocB (l := [str [], .int .i64 0, .int .u8 0, .int .i64 0, .int .i64 0, str [], str [], str [], .int .i64 0, .int .i64 0]) rfl rfl ti72 rfl ?_
          rintro hb1 w2 hge2 hh2 hx2
          refine OR.storeS rfl ti72 rfl rfl rfl (by first | rfl | (simp only [List.all_cons, List.all_nil, Bool.and_true, Bool.true_and, Bool.and_eq_true, Value.oneCell']; repeat (first | assumption | exact Own.one (by assumption) | constructor))) (hh2) (Nat.le_refl _) ?_
          rintro w3 hh3 hm3
          refine OR.val rfl rfl (EX.assign rfl) ?_
          refine OR.nil ?_
          refine KR.seq (KR.seq ?_)
          replace hh3 : Bk w3 hb1 72 (headT q).1.cells := hh3
          have x3 : Ext wr w3 := below_mo (hx1.trans hx2) hm3 (hx1.trans hx2).size (fun k hk => by simp at hk; have := hx1.size; omega)
          have hb3 := hb.ext x3
          have hj3 : J pre w3 := hJ _ _ _ hj (Mo.of_ext x3 _)
          have hG3 := hG.ext x3
          refine KR.cut1 (fun (_u : Unit) => True) (fun (_u : Unit) => [(0, .func (.yield l) #[] #[]), (1, .pointer (some ⟨sb, 0, none⟩)), (3, .pointer (some ⟨hb1, 0, none⟩)), (4, .int .i64 (((headT q).2 : Nat) : Int)), (34, .bool (isO (headT q)))]) (fun (_u : Unit) => w3) ?_ ?_
          · refine KR.region ?_
            refine OR.val rfl rfl (EX.move rfl) ?_
            refine OR.val rfl rfl (by first | exact EX.eqlN (b := 0) rfl rfl | exact EX.eqlZ rfl rfl) ?_
            refine OR.val rfl rfl (EX.move rfl) ?_
            refine OR.splitD 25 rfl (fun c1 => ?_) (fun c1 => ?_)
            · refine OR.val rfl rfl (EX.fieldAddr (off := 2) Tryz.underlying72 rfl rfl ti5 rfl rfl) ?_
              refine OR.val rfl rfl (EX.load Tryz.underlying5 rfl rfl (hh3.cell_of rfl)) ?_
              refine OR.val rfl rfl (by first | exact EX.eqlN (b := 53) rfl rfl | exact EX.eqlZ rfl rfl) ?_
              refine OR.val rfl rfl (EX.move rfl) ?_
              refine OR.splitD 29 rfl (fun c2 => ?_) (fun c2 => ?_)
              · refine OR.pass rfl rfl ?_
                refine OR.pass rfl rfl ?_
                refine OR.pass rfl rfl ?_
                refine OR.val rfl rfl (EX.pickT rfl rfl) ?_
                refine OR.val rfl rfl (EX.pickT rfl rfl) ?_
                refine OR.nil ?_
                refine KR.as 34 (.bool (isO (headT q))) rfl (congrArg Value.bool (decide_eq_true ⟨by omega, .inl (by omega)⟩).symm) ?_
                refine KR.meet1 (()) ⟨rfl, rfl, rfl, rfl, rfl, trivial⟩ rfl ?_
                trivial
              · refine OR.val rfl rfl (EX.fieldAddr (off := 2) Tryz.underlying72 rfl rfl ti5 rfl rfl) ?_
                refine OR.val rfl rfl (EX.load Tryz.underlying5 rfl rfl (hh3.cell_of rfl)) ?_
                refine OR.val rfl rfl (by first | exact EX.eqlN (b := 103) rfl rfl | exact EX.eqlZ rfl rfl) ?_
                refine OR.val rfl rfl (EX.pickF rfl rfl) ?_
                refine OR.val rfl rfl (EX.pickT rfl rfl) ?_
                refine OR.nil ?_
                refine KR.as 34 (.bool (isO (headT q))) rfl (congrArg Value.bool (decide_eq_decide.2 ⟨fun h => ⟨by omega, .inr (by omega)⟩, fun h => by rcases h.2 with h | h <;> omega⟩)) ?_
                refine KR.meet1 (()) ⟨rfl, rfl, rfl, rfl, rfl, trivial⟩ rfl ?_
                trivial
            · refine OR.pass rfl rfl ?_
              refine OR.pass rfl rfl ?_
              refine OR.pass rfl rfl ?_
              refine OR.pass rfl rfl ?_
              refine OR.pass rfl rfl ?_
              refine OR.pass rfl rfl ?_
              refine OR.pass rfl rfl ?_
              refine OR.pass rfl rfl ?_
              refine OR.val rfl rfl (EX.pickF rfl rfl) ?_
              refine OR.nil ?_
              refine KR.as 34 (.bool (isO (headT q))) rfl (congrArg Value.bool (decide_eq_false (fun h => c1 (by have := h.1; omega))).symm) ?_
              refine KR.meet1 (()) ⟨rfl, rfl, rfl, rfl, rfl, trivial⟩ rfl ?_
              trivial
          · rintro _ _
            have hyl : pre.length < s.length + 1 → ∀ (x : En × Nat) (wy : World), J pre wy → YieldR Tryz.prog 1 l [.agg x.1.cells.toArray, .int .i64 ((x.2 : Nat) : Int)] wy fun v W' => ∃ b, v = .bool b ∧ ((b = true ∧ J (pre ++ [x]) W' ∧ W'.heap[sb]? = wy.heap[sb]?) ∨ (b = false ∧ Jx (pre ++ [x]) W')) := fun hlen x wy hjy =>
              YieldAt.mono (hY pre x wy hjy hlen) (by
                rintro e W' ⟨v, rfl, ⟨rfl, h1, h2⟩ | ⟨rfl, h1⟩⟩
                · exact ⟨_, rfl, true, rfl, .inl ⟨rfl, h1, h2 sb (by simp)⟩⟩
                · exact ⟨_, rfl, false, rfl, .inr ⟨rfl, h1⟩⟩)
            have fin : ∀ (x : En × Nat) (W' : World), full = pre ++ [x] → (J (pre ++ [x]) W' ∨ Jx (pre ++ [x]) W') → ((∃ xs, xs = full ∧ J xs W') ∨ (∃ pre, pre <+: full ∧ Jx pre W')) := fun x W' h1 h2 => by
              rcases h2 with h2 | h2
              · exact .inl ⟨_, h1.symm, h2⟩
              · exact .inr ⟨_, ⟨[], by rw [h1, List.append_nil]⟩, h2⟩
            have hb1sb : hb1 ≠ sb := by have := hb.lt; have := hx1.size; omega
            refine KR.cut2 (fun (e : Nat) (wc : World) => (e = 0 ∧ (headT q).2 = 0 ∧ isO (headT q) = false ∨ e = 180 ∧ full = pre ++ [(en0, 180)]) ∧ Ext w3 wc) (fun (e : Nat) (wc : World) => [(0, .func (.yield l) #[] #[]), (1, .pointer (some ⟨sb, 0, none⟩)), (4, .int .i64 ((e : Nat) : Int))]) (fun (e : Nat) (wc : World) => wc) ?_ ?_
            · refine KR.cond rfl (fun ho => ?_) (fun ho => ?_)
              · rw [if_pos ho] at he
                have hok := of_decide_eq_true ho
                obtain ⟨m, hm1, hm2⟩ := hHb.size
                have hmn : (headT q).1.size.toNat = m := by omega
                rw [hmn] at he
                have hd := fun w => data_s q (by omega) m hm2 w
                have hdl := dataT_le q m
                have hdp := dataT_pos (s := q) (n := m)
                generalize (dataT q m).1 = rec at hd
                generalize (dataT q m).2.1 = n at hd he hdl hdp
                generalize (dataT q m).2.2 = ok at hd he hdp
                refine KR.seq (KR.region ?_)
                refine OR.val rfl rfl (EX.load Tryz.underlying9 rfl rfl (hb3.cell_of rfl)) ?_
                refine OR.val rfl rfl (EX.fieldAddr (off := 1) Tryz.underlying72 rfl rfl ti3 rfl rfl) ?_
                refine OR.val rfl rfl (EX.load Tryz.underlying3 rfl rfl (hh3.cell_of rfl)) ?_
                refine OR.as 38 (.int .i64 ((m : Nat) : Int)) rfl (congrArg (Value.int .i64) hm1) ?_
                refine OR.call rfl rfl rfl (hd w3) ?_
                rintro _ w4 ⟨rfl, hx4⟩
                refine OR.val rfl rfl (EX.move rfl) ?_
                refine OR.val rfl rfl (EX.extract rfl rfl) ?_
                refine OR.val rfl rfl (EX.extract rfl rfl) ?_
                refine OR.val rfl rfl (EX.extract rfl rfl) ?_
                refine OR.val rfl rfl (EX.assign rfl) ?_
                refine OR.val rfl rfl (EX.assign rfl) ?_
                refine OR.val rfl rfl (EX.assign rfl) ?_
                refine OR.nil ?_
                refine KR.seq (KR.seq (KR.region ?_))
                refine OR.val rfl rfl (EX.move rfl) ?_
                refine OR.nil ?_
                have hb4 := hb3.ext hx4
                have hj4 : J pre w4 := hJ _ _ _ hj3 (Mo.of_ext hx4 _)
                rcases ok with _ | _
                · refine KR.condF rfl (KR.skip (KR.region ?_))
                  refine OR.val rfl rfl (EX.assign rfl) ?_
                  refine OR.nil ?_
                  refine KR.meet2 (180) (w4) ⟨rfl, rfl, rfl, trivial⟩ rfl ?_
                  exact ⟨.inr ⟨rfl, by rw [he, if_neg (by decide)]⟩, hx4⟩
                · refine KR.condT rfl (KR.seq (KR.region ?_))
                  rw [if_pos rfl] at he
                  have hn := hdp rfl
                  refine OR.val rfl rfl (EX.load Tryz.underlying9 rfl rfl (hb4.cell_of rfl)) ?_
                  refine OR.val rfl rfl (EX.move rfl) ?_
                  refine OR.val rfl rfl (EX.sliceLE Tryz.underlying9 rfl rfl (by omega)) ?_
                  refine OR.storeB rfl ti9 rfl rfl (by first | rfl | assumption | exact Own.one (by assumption)) (hb4) (Nat.le_refl _) ?_
                  rintro w5 hb5 hm5
                  refine OR.nil ?_
                  refine KR.exit rfl ?_
                  refine KR.back4 (q.drop n) (f) (pre) (w5) ⟨rfl, rfl, trivial⟩ rfl ?_ (by rw [List.length_drop]; omega)
                  exact ⟨hJ _ _ _ hj4 hm5, hb5, by rw [List.length_drop]; omega, by rw [List.length_drop]; omega, he⟩
              · rw [if_neg (by rw [ho]; decide)] at he
                refine KR.skip ?_
                refine KR.meet2 ((headT q).2) (w3) ⟨rfl, rfl, rfl, trivial⟩ rfl ?_
                refine ⟨?_, Ext.refl _⟩
                rcases hHe with h | ⟨h, _⟩
                · exact .inl ⟨h, h, ho⟩
                · exact .inr ⟨h, by rw [he, if_pos (.inl (by omega))]⟩
            · rintro e wc ⟨hcase, hxc⟩
              have xc := x3.trans hxc
              have hbc := hb3.ext hxc
              have hjc : J pre wc := hJ _ _ _ hj3 (Mo.of_ext hxc _)
              have hGc := hG3.ext hxc
              refine KR.seq (KR.region ?_)
              refine OR.val rfl rfl (EX.buildS (pl := [(0, 1), (1, 1)]) (ks := []) (is := []) (zs := [str [], str []]) Tryz.underlying23 ti23 (by kernel_rfl) rfl rfl rfl (by first | rfl | (simp only [List.all_cons, List.all_nil, Bool.and_true, Bool.true_and, Bool.and_eq_true, Value.oneCell']; repeat (first | assumption | exact Own.one (by assumption) | constructor))) (by simp only [setAll, List.set_cons_zero, List.set_cons_succ]; rfl)) ?_
              refine OR.allocB (l := [str [], str []]) rfl rfl ti23 rfl ?_
              rintro xb w6 hge6 hx6b hx6
              refine OR.storeS rfl ti23 rfl rfl rfl (by first | rfl | (simp only [List.all_cons, List.all_nil, Bool.and_true, Bool.true_and, Bool.and_eq_true, Value.oneCell']; repeat (first | assumption | exact Own.one (by assumption) | constructor))) (hx6b) (Nat.le_refl _) ?_
              rintro w7 hx7b hm7
              refine OR.val rfl rfl (EX.assign rfl) ?_
              refine OR.nil ?_
              refine KR.seq (KR.seq (KR.region ?_))
              refine OR.val rfl rfl (EX.move rfl) ?_
              refine OR.val rfl rfl (by first | exact EX.eqlN (b := 0) rfl rfl | exact EX.eqlZ rfl rfl) ?_
              refine OR.nil ?_
              replace hx7b : Bk w7 xb 23 en0.cells := hx7b
              have x7 : Ext wc w7 := below_mo hx6 hm7 hx6.size (fun k hk => by simp at hk; omega)
              have hb7 := hbc.ext x7
              have hj7 : J pre w7 := hJ _ _ _ hjc (Mo.of_ext x7 _)
              refine KR.cut4 (fun (x : En) (n : Nat) (ee : Nat) (wy : World) => ((ee = 0 ∧ 512 ≤ n ∧ n ≤ q.length ∧ full = pre ++ (x, 0) :: seqT f (q.drop n)) ∨ (ee = 180 ∧ x = en0 ∧ full = pre ++ [(en0, 180)])) ∧ Bk wy xb 23 x.cells ∧ Ext wc wy) (fun (x : En) (n : Nat) (ee : Nat) (wy : World) => [(0, .func (.yield l) #[] #[]), (1, .pointer (some ⟨sb, 0, none⟩)), (4, .int .i64 ((ee : Nat) : Int)), (8, .pointer (some ⟨xb, 0, none⟩)), (9, .int .i64 ((n : Nat) : Int))]) (fun (x : En) (n : Nat) (ee : Nat) (wy : World) => wy) ?_ ?_
              · refine KR.condD rfl (fun hzz => ?_) (fun hzz => ?_)
                · obtain ⟨rfl, e2, e3⟩ : e = 0 ∧ (headT q).2 = 0 ∧ isO (headT q) = false := by
                    rcases hcase with h | ⟨h, _⟩
                    · exact h
                    · omega
                  rw [if_neg (by rw [e3]; decide)] at he
                  have c1 := read_s q (by omega) w7 (hGc.ext x7)
                  refine KR.region ?_
                  refine OR.val rfl rfl (EX.load Tryz.underlying9 rfl rfl (hb7.cell_of rfl)) ?_
                  refine OR.call rfl rfl rfl (c1) ?_
                  rintro _ w8 ⟨rfl, hx8⟩
                  refine OR.val rfl rfl (EX.move rfl) ?_
                  refine OR.val rfl rfl (EX.extract rfl rfl) ?_
                  refine OR.val rfl rfl (EX.extract rfl rfl) ?_
                  refine OR.val rfl rfl (EX.extract rfl rfl) ?_
                  refine OR.storeS rfl ti23 rfl rfl rfl (by first | rfl | (simp only [List.all_cons, List.all_nil, Bool.and_true, Bool.true_and, Bool.and_eq_true, Value.oneCell']; repeat (first | assumption | exact Own.one (by assumption) | constructor))) ((hx7b.ext hx8)) (Nat.le_refl _) ?_
                  rintro w9 hx9b hm9
                  refine OR.val rfl rfl (EX.assign rfl) ?_
                  refine OR.val rfl rfl (EX.assign rfl) ?_
                  refine OR.nil ?_
                  replace hx9b : Bk w9 xb 23 (readT q).1.cells := hx9b
                  have x9 : Ext wc w9 := below_mo (x7.trans hx8) hm9 (x7.trans hx8).size (fun k hk => by simp at hk; omega)
                  refine KR.meet4 ((readT q).1) ((readT q).2.1) ((readT q).2.2) (w9) ⟨rfl, rfl, rfl, rfl, rfl, trivial⟩ rfl ?_
                  refine ⟨?_, hx9b, x9⟩
                  rcases readT_e q with h | h
                  · have hp := readT_pos h
                    exact .inl ⟨h, hp.1, hp.2, by rw [he, if_neg (by omega)]⟩
                  · exact .inr ⟨by rw [h], by rw [h], by rw [he, if_pos (.inr (by rw [h]; decide))]⟩
                · obtain ⟨rfl, hlast⟩ : e = 180 ∧ full = pre ++ [(en0, 180)] := by
                    rcases hcase with ⟨h, _⟩ | h
                    · exact absurd (by omega) hzz
                    · exact h
                  refine KR.skip ?_
                  refine KR.meet4 (en0) (0) (180) (w7) ⟨rfl, rfl, rfl, rfl, rfl, trivial⟩ rfl ?_
                  exact ⟨.inr ⟨rfl, rfl, hlast⟩, hx7b, x7⟩
              · rintro x n ee wy ⟨hc2, hxb, hxy⟩
                have hby := hbc.ext hxy
                have hjy : J pre wy := hJ _ _ _ hjc (Mo.of_ext hxy _)
                have hlen : pre.length < s.length + 1 := by
                  have hl2 := hsl
                  rcases hc2 with ⟨_, _, _, h⟩ | ⟨_, _, h⟩ <;> (rw [h] at hl2; simp only [List.length_append, List.length_cons] at hl2; omega)
                refine KR.seq (KR.seq ?_)
                refine KR.region ?_
                refine OR.val rfl rfl (EX.move rfl) ?_
                refine OR.val rfl rfl (EX.loadBk Tryz.underlying23 rfl ti23 rfl (hxb) (rfl)) ?_
                refine OR.val rfl rfl (EX.move rfl) ?_
                refine OR.yield2 rfl rfl rfl rfl rfl rfl (hyl hlen (x, ee) wy hjy) ?_
                rintro _ wz ⟨y, rfl, hv⟩
                refine OR.val rfl rfl (by first | exact EX.notD rfl | exact EX.notB rfl) ?_
                refine OR.val rfl rfl (EX.move rfl) ?_
                rcases y with _ | _
                · obtain ⟨_, hjz⟩ : false = false ∧ Jx (pre ++ [(x, ee)]) wz := by
                    rcases hv with ⟨h, _⟩ | h
                    · cases h
                    · exact h
                  refine OR.pass rfl rfl ?_
                  refine OR.pass rfl rfl ?_
                  refine OR.val rfl rfl (EX.pickT rfl rfl) ?_
                  refine OR.nil ?_
                  refine KR.condT rfl ?_
                  refine KR.ret (retR0 (.inr rfl) rfl rfl rfl ?_)
                  rcases hc2 with ⟨rfl, _, _, h⟩ | ⟨rfl, rfl, h⟩
                  · exact .inr ⟨_, ⟨seqT f (q.drop n), by rw [h]; simp⟩, hjz⟩
                  · exact fin _ _ h (.inr hjz)
                · obtain ⟨_, hjz, hkz⟩ : true = true ∧ J (pre ++ [(x, ee)]) wz ∧ wz.heap[sb]? = wy.heap[sb]? := by
                    rcases hv with h | ⟨h, _⟩
                    · exact h
                    · cases h
                  refine OR.val rfl rfl (EX.move rfl) ?_
                  refine OR.val rfl rfl (by first | exact EX.neqN (b := 0) rfl rfl | exact EX.neqZ rfl rfl) ?_
                  refine OR.val rfl rfl (EX.pickF rfl rfl) ?_
                  refine OR.nil ?_
                  have hbz : Bk wz sb 9 [str q] := hby.of_block hkz
                  refine KR.condD rfl (fun hee => ?_) (fun hee => ?_)
                  · skip
                    refine KR.ret (retR0 (.inr rfl) rfl rfl rfl ?_)
                    rcases hc2 with ⟨rfl, _⟩ | ⟨rfl, rfl, h⟩
                    · omega
                    · exact fin _ _ h (.inl hjz)
                  · obtain ⟨rfl, hn1, hn2, h⟩ : ee = 0 ∧ 512 ≤ n ∧ n ≤ q.length ∧ full = pre ++ (x, 0) :: seqT f (q.drop n) := by
                      rcases hc2 with h | ⟨h, _⟩
                      · exact h
                      · omega
                    refine KR.skip (KR.region ?_)
                    refine OR.val rfl rfl (EX.load Tryz.underlying9 rfl rfl (hbz.cell_of rfl)) ?_
                    refine OR.val rfl rfl (EX.move rfl) ?_
                    refine OR.val rfl rfl (EX.sliceLE Tryz.underlying9 rfl rfl (by omega)) ?_
                    refine OR.storeB rfl ti9 rfl rfl (by first | rfl | assumption | exact Own.one (by assumption)) (hbz) (Nat.le_refl _) ?_
                    rintro wq hbq hmq
                    refine OR.nil ?_
                    refine KR.leave ?_
                    refine KR.back4 (q.drop n) (f) (pre ++ [(x, 0)]) (wq) ⟨rfl, rfl, trivial⟩ rfl ?_ (by rw [List.length_drop]; omega)
                    exact ⟨hJ _ _ _ hjz hmq, hbq, by rw [List.length_drop]; omega, by rw [List.length_drop]; omega, by rw [h]; simp⟩
  exact callsIn_wide.2 (hret.2.mono fun e W' ⟨v, he, hq⟩ => ⟨⟨v, he⟩, hq⟩)
end Go.Proofs.YtjgeoeeikfjmdaaGreatDoor
/- tar: Unpack. -/
namespace Go.Proofs.YtjgeoeeikfjmdaaGreatDoor
set_option linter.unnecessarySimpa false
open Go.RowKit Fld Ust Pax Pth Tar
set_option linter.unusedVariables false
set_option linter.unusedSimpArgs false

theorem files_s (s : List UInt8) (w : World) : Ret Tryz.prog 33 [str s] w fun v w' => ∃ sb, v = .func (.func 54) #[] #[.pointer (some ⟨sb, 0, none⟩)] ∧ w.heap.size ≤ sb ∧ Bk w' sb 9 [str s] ∧ Ext w w' := by
  refine Ret.enter Tryz.func33 rfl Tryz.ntmps33 (by kernel_rfl) rfl ?_
  refine KW.seq (KW.region ?_)
  refine OW.boxB rfl rfl rfl rfl ?_
  rintro sb w1 hge1 hb1 hx1
  refine OW.val rfl rfl (EX.assign rfl) ?_
  refine OW.nil ?_
  refine KW.seq (KW.region ?_)
  refine OW.val rfl rfl (EX.makeFunc rfl rfl) ?_
  refine OW.val rfl rfl (EX.assign rfl) ?_
  refine OW.nil ?_
  refine KW.ret (ret1 rfl rfl ?_)
  exact ⟨sb, rfl, hge1, hb1, hx1⟩
theorem seqT_e : ∀ (f : Nat) (s : List UInt8), ∀ p ∈ seqT f s, p.2 = 0 ∨ p.2 = 180
  | 0, _, p, hp => by simp [seqT] at hp
  | f + 1, s, p, hp => by
    rw [seqT] at hp
    split at hp
    · cases hp
    · split at hp
      · split at hp
        · exact seqT_e f _ p hp
        · simp only [List.mem_singleton] at hp
          subst hp
          exact .inr rfl
      · split at hp
        · simp only [List.mem_singleton] at hp
          subst hp
          exact .inr rfl
        · rcases List.mem_cons.1 hp with rfl | hp
          · exact .inl rfl
          · exact seqT_e f _ p hp
theorem unpackT_ok {s : List UInt8} (hs : ¬ 524288 < s.length) (h : ∀ p ∈ seqT (s.length + 1) s, p.2 = 0) : unpackT s = ((seqT (s.length + 1) s).map (·.1), 0) := by
  unfold unpackT
  rw [if_neg hs]
  rcases unp_seq (s.length + 1) s [] (Nat.lt_succ_self _) with ⟨_, h2⟩ | ⟨⟨p, h1, h2⟩, _⟩
  · rw [h2]; rfl
  · exact absurd (h p h1) h2
theorem unpackT_bad {s : List UInt8} (hs : ¬ 524288 < s.length) {p : En × Nat} (hp : p ∈ seqT (s.length + 1) s) (h : p.2 ≠ 0) : unpackT s = ([], 180) := by
  unfold unpackT
  rw [if_neg hs]
  rcases unp_seq (s.length + 1) s [] (Nat.lt_succ_self _) with ⟨h1, _⟩ | ⟨_, h2⟩
  · exact absurd (h1 p hp) h
  · exact h2
set_option maxRecDepth 20000 in
theorem unpack_s (s : List UInt8) (hs : s.length ≤ 140737488355328) (w : World) (hG : Env w) :
    Ret Tryz.prog 14 [str s] w fun v w' => ∃ u, v = .tuple #[u, .int .i64 (((unpackT s).2 : Nat) : Int)] ∧ Own w' w.heap.size 23 2 u (unpackT s).1.length (ensV (unpackT s).1) ∧ Ext w w' := by
  refine Ret.enterR 3 Tryz.func14 rfl Tryz.ntmps14 (by kernel_rfl) rfl ?_
  refine KR.seq (KR.region ?_)
  refine OR.allocB (l := [.slice none 0 0]) rfl rfl ti31 rfl ?_
  rintro tb w1 hge1 ht1 hx1
  refine OR.allocB (l := [.int .i64 0]) rfl rfl ti25 rfl ?_
  rintro eb w2 hge2 he2 hx2
  refine OR.nil ?_
  refine KR.seq (KR.seq (KR.region ?_))
  refine OR.val rfl rfl (EX.move rfl) ?_
  refine OR.val rfl rfl (EX.lenS Tryz.underlying9 rfl) ?_
  refine OR.val rfl rfl (by first | exact EX.gtrN (b := 524288) rfl rfl | exact EX.gtrZ rfl rfl) ?_
  refine OR.nil ?_
  have ht2 := ht1.ext hx2
  have x2 := hx1.trans hx2
  have hlt1 := ht1.lt
  have nte : tb ≠ eb := by omega
  refine KR.condD rfl (fun hbig => ?_) (fun hbig => ?_)
  · have e : unpackT s = ([], 3) := by unfold unpackT; rw [if_pos (by omega)]
    refine KR.seq (KR.region ?_)
    refine OR.storeB rfl ti31 rfl rfl (by first | rfl | assumption | exact Own.one (by assumption)) (ht2) (Nat.le_refl _) ?_
    rintro w3 ht3 hm3
    have he3 := he2.mo hm3 (by simp; exact Ne.symm nte)
    refine OR.storeB rfl ti25 rfl rfl (by first | rfl | assumption | exact Own.one (by assumption)) (he3) (Nat.le_refl _) ?_
    rintro w4 he4 hm4
    refine OR.nil ?_
    have ht4 := ht3.mo hm4 (by simp; exact nte)
    refine KR.ret (retRC2 (.inr rfl) rfl rfl rfl Tryz.underlying31 rfl Tryz.underlying25 rfl rfl rfl (ht4) (he4) ?_)
    rw [e]
    exact ⟨_, rfl, Own.nil _ _ _ _, below_mo (below_mo x2 hm3 x2.size (fun k hk => by simp at hk; omega)) hm4 (Nat.le_trans x2.size hm3.size) (fun k hk => by simp at hk; have := hx1.size; omega)⟩
  · have hs2 : s.length ≤ 524288 := by omega
    refine KR.skip (KR.seq (KR.region ?_))
    refine OR.allocB (l := [.slice none 0 0]) rfl rfl ti31 rfl ?_
    rintro ob w3 hge3 ho3 hx3
    refine OR.nil ?_
    refine KR.seq (KR.seq (KR.region ?_))
    refine OR.val rfl rfl (EX.move rfl) ?_
    refine OR.call rfl rfl rfl (files_s s w3) ?_
    rintro _ w4 ⟨sb, rfl, hsge, hsb, hx4⟩
    refine OR.nil ?_
    refine KR.block ?_
    have x4 := (x2.trans hx3).trans hx4
    have ht4 := (ht2.ext hx3).ext hx4
    have he4 := (he2.ext hx3).ext hx4
    have ho4 := ho3.ext hx4
    have z1 := hx1.size
    have z2 := hx2.size
    have z3 := hx3.size
    have z4 := hx4.size
    have l1 := ht1.lt
    have l2 := he2.lt
    have l3 := ho3.lt
    have l4 := hsb.lt
    have hSge : ∀ k ∈ [sb], w.heap.size ≤ k := fun k hk => by simp at hk; omega
    have not_sb : ∀ k, k ∉ [sb] ↔ k ≠ sb := fun k => by simp
    refine KR.rangeM rfl (Nat.le_add_left _ _) Tryz.func54 (by kernel_rfl) rfl rfl rfl rfl rfl (by decide) (by decide) (by decide) ti23 rfl (fun x : En × Nat => x.1.cells) (fun x : En × Nat => .int .i64 ((x.2 : Nat) : Int)) (fun _ => rfl) (fun _ => rfl) (fun k hk => by simp at hk; omega) (iter_t sb s hs2 w4 hsb) (fun (pre : List (En × Nat)) W => ∃ v, Bk W ob 31 [v] ∧ Own W w.heap.size 23 2 v pre.length (ensV (pre.map Prod.fst)) ∧ (∀ k, v.ownBlock = some k → k ≠ sb) ∧ (∀ p ∈ pre, p.2 = 0) ∧ Bk W tb 31 [.slice none 0 0] ∧ Bk W eb 25 [.int .i64 0] ∧ Ext w W ∧ w4.heap.size ≤ W.heap.size) (fun c (pre : List (En × Nat)) W => c = .ret ∧ ∃ p ∈ pre, p.2 ≠ 0 ∧ Bk W tb 31 [.slice none 0 0] ∧ Bk W eb 25 [.int .i64 ((p.2 : Nat) : Int)] ∧ Ext w W) (fun pre A B T h hm hT => let ⟨v, h1, h2, h3, h4, h5, h6, h7, h8⟩ := h; ⟨v, h1.abd hm hT (by simp; omega), h2.abd hm hT (fun k hk => by simp; exact h3 k hk), h3, h4, h5.abd hm hT (by simp; omega), h6.abd hm hT (by simp; omega), below_mo h7 hm h7.size (abd_ge hT hSge (by omega)), Nat.le_trans h8 hm.size⟩) (fun c pre A B T h hm hT => let ⟨h1, p, h2, h3, h4, h5, h6⟩ := h; ⟨h1, p, h2, h3, h4.abd hm hT (by simp; omega), h5.abd hm hT (by simp; omega), below_mo h6 hm h6.size (abd_ge hT hSge (by omega))⟩) (fun pre W h => let ⟨_, _, _, _, _, _, _, h7, _⟩ := h; hG.ext h7) (⟨_, ho4, Own.nil _ _ _ _, (fun k hk => by simp [Value.ownBlock] at hk), (fun p hp => by cases hp), ht4, he4, x4, Nat.le_refl _⟩) ?_ ?_ ?_
    · rintro l pre x b W ⟨v, h1, h2, h3, h4, h5, h6, h7, h8⟩ hlen hbge hbk
      refine KR.block (KR.seq (KR.seq (KR.region ?_)))
      refine OR.val rfl rfl (EX.move rfl) ?_
      refine OR.val rfl rfl (by first | exact EX.neqN (b := 0) rfl rfl | exact EX.neqZ rfl rfl) ?_
      refine OR.nil ?_
      refine KR.condD rfl (fun hee => ?_) (fun hee => ?_)
      · refine KR.seq (KR.region ?_)
        refine OR.val rfl rfl (EX.move rfl) ?_
        refine OR.storeB rfl ti31 rfl rfl (by first | rfl | assumption | exact Own.one (by assumption)) (h5) (Nat.le_refl _) ?_
        rintro W2 h5' hm5
        have h6' := h6.mo hm5 (by simp; exact Ne.symm nte)
        refine OR.storeB rfl ti25 rfl rfl (by first | rfl | assumption | exact Own.one (by assumption)) (h6') (Nat.le_refl _) ?_
        rintro W3 h6'' hm6
        refine OR.nil ?_
        have h5'' := h5'.mo hm6 (by simp; exact nte)
        refine KR.ret ?_
        refine fun _ _ => ⟨(hm5.keeps (fun k hk => by simp at hk; subst hk; exact ⟨_, _, h5⟩)).trans (hm6.keeps (fun k hk => by simp at hk; subst hk; exact ⟨_, _, h6'⟩)), rfl, x, by simp, fun z => hee (by omega), h5'', h6'', ?_⟩
        exact below_mo (below_mo h7 hm5 h7.size (fun k hk => by simp at hk; omega)) hm6 (Nat.le_trans h7.size hm5.size) (fun k hk => by simp at hk; omega)
      · have hx0 : x.2 = 0 := by omega
        refine KR.skip (KR.region ?_)
        refine OR.val rfl rfl (EX.load Tryz.underlying31 rfl rfl (h1.cell_of rfl)) ?_
        refine OR.val rfl rfl (EX.loadBk Tryz.underlying23 rfl ti23 rfl (hbk) (rfl)) ?_
        refine OR.pushSB (w.heap.size) rfl rfl (fun _ => rfl) rfl Tryz.underlying31 ti23 rfl (by decide) (by decide) rfl rfl (fun _ => rfl) (by first | rfl | assumption | (simp only [List.all_cons, List.all_nil, Bool.and_true, Bool.true_and, Bool.and_eq_true, Value.oneCell']; repeat (first | assumption | constructor))) (h7.size) (h2) (by simp only [maxLen]; omega) (by omega) ?_
        rintro _ v2 W2 hown2 hmo2 hblk2
        have nb1 : ob ∉ v.ownBlock.toList := fun q => h2.ne h1 (by decide) ob (by simpa using q) rfl
        have nb2 : tb ∉ v.ownBlock.toList := fun q => h2.ne h5 (by decide) tb (by simpa using q) rfl
        have nb3 : eb ∉ v.ownBlock.toList := fun q => h2.ne h6 (by decide) eb (by simpa using q) rfl
        have nb4 : sb ∉ v.ownBlock.toList := fun q => h3 sb (by simpa using q) rfl
        have h1b := h1.mo hmo2 nb1
        refine OR.storeB rfl ti31 rfl rfl (by first | rfl | assumption | exact Own.one (by assumption)) (h1b) (Nat.le_refl _) ?_
        rintro W3 h1c hm3
        refine OR.nil ?_
        refine KR.leave ?_
        refine KR.done ?_
        have k1 : KeepsOthers W W2 := hmo2.keeps (fun k hk => by obtain ⟨_, q, hb⟩ := h2.blkT k (by simpa using hk); exact ⟨_, _, hb⟩)
        have k2 : KeepsOthers W2 W3 := hm3.keeps (fun k hk => by simp at hk; subst hk; exact ⟨_, _, h1b⟩)
        refine fun _ _ => ⟨k1.trans k2, fun k hk => ?_, v2, h1c, ?_, ?_, ?_, (h5.mo hmo2 nb2).mo hm3 (by simp; omega), (h6.mo hmo2 nb3).mo hm3 (by simp; omega), ?_, Nat.le_trans h8 (Nat.le_trans hmo2.size hm3.size)⟩
        · simp only [List.mem_singleton] at hk
          rw [hk]
          exact (hm3.block sb (by have := hmo2.size; omega) (by simp; omega)).trans (hmo2.block sb (by omega) nb4)
        · rw [List.length_append, List.map_append, List.map_singleton, ensV_snoc]
          exact hown2.mo hm3 (fun k hk => by simp; exact fun z => hown2.ne h1b (by decide) k hk z.symm)
        · intro k hk
          rcases hblk2 with q | ⟨g, q1, q2⟩
          · exact h3 k (by rw [← q]; exact hk)
          · rw [q1] at hk
            cases hk
            omega
        · intro p hp
          rcases List.mem_append.1 hp with hp | hp
          · exact h4 p hp
          · simp only [List.mem_singleton] at hp
            subst hp
            exact hx0
        · exact below_mo (below_mo h7 hmo2 h7.size (fun k hk => (h2.lt k (Option.mem_toList.1 hk)).1)) hm3 (Nat.le_trans h7.size hmo2.size) (fun k hk => by simp at hk; omega)
    · rintro D xs W hD rfl ⟨v, h1, h2, h3, h4, h5, h6, h7, h8⟩ hK
      have e := unpackT_ok (by omega) h4
      refine KR.leave (KR.seq (KR.region ?_))
      refine OR.val rfl rfl (EX.load Tryz.underlying31 rfl rfl (h1.cell_of rfl)) ?_
      refine OR.storeB rfl ti31 rfl rfl (by first | rfl | assumption | exact Own.one (by assumption)) (h5) (Nat.le_refl _) ?_
      rintro W2 h5' hm5
      have h6' := h6.mo hm5 (by simp; exact Ne.symm nte)
      refine OR.storeB rfl ti25 rfl rfl (by first | rfl | assumption | exact Own.one (by assumption)) (h6') (Nat.le_refl _) ?_
      rintro W3 h6'' hm6
      refine OR.nil ?_
      have h5'' := h5'.mo hm6 (by simp; exact nte)
      have hK2 : W3.heap[D]? = some (.deferred (some [])) := by
        have hDl := (Array.getElem?_eq_some_iff.1 hK).1
        exact (hm6.block D (by have := hm5.size; omega) (by simp; omega)).trans ((hm5.block D hDl (by simp; omega)).trans hK)
      refine KR.ret (retMC2 (.inr rfl) rfl rfl (hK2) rfl Tryz.underlying31 rfl Tryz.underlying25 rfl rfl rfl (h5'') (h6'') ?_)
      rw [e]
      refine ⟨v, rfl, ?_, Ext.putObj (below_mo (below_mo h7 hm5 h7.size (fun k hk => by simp at hk; omega)) hm6 (Nat.le_trans h7.size hm5.size) (fun k hk => by simp at hk; omega)) (by omega) _⟩
      have ho3 := (h2.mo hm5 (fun k hk => by simp; exact fun z => h2.ne h5 (by decide) k hk z.symm)).mo hm6 (fun k hk => by simp; exact fun z => h2.ne h6 (by decide) k hk z.symm)
      rw [List.length_map]
      exact ho3.mo (mo_putObj W3 D _) (fun k hk => by
        simp only [List.mem_singleton]
        rintro rfl
        obtain ⟨_, l, fr, q, _⟩ := ho3.blkT k hk
        rw [hK2] at q
        cases q)
    · rintro D c pre W hD hpre ⟨rfl, p, h2, h3, h4, h5, h6⟩ hK
      have hmem : p ∈ seqT (s.length + 1) s := hpre.subset h2
      have e := unpackT_bad (by omega) hmem h3
      have h180 : p.2 = 180 := by
        rcases seqT_e _ _ p hmem with q | q
        · exact absurd q h3
        · exact q
      rw [h180] at h5
      refine KR.ret (retMC2 (.inr rfl) rfl rfl (hK) rfl Tryz.underlying31 rfl Tryz.underlying25 rfl rfl rfl (h4) (h5) ?_)
      rw [e]
      exact ⟨_, rfl, Own.nil _ _ _ _, Ext.putObj h6 (by omega) _⟩
end Go.Proofs.YtjgeoeeikfjmdaaGreatDoor
