/-
  fields: decimal numbers are read and told, by the program.
-/
import Derived.Test.YtieojdkblakchaaDoorFieD
import Derived.Test.YtieojdkblakchaaDoorTi
import Derived.Test.YtieojdkblakchaaDoorShelf
import Derived.Lib.ItoaLen
import Derived.Lib.AppendIntMem
import Derived.Lib.LaidTab
namespace Go.Proofs.YtieojdkblakchaaDoor
open Go.RowKit Fld
set_option linter.unusedVariables false

theorem u8_of_toNatU {c : UInt8} {n : Nat} (hn : n < 256) (h : c.toNat = n) : c = UInt8.ofNat n := by
  rw [← h]; simp
theorem dec_bad {s : List UInt8} (h : s = [] ∨ (s.head? = some 48 ∧ s ≠ [48])) : dec s = (0, 150) := by unfold dec; rw [if_pos h]
theorem dec_nodig {s : List UInt8} {i : Nat} (hi : i < s.length) (h : dig s[i] = false) : dec s = (0, 150) := by
  unfold dec
  split
  · rfl
  · rw [if_neg]
    simp only [List.all_eq_true]
    intro h'
    have := h' _ (List.getElem_mem hi)
    simp [h] at this
theorem head_48 {s : List UInt8} (h0 : 0 < s.length) (h : s[0].toNat = 48) : s.head? = some 48 := by
  rw [List.head?_eq_getElem?, List.getElem?_eq_getElem h0, u8_of_toNatU (by omega) h]; rfl
theorem head_n48 {s : List UInt8} (h0 : 0 < s.length) (h : ¬ s[0].toNat = 48) : ¬ s.head? = some 48 := by
  rw [List.head?_eq_getElem?, List.getElem?_eq_getElem h0]
  intro e
  injection e with e
  rw [e] at h
  exact h (by decide)
theorem all_snoc {s : List UInt8} {i : Nat} (hi : i < s.length) (h : (s.take i).all dig = true) (hd : dig s[i] = true) : (s.take (i + 1)).all dig = true := by
  rw [take_snoc' s i hi, List.all_append, h]; simp [hd]
theorem dec_end {s : List UInt8} (h : ¬ (s = [] ∨ (s.head? = some 48 ∧ s ≠ [48]))) (ha : (s.take s.length).all dig = true) : dec s = (if 9007199254740992 < fold 10 0 s then (0, 3) else (fold 10 0 s, 0)) := by
  rw [List.take_length] at ha
  unfold dec
  rw [if_neg h, if_pos ha]

theorem decimal_s (s : List UInt8) (hs : s.length ≤ 140737488355328) (w : World) :
    Ret Tryd.prog 20 [str s] w fun v w' => v = .tuple #[.int .i64 ((dec s).1 : Nat), .int .i64 ((dec s).2 : Nat)] ∧ w = w' := by
  refine Ret.enter Tryd.func20 rfl Tryd.ntmps20 (by kernel_rfl) rfl ?_
  refine KW.seq (KW.region ?_)
  refine OW.val rfl rfl (EX.assign rfl) ?_
  refine OW.val rfl rfl (EX.assign rfl) ?_
  refine OW.nil ?_
  refine KW.seq (KW.seq ?_)
  refine KW.region ?_
  refine OW.val rfl rfl (EX.move rfl) ?_
  refine OW.val rfl rfl (EX.eqlS (r := []) rfl rfl) ?_
  refine OW.val rfl rfl (EX.move rfl) ?_
  refine OW.splitD 8 rfl (fun h0 => ?_) (fun h0 => ?_)
  · have hd := dec_bad (s := s) (.inl h0)
    refine OW.pass rfl rfl ?_
    refine OW.pass rfl rfl ?_
    refine OW.pass rfl rfl ?_
    refine OW.pass rfl rfl ?_
    refine OW.pass rfl rfl ?_
    refine OW.pass rfl rfl ?_
    refine OW.pass rfl rfl ?_
    refine OW.val rfl rfl (EX.pickT rfl rfl) ?_
    refine OW.nil ?_
    refine KW.condT rfl (KW.seq (KW.region ?_))
    refine OW.val rfl rfl (EX.assign rfl) ?_
    refine OW.val rfl rfl (EX.assign rfl) ?_
    refine OW.nil ?_
    refine KW.ret (ret2 rfl rfl rfl ?_)
    rw [hd]
    exact ⟨rfl, rfl⟩
  · have hp : 0 < s.length := List.length_pos_iff.2 h0
    refine OW.val rfl rfl (EX.move rfl) ?_
    refine OW.val rfl rfl (EX.indexS (i := 0) Tryd.underlying9 rfl rfl (List.getElem?_eq_getElem (by omega))) ?_
    refine OW.val rfl rfl (by first | exact EX.eqlN (b := 48) rfl rfl | exact EX.eqlZ rfl rfl) ?_
    refine OW.val rfl rfl (EX.move rfl) ?_
    refine OW.splitD 12 rfl (fun h1 => ?_) (fun h1 => ?_)
    · refine OW.val rfl rfl (EX.move rfl) ?_
      refine OW.val rfl rfl (EX.neqS (r := [48]) rfl rfl) ?_
      refine OW.val rfl rfl (EX.pickT rfl rfl) ?_
      refine OW.val rfl rfl (EX.pickF rfl rfl) ?_
      refine OW.nil ?_
      refine KW.condD rfl (fun h2 => ?_) (fun h2 => ?_)
      · have hd := dec_bad (s := s) (.inr ⟨head_48 hp h1, h2⟩)
        refine KW.seq (KW.region ?_)
        refine OW.val rfl rfl (EX.assign rfl) ?_
        refine OW.val rfl rfl (EX.assign rfl) ?_
        refine OW.nil ?_
        refine KW.ret (ret2 rfl rfl rfl ?_)
        rw [hd]
        exact ⟨rfl, rfl⟩
      · have hgood : ¬ (s = [] ∨ (s.head? = some 48 ∧ s ≠ [48])) := by rintro (h | h); exact h0 h; exact h2 h.2
        have h2' : s = [48] := Classical.not_not.1 h2
        subst h2'
        have hd : dec [48] = (0, 0) := by decide +kernel
        refine KW.skip (KW.seq (KW.region ?_))
        refine OW.val rfl rfl (EX.assign rfl) ?_
        refine OW.nil ?_
        refine KW.seq (KW.seq (KW.region ?_))
        refine OW.val rfl rfl (EX.move rfl) ?_
        refine OW.val rfl rfl (EX.lenS Tryd.underlying9 rfl) ?_
        refine OW.val rfl rfl (EX.move rfl) ?_
        refine OW.nil ?_
        refine KW.block ?_
        refine KW.loop1 (fun (i : Nat) => i ≤ 1) (fun (i : Nat) => [(0, str ([48])), (4, .int .i64 ((0 : Nat) : Int)), (18, .int .i64 ((1 : Nat) : Int)), (19, .int .i64 ((i : Nat) : Int))]) (fun (i : Nat) => w) (fun (i : Nat) => 1 - i) (0) ⟨rfl, rfl, rfl, rfl, trivial⟩ rfl ?_ ?_
        · omega
        · rintro i hi
          refine KW.seq (KW.region ?_)
          refine OW.val rfl rfl (by first | exact EX.lssN rfl rfl | exact EX.lssZ rfl rfl) ?_
          refine OW.nil ?_
          refine KW.seq ?_
          refine KW.condD rfl (fun hl => ?_) (fun hl => ?_)
          · obtain rfl : i = 0 := by omega
            have hc : ([48] : List UInt8)[0].toNat = 48 := rfl
            refine KW.skip (KW.seq (KW.block (KW.seq (KW.region ?_))))
            refine OW.val rfl rfl (EX.move rfl) ?_
            refine OW.val rfl rfl (EX.assign rfl) ?_
            refine OW.nil ?_
            refine KW.seq (KW.seq ?_)
            refine KW.region ?_
            refine OW.val rfl rfl (EX.move rfl) ?_
            refine OW.val rfl rfl (EX.move rfl) ?_
            refine OW.val rfl rfl (EX.indexS Tryd.underlying9 rfl rfl (List.getElem?_eq_getElem (by omega))) ?_
            refine OW.val rfl rfl (by first | exact EX.lssN (b := 48) rfl rfl | exact EX.lssZ rfl rfl) ?_
            refine OW.val rfl rfl (EX.move rfl) ?_
            refine OW.splitD 26 rfl (fun h3 => ?_) (fun h3 => ?_)
            · omega
            · refine OW.val rfl rfl (EX.move rfl) ?_
              refine OW.val rfl rfl (EX.move rfl) ?_
              refine OW.val rfl rfl (EX.indexS Tryd.underlying9 rfl rfl (List.getElem?_eq_getElem (by omega))) ?_
              refine OW.val rfl rfl (by first | exact EX.gtrN (b := 57) rfl rfl | exact EX.gtrZ rfl rfl) ?_
              refine OW.val rfl rfl (EX.pickF rfl rfl) ?_
              refine OW.nil ?_
              refine KW.condD rfl (fun h4 => ?_) (fun h4 => ?_)
              · omega
              · refine KW.skip (KW.seq (KW.region ?_))
                refine OW.val rfl rfl (EX.move rfl) ?_
                refine OW.val rfl rfl (by first | exact EX.leqN (b := 9007199254740992) rfl rfl | exact EX.leqZ rfl rfl) ?_
                refine OW.nil ?_
                refine KW.as 33 (.bool true) rfl (congrArg Value.bool (decide_eq_true (by omega))) ?_
                refine KW.condT rfl (KW.region ?_)
                refine OW.val rfl rfl (EX.move rfl) ?_
                refine OW.val rfl rfl (by first | exact EX.mulN (a := 10) (m := 9223372036854775807) rfl rfl rfl (by omega) | exact EX.mulZ (m := 9223372036854775807) rfl rfl rfl rfl (by omega)) ?_
                refine OW.val rfl rfl (EX.move rfl) ?_
                refine OW.val rfl rfl (EX.move rfl) ?_
                refine OW.val rfl rfl (EX.indexS Tryd.underlying9 rfl rfl (List.getElem?_eq_getElem (by omega))) ?_
                refine OW.val rfl rfl (EX.subN (b := 48) (m := 255) rfl rfl rfl (by omega)) ?_
                refine OW.val rfl rfl (by first | exact EX.convN (m := 9223372036854775807) Tryd.underlying5 Tryd.underlying3 rfl rfl (by omega) | exact EX.convZ Tryd.underlying5 Tryd.underlying3 rfl) ?_
                refine OW.val rfl rfl (by first | exact EX.addN (m := 9223372036854775807) rfl rfl rfl (by omega) | exact EX.addZ (m := 9223372036854775807) rfl rfl rfl rfl (by omega)) ?_
                refine OW.val rfl rfl (EX.assign rfl) ?_
                refine OW.nil ?_
                refine KW.leave (KW.region ?_)
                refine OW.val rfl rfl (by first | exact EX.addN (b := 1) (m := 9223372036854775807) rfl rfl rfl (by omega) | exact EX.addZ (m := 9223372036854775807) rfl rfl rfl rfl (by omega)) ?_
                refine OW.val rfl rfl (EX.move rfl) ?_
                refine OW.nil ?_
                refine KW.back1 (1) ⟨rfl, rfl, rfl, rfl, trivial⟩ rfl ?_ (by omega)
                omega
          · refine KW.exit rfl (KW.seq (KW.seq (KW.region ?_)))
            refine OW.val rfl rfl (EX.move rfl) ?_
            refine OW.val rfl rfl (by first | exact EX.gtrN (b := 9007199254740992) rfl rfl | exact EX.gtrZ rfl rfl) ?_
            refine OW.nil ?_
            refine KW.as 44 (.bool false) rfl (congrArg Value.bool (decide_eq_false (by omega))) ?_
            refine KW.condF rfl (KW.skip (KW.seq (KW.region ?_)))
            refine OW.val rfl rfl (EX.move rfl) ?_
            refine OW.val rfl rfl (EX.assign rfl) ?_
            refine OW.val rfl rfl (EX.assign rfl) ?_
            refine OW.nil ?_
            refine KW.ret (ret2 rfl rfl rfl ?_)
            rw [hd]
            exact ⟨rfl, rfl⟩
    · have hgood : ¬ (s = [] ∨ (s.head? = some 48 ∧ s ≠ [48])) := by rintro (h | h); exact h0 h; exact head_n48 hp h1 h.1
      refine OW.pass rfl rfl ?_
      refine OW.pass rfl rfl ?_
      refine OW.val rfl rfl (EX.pickF rfl rfl) ?_
      refine OW.val rfl rfl (EX.pickF rfl rfl) ?_
      refine OW.nil ?_
      refine KW.condF rfl (KW.skip (KW.seq (KW.region ?_)))
      refine OW.val rfl rfl (EX.assign rfl) ?_
      refine OW.nil ?_
      refine KW.seq (KW.seq (KW.region ?_))
      refine OW.val rfl rfl (EX.move rfl) ?_
      refine OW.val rfl rfl (EX.lenS Tryd.underlying9 rfl) ?_
      refine OW.val rfl rfl (EX.move rfl) ?_
      refine OW.nil ?_
      refine KW.block ?_
      refine KW.loop2 (fun (i : Nat) (n : Nat) => i ≤ s.length ∧ n = fold 10 0 (s.take i) ∧ n ≤ 90071992547409920 + 255 ∧ (s.take i).all dig = true) (fun (i : Nat) (n : Nat) => [(0, str (s)), (4, .int .i64 ((n : Nat) : Int)), (18, .int .i64 ((s.length : Nat) : Int)), (19, .int .i64 ((i : Nat) : Int))]) (fun (i : Nat) (n : Nat) => w) (fun (i : Nat) (n : Nat) => s.length - i) (0) (0) ⟨rfl, rfl, rfl, rfl, trivial⟩ rfl ?_ ?_
      · exact ⟨by omega, by simp [fold], by omega, by simp⟩
      · rintro i n ⟨hi, hn, hb, ha⟩
        refine KW.seq (KW.region ?_)
        refine OW.val rfl rfl (by first | exact EX.lssN rfl rfl | exact EX.lssZ rfl rfl) ?_
        refine OW.nil ?_
        refine KW.seq ?_
        refine KW.condD rfl (fun hl => ?_) (fun hl => ?_)
        · have hc : s[i].toNat < 256 := s[i].toNat_lt
          refine KW.skip (KW.seq (KW.block (KW.seq (KW.region ?_))))
          refine OW.val rfl rfl (EX.move rfl) ?_
          refine OW.val rfl rfl (EX.assign rfl) ?_
          refine OW.nil ?_
          refine KW.seq (KW.seq ?_)
          refine KW.region ?_
          refine OW.val rfl rfl (EX.move rfl) ?_
          refine OW.val rfl rfl (EX.move rfl) ?_
          refine OW.val rfl rfl (EX.indexS Tryd.underlying9 rfl rfl (List.getElem?_eq_getElem (by omega))) ?_
          refine OW.val rfl rfl (by first | exact EX.lssN (b := 48) rfl rfl | exact EX.lssZ rfl rfl) ?_
          refine OW.val rfl rfl (EX.move rfl) ?_
          refine OW.splitD 26 rfl (fun h3 => ?_) (fun h3 => ?_)
          · have hd := dec_nodig hl (by simp only [dig, Bool.and_eq_false_iff, decide_eq_false_iff_not]; omega)
            refine OW.pass rfl rfl ?_
            refine OW.pass rfl rfl ?_
            refine OW.pass rfl rfl ?_
            refine OW.pass rfl rfl ?_
            refine OW.val rfl rfl (EX.pickT rfl rfl) ?_
            refine OW.nil ?_
            refine KW.condT rfl (KW.seq (KW.region ?_))
            refine OW.val rfl rfl (EX.assign rfl) ?_
            refine OW.val rfl rfl (EX.assign rfl) ?_
            refine OW.nil ?_
            refine KW.ret (ret2 rfl rfl rfl ?_)
            rw [hd]
            exact ⟨rfl, rfl⟩
          · refine OW.val rfl rfl (EX.move rfl) ?_
            refine OW.val rfl rfl (EX.move rfl) ?_
            refine OW.val rfl rfl (EX.indexS Tryd.underlying9 rfl rfl (List.getElem?_eq_getElem (by omega))) ?_
            refine OW.val rfl rfl (by first | exact EX.gtrN (b := 57) rfl rfl | exact EX.gtrZ rfl rfl) ?_
            refine OW.val rfl rfl (EX.pickF rfl rfl) ?_
            refine OW.nil ?_
            refine KW.condD rfl (fun h4 => ?_) (fun h4 => ?_)
            · have hd := dec_nodig hl (by simp only [dig, Bool.and_eq_false_iff, decide_eq_false_iff_not]; omega)
              refine KW.seq (KW.region ?_)
              refine OW.val rfl rfl (EX.assign rfl) ?_
              refine OW.val rfl rfl (EX.assign rfl) ?_
              refine OW.nil ?_
              refine KW.ret (ret2 rfl rfl rfl ?_)
              rw [hd]
              exact ⟨rfl, rfl⟩
            · have hdg : dig s[i] = true := by simp only [dig, Bool.and_eq_true, decide_eq_true_eq]; omega
              have hf := fold_snoc 10 (s.take i) s[i] 0
              rw [← take_snoc' s i hl, ← hn] at hf
              refine KW.skip (KW.seq (KW.region ?_))
              refine OW.val rfl rfl (EX.move rfl) ?_
              refine OW.val rfl rfl (by first | exact EX.leqN (b := 9007199254740992) rfl rfl | exact EX.leqZ rfl rfl) ?_
              refine OW.nil ?_
              refine KW.condD rfl (fun h5 => ?_) (fun h5 => ?_)
              · rw [if_pos h5] at hf
                refine KW.region ?_
                refine OW.val rfl rfl (EX.move rfl) ?_
                refine OW.val rfl rfl (by first | exact EX.mulN (a := 10) (m := 9223372036854775807) rfl rfl rfl (by omega) | exact EX.mulZ (m := 9223372036854775807) rfl rfl rfl rfl (by omega)) ?_
                refine OW.val rfl rfl (EX.move rfl) ?_
                refine OW.val rfl rfl (EX.move rfl) ?_
                refine OW.val rfl rfl (EX.indexS Tryd.underlying9 rfl rfl (List.getElem?_eq_getElem (by omega))) ?_
                refine OW.val rfl rfl (EX.subN (b := 48) (m := 255) rfl rfl rfl (by omega)) ?_
                refine OW.val rfl rfl (by first | exact EX.convN (m := 9223372036854775807) Tryd.underlying5 Tryd.underlying3 rfl rfl (by omega) | exact EX.convZ Tryd.underlying5 Tryd.underlying3 rfl) ?_
                refine OW.val rfl rfl (by first | exact EX.addN (m := 9223372036854775807) rfl rfl rfl (by omega) | exact EX.addZ (m := 9223372036854775807) rfl rfl rfl rfl (by omega)) ?_
                refine OW.val rfl rfl (EX.assign rfl) ?_
                refine OW.nil ?_
                refine KW.leave (KW.region ?_)
                refine OW.val rfl rfl (by first | exact EX.addN (b := 1) (m := 9223372036854775807) rfl rfl rfl (by omega) | exact EX.addZ (m := 9223372036854775807) rfl rfl rfl rfl (by omega)) ?_
                refine OW.val rfl rfl (EX.move rfl) ?_
                refine OW.nil ?_
                refine KW.back2 (i + 1) (10 * n + (s[i].toNat - 48)) ⟨rfl, rfl, rfl, rfl, trivial⟩ rfl ?_ (by omega)
                exact ⟨by omega, hf.symm, by omega, all_snoc hl ha hdg⟩
              · rw [if_neg h5] at hf
                refine KW.skip (KW.leave (KW.region ?_))
                refine OW.val rfl rfl (by first | exact EX.addN (b := 1) (m := 9223372036854775807) rfl rfl rfl (by omega) | exact EX.addZ (m := 9223372036854775807) rfl rfl rfl rfl (by omega)) ?_
                refine OW.val rfl rfl (EX.move rfl) ?_
                refine OW.nil ?_
                refine KW.back2 (i + 1) (n) ⟨rfl, rfl, rfl, rfl, trivial⟩ rfl ?_ (by omega)
                exact ⟨by omega, hf.symm, by omega, all_snoc hl ha hdg⟩
        · obtain rfl : i = s.length := by omega
          have hd := dec_end hgood ha
          rw [List.take_length] at hn
          rw [← hn] at hd
          refine KW.exit rfl (KW.seq (KW.seq (KW.region ?_)))
          refine OW.val rfl rfl (EX.move rfl) ?_
          refine OW.val rfl rfl (by first | exact EX.gtrN (b := 9007199254740992) rfl rfl | exact EX.gtrZ rfl rfl) ?_
          refine OW.nil ?_
          refine KW.condD rfl (fun h6 => ?_) (fun h6 => ?_)
          · rw [if_pos h6] at hd
            refine KW.seq (KW.region ?_)
            refine OW.val rfl rfl (EX.assign rfl) ?_
            refine OW.val rfl rfl (EX.assign rfl) ?_
            refine OW.nil ?_
            refine KW.ret (ret2 rfl rfl rfl ?_)
            rw [hd]
            exact ⟨rfl, rfl⟩
          · rw [if_neg h6] at hd
            refine KW.skip (KW.seq (KW.region ?_))
            refine OW.val rfl rfl (EX.move rfl) ?_
            refine OW.val rfl rfl (EX.assign rfl) ?_
            refine OW.val rfl rfl (EX.assign rfl) ?_
            refine OW.nil ?_
            refine KW.ret (ret2 rfl rfl rfl ?_)
            rw [hd]
            exact ⟨rfl, rfl⟩
theorem ext_grow (w : World) (k : Nat) (os : Array Obj) : Ext w (Sort.grow (w.drewN k) os) :=
  ⟨rfl, rfl, rfl, by show w.heap.size ≤ (w.heap ++ os).size; rw [Array.size_append]; omega, fun j hj => by
    show (w.heap ++ os)[j]? = w.heap[j]?
    rw [Array.getElem?_append_left hj]⟩
abbrev Tab (w : World) : Prop := Lib.TabBelow Tryd.prog w.heap.size w "internal/strconv.uint64pow10" .u64 Lib.pow10Tab
theorem Tab.ext {w w' : World} (h : Tab w) (hx : Ext w w') : Tab w' := fun w2 h2 => h w2 (Ext.trans hx h2)
theorem digits_s (n : Int) (h0 : -9223372036854775808 ≤ n) (h1 : n ≤ 9223372036854775807) (w : World) (ht : Tab w) :
    Ret Tryd.prog 16 [.int .i64 n] w fun v w' => v = str (digits n) ∧ Ext w w' := by
  refine Ret.enter Tryd.func16 rfl Tryd.ntmps16 (by kernel_rfl) rfl ?_
  refine KW.seq (KW.region ?_)
  refine OW.val rfl rfl (EX.assign rfl) ?_
  refine OW.nil ?_
  refine KW.seq (KW.seq (KW.region ?_))
  refine OW.val rfl rfl (EX.move rfl) ?_
  refine OW.val rfl rfl (by first | exact EX.lssN (b := 0) rfl rfl | exact EX.lssZ rfl rfl) ?_
  refine OW.nil ?_
  refine KW.condD rfl (fun h => ?_) (fun h => ?_)
  · have hd : digits n = [] := by unfold digits; rw [if_pos (by omega)]
    refine KW.seq (KW.region ?_)
    refine OW.val rfl rfl (EX.assign rfl) ?_
    refine OW.nil ?_
    refine KW.ret (ret1 rfl rfl ?_)
    rw [hd]
    exact ⟨rfl, Ext.refl _⟩
  · have hd : digits n = Lib.itoa n := by
      unfold digits Lib.itoa
      rw [if_neg (by omega), if_neg (by omega)]
    refine KW.skip (KW.seq (KW.region ?_))
    refine OW.val rfl rfl (EX.move rfl) ?_
    refine OW.call rfl rfl rfl (Ret.of_calls Tryd.func22 (by kernel_rfl) (Tryd.strconv_Itoa n h0 h1 w ht.here)) ?_
    rintro _ w' ⟨rfl, k, os, rfl⟩
    refine OW.val rfl rfl (EX.assign rfl) ?_
    refine OW.nil ?_
    refine KW.ret (ret1 rfl rfl ?_)
    rw [hd]
    exact ⟨rfl, ext_grow _ _ _⟩
end Go.Proofs.YtieojdkblakchaaDoor
