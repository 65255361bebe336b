/-
  fields: what the functions compute that read numbers and texts.
-/
import Derived.Test.YtaoieiiggbpjeaaFieD
import Derived.Test.YtaoieiiggbpjeaaTi
import Derived.Test.YtaoieiiggbpjeaaShelf
namespace Go.Proofs.Ytaoieiiggbpjeaa
open Go.RowKit Fld
set_option linter.unusedVariables false

theorem indexByte0_c (l : List UInt8) (w : World) : Ret Try.prog 18 [str l, .int .u8 ((0 : Nat) : Int)] w fun v w' => v = .int .i64 (Lib.indexByte l 0) ∧ w' = w :=
  Ret.of_calls Try.func18 (by kernel_rfl) (Try.strings_IndexByte ⟨⟨l⟩⟩ 0 w)

theorem cut2_s (s : List UInt8) (a b : Nat) (hs : s.length ≤ 9223372036854775807) (w : World) :
    Ret Try.prog 43 [str s, .int .u8 a, .int .u8 b] w fun v w' => v = str (s.dropWhile (one a b)) ∧ w = w' := by
  refine Ret.enter Try.func43 rfl Try.ntmps43 (by kernel_rfl) rfl ?_
  refine KW.seq (KW.region ?_)
  refine OW.val rfl rfl (EX.assign rfl) ?_
  refine OW.nil ?_
  refine KW.seq (KW.block ?_)
  refine KW.loop1 (fun (l : List UInt8) => l.length ≤ s.length ∧ l.dropWhile (one a b) = s.dropWhile (one a b)) (fun (l : List UInt8) => [(0, str (l)), (1, .int .u8 ((a : Nat) : Int)), (2, .int .u8 ((b : Nat) : Int))]) (fun (l : List UInt8) => w) (fun (l : List UInt8) => l.length) (s) ⟨rfl, rfl, rfl, trivial⟩ rfl ?_ ?_
  · exact ⟨Nat.le_refl _, rfl⟩
  · rintro l ⟨hl, he⟩
    refine KW.seq (KW.seq ?_)
    refine KW.region ?_
    refine OW.val rfl rfl (EX.move rfl) ?_
    refine OW.val rfl rfl (EX.lenS Try.underlying9 rfl) ?_
    refine OW.val rfl rfl (by first | exact EX.gtrN (b := 0) rfl rfl | exact EX.gtrZ rfl rfl) ?_
    refine OW.val rfl rfl (EX.move rfl) ?_
    refine OW.splitD 10 rfl (fun h0 => ?_) (fun h0 => ?_)
    · obtain ⟨c, r, rfl⟩ := List.exists_cons_of_length_pos h0
      have hl' : r.length + 1 ≤ s.length := by simpa using hl
      refine OW.val rfl rfl (EX.move rfl) ?_
      refine OW.val rfl rfl (EX.indexS (i := 0) Try.underlying9 rfl rfl (List.getElem?_eq_getElem (by omega))) ?_
      refine OW.val rfl rfl (EX.move rfl) ?_
      refine OW.val rfl rfl (by first | exact EX.eqlN rfl rfl | exact EX.eqlZ rfl rfl) ?_
      refine OW.val rfl rfl (EX.move rfl) ?_
      refine OW.splitD 15 rfl (fun h1 => ?_) (fun h1 => ?_)
      · refine OW.pass rfl rfl ?_
        refine OW.pass rfl rfl ?_
        refine OW.pass rfl rfl ?_
        refine OW.pass rfl rfl ?_
        refine OW.val rfl rfl (EX.pickT rfl rfl) ?_
        refine OW.val rfl rfl (EX.pickT rfl rfl) ?_
        refine OW.nil ?_
        refine KW.condT rfl (KW.skip (KW.block (KW.region ?_)))
        refine OW.val rfl rfl (EX.move rfl) ?_
        refine OW.val rfl rfl (EX.sliceLE (i := 1) Try.underlying9 rfl rfl (by omega)) ?_
        refine OW.val rfl rfl (EX.assign rfl) ?_
        refine OW.nil ?_
        refine KW.leave ?_
        refine KW.back1 (r) ⟨rfl, rfl, rfl, trivial⟩ rfl ?_ (by simp)
        exact ⟨by omega, by rw [← he, List.dropWhile_cons_of_pos (by simp [one] at h1 ⊢; simp [h1])]⟩
      · refine OW.val rfl rfl (EX.move rfl) ?_
        refine OW.val rfl rfl (EX.indexS (i := 0) Try.underlying9 rfl rfl (List.getElem?_eq_getElem (by omega))) ?_
        refine OW.val rfl rfl (EX.move rfl) ?_
        refine OW.val rfl rfl (by first | exact EX.eqlN rfl rfl | exact EX.eqlZ rfl rfl) ?_
        refine OW.val rfl rfl (EX.pickF rfl rfl) ?_
        refine OW.val rfl rfl (EX.pickT rfl rfl) ?_
        refine OW.nil ?_
        refine KW.condD rfl (fun h2 => ?_) (fun h2 => ?_)
        · refine KW.skip (KW.block (KW.region ?_))
          refine OW.val rfl rfl (EX.move rfl) ?_
          refine OW.val rfl rfl (EX.sliceLE (i := 1) Try.underlying9 rfl rfl (by omega)) ?_
          refine OW.val rfl rfl (EX.assign rfl) ?_
          refine OW.nil ?_
          refine KW.leave ?_
          refine KW.back1 (r) ⟨rfl, rfl, rfl, trivial⟩ rfl ?_ (by simp)
          exact ⟨by omega, by rw [← he, List.dropWhile_cons_of_pos (by simp [one] at h2 ⊢; simp [h2])]⟩
        · refine KW.exit rfl (KW.seq (KW.region ?_))
          refine OW.val rfl rfl (EX.move rfl) ?_
          refine OW.val rfl rfl (EX.assign rfl) ?_
          refine OW.nil ?_
          refine KW.ret (ret1 rfl rfl ?_)
          rw [List.dropWhile_cons_of_neg (by simp [one] at h1 h2 ⊢; simp [h1, h2])] at he
          exact ⟨by rw [he], rfl⟩
    · refine OW.pass rfl rfl ?_
      refine OW.pass rfl rfl ?_
      refine OW.pass rfl rfl ?_
      refine OW.pass rfl rfl ?_
      refine OW.pass rfl rfl ?_
      refine OW.pass rfl rfl ?_
      refine OW.pass rfl rfl ?_
      refine OW.pass rfl rfl ?_
      refine OW.pass rfl rfl ?_
      refine OW.pass rfl rfl ?_
      refine OW.val rfl rfl (EX.pickF rfl rfl) ?_
      refine OW.nil ?_
      refine KW.condF rfl (KW.exit rfl (KW.seq (KW.region ?_)))
      refine OW.val rfl rfl (EX.move rfl) ?_
      refine OW.val rfl rfl (EX.assign rfl) ?_
      refine OW.nil ?_
      refine KW.ret (ret1 rfl rfl ?_)
      have : l = [] := List.eq_nil_of_length_eq_zero (by omega)
      subst this
      exact ⟨by rw [← he]; rfl, rfl⟩

theorem refNumber_s (s : List UInt8) (hs : s.length ≤ 140737488355328) (w : World) :
    Ret Try.prog 32 [str s] w fun v w' => v = .tuple #[.int .i64 ((num s).1 : Nat), .int .i64 ((num s).2 : Nat)] ∧ w = w' := by
  refine Ret.enter Try.func32 rfl Try.ntmps32 (by kernel_rfl) rfl ?_
  refine KW.seq (KW.region ?_)
  refine OW.val rfl rfl (EX.assign rfl) ?_
  refine OW.val rfl rfl (EX.assign rfl) ?_
  refine OW.nil ?_
  refine KW.seq (KW.region ?_)
  refine OW.val rfl rfl (EX.move rfl) ?_
  refine OW.call rfl rfl rfl (cut2_s s 32 32 (by omega) w) ?_
  rintro _ _ ⟨rfl, rfl⟩
  refine OW.val rfl rfl (EX.assign rfl) ?_
  refine OW.nil ?_
  refine KW.seq (KW.region ?_)
  refine OW.val rfl rfl (EX.assign rfl) ?_
  refine OW.nil ?_
  refine KW.seq ?_
  have h1 : (s.dropWhile (one 32 32)).length ≤ s.length := (List.dropWhile_suffix _).length_le
  generalize hs1 : s.dropWhile (one 32 32) = s1 at h1 ⊢
  refine KW.cut2 (fun (l : List UInt8) (n : Nat) => l.length ≤ s.length ∧ l = s1.dropWhile oct ∧ n = fold 8 0 (s1.takeWhile oct)) (fun (l : List UInt8) (n : Nat) => [(0, str (l)), (4, .int .i64 ((n : Nat) : Int))]) (fun (l : List UInt8) (n : Nat) => w) ?_ ?_
  · refine KW.block ?_
    refine KW.loop2 (fun (l : List UInt8) (n : Nat) => l.length ≤ s.length ∧ n ≤ 90071992547409920 + 255 ∧ l.dropWhile oct = s1.dropWhile oct ∧ fold 8 n (l.takeWhile oct) = fold 8 0 (s1.takeWhile oct)) (fun (l : List UInt8) (n : Nat) => [(0, str (l)), (4, .int .i64 ((n : Nat) : Int))]) (fun (l : List UInt8) (n : Nat) => w) (fun (l : List UInt8) (n : Nat) => l.length) (s1) (0) ⟨rfl, rfl, trivial⟩ rfl ?_ ?_
    · exact ⟨h1, by omega, rfl, rfl⟩
    · rintro l n ⟨hl, hn, he, hf⟩
      refine KW.seq (KW.seq ?_)
      refine KW.region ?_
      refine OW.val rfl rfl (EX.move rfl) ?_
      refine OW.val rfl rfl (EX.lenS Try.underlying9 rfl) ?_
      refine OW.val rfl rfl (by first | exact EX.gtrN (b := 0) rfl rfl | exact EX.gtrZ rfl rfl) ?_
      refine OW.val rfl rfl (EX.move rfl) ?_
      refine OW.splitD 10 rfl (fun h0 => ?_) (fun h0 => ?_)
      · obtain ⟨c, r, rfl⟩ := List.exists_cons_of_length_pos h0
        have hl' : r.length + 1 ≤ s.length := by simpa using hl
        have hc : c.toNat < 256 := c.toNat_lt
        have hc0 : (c :: r)[0].toNat = c.toNat := rfl
        refine OW.val rfl rfl (EX.move rfl) ?_
        refine OW.val rfl rfl (EX.indexS (i := 0) Try.underlying9 rfl rfl (List.getElem?_eq_getElem (by omega))) ?_
        refine OW.val rfl rfl (by first | exact EX.geqN (b := 48) rfl rfl | exact EX.geqZ rfl rfl) ?_
        refine OW.val rfl rfl (EX.pickT rfl rfl) ?_
        refine OW.val rfl rfl (EX.move rfl) ?_
        refine OW.splitD 15 rfl (fun h2 => ?_) (fun h2 => ?_)
        · refine OW.val rfl rfl (EX.move rfl) ?_
          refine OW.val rfl rfl (EX.indexS (i := 0) Try.underlying9 rfl rfl (List.getElem?_eq_getElem (by omega))) ?_
          refine OW.val rfl rfl (by first | exact EX.leqN (b := 55) rfl rfl | exact EX.leqZ rfl rfl) ?_
          refine OW.val rfl rfl (EX.pickT rfl rfl) ?_
          refine OW.nil ?_
          refine KW.condD rfl (fun h3 => ?_) (fun h3 => ?_)
          · have ho : oct c = true := by simp only [oct, Bool.and_eq_true, decide_eq_true_eq]; omega
            rw [List.takeWhile_cons_of_pos ho, fold] at hf
            rw [List.dropWhile_cons_of_pos ho] at he
            refine KW.skip (KW.block (KW.seq (KW.seq (KW.region ?_))))
            refine OW.val rfl rfl (EX.move rfl) ?_
            refine OW.val rfl rfl (by first | exact EX.leqN (b := 9007199254740992) rfl rfl | exact EX.leqZ rfl rfl) ?_
            refine OW.nil ?_
            refine KW.condD rfl (fun h4 => ?_) (fun h4 => ?_)
            · rw [if_pos h4] at hf
              refine KW.region ?_
              refine OW.val rfl rfl (EX.move rfl) ?_
              refine OW.val rfl rfl (by first | exact EX.mulN (a := 8) (m := 9223372036854775807) rfl rfl rfl (by omega) | exact EX.mulZ (m := 9223372036854775807) rfl rfl rfl rfl (by omega)) ?_
              refine OW.val rfl rfl (EX.move rfl) ?_
              refine OW.val rfl rfl (EX.indexS (i := 0) Try.underlying9 rfl rfl (List.getElem?_eq_getElem (by omega))) ?_
              refine OW.val rfl rfl (EX.subN (b := 48) (m := 255) rfl rfl rfl (by omega)) ?_
              refine OW.val rfl rfl (by first | exact EX.convN (m := 9223372036854775807) Try.underlying5 Try.underlying3 rfl rfl (by omega) | exact EX.convZ Try.underlying5 Try.underlying3 rfl) ?_
              refine OW.val rfl rfl (by first | exact EX.addN (m := 9223372036854775807) rfl rfl rfl (by omega) | exact EX.addZ (m := 9223372036854775807) rfl rfl rfl rfl (by omega)) ?_
              refine OW.val rfl rfl (EX.assign rfl) ?_
              refine OW.nil ?_
              refine KW.region ?_
              refine OW.val rfl rfl (EX.move rfl) ?_
              refine OW.val rfl rfl (EX.sliceLE (i := 1) Try.underlying9 rfl rfl (by omega)) ?_
              refine OW.val rfl rfl (EX.assign rfl) ?_
              refine OW.nil ?_
              refine KW.leave ?_
              refine KW.back2 (r) (8 * n + (c.toNat - 48)) ⟨rfl, rfl, trivial⟩ rfl ?_ (by simp)
              exact ⟨by omega, by omega, he, hf⟩
            · rw [if_neg h4] at hf
              refine KW.skip (KW.region ?_)
              refine OW.val rfl rfl (EX.move rfl) ?_
              refine OW.val rfl rfl (EX.sliceLE (i := 1) Try.underlying9 rfl rfl (by omega)) ?_
              refine OW.val rfl rfl (EX.assign rfl) ?_
              refine OW.nil ?_
              refine KW.leave ?_
              refine KW.back2 (r) (n) ⟨rfl, rfl, trivial⟩ rfl ?_ (by simp)
              exact ⟨by omega, by omega, he, hf⟩
          · have ho : ¬ oct c = true := by simp only [oct, Bool.and_eq_true, decide_eq_true_eq]; omega
            rw [List.dropWhile_cons_of_neg ho] at he
            rw [List.takeWhile_cons_of_neg ho] at hf
            refine KW.exit rfl ?_
            refine KW.meet2 (_) (n) ⟨rfl, rfl, trivial⟩ rfl ?_
            exact ⟨hl, he, hf⟩
        · have ho : ¬ oct c = true := by simp only [oct, Bool.and_eq_true, decide_eq_true_eq]; omega
          rw [List.dropWhile_cons_of_neg ho] at he
          rw [List.takeWhile_cons_of_neg ho] at hf
          refine OW.pass rfl rfl ?_
          refine OW.pass rfl rfl ?_
          refine OW.pass rfl rfl ?_
          refine OW.val rfl rfl (EX.pickF rfl rfl) ?_
          refine OW.nil ?_
          refine KW.condF rfl (KW.exit rfl ?_)
          refine KW.meet2 (_) (n) ⟨rfl, rfl, trivial⟩ rfl ?_
          exact ⟨hl, he, hf⟩
      · obtain rfl : l = [] := List.eq_nil_of_length_eq_zero (by omega)
        refine OW.pass rfl rfl ?_
        refine OW.pass rfl rfl ?_
        refine OW.pass rfl rfl ?_
        refine OW.val rfl rfl (EX.pickF rfl rfl) ?_
        refine OW.val rfl rfl (EX.move rfl) ?_
        refine OW.pass rfl rfl ?_
        refine OW.pass rfl rfl ?_
        refine OW.pass rfl rfl ?_
        refine OW.val rfl rfl (EX.pickF rfl rfl) ?_
        refine OW.nil ?_
        refine KW.condF rfl (KW.exit rfl ?_)
        refine KW.meet2 (_) (n) ⟨rfl, rfl, trivial⟩ rfl ?_
        exact ⟨by simp, he, hf⟩
  · rintro l n ⟨hl, rfl, rfl⟩
    refine KW.seq (KW.region ?_)
    refine OW.val rfl rfl (EX.move rfl) ?_
    refine OW.call rfl rfl rfl (cut2_s _ 32 0 (by omega) w) ?_
    rintro _ _ ⟨rfl, rfl⟩
    refine OW.val rfl rfl (EX.assign rfl) ?_
    refine OW.nil ?_
    refine KW.seq (KW.seq (KW.region ?_))
    refine OW.val rfl rfl (EX.move rfl) ?_
    refine OW.val rfl rfl (EX.neqS (r := []) rfl rfl) ?_
    refine OW.nil ?_
    refine KW.condD rfl (fun h5 => ?_) (fun h5 => ?_)
    · have hnum : num s = (0, 150) := by simp only [num, hs1]; rw [if_pos h5]
      refine KW.seq (KW.region ?_)
      refine OW.val rfl rfl (EX.assign rfl) ?_
      refine OW.val rfl rfl (EX.assign rfl) ?_
      refine OW.nil ?_
      refine KW.ret (ret2 rfl rfl rfl ?_)
      rw [hnum]
      exact ⟨rfl, rfl⟩
    · refine KW.skip (KW.seq (KW.seq (KW.region ?_)))
      refine OW.val rfl rfl (EX.move rfl) ?_
      refine OW.val rfl rfl (by first | exact EX.gtrN (b := 9007199254740992) rfl rfl | exact EX.gtrZ rfl rfl) ?_
      refine OW.nil ?_
      refine KW.condD rfl (fun h6 => ?_) (fun h6 => ?_)
      · have hnum : num s = (0, 3) := by simp only [num, hs1]; rw [if_neg h5, if_pos h6]
        refine KW.seq (KW.region ?_)
        refine OW.val rfl rfl (EX.assign rfl) ?_
        refine OW.val rfl rfl (EX.assign rfl) ?_
        refine OW.nil ?_
        refine KW.ret (ret2 rfl rfl rfl ?_)
        rw [hnum]
        exact ⟨rfl, rfl⟩
      · have hnum : num s = (fold 8 0 (s1.takeWhile oct), 0) := by simp only [num, hs1]; rw [if_neg h5, if_neg h6]
        refine KW.skip (KW.seq (KW.region ?_))
        refine OW.val rfl rfl (EX.move rfl) ?_
        refine OW.val rfl rfl (EX.assign rfl) ?_
        refine OW.val rfl rfl (EX.assign rfl) ?_
        refine OW.nil ?_
        refine KW.ret (ret2 rfl rfl rfl ?_)
        rw [hnum]
        exact ⟨rfl, rfl⟩

/-- the function that goes over bytes, at any function value -/
theorem over_c (s : List UInt8) (hs : s.length ≤ 140737488355328) (bi bs fid : Nat) (cs : List Value) (p : UInt8 → Bool) (J : Nat → World → Prop) (S : List Nat) (hbi : bi ∉ S) (hbs : bs ∉ S) (hne : bi ≠ bs)
    (hstep : ∀ j w (h : j < s.length), J j w → Ret Try.prog fid ([.int .u8 ((s[j]'h).toNat : Int)] ++ cs) w fun v w' => v = .bool (p (s[j]'h)) ∧ Mo w w' S ∧ J (if p (s[j]'h) then j + 1 else j) w')
    (hset : ∀ j w w', J j w → Mo w w' [bi] → J j w')
    (i : Nat) (hi : i ≤ s.length) (w : World) (hB : Bk w bi 3 [.int .i64 (i : Int)]) (hS : Bk w bs 9 [str s]) (hJ : J i w) :
    Ret Try.prog 49 [.func (.func fid) #[] cs.toArray, .pointer (some ⟨bi, 0, none⟩), .pointer (some ⟨bs, 0, none⟩)] w fun v w' =>
      v = .tuple #[] ∧ ∃ i' : Nat, i' ≤ s.length ∧ s.drop i' = (s.drop i).dropWhile p ∧ Bk w' bi 3 [.int .i64 (i' : Int)] ∧ Bk w' bs 9 [str s] ∧ J i' w' ∧ Mo w w' (bi :: S) := by
  refine Ret.enter Try.func49 rfl Try.ntmps49 (by kernel_rfl) rfl ?_
  refine KW.block ?_
  refine KW.loop2 (fun (j : Nat) (wr : World) => j ≤ s.length ∧ (s.drop j).dropWhile p = (s.drop i).dropWhile p ∧ Bk wr bi 3 [.int .i64 (j : Int)] ∧ Bk wr bs 9 [str s] ∧ J j wr ∧ Mo w wr (bi :: S)) (fun (j : Nat) (wr : World) => [(0, .func (.func fid) #[] cs.toArray), (1, .pointer (some ⟨bi, 0, none⟩)), (2, .pointer (some ⟨bs, 0, none⟩))]) (fun (j : Nat) (wr : World) => wr) (fun (j : Nat) (wr : World) => s.length - j) (i) (w) ⟨rfl, rfl, rfl, trivial⟩ rfl ?_ ?_
  · exact ⟨hi, rfl, hB, hS, hJ, Mo.refl _ _⟩
  · rintro j wr ⟨hj, hd, hB, hS, hJ, hm⟩
    refine KW.seq (KW.seq ?_)
    refine KW.region ?_
    refine OW.val rfl rfl (EX.load Try.underlying3 rfl rfl (hB.cell_of rfl)) ?_
    refine OW.val rfl rfl (EX.load Try.underlying9 rfl rfl (hS.cell_of rfl)) ?_
    refine OW.val rfl rfl (EX.lenS Try.underlying9 rfl) ?_
    refine OW.val rfl rfl (by first | exact EX.lssN rfl rfl | exact EX.lssZ rfl rfl) ?_
    refine OW.val rfl rfl (EX.move rfl) ?_
    refine OW.splitD 8 rfl (fun h1 => ?_) (fun h1 => ?_)
    · refine OW.val rfl rfl (EX.move rfl) ?_
      refine OW.val rfl rfl (EX.load Try.underlying9 rfl rfl (hS.cell_of rfl)) ?_
      refine OW.val rfl rfl (EX.load Try.underlying3 rfl rfl (hB.cell_of rfl)) ?_
      refine OW.val rfl rfl (EX.indexS Try.underlying9 rfl rfl (List.getElem?_eq_getElem (by omega))) ?_
      refine OW.callV rfl rfl rfl rfl rfl (hstep j wr h1 hJ) ?_
      rintro _ w1 ⟨rfl, hm1, hJ1⟩
      refine OW.val rfl rfl (EX.pickT rfl rfl) ?_
      refine OW.nil ?_
      have hB1 := hB.mo hm1 hbi
      have hS1 := hS.mo hm1 hbs
      refine KW.cond rfl (fun h2 => ?_) (fun h2 => ?_)
      · rw [if_pos h2] at hJ1
        refine KW.skip (KW.block (KW.region ?_))
        refine OW.val rfl rfl (EX.load Try.underlying3 rfl rfl (hB1.cell_of rfl)) ?_
        refine OW.val rfl rfl (by first | exact EX.addN (b := 1) (m := 9223372036854775807) rfl rfl rfl (by omega) | exact EX.addZ (m := 9223372036854775807) rfl rfl rfl rfl (by omega)) ?_
        refine OW.storeB rfl ti3 rfl rfl (by first | rfl | assumption | exact Own.one (by assumption)) (hB1) (by simp) ?_
        rintro w2 hB2 hm2
        refine OW.nil ?_
        refine KW.leave ?_
        refine KW.back2 (j + 1) (w2) ⟨rfl, rfl, rfl, trivial⟩ rfl ?_ (by omega)
        refine ⟨by omega, ?_, hB2, hS1.mo hm2 (by simp; omega), hset _ _ _ hJ1 hm2, (hm.trans (hm1.mono (fun k hk => by simp [hk]))).trans (hm2.mono (by simp))⟩
        rw [← hd, drop_cons s j h1, List.dropWhile_cons_of_pos h2]
      · rw [if_neg (by simp [h2])] at hJ1
        refine KW.exit rfl ?_
        refine KW.done (ret0 rfl ?_)
        refine ⟨rfl, j, by omega, ?_, hB1, hS1, hJ1, hm.trans (hm1.mono (fun k hk => by simp [hk]))⟩
        rw [← hd, drop_cons s j h1, List.dropWhile_cons_of_neg (by simp [h2])]
    · refine OW.pass rfl rfl ?_
      refine OW.pass rfl rfl ?_
      refine OW.pass rfl rfl ?_
      refine OW.pass rfl rfl ?_
      refine OW.pass rfl rfl ?_
      refine OW.val rfl rfl (EX.pickF rfl rfl) ?_
      refine OW.nil ?_
      refine KW.condF rfl (KW.exit rfl ?_)
      refine KW.done (ret0 rfl ?_)
      obtain rfl : j = s.length := by omega
      refine ⟨rfl, s.length, by omega, ?_, hB, hS, hJ, hm⟩
      rw [← hd]; simp

theorem sp_c (c : UInt8) (w : World) : Ret Try.prog 50 [.int .u8 (c.toNat : Int)] w fun v w' => v = .bool (one 32 32 c) ∧ w = w' := by
  refine Ret.enter Try.func50 rfl Try.ntmps50 (by kernel_rfl) rfl ?_
  refine KW.seq (KW.region ?_)
  refine OW.val rfl rfl (EX.assign rfl) ?_
  refine OW.nil ?_
  refine KW.seq (KW.region ?_)
  refine OW.val rfl rfl (EX.move rfl) ?_
  refine OW.val rfl rfl (by first | exact EX.eqlN (b := 32) rfl rfl | exact EX.eqlZ rfl rfl) ?_
  refine OW.val rfl rfl (EX.assign rfl) ?_
  refine OW.nil ?_
  refine KW.ret (ret1 rfl rfl ?_)
  exact ⟨by simp [one], rfl⟩
theorem nul_c (c : UInt8) (w : World) : Ret Try.prog 52 [.int .u8 (c.toNat : Int)] w fun v w' => v = .bool (one 32 0 c) ∧ w = w' := by
  refine Ret.enter Try.func52 rfl Try.ntmps52 (by kernel_rfl) rfl ?_
  refine KW.seq (KW.region ?_)
  refine OW.val rfl rfl (EX.assign rfl) ?_
  refine OW.nil ?_
  refine KW.seq ?_
  refine KW.region ?_
  refine OW.val rfl rfl (EX.move rfl) ?_
  refine OW.val rfl rfl (by first | exact EX.eqlN (b := 32) rfl rfl | exact EX.eqlZ rfl rfl) ?_
  refine OW.val rfl rfl (EX.move rfl) ?_
  refine OW.splitD 5 rfl (fun h1 => ?_) (fun h1 => ?_)
  · refine OW.pass rfl rfl ?_
    refine OW.pass rfl rfl ?_
    refine OW.val rfl rfl (EX.pickT rfl rfl) ?_
    refine OW.val rfl rfl (EX.assign rfl) ?_
    refine OW.nil ?_
    refine KW.ret (ret1 rfl rfl ?_)
    exact ⟨by simp [one, h1], rfl⟩
  · refine OW.val rfl rfl (EX.move rfl) ?_
    refine OW.val rfl rfl (by first | exact EX.eqlN (b := 0) rfl rfl | exact EX.eqlZ rfl rfl) ?_
    refine OW.val rfl rfl (EX.pickF rfl rfl) ?_
    refine OW.val rfl rfl (EX.assign rfl) ?_
    refine OW.nil ?_
    refine KW.ret (ret1 rfl rfl ?_)
    exact ⟨by simp [one, h1], rfl⟩
theorem oct_c (c : UInt8) (bb bn : Nat) (hne : bb ≠ bn) (n : Nat) (hn : n ≤ 90071992547409920 + 255) (w : World) (hB : Bk w bb 4 [.bool (decide (9007199254740992 < n))]) (hN : Bk w bn 3 [.int .i64 (n : Int)]) :
    Ret Try.prog 51 [.int .u8 (c.toNat : Int), .pointer (some ⟨bb, 0, none⟩), .pointer (some ⟨bn, 0, none⟩)] w fun v w' => v = .bool (oct c) ∧ Mo w w' [bb, bn] ∧
      ∃ m : Nat, m = (if oct c = true then (if n ≤ 9007199254740992 then 8 * n + (c.toNat - 48) else n) else n) ∧ Bk w' bb 4 [.bool (decide (9007199254740992 < m))] ∧ Bk w' bn 3 [.int .i64 (m : Int)] := by
  have hc : c.toNat < 256 := c.toNat_lt
  refine Ret.enter Try.func51 rfl Try.ntmps51 (by kernel_rfl) rfl ?_
  refine KW.seq (KW.region ?_)
  refine OW.val rfl rfl (EX.assign rfl) ?_
  refine OW.nil ?_
  refine KW.seq (KW.seq ?_)
  refine KW.region ?_
  refine OW.val rfl rfl (EX.move rfl) ?_
  refine OW.val rfl rfl (by first | exact EX.lssN (b := 48) rfl rfl | exact EX.lssZ rfl rfl) ?_
  refine OW.val rfl rfl (EX.move rfl) ?_
  refine OW.splitD 7 rfl (fun h1 => ?_) (fun h1 => ?_)
  · have ho : oct c = false := by simp only [oct, Bool.and_eq_false_iff, decide_eq_false_iff_not]; omega
    refine OW.pass rfl rfl ?_
    refine OW.pass rfl rfl ?_
    refine OW.val rfl rfl (EX.pickT rfl rfl) ?_
    refine OW.nil ?_
    refine KW.condT rfl (KW.seq (KW.region ?_))
    refine OW.val rfl rfl (EX.assign rfl) ?_
    refine OW.nil ?_
    refine KW.ret (ret1 rfl rfl ?_)
    rw [ho]
    exact ⟨rfl, Mo.refl _ _, n, rfl, hB, hN⟩
  · refine OW.val rfl rfl (EX.move rfl) ?_
    refine OW.val rfl rfl (by first | exact EX.gtrN (b := 55) rfl rfl | exact EX.gtrZ rfl rfl) ?_
    refine OW.val rfl rfl (EX.pickF rfl rfl) ?_
    refine OW.nil ?_
    refine KW.condD rfl (fun h2 => ?_) (fun h2 => ?_)
    · have ho : oct c = false := by simp only [oct, Bool.and_eq_false_iff, decide_eq_false_iff_not]; omega
      refine KW.seq (KW.region ?_)
      refine OW.val rfl rfl (EX.assign rfl) ?_
      refine OW.nil ?_
      refine KW.ret (ret1 rfl rfl ?_)
      rw [ho]
      exact ⟨rfl, Mo.refl _ _, n, rfl, hB, hN⟩
    · have ho : oct c = true := by simp only [oct, Bool.and_eq_true, decide_eq_true_eq]; omega
      refine KW.skip (KW.seq (KW.seq (KW.region ?_)))
      refine OW.val rfl rfl (EX.load Try.underlying4 rfl rfl (hB.cell_of rfl)) ?_
      refine OW.val rfl rfl (by first | exact EX.notD rfl | exact EX.notB rfl) ?_
      refine OW.nil ?_
      refine KW.condD rfl (fun h3 => ?_) (fun h3 => ?_)
      · refine KW.seq (KW.region ?_)
        refine OW.val rfl rfl (EX.load Try.underlying3 rfl rfl (hN.cell_of rfl)) ?_
        refine OW.val rfl rfl (by first | exact EX.mulN (a := 8) (m := 9223372036854775807) rfl rfl rfl (by omega) | exact EX.mulZ (m := 9223372036854775807) rfl rfl rfl rfl (by omega)) ?_
        refine OW.val rfl rfl (EX.move rfl) ?_
        refine OW.val rfl rfl (EX.subN (b := 48) (m := 255) rfl rfl rfl (by omega)) ?_
        refine OW.val rfl rfl (by first | exact EX.convN (m := 9223372036854775807) Try.underlying5 Try.underlying3 rfl rfl (by omega) | exact EX.convZ Try.underlying5 Try.underlying3 rfl) ?_
        refine OW.val rfl rfl (by first | exact EX.addN (m := 9223372036854775807) rfl rfl rfl (by omega) | exact EX.addZ (m := 9223372036854775807) rfl rfl rfl rfl (by omega)) ?_
        refine OW.storeB rfl ti3 rfl rfl (by first | rfl | assumption | exact Own.one (by assumption)) (hN) (by simp) ?_
        rintro w1 hN1 hm1
        refine OW.nil ?_
        refine KW.region ?_
        have hB1 := hB.mo hm1 (by simp; omega)
        refine OW.val rfl rfl (EX.load Try.underlying3 rfl rfl (hN1.cell_of rfl)) ?_
        refine OW.val rfl rfl (by first | exact EX.gtrN (b := 9007199254740992) rfl rfl | exact EX.gtrZ rfl rfl) ?_
        refine OW.storeB rfl ti4 rfl rfl (by first | rfl | assumption | exact Own.one (by assumption)) (hB1) (by simp) ?_
        rintro w2 hB2 hm2
        refine OW.nil ?_
        refine KW.seq (KW.region ?_)
        refine OW.val rfl rfl (EX.assign rfl) ?_
        refine OW.nil ?_
        refine KW.ret (ret1 rfl rfl ?_)
        refine ⟨by rw [ho], (hm1.mono (by simp)).trans (hm2.mono (by simp)), _, rfl, ?_, ?_⟩
        · rw [if_pos ho, if_pos (by omega)]; exact hB2
        · rw [if_pos ho, if_pos (by omega)]; exact hN1.mo hm2 (by simp; omega)
      · refine KW.skip (KW.seq (KW.region ?_))
        refine OW.val rfl rfl (EX.assign rfl) ?_
        refine OW.nil ?_
        refine KW.ret (ret1 rfl rfl ?_)
        refine ⟨by rw [ho], Mo.refl _ _, n, ?_, hB, hN⟩
        rw [if_pos ho, if_neg (by omega)]

theorem dropWhile_dropWhile_take (l : List UInt8) (p : UInt8 → Bool) : (l.dropWhile p).takeWhile p = [] := by
  cases h : l.dropWhile p with
  | nil => rfl
  | cons c r =>
    have := List.head_dropWhile_not p (l := l) (by rw [h]; simp)
    simp only [h, List.head_cons] at this
    rw [List.takeWhile_cons_of_neg (by simp [this])]
theorem number_s (s : List UInt8) (hs : s.length ≤ 140737488355328) (w : World) :
    Ret Try.prog 42 [str s] w fun v w' => v = .tuple #[.int .i64 ((num s).1 : Nat), .int .i64 ((num s).2 : Nat)] ∧ Ext w w' := by
  refine Ret.enter Try.func42 rfl Try.ntmps42 (by kernel_rfl) rfl ?_
  refine KW.seq (KW.region ?_)
  refine OW.boxB rfl rfl rfl rfl ?_
  rintro bs w1 hge1 hS1 hx1
  refine OW.val rfl rfl (EX.assign rfl) ?_
  refine OW.val rfl rfl (EX.assign rfl) ?_
  refine OW.nil ?_
  refine KW.seq (KW.region ?_)
  refine OW.allocB (l := [.int .i64 0]) rfl rfl ti3 rfl ?_
  rintro bi w2 hge2 hB2 hx2
  have l1 := hS1.lt
  refine OW.storeB rfl ti3 rfl rfl (by first | rfl | assumption | exact Own.one (by assumption)) (hB2) (by simp) ?_
  rintro w3 hB3 hm3
  refine OW.nil ?_
  refine KW.seq (KW.region ?_)
  refine OW.val rfl rfl (EX.makeFunc rfl rfl) ?_
  refine OW.val rfl rfl (EX.assign rfl) ?_
  refine OW.nil ?_
  refine KW.seq (KW.region ?_)
  refine OW.val rfl rfl (EX.move rfl) ?_
  have hS3 := (hS1.ext hx2).mo hm3 (by simp; omega)
  have e3 : Ext w w3 := below_mo (hx1.trans hx2) hm3 (by have := hx1.size; have := hx2.size; omega) (by simp; have := hx1.size; omega)
  have z2 := hx2.size
  have z1 := hx1.size
  have z3 := hm3.size
  have l2 := hB2.lt
  refine OW.callV rfl rfl rfl rfl rfl (over_c s hs bi bs _ [] (one 32 32) (fun _ _ => True) [] (by simp) (by simp) (by omega) (fun j w hj _ => (sp_c _ w).mono fun v w' ⟨h1, h2⟩ => ⟨h1, h2 ▸ Mo.refl _ _, trivial⟩) (fun _ _ _ _ _ => trivial) 0 (by omega) w3 hB3 hS3 trivial) ?_
  rintro _ w4 ⟨rfl, i4, hi4, hd4, hB4, hS4, _, hm4⟩
  refine OW.nil ?_
  refine KW.seq (KW.region ?_)
  have e4 : Ext w w4 := below_mo e3 hm4 (by omega) (by simp; omega)
  have z4 := hm4.size
  refine OW.allocB (l := [.int .i64 0]) rfl rfl ti3 rfl ?_
  rintro bn w5 hge5 hN5 hx5
  refine OW.allocB (l := [.bool false]) rfl rfl ti4 rfl ?_
  rintro bb w6 hge6 hO6 hx6
  have l5 := hN5.lt
  have l6 := hO6.lt
  have z5 := hx5.size
  have z6 := hx6.size
  refine OW.storeB rfl ti3 rfl rfl (by first | rfl | assumption | exact Own.one (by assumption)) (hN5.ext hx6) (by simp) ?_
  rintro w7 hN7 hm7
  have hO7 := hO6.mo hm7 (by simp; omega)
  refine OW.storeB rfl ti4 rfl rfl (by first | rfl | assumption | exact Own.one (by assumption)) (hO7) (by simp) ?_
  rintro w8 hO8 hm8
  refine OW.nil ?_
  refine KW.seq (KW.region ?_)
  refine OW.val rfl rfl (EX.move rfl) ?_
  refine OW.val rfl rfl (EX.makeFunc rfl rfl) ?_
  have z7 := hm7.size
  have z8 := hm8.size
  have hN8 := hN7.mo hm8 (by simp; omega)
  have hB8 := (((hB4.ext hx5).ext hx6).mo hm7 (by simp; have := hB4.lt; omega)).mo hm8 (by simp; have := hB4.lt; omega)
  have hS8 := (((hS4.ext hx5).ext hx6).mo hm7 (by simp; have := hS4.lt; omega)).mo hm8 (by simp; have := hS4.lt; omega)
  have e8 : Ext w w8 := below_mo (below_mo ((e4.trans hx5).trans hx6) hm7 (by omega) (by simp; omega)) hm8 (by omega) (by simp; omega)
  have hov := over_c s hs bi bs 51 [.pointer (some ⟨bb, 0, none⟩), .pointer (some ⟨bn, 0, none⟩)] oct (fun j w => ∃ n : Nat, n ≤ 90071992547409920 + 255 ∧ fold 8 n ((s.drop j).takeWhile oct) = fold 8 0 ((s.drop i4).takeWhile oct) ∧ Bk w bb 4 [.bool (decide (9007199254740992 < n))] ∧ Bk w bn 3 [.int .i64 (n : Int)]) [bb, bn] (by simp; have := hB4.lt; omega) (by simp; have := hS4.lt; omega) (by omega)
    (fun j w hj ⟨n, hn, hf, hb, hi⟩ => (oct_c (s[j]) bb bn (by omega) n hn w hb hi).mono fun v w' ⟨h1, h2, m, hm, h3, h4⟩ => by
      have hc : (s[j]).toNat < 256 := (s[j]).toNat_lt
      refine ⟨h1, h2, m, by rw [hm]; split <;> (try split) <;> omega, ?_, h3, h4⟩
      rw [← hf, drop_cons s j hj]
      by_cases ho : oct s[j] = true
      · rw [if_pos ho] at hm ⊢
        rw [List.takeWhile_cons_of_pos ho, fold, hm]
      · rw [if_neg ho] at hm ⊢
        rw [hm, drop_cons s j hj])
    (fun j w w' ⟨n, hn, hf, hb, hi⟩ hm => ⟨n, hn, hf, hb.mo hm (by simp; have := hB4.lt; omega), hi.mo hm (by simp; have := hB4.lt; omega)⟩)
    i4 hi4 w8 hB8 hS8 ⟨0, by omega, rfl, by simpa using hO8, by simpa using hN8⟩
  refine OW.callV rfl rfl rfl rfl rfl (hov) ?_
  rintro _ w9 ⟨rfl, i9, hi9, hd9, hB9, hS9, ⟨n, hn, hf, hO9, hN9⟩, hm9⟩
  refine OW.nil ?_
  refine KW.seq (KW.region ?_)
  refine OW.val rfl rfl (EX.move rfl) ?_
  have z9 := hm9.size
  have e9 : Ext w w9 := below_mo e8 hm9 (by omega) (by simp; omega)
  refine OW.callV rfl rfl rfl rfl rfl (over_c s hs bi bs _ [] (one 32 0) (fun _ _ => True) [] (by simp) (by simp) (by omega) (fun j w hj _ => (nul_c _ w).mono fun v w' ⟨h1, h2⟩ => ⟨h1, h2 ▸ Mo.refl _ _, trivial⟩) (fun _ _ _ _ _ => trivial) i9 hi9 w9 hB9 hS9 trivial) ?_
  rintro _ w10 ⟨rfl, i10, hi10, hd10, hB10, hS10, _, hm10⟩
  refine OW.nil ?_
  refine KW.seq (KW.seq (KW.region ?_))
  have e10 : Ext w w10 := below_mo e9 hm10 (by omega) (by simp; omega)
  have hO10 := hO9.mo hm10 (by simp; omega)
  have hN10 := hN9.mo hm10 (by simp; omega)
  refine OW.val rfl rfl (EX.load Try.underlying3 rfl rfl (hB10.cell_of rfl)) ?_
  refine OW.val rfl rfl (EX.load Try.underlying9 rfl rfl (hS10.cell_of rfl)) ?_
  refine OW.val rfl rfl (EX.lenS Try.underlying9 rfl) ?_
  refine OW.val rfl rfl (by first | exact EX.lssN rfl rfl | exact EX.lssZ rfl rfl) ?_
  refine OW.nil ?_
  rw [hd9, dropWhile_dropWhile_take] at hf
  simp only [fold] at hf
  rw [List.drop_zero] at hd4
  have hne : (((s.dropWhile (one 32 32)).dropWhile oct).dropWhile (one 32 0) ≠ []) ↔ i10 < s.length := by
    rw [← hd4, ← hd9, ← hd10]
    simp
  refine KW.condD rfl (fun h5 => ?_) (fun h5 => ?_)
  · have hnum : num s = (0, 150) := by simp only [num]; rw [if_pos (hne.2 h5)]
    refine KW.seq (KW.region ?_)
    refine OW.val rfl rfl (EX.assign rfl) ?_
    refine OW.val rfl rfl (EX.assign rfl) ?_
    refine OW.nil ?_
    refine KW.ret (ret2 rfl rfl rfl ?_)
    rw [hnum]
    exact ⟨rfl, e10⟩
  · refine KW.skip (KW.seq (KW.seq (KW.region ?_)))
    refine OW.val rfl rfl (EX.load Try.underlying4 rfl rfl (hO10.cell_of rfl)) ?_
    refine OW.nil ?_
    refine KW.condD rfl (fun h6 => ?_) (fun h6 => ?_)
    · have hnum : num s = (0, 3) := by simp only [num]; rw [if_neg (fun h => h5 (hne.1 h)), ← hd4, ← hf, if_pos h6]
      refine KW.seq (KW.region ?_)
      refine OW.val rfl rfl (EX.assign rfl) ?_
      refine OW.val rfl rfl (EX.assign rfl) ?_
      refine OW.nil ?_
      refine KW.ret (ret2 rfl rfl rfl ?_)
      rw [hnum]
      exact ⟨rfl, e10⟩
    · have hnum : num s = (n, 0) := by simp only [num]; rw [if_neg (fun h => h5 (hne.1 h)), ← hd4, ← hf, if_neg h6]
      refine KW.skip (KW.seq (KW.region ?_))
      refine OW.val rfl rfl (EX.load Try.underlying3 rfl rfl (hN10.cell_of rfl)) ?_
      refine OW.val rfl rfl (EX.assign rfl) ?_
      refine OW.val rfl rfl (EX.assign rfl) ?_
      refine OW.nil ?_
      refine KW.ret (ret2 rfl rfl rfl ?_)
      rw [hnum]
      exact ⟨rfl, e10⟩
end Go.Proofs.Ytaoieiiggbpjeaa
