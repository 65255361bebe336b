/-
  What the statements rest on, part 3 of 7: many small texts, one behind the other.
-/
import Derived.Test.YtjgeoeeikfjmdaaGreatDoorMrgB
/- fields: sums. -/
namespace Go.Proofs.YtjgeoeeikfjmdaaGreatDoor
set_option linter.unnecessarySimpa false
set_option linter.unusedSimpArgs false
open Go.RowKit Fld
set_option linter.unusedVariables false
theorem u8_of_toNat {c : UInt8} {n : Nat} (hn : n < 256) (h : c.toNat = n) : c = UInt8.ofNat n := by
  rw [← h]; simp
theorem octit_at (d : Nat) (h : d < 8) : (List.drop d ([48, 49, 50, 51, 52, 53, 54, 55] : List UInt8)).take (d + 1 - d) = [dgt d] := by
  have : ∀ d : Fin 8, (List.drop d.val ([48, 49, 50, 51, 52, 53, 54, 55] : List UInt8)).take (d.val + 1 - d.val) = [dgt d.val] := by decide +kernel
  exact this ⟨d, h⟩
theorem sum_s (s : List UInt8) (hs : s.length ≤ 140737488355328) (w : World) :
    Ret Tryz.prog 74 [str s] w fun v w' => v = .tuple #[.int .i64 ((sum s).1 : Nat), .int .i64 ((sum s).2 : Nat)] ∧ w = w' := by
  refine Ret.enter Tryz.func74 rfl Tryz.ntmps74 (by kernel_rfl) rfl ?_
  refine KW.seq (KW.region ?_)
  refine OW.val rfl rfl (EX.assign rfl) ?_
  refine OW.val rfl rfl (EX.assign rfl) ?_
  refine OW.nil ?_
  refine KW.seq (KW.seq (KW.region ?_))
  refine OW.val rfl rfl (EX.move rfl) ?_
  refine OW.val rfl rfl (EX.lenS Tryz.underlying9 rfl) ?_
  refine OW.val rfl rfl (by first | exact EX.neqN (b := 512) rfl rfl | exact EX.neqZ rfl rfl) ?_
  refine OW.nil ?_
  refine KW.condD rfl (fun h0 => ?_) (fun h0 => ?_)
  · have hd : sum s = (0, 2) := by unfold sum; rw [if_pos h0]
    refine KW.seq (KW.region ?_)
    refine OW.val rfl rfl (EX.assign rfl) ?_
    refine OW.val rfl rfl (EX.assign rfl) ?_
    refine OW.nil ?_
    refine KW.ret (ret2 rfl rfl rfl ?_)
    rw [hd]
    exact ⟨rfl, rfl⟩
  · have hd : sum s = (sumTo s 512, 0) := by unfold sum; rw [if_neg h0]
    have h5 : s.length = 512 := by omega
    refine KW.skip (KW.seq (KW.region ?_))
    refine OW.val rfl rfl (EX.assign rfl) ?_
    refine OW.nil ?_
    refine KW.seq (KW.seq (KW.region ?_))
    refine OW.val rfl rfl (EX.move rfl) ?_
    refine OW.val rfl rfl (EX.lenS Tryz.underlying9 rfl) ?_
    refine OW.val rfl rfl (EX.move rfl) ?_
    refine OW.nil ?_
    refine KW.block ?_
    refine KW.loop1 (fun (i : Nat) => i ≤ 512) (fun (i : Nat) => [(0, str (s)), (4, .int .i64 (((sumTo s i) : Nat) : Int)), (10, .int .i64 ((s.length : Nat) : Int)), (11, .int .i64 ((i : Nat) : Int))]) (fun (i : Nat) => w) (fun (i : Nat) => 512 - i) (0) ⟨rfl, rfl, rfl, rfl, trivial⟩ rfl ?_ ?_
    · omega
    · rintro i hi
      have hb := sumTo_le s i
      refine KW.seq (KW.region ?_)
      refine OW.val rfl rfl (by first | exact EX.lssN rfl rfl | exact EX.lssZ rfl rfl) ?_
      refine OW.nil ?_
      refine KW.seq ?_
      refine KW.condD rfl (fun hl => ?_) (fun hl => ?_)
      · have hc : s[i].toNat < 256 := s[i].toNat_lt
        have hg : s.getD i 0 = s[i] := by simp [List.getD, List.getElem?_eq_getElem hl]
        refine KW.skip (KW.seq (KW.block (KW.seq (KW.region ?_))))
        refine OW.val rfl rfl (EX.move rfl) ?_
        refine OW.val rfl rfl (EX.assign rfl) ?_
        refine OW.nil ?_
        refine KW.seq ?_
        refine KW.region ?_
        refine OW.val rfl rfl (EX.move rfl) ?_
        refine OW.val rfl rfl (by first | exact EX.geqN (b := 148) rfl rfl | exact EX.geqZ rfl rfl) ?_
        refine OW.val rfl rfl (EX.move rfl) ?_
        refine OW.splitD 16 rfl (fun h3 => ?_) (fun h3 => ?_)
        · refine OW.val rfl rfl (EX.move rfl) ?_
          refine OW.val rfl rfl (by first | exact EX.lssN (b := 156) rfl rfl | exact EX.lssZ rfl rfl) ?_
          refine OW.val rfl rfl (EX.pickT rfl rfl) ?_
          refine OW.nil ?_
          refine KW.condD rfl (fun h4 => ?_) (fun h4 => ?_)
          · refine KW.region ?_
            refine OW.val rfl rfl (EX.move rfl) ?_
            refine OW.val rfl rfl (by first | exact EX.addN (b := 32) (m := 9223372036854775807) rfl rfl rfl (by omega) | exact EX.addZ (m := 9223372036854775807) rfl rfl rfl rfl (by omega)) ?_
            refine OW.val rfl rfl (EX.assign rfl) ?_
            refine OW.nil ?_
            refine KW.leave (KW.region ?_)
            refine OW.val rfl rfl (by first | exact EX.addN (b := 1) (m := 9223372036854775807) rfl rfl rfl (by omega) | exact EX.addZ (m := 9223372036854775807) rfl rfl rfl rfl (by omega)) ?_
            refine OW.val rfl rfl (EX.move rfl) ?_
            refine OW.nil ?_
            refine KW.as 4 (.int .i64 (((sumTo s (i + 1)) : Nat) : Int)) rfl (by simp [sumTo, h3, h4]) ?_
            refine KW.back1 (i + 1) ⟨rfl, rfl, rfl, rfl, trivial⟩ rfl ?_ (by omega)
            omega
          · refine KW.region ?_
            refine OW.val rfl rfl (EX.move rfl) ?_
            refine OW.val rfl rfl (EX.move rfl) ?_
            refine OW.val rfl rfl (EX.move rfl) ?_
            refine OW.val rfl rfl (EX.indexS Tryz.underlying9 rfl rfl (List.getElem?_eq_getElem (by omega))) ?_
            refine OW.val rfl rfl (by first | exact EX.convN (m := 9223372036854775807) Tryz.underlying5 Tryz.underlying3 rfl rfl (by omega) | exact EX.convZ Tryz.underlying5 Tryz.underlying3 rfl) ?_
            refine OW.val rfl rfl (by first | exact EX.addN (m := 9223372036854775807) rfl rfl rfl (by omega) | exact EX.addZ (m := 9223372036854775807) rfl rfl rfl rfl (by omega)) ?_
            refine OW.val rfl rfl (EX.assign rfl) ?_
            refine OW.nil ?_
            refine KW.leave (KW.region ?_)
            refine OW.val rfl rfl (by first | exact EX.addN (b := 1) (m := 9223372036854775807) rfl rfl rfl (by omega) | exact EX.addZ (m := 9223372036854775807) rfl rfl rfl rfl (by omega)) ?_
            refine OW.val rfl rfl (EX.move rfl) ?_
            refine OW.nil ?_
            refine KW.as 4 (.int .i64 (((sumTo s (i + 1)) : Nat) : Int)) rfl (by simp only [sumTo]; rw [if_neg (by omega), hg]) ?_
            refine KW.back1 (i + 1) ⟨rfl, rfl, rfl, rfl, trivial⟩ rfl ?_ (by omega)
            omega
        · refine OW.pass rfl rfl ?_
          refine OW.pass rfl rfl ?_
          refine OW.val rfl rfl (EX.pickF rfl rfl) ?_
          refine OW.nil ?_
          refine KW.condF rfl (KW.region ?_)
          refine OW.val rfl rfl (EX.move rfl) ?_
          refine OW.val rfl rfl (EX.move rfl) ?_
          refine OW.val rfl rfl (EX.move rfl) ?_
          refine OW.val rfl rfl (EX.indexS Tryz.underlying9 rfl rfl (List.getElem?_eq_getElem (by omega))) ?_
          refine OW.val rfl rfl (by first | exact EX.convN (m := 9223372036854775807) Tryz.underlying5 Tryz.underlying3 rfl rfl (by omega) | exact EX.convZ Tryz.underlying5 Tryz.underlying3 rfl) ?_
          refine OW.val rfl rfl (by first | exact EX.addN (m := 9223372036854775807) rfl rfl rfl (by omega) | exact EX.addZ (m := 9223372036854775807) rfl rfl rfl rfl (by omega)) ?_
          refine OW.val rfl rfl (EX.assign rfl) ?_
          refine OW.nil ?_
          refine KW.leave (KW.region ?_)
          refine OW.val rfl rfl (by first | exact EX.addN (b := 1) (m := 9223372036854775807) rfl rfl rfl (by omega) | exact EX.addZ (m := 9223372036854775807) rfl rfl rfl rfl (by omega)) ?_
          refine OW.val rfl rfl (EX.move rfl) ?_
          refine OW.nil ?_
          refine KW.as 4 (.int .i64 (((sumTo s (i + 1)) : Nat) : Int)) rfl (by simp only [sumTo]; rw [if_neg (by omega), hg]) ?_
          refine KW.back1 (i + 1) ⟨rfl, rfl, rfl, rfl, trivial⟩ rfl ?_ (by omega)
          omega
      · obtain rfl : i = 512 := by omega
        refine KW.exit rfl (KW.seq (KW.region ?_))
        refine OW.val rfl rfl (EX.move rfl) ?_
        refine OW.val rfl rfl (EX.assign rfl) ?_
        refine OW.val rfl rfl (EX.assign rfl) ?_
        refine OW.nil ?_
        refine KW.ret (ret2 rfl rfl rfl ?_)
        rw [hd]
        exact ⟨rfl, rfl⟩
theorem refSum_s (s : List UInt8) (hs : s.length ≤ 140737488355328) (w : World) :
    Ret Tryz.prog 81 [str s] w fun v w' => v = .tuple #[.int .i64 ((sum s).1 : Nat), .int .i64 ((sum s).2 : Nat)] ∧ w = w' := by
  refine Ret.enter Tryz.func81 rfl Tryz.ntmps81 (by kernel_rfl) rfl ?_
  refine KW.seq (KW.region ?_)
  refine OW.val rfl rfl (EX.assign rfl) ?_
  refine OW.val rfl rfl (EX.assign rfl) ?_
  refine OW.nil ?_
  refine KW.seq (KW.seq (KW.region ?_))
  refine OW.val rfl rfl (EX.move rfl) ?_
  refine OW.val rfl rfl (EX.lenS Tryz.underlying9 rfl) ?_
  refine OW.val rfl rfl (by first | exact EX.neqN (b := 512) rfl rfl | exact EX.neqZ rfl rfl) ?_
  refine OW.nil ?_
  refine KW.condD rfl (fun h0 => ?_) (fun h0 => ?_)
  · have hd : sum s = (0, 2) := by unfold sum; rw [if_pos h0]
    refine KW.seq (KW.region ?_)
    refine OW.val rfl rfl (EX.assign rfl) ?_
    refine OW.val rfl rfl (EX.assign rfl) ?_
    refine OW.nil ?_
    refine KW.ret (ret2 rfl rfl rfl ?_)
    rw [hd]
    exact ⟨rfl, rfl⟩
  · have hd : sum s = (sumTo s 512, 0) := by unfold sum; rw [if_neg h0]
    have h5 : s.length = 512 := by omega
    refine KW.skip (KW.seq (KW.region ?_))
    refine OW.val rfl rfl (EX.assign rfl) ?_
    refine OW.nil ?_
    refine KW.seq (KW.seq (KW.region ?_))
    refine OW.val rfl rfl (EX.assign rfl) ?_
    refine OW.nil ?_
    refine KW.block ?_
    refine KW.loop1 (fun (i : Nat) => i ≤ 512) (fun (i : Nat) => [(0, str (s)), (4, .int .i64 (((sumOut s i) : Nat) : Int)), (5, .int .i64 ((i : Nat) : Int))]) (fun (i : Nat) => w) (fun (i : Nat) => 512 - i) (0) ⟨rfl, rfl, rfl, trivial⟩ rfl ?_ ?_
    · omega
    · rintro i hi
      have hb := sumOut_le s i
      refine KW.seq (KW.seq (KW.region ?_))
      refine OW.val rfl rfl (EX.move rfl) ?_
      refine OW.val rfl rfl (by first | exact EX.lssN (b := 512) rfl rfl | exact EX.lssZ rfl rfl) ?_
      refine OW.nil ?_
      refine KW.condD rfl (fun hl => ?_) (fun hl => ?_)
      · have hc : s[i].toNat < 256 := s[i].toNat_lt
        have hg : s.getD i 0 = s[i] := by simp [List.getD, List.getElem?_eq_getElem (show i < s.length by omega)]
        refine KW.skip (KW.seq (KW.block (KW.seq ?_)))
        refine KW.region ?_
        refine OW.val rfl rfl (EX.move rfl) ?_
        refine OW.val rfl rfl (by first | exact EX.lssN (b := 148) rfl rfl | exact EX.lssZ rfl rfl) ?_
        refine OW.val rfl rfl (EX.move rfl) ?_
        refine OW.splitD 15 rfl (fun h3 => ?_) (fun h3 => ?_)
        · refine OW.pass rfl rfl ?_
          refine OW.pass rfl rfl ?_
          refine OW.val rfl rfl (EX.pickT rfl rfl) ?_
          refine OW.nil ?_
          refine KW.condT rfl (KW.region ?_)
          refine OW.val rfl rfl (EX.move rfl) ?_
          refine OW.val rfl rfl (EX.move rfl) ?_
          refine OW.val rfl rfl (EX.move rfl) ?_
          refine OW.val rfl rfl (EX.indexS Tryz.underlying9 rfl rfl (List.getElem?_eq_getElem (by omega))) ?_
          refine OW.val rfl rfl (by first | exact EX.convN (m := 9223372036854775807) Tryz.underlying5 Tryz.underlying3 rfl rfl (by omega) | exact EX.convZ Tryz.underlying5 Tryz.underlying3 rfl) ?_
          refine OW.val rfl rfl (by first | exact EX.addN (m := 9223372036854775807) rfl rfl rfl (by omega) | exact EX.addZ (m := 9223372036854775807) rfl rfl rfl rfl (by omega)) ?_
          refine OW.val rfl rfl (EX.assign rfl) ?_
          refine OW.nil ?_
          refine KW.leave (KW.region ?_)
          refine OW.val rfl rfl (EX.move rfl) ?_
          refine OW.val rfl rfl (by first | exact EX.addN (b := 1) (m := 9223372036854775807) rfl rfl rfl (by omega) | exact EX.addZ (m := 9223372036854775807) rfl rfl rfl rfl (by omega)) ?_
          refine OW.val rfl rfl (EX.assign rfl) ?_
          refine OW.nil ?_
          refine KW.as 4 (.int .i64 (((sumOut s (i + 1)) : Nat) : Int)) rfl (by simp only [sumOut]; rw [if_neg (by omega), hg]) ?_
          refine KW.back1 (i + 1) ⟨rfl, rfl, rfl, trivial⟩ rfl ?_ (by omega)
          omega
        · refine OW.val rfl rfl (EX.move rfl) ?_
          refine OW.val rfl rfl (by first | exact EX.gtrN (b := 155) rfl rfl | exact EX.gtrZ rfl rfl) ?_
          refine OW.val rfl rfl (EX.pickF rfl rfl) ?_
          refine OW.nil ?_
          refine KW.condD rfl (fun h4 => ?_) (fun h4 => ?_)
          · refine KW.region ?_
            refine OW.val rfl rfl (EX.move rfl) ?_
            refine OW.val rfl rfl (EX.move rfl) ?_
            refine OW.val rfl rfl (EX.move rfl) ?_
            refine OW.val rfl rfl (EX.indexS Tryz.underlying9 rfl rfl (List.getElem?_eq_getElem (by omega))) ?_
            refine OW.val rfl rfl (by first | exact EX.convN (m := 9223372036854775807) Tryz.underlying5 Tryz.underlying3 rfl rfl (by omega) | exact EX.convZ Tryz.underlying5 Tryz.underlying3 rfl) ?_
            refine OW.val rfl rfl (by first | exact EX.addN (m := 9223372036854775807) rfl rfl rfl (by omega) | exact EX.addZ (m := 9223372036854775807) rfl rfl rfl rfl (by omega)) ?_
            refine OW.val rfl rfl (EX.assign rfl) ?_
            refine OW.nil ?_
            refine KW.leave (KW.region ?_)
            refine OW.val rfl rfl (EX.move rfl) ?_
            refine OW.val rfl rfl (by first | exact EX.addN (b := 1) (m := 9223372036854775807) rfl rfl rfl (by omega) | exact EX.addZ (m := 9223372036854775807) rfl rfl rfl rfl (by omega)) ?_
            refine OW.val rfl rfl (EX.assign rfl) ?_
            refine OW.nil ?_
            refine KW.as 4 (.int .i64 (((sumOut s (i + 1)) : Nat) : Int)) rfl (by simp only [sumOut]; rw [if_neg (by omega), hg]) ?_
            refine KW.back1 (i + 1) ⟨rfl, rfl, rfl, trivial⟩ rfl ?_ (by omega)
            omega
          · refine KW.skip (KW.leave (KW.region ?_))
            refine OW.val rfl rfl (EX.move rfl) ?_
            refine OW.val rfl rfl (by first | exact EX.addN (b := 1) (m := 9223372036854775807) rfl rfl rfl (by omega) | exact EX.addZ (m := 9223372036854775807) rfl rfl rfl rfl (by omega)) ?_
            refine OW.val rfl rfl (EX.assign rfl) ?_
            refine OW.nil ?_
            refine KW.as 4 (.int .i64 (((sumOut s (i + 1)) : Nat) : Int)) rfl (by simp only [sumOut]; rw [if_pos (by omega)]; rfl) ?_
            refine KW.back1 (i + 1) ⟨rfl, rfl, rfl, trivial⟩ rfl ?_ (by omega)
            omega
      · obtain rfl : i = 512 := by omega
        refine KW.exit rfl (KW.seq (KW.region ?_))
        refine OW.val rfl rfl (EX.move rfl) ?_
        refine OW.val rfl rfl (EX.assign rfl) ?_
        refine OW.val rfl rfl (EX.assign rfl) ?_
        refine OW.nil ?_
        refine KW.ret (ret2 rfl rfl rfl ?_)
        rw [hd, sumOut_eq]
        exact ⟨rfl, rfl⟩
end Go.Proofs.YtjgeoeeikfjmdaaGreatDoor
/- fields: texts and octal numbers are laid. -/
namespace Go.Proofs.YtjgeoeeikfjmdaaGreatDoor
set_option linter.unnecessarySimpa false
set_option linter.unusedSimpArgs false
open Go.RowKit Fld
set_option linter.unusedVariables false

theorem bytesV_nul (n : Nat) : bytesV (nul n) = List.replicate n (.int .u8 0) := by simp [bytesV, nul]
theorem cut_s (s : List UInt8) (hs : s.length ≤ 140737488355328) (w : World) :
    Ret Tryz.prog 115 [str s] w fun v w' => v = str (cut s) ∧ w = w' := by
  refine Ret.enter Tryz.func115 rfl Tryz.ntmps115 (by kernel_rfl) rfl ?_
  refine KW.seq (KW.region ?_)
  refine OW.val rfl rfl (EX.assign rfl) ?_
  refine OW.nil ?_
  refine KW.seq (KW.seq (KW.region ?_))
  refine OW.val rfl rfl (EX.move rfl) ?_
  refine OW.call rfl rfl rfl (indexByte0_c s w) ?_
  rintro _ _ ⟨rfl, rfl⟩
  refine OW.val rfl rfl (EX.assign rfl) ?_
  refine OW.nil ?_
  refine KW.seq (KW.region ?_)
  refine OW.val rfl rfl (EX.move rfl) ?_
  refine OW.val rfl rfl (by first | exact EX.geqN (b := 0) rfl rfl | exact EX.geqZ rfl rfl) ?_
  refine OW.nil ?_
  rcases indexByte_lt s 0 with ⟨h1, h2⟩ | ⟨i, h1, h2, h3, h4⟩
  · rw [h1]
    refine KW.condD rfl (fun h => ?_) (fun h => ?_)
    · omega
    · refine KW.skip (KW.seq (KW.region ?_))
      refine OW.val rfl rfl (EX.move rfl) ?_
      refine OW.val rfl rfl (EX.assign rfl) ?_
      refine OW.nil ?_
      refine KW.ret (ret1 rfl rfl ?_)
      rw [cut_none h2]
      exact ⟨rfl, rfl⟩
  · rw [h1]
    refine KW.condD rfl (fun h => ?_) (fun h => ?_)
    · refine KW.seq (KW.region ?_)
      refine OW.val rfl rfl (EX.move rfl) ?_
      refine OW.val rfl rfl (EX.move rfl) ?_
      refine OW.val rfl rfl (EX.sliceFH Tryz.underlying9 rfl rfl (by omega)) ?_
      refine OW.val rfl rfl (EX.assign rfl) ?_
      refine OW.nil ?_
      refine KW.ret (ret1 rfl rfl ?_)
      rw [cut, h3]
      exact ⟨rfl, rfl⟩
    · omega
theorem cut_of {s : List UInt8} {i : Nat} (h : i < s.length) (hz : (0 : UInt8) ∉ s.take i) (h0 : s[i] = 0) : cut s = s.take i := by
  have e : s = s.take i ++ (0 :: s.drop (i + 1)) := by rw [← h0, ← drop_cons s i h, List.take_append_drop]
  have h1 : cut (s.take i ++ 0 :: s.drop (i + 1)) = s.take i := by
    rw [cut, List.takeWhile_append_of_pos (by
      intro a ha
      simp only [bne_iff_ne, ne_eq]
      rintro rfl
      exact hz ha)]
    simp
  rwa [← e] at h1
theorem refCut_s (s : List UInt8) (hs : s.length ≤ 140737488355328) (w : World) :
    Ret Tryz.prog 90 [str s] w fun v w' => v = str (cut s) ∧ w = w' := by
  refine Ret.enter Tryz.func90 rfl Tryz.ntmps90 (by kernel_rfl) rfl ?_
  refine KW.seq (KW.region ?_)
  refine OW.val rfl rfl (EX.assign rfl) ?_
  refine OW.nil ?_
  refine KW.seq (KW.seq (KW.region ?_))
  refine OW.val rfl rfl (EX.assign rfl) ?_
  refine OW.nil ?_
  refine KW.block ?_
  refine KW.loop1 (fun (i : Nat) => i ≤ s.length ∧ (0 : UInt8) ∉ s.take i) (fun (i : Nat) => [(0, str (s)), (3, .int .i64 ((i : Nat) : Int))]) (fun (i : Nat) => w) (fun (i : Nat) => s.length - i) (0) ⟨rfl, rfl, trivial⟩ rfl ?_ ?_
  · simp
  · rintro i ⟨hi, hz⟩
    refine KW.seq (KW.seq (KW.region ?_))
    refine OW.val rfl rfl (EX.move rfl) ?_
    refine OW.val rfl rfl (EX.move rfl) ?_
    refine OW.val rfl rfl (EX.lenS Tryz.underlying9 rfl) ?_
    refine OW.val rfl rfl (by first | exact EX.lssN rfl rfl | exact EX.lssZ rfl rfl) ?_
    refine OW.nil ?_
    refine KW.condD rfl (fun h => ?_) (fun h => ?_)
    · have hc : s[i].toNat < 256 := s[i].toNat_lt
      refine KW.skip (KW.seq (KW.block (KW.seq (KW.region ?_))))
      refine OW.val rfl rfl (EX.move rfl) ?_
      refine OW.val rfl rfl (EX.move rfl) ?_
      refine OW.val rfl rfl (EX.indexS Tryz.underlying9 rfl rfl (List.getElem?_eq_getElem (by omega))) ?_
      refine OW.val rfl rfl (by first | exact EX.eqlN (b := 0) rfl rfl | exact EX.eqlZ rfl rfl) ?_
      refine OW.nil ?_
      refine KW.condD rfl (fun h2 => ?_) (fun h2 => ?_)
      · have hc0 : s[i] = 0 := by have := u8_of_toNat (by omega) h2; simpa using this
        refine KW.seq (KW.region ?_)
        refine OW.val rfl rfl (EX.move rfl) ?_
        refine OW.val rfl rfl (EX.move rfl) ?_
        refine OW.val rfl rfl (EX.sliceFH Tryz.underlying9 rfl rfl (by omega)) ?_
        refine OW.val rfl rfl (EX.assign rfl) ?_
        refine OW.nil ?_
        refine KW.ret (ret1 rfl rfl ?_)
        refine ⟨?_, rfl⟩
        have := cut_of h hz hc0
        rw [this]
      · refine KW.skip (KW.leave (KW.region ?_))
        refine OW.val rfl rfl (EX.move rfl) ?_
        refine OW.val rfl rfl (by first | exact EX.addN (b := 1) (m := 9223372036854775807) rfl rfl rfl (by omega) | exact EX.addZ (m := 9223372036854775807) rfl rfl rfl rfl (by omega)) ?_
        refine OW.val rfl rfl (EX.assign rfl) ?_
        refine OW.nil ?_
        refine KW.back1 (i + 1) ⟨rfl, rfl, trivial⟩ rfl ?_ (by omega)
        refine ⟨by omega, ?_⟩
        rw [take_snoc' s i h, List.mem_append]
        rintro (q | q)
        · exact hz q
        · simp only [List.mem_singleton] at q
          exact h2 (by rw [← q]; rfl)
    · obtain rfl : i = s.length := by omega
      refine KW.exit rfl (KW.seq (KW.region ?_))
      refine OW.val rfl rfl (EX.move rfl) ?_
      refine OW.val rfl rfl (EX.assign rfl) ?_
      refine OW.nil ?_
      refine KW.ret (ret1 rfl rfl ?_)
      rw [List.take_length] at hz
      rw [cut_none hz]
      exact ⟨rfl, rfl⟩
theorem nul_length (n : Nat) : (nul n).length = n := by simp [nul]
theorem text_bad {s : List UInt8} {m : Int} (h : m < 0 ∨ 512 < m) : text s m = ([], 2) := by unfold text; rw [if_pos h]
theorem text_no {s : List UInt8} {m : Int} (h : ¬ (m < 0 ∨ 512 < m)) (h2 : m < s.length ∨ cut s ≠ s) : text s m = ([], 150) := by unfold text; rw [if_neg h, if_pos h2]
theorem text_yes {s : List UInt8} {m : Int} (h : ¬ (m < 0 ∨ 512 < m)) (h2 : ¬ (m < s.length ∨ cut s ≠ s)) : text s m = (s ++ nul (m.toNat - s.length), 0) := by unfold text; rw [if_neg h, if_neg h2]
theorem text_s (s : List UInt8) (hs : s.length ≤ 140737488355328) (n : Int) (h0 : -9223372036854775808 ≤ n) (h1 : n ≤ 9223372036854775807) (w : World) :
    Ret Tryz.prog 106 [str s, .int .i64 n] w fun v w' => v = .tuple #[str (text s n).1, .int .i64 ((text s n).2 : Nat)] ∧ Ext w w' := by
  refine Ret.enter Tryz.func106 rfl Tryz.ntmps106 (by kernel_rfl) rfl ?_
  refine KW.seq (KW.region ?_)
  refine OW.val rfl rfl (EX.assign rfl) ?_
  refine OW.val rfl rfl (EX.assign rfl) ?_
  refine OW.nil ?_
  refine KW.seq (KW.seq ?_)
  refine KW.region ?_
  refine OW.val rfl rfl (EX.move rfl) ?_
  refine OW.val rfl rfl (by first | exact EX.lssN (b := 0) rfl rfl | exact EX.lssZ rfl rfl) ?_
  refine OW.val rfl rfl (EX.move rfl) ?_
  refine OW.splitD 8 rfl (fun h2 => ?_) (fun h2 => ?_)
  · have hd := text_bad (s := s) (.inl h2)
    refine OW.pass rfl rfl ?_
    refine OW.pass rfl rfl ?_
    refine OW.val rfl rfl (EX.pickT rfl rfl) ?_
    refine OW.nil ?_
    refine KW.condT rfl (KW.seq (KW.region ?_))
    refine OW.val rfl rfl (EX.assign rfl) ?_
    refine OW.val rfl rfl (EX.assign rfl) ?_
    refine OW.nil ?_
    refine KW.ret (ret2 rfl rfl rfl ?_)
    rw [hd]
    exact ⟨rfl, Ext.refl _⟩
  · refine OW.val rfl rfl (EX.move rfl) ?_
    refine OW.val rfl rfl (by first | exact EX.gtrN (b := 512) rfl rfl | exact EX.gtrZ rfl rfl) ?_
    refine OW.val rfl rfl (EX.pickF rfl rfl) ?_
    refine OW.nil ?_
    refine KW.condD rfl (fun h3 => ?_) (fun h3 => ?_)
    · have hd := text_bad (s := s) (.inr h3)
      refine KW.seq (KW.region ?_)
      refine OW.val rfl rfl (EX.assign rfl) ?_
      refine OW.val rfl rfl (EX.assign rfl) ?_
      refine OW.nil ?_
      refine KW.ret (ret2 rfl rfl rfl ?_)
      rw [hd]
      exact ⟨rfl, Ext.refl _⟩
    · have hr : ¬ (n < 0 ∨ 512 < n) := by omega
      obtain ⟨m, rfl⟩ := Int.eq_ofNat_of_zero_le (show 0 ≤ n by omega)
      refine KW.skip (KW.seq (KW.seq ?_))
      refine KW.region ?_
      refine OW.val rfl rfl (EX.move rfl) ?_
      refine OW.val rfl rfl (EX.lenS Tryz.underlying9 rfl) ?_
      refine OW.val rfl rfl (EX.move rfl) ?_
      refine OW.val rfl rfl (by first | exact EX.gtrN rfl rfl | exact EX.gtrZ rfl rfl) ?_
      refine OW.val rfl rfl (EX.move rfl) ?_
      refine OW.splitD 16 rfl (fun h4 => ?_) (fun h4 => ?_)
      · have hd := text_no hr (.inl (show (m : Int) < s.length by omega))
        refine OW.pass rfl rfl ?_
        refine OW.pass rfl rfl ?_
        refine OW.pass rfl rfl ?_
        refine OW.val rfl rfl (EX.pickT rfl rfl) ?_
        refine OW.nil ?_
        refine KW.condT rfl (KW.seq (KW.region ?_))
        refine OW.val rfl rfl (EX.assign rfl) ?_
        refine OW.val rfl rfl (EX.assign rfl) ?_
        refine OW.nil ?_
        refine KW.ret (ret2 rfl rfl rfl ?_)
        rw [hd]
        exact ⟨rfl, Ext.refl _⟩
      · refine OW.val rfl rfl (EX.move rfl) ?_
        refine OW.call rfl rfl rfl (indexByte0_c s w) ?_
        rintro _ _ ⟨rfl, rfl⟩
        refine OW.val rfl rfl (by first | exact EX.geqN (b := 0) rfl rfl | exact EX.geqZ rfl rfl) ?_
        refine OW.val rfl rfl (EX.pickF rfl rfl) ?_
        refine OW.nil ?_
        rcases indexByte_lt s 0 with ⟨e1, e2⟩ | ⟨i, e1, e2, e3, e4⟩
        · rw [e1]
          have hd := text_yes (s := s) (m := (m : Int)) hr (by rintro (q | q); omega; exact q (cut_none e2))
          refine KW.condD rfl (fun h5 => ?_) (fun h5 => ?_)
          · omega
          · refine KW.skip (KW.seq (KW.region ?_))
            refine OW.val rfl rfl (EX.move rfl) ?_
            refine OW.val rfl rfl (EX.move rfl) ?_
            refine OW.val rfl rfl (EX.move rfl) ?_
            refine OW.val rfl rfl (EX.lenS Tryz.underlying9 rfl) ?_
            refine OW.val rfl rfl (by first | exact EX.subN (m := 9223372036854775807) rfl rfl rfl (by omega) | exact EX.subZ (m := 9223372036854775807) rfl rfl rfl rfl (by omega)) ?_
            refine OW.makeB rfl rfl Tryz.underlying55 ti5 rfl rfl rfl (by omega) (by omega) ?_
            rintro b w1 hge hb hx
            rw [← bytesV_nul] at hb
            have hnl := nul_length (m - s.length)
            refine OW.val rfl rfl (EX.strOf Tryz.underlying55 Tryz.underlying5 Tryz.underlying9 rfl (hb.sl) (nul_length _)) ?_
            refine OW.val rfl rfl (EX.addS rfl rfl (by first | omega | (simp only [List.length_append, List.length_cons, List.length_nil, List.length_take, List.length_drop, List.length_replicate]; omega))) ?_
            refine OW.val rfl rfl (EX.assign rfl) ?_
            refine OW.val rfl rfl (EX.assign rfl) ?_
            refine OW.nil ?_
            refine KW.ret (ret2 rfl rfl rfl ?_)
            rw [hd]
            exact ⟨rfl, hx⟩
        · rw [e1]
          have hd := text_no (s := s) (m := (m : Int)) hr (.inr (fun q => (cut_eq_iff s).1 q e4))
          refine KW.condD rfl (fun h5 => ?_) (fun h5 => ?_)
          · refine KW.seq (KW.region ?_)
            refine OW.val rfl rfl (EX.assign rfl) ?_
            refine OW.val rfl rfl (EX.assign rfl) ?_
            refine OW.nil ?_
            refine KW.ret (ret2 rfl rfl rfl ?_)
            rw [hd]
            exact ⟨rfl, Ext.refl _⟩
          · omega
theorem refText_s (s : List UInt8) (hs : s.length ≤ 140737488355328) (n : Int) (h0 : -9223372036854775808 ≤ n) (h1 : n ≤ 9223372036854775807) (w : World) :
    Ret Tryz.prog 109 [str s, .int .i64 n] w fun v w' => v = .tuple #[str (text s n).1, .int .i64 ((text s n).2 : Nat)] ∧ w = w' := by
  refine Ret.enter Tryz.func109 rfl Tryz.ntmps109 (by kernel_rfl) rfl ?_
  refine KW.seq (KW.region ?_)
  refine OW.val rfl rfl (EX.assign rfl) ?_
  refine OW.val rfl rfl (EX.assign rfl) ?_
  refine OW.nil ?_
  refine KW.seq (KW.seq ?_)
  refine KW.region ?_
  refine OW.val rfl rfl (EX.move rfl) ?_
  refine OW.val rfl rfl (by first | exact EX.lssN (b := 0) rfl rfl | exact EX.lssZ rfl rfl) ?_
  refine OW.val rfl rfl (EX.move rfl) ?_
  refine OW.splitD 8 rfl (fun h2 => ?_) (fun h2 => ?_)
  · have hd := text_bad (s := s) (.inl h2)
    refine OW.pass rfl rfl ?_
    refine OW.pass rfl rfl ?_
    refine OW.val rfl rfl (EX.pickT rfl rfl) ?_
    refine OW.nil ?_
    refine KW.condT rfl (KW.seq (KW.region ?_))
    refine OW.val rfl rfl (EX.assign rfl) ?_
    refine OW.val rfl rfl (EX.assign rfl) ?_
    refine OW.nil ?_
    refine KW.ret (ret2 rfl rfl rfl ?_)
    rw [hd]
    exact ⟨rfl, rfl⟩
  · refine OW.val rfl rfl (EX.move rfl) ?_
    refine OW.val rfl rfl (by first | exact EX.gtrN (b := 512) rfl rfl | exact EX.gtrZ rfl rfl) ?_
    refine OW.val rfl rfl (EX.pickF rfl rfl) ?_
    refine OW.nil ?_
    refine KW.condD rfl (fun h3 => ?_) (fun h3 => ?_)
    · have hd := text_bad (s := s) (.inr h3)
      refine KW.seq (KW.region ?_)
      refine OW.val rfl rfl (EX.assign rfl) ?_
      refine OW.val rfl rfl (EX.assign rfl) ?_
      refine OW.nil ?_
      refine KW.ret (ret2 rfl rfl rfl ?_)
      rw [hd]
      exact ⟨rfl, rfl⟩
    · have hr : ¬ (n < 0 ∨ 512 < n) := by omega
      obtain ⟨m, rfl⟩ := Int.eq_ofNat_of_zero_le (show 0 ≤ n by omega)
      refine KW.skip (KW.seq (KW.seq ?_))
      refine KW.region ?_
      refine OW.val rfl rfl (EX.move rfl) ?_
      refine OW.val rfl rfl (EX.lenS Tryz.underlying9 rfl) ?_
      refine OW.val rfl rfl (EX.move rfl) ?_
      refine OW.val rfl rfl (by first | exact EX.gtrN rfl rfl | exact EX.gtrZ rfl rfl) ?_
      refine OW.val rfl rfl (EX.move rfl) ?_
      refine OW.splitD 16 rfl (fun h4 => ?_) (fun h4 => ?_)
      · have hd := text_no hr (.inl (show (m : Int) < s.length by omega))
        refine OW.pass rfl rfl ?_
        refine OW.pass rfl rfl ?_
        refine OW.pass rfl rfl ?_
        refine OW.pass rfl rfl ?_
        refine OW.val rfl rfl (EX.pickT rfl rfl) ?_
        refine OW.nil ?_
        refine KW.condT rfl (KW.seq (KW.region ?_))
        refine OW.val rfl rfl (EX.assign rfl) ?_
        refine OW.val rfl rfl (EX.assign rfl) ?_
        refine OW.nil ?_
        refine KW.ret (ret2 rfl rfl rfl ?_)
        rw [hd]
        exact ⟨rfl, rfl⟩
      · refine OW.val rfl rfl (EX.move rfl) ?_
        refine OW.call rfl rfl rfl (refCut_s s hs w) ?_
        rintro _ _ ⟨rfl, rfl⟩
        refine OW.val rfl rfl (EX.move rfl) ?_
        refine OW.val rfl rfl (EX.neqS rfl rfl) ?_
        refine OW.val rfl rfl (EX.pickF rfl rfl) ?_
        refine OW.nil ?_
        refine KW.condD rfl (fun h5 => ?_) (fun h5 => ?_)
        · have hd := text_no (s := s) (m := (m : Int)) hr (.inr h5)
          refine KW.seq (KW.region ?_)
          refine OW.val rfl rfl (EX.assign rfl) ?_
          refine OW.val rfl rfl (EX.assign rfl) ?_
          refine OW.nil ?_
          refine KW.ret (ret2 rfl rfl rfl ?_)
          rw [hd]
          exact ⟨rfl, rfl⟩
        · have hd := text_yes (s := s) (m := (m : Int)) hr (by rintro (q | q); omega; exact h5 q)
          refine KW.skip (KW.seq (KW.block ?_))
          refine KW.as 0 (str ((s ++ nul 0))) rfl (by simp [nul]) ?_
          refine KW.loop1 (fun (i : Nat) => s.length + i ≤ m) (fun (i : Nat) => [(0, str ((s ++ nul i))), (1, .int .i64 ((m : Nat) : Int))]) (fun (i : Nat) => w) (fun (i : Nat) => m - i) (0) ⟨rfl, rfl, trivial⟩ rfl ?_ ?_
          · omega
          · rintro i hi
            have hnl := nul_length i
            have hlen : (s ++ nul i).length = s.length + i := by simp [nul]
            refine KW.seq (KW.seq (KW.region ?_))
            refine OW.val rfl rfl (EX.move rfl) ?_
            refine OW.val rfl rfl (EX.lenS Tryz.underlying9 rfl) ?_
            refine OW.val rfl rfl (EX.move rfl) ?_
            refine OW.val rfl rfl (by first | exact EX.lssN rfl rfl | exact EX.lssZ rfl rfl) ?_
            refine OW.nil ?_
            refine KW.condD rfl (fun h6 => ?_) (fun h6 => ?_)
            · refine KW.skip (KW.block (KW.region ?_))
              refine OW.val rfl rfl (EX.move rfl) ?_
              refine OW.val rfl rfl (EX.addS (r := [0]) rfl rfl (by first | omega | (simp only [List.length_append, List.length_cons, List.length_nil, List.length_take, List.length_drop, List.length_replicate]; omega))) ?_
              refine OW.val rfl rfl (EX.assign rfl) ?_
              refine OW.nil ?_
              refine KW.leave ?_
              refine KW.as 0 (str ((s ++ nul (i + 1)))) rfl (by simp [nul, List.replicate_succ']) ?_
              refine KW.back1 (i + 1) ⟨rfl, rfl, trivial⟩ rfl ?_ (by omega)
              omega
            · refine KW.exit rfl (KW.seq (KW.region ?_))
              refine OW.val rfl rfl (EX.move rfl) ?_
              refine OW.val rfl rfl (EX.assign rfl) ?_
              refine OW.val rfl rfl (EX.assign rfl) ?_
              refine OW.nil ?_
              refine KW.ret (ret2 rfl rfl rfl ?_)
              rw [hd, show (m : Int).toNat - s.length = i by omega]
              exact ⟨rfl, rfl⟩

/-! ### Octal numbers -/
theorem octal_bad {n m : Int} (h : m < 2 ∨ 20 < m) : octal n m = ([], 2) := by unfold octal; rw [if_pos h]
theorem octal_no {n : Int} {k : Nat} (h : 1 ≤ k) (hk : k ≤ 19) (h2 : n < 0 ∨ n / 8 ^ k ≠ 0) : octal n ((k + 1 : Nat) : Int) = ([], 150) := by
  unfold octal
  rw [if_neg (by omega), if_pos (by simpa using h2)]
theorem octal_yes {n k : Nat} (h : 1 ≤ k) (hk : k ≤ 19) (h2 : n / 8 ^ k = 0) : octal (n : Int) ((k + 1 : Nat) : Int) = (octs n k ++ [0], 0) := by
  unfold octal
  have h3 : ¬ ((n : Int) < 0 ∨ (n : Int) / 8 ^ (((k + 1 : Nat) : Int).toNat - 1) ≠ 0) := by
    rintro (q | q)
    · omega
    · apply q
      have : (((n / 8 ^ k : Nat)) : Int) = 0 := by rw [h2]; rfl
      simpa using this
  rw [if_neg (by omega), if_neg h3]
  simp
/-- a digit more, from behind -/
theorem oct_cells (n k c : Nat) (hc : c < k) : (bytesV (nul (k - c) ++ octs n c ++ [0])).set (k - 1 - c) (.int .u8 ((dgt (n / 8 ^ c % 8)).toNat : Int)) = bytesV (nul (k - (c + 1)) ++ octs n (c + 1) ++ [0]) := by
  have e1 : nul (k - c) = nul (k - (c + 1)) ++ [0] := by
    unfold nul
    rw [show k - c = (k - (c + 1)) + 1 by omega, List.replicate_succ']
  have hl : (bytesV (nul (k - (c + 1)))).length = k - 1 - c := by simp [bytesV, nul]; omega
  rw [e1, octs_cons]
  simp only [List.append_assoc, List.singleton_append, List.cons_append, bytesV_append]
  rw [← hl, List.set_append_right _ _ (Nat.le_refl _)]
  simp [bytesV]
theorem dgt_toNat {d : Nat} (h : d < 10) : (dgt d).toNat = 48 + d := by
  simp [dgt]; omega
theorem octal_s (n : Int) (h0 : -9223372036854775808 ≤ n) (h1 : n ≤ 9223372036854775807) (m : Int) (g0 : -9223372036854775808 ≤ m) (g1 : m ≤ 9223372036854775807) (w : World) :
    Ret Tryz.prog 75 [.int .i64 n, .int .i64 m] w fun v w' => v = .tuple #[str (octal n m).1, .int .i64 ((octal n m).2 : Nat)] ∧ Ext w w' := by
  refine Ret.enter Tryz.func75 rfl Tryz.ntmps75 (by kernel_rfl) rfl ?_
  refine KW.seq (KW.region ?_)
  refine OW.val rfl rfl (EX.assign rfl) ?_
  refine OW.val rfl rfl (EX.assign rfl) ?_
  refine OW.nil ?_
  refine KW.seq (KW.seq ?_)
  refine KW.region ?_
  refine OW.val rfl rfl (EX.move rfl) ?_
  refine OW.val rfl rfl (by first | exact EX.lssN (b := 2) rfl rfl | exact EX.lssZ rfl rfl) ?_
  refine OW.val rfl rfl (EX.move rfl) ?_
  refine OW.splitD 10 rfl (fun h2 => ?_) (fun h2 => ?_)
  · have hd := octal_bad (n := n) (.inl h2)
    refine OW.pass rfl rfl ?_
    refine OW.pass rfl rfl ?_
    refine OW.val rfl rfl (EX.pickT rfl rfl) ?_
    refine OW.nil ?_
    refine KW.condT rfl (KW.seq (KW.region ?_))
    refine OW.val rfl rfl (EX.assign rfl) ?_
    refine OW.val rfl rfl (EX.assign rfl) ?_
    refine OW.nil ?_
    refine KW.ret (ret2 rfl rfl rfl ?_)
    rw [hd]
    exact ⟨rfl, Ext.refl _⟩
  · refine OW.val rfl rfl (EX.move rfl) ?_
    refine OW.val rfl rfl (by first | exact EX.gtrN (b := 20) rfl rfl | exact EX.gtrZ rfl rfl) ?_
    refine OW.val rfl rfl (EX.pickF rfl rfl) ?_
    refine OW.nil ?_
    refine KW.condD rfl (fun h3 => ?_) (fun h3 => ?_)
    · have hd := octal_bad (n := n) (.inr h3)
      refine KW.seq (KW.region ?_)
      refine OW.val rfl rfl (EX.assign rfl) ?_
      refine OW.val rfl rfl (EX.assign rfl) ?_
      refine OW.nil ?_
      refine KW.ret (ret2 rfl rfl rfl ?_)
      rw [hd]
      exact ⟨rfl, Ext.refl _⟩
    · obtain ⟨k, rfl⟩ : ∃ k : Nat, m = ((k + 1 : Nat) : Int) := ⟨m.toNat - 1, by omega⟩
      have hk : 1 ≤ k ∧ k ≤ 19 := by omega
      refine KW.skip (KW.seq (KW.seq ?_))
      refine KW.region ?_
      refine OW.val rfl rfl (EX.move rfl) ?_
      refine OW.val rfl rfl (by first | exact EX.lssN (b := 0) rfl rfl | exact EX.lssZ rfl rfl) ?_
      refine OW.val rfl rfl (EX.move rfl) ?_
      refine OW.splitD 16 rfl (fun h4 => ?_) (fun h4 => ?_)
      · have hd := octal_no hk.1 hk.2 (.inl h4)
        refine OW.pass rfl rfl ?_
        refine OW.pass rfl rfl ?_
        refine OW.pass rfl rfl ?_
        refine OW.pass rfl rfl ?_
        refine OW.pass rfl rfl ?_
        refine OW.pass rfl rfl ?_
        refine OW.val rfl rfl (EX.pickT rfl rfl) ?_
        refine OW.nil ?_
        refine KW.condT rfl (KW.seq (KW.region ?_))
        refine OW.val rfl rfl (EX.assign rfl) ?_
        refine OW.val rfl rfl (EX.assign rfl) ?_
        refine OW.nil ?_
        refine KW.ret (ret2 rfl rfl rfl ?_)
        rw [hd]
        exact ⟨rfl, Ext.refl _⟩
      · obtain ⟨a, rfl⟩ := Int.eq_ofNat_of_zero_le (show 0 ≤ n by omega)
        refine OW.val rfl rfl (EX.move rfl) ?_
        refine OW.val rfl rfl (EX.move rfl) ?_
        refine OW.val rfl rfl (by first | exact EX.subN (b := 1) (m := 9223372036854775807) rfl rfl rfl (by omega) | exact EX.subZ (m := 9223372036854775807) rfl rfl rfl rfl (by omega)) ?_
        refine OW.val rfl rfl (by first | exact EX.mulN (a := 3) (m := 9223372036854775807) rfl rfl rfl (by omega) | exact EX.mulZ (m := 9223372036854775807) rfl rfl rfl rfl (by omega)) ?_
        refine OW.val rfl rfl (EX.shrN (s := 3 * (k + 1 - 1)) (p := 8 ^ k) rfl rfl (by rw [Nat.pow_mul]; rfl) (by show 3 * (k + 1 - 1) ≤ 64; omega)) ?_
        refine OW.val rfl rfl (by first | exact EX.neqN (b := 0) rfl rfl | exact EX.neqZ rfl rfl) ?_
        refine OW.val rfl rfl (EX.pickF rfl rfl) ?_
        refine OW.nil ?_
        refine KW.condD rfl (fun h5 => ?_) (fun h5 => ?_)
        · have hd := octal_no (n := (a : Int)) hk.1 hk.2 (.inr (fun q => h5 (by exact_mod_cast q)))
          refine KW.seq (KW.region ?_)
          refine OW.val rfl rfl (EX.assign rfl) ?_
          refine OW.val rfl rfl (EX.assign rfl) ?_
          refine OW.nil ?_
          refine KW.ret (ret2 rfl rfl rfl ?_)
          rw [hd]
          exact ⟨rfl, Ext.refl _⟩
        · have hd := octal_yes (n := a) hk.1 hk.2 (Classical.not_not.1 h5)
          refine KW.skip (KW.seq (KW.region ?_))
          refine OW.val rfl rfl (EX.move rfl) ?_
          refine OW.makeB rfl rfl Tryz.underlying55 ti5 rfl rfl rfl (by omega) (by omega) ?_
          rintro b w1 hge hb hx
          refine OW.val rfl rfl (EX.assign rfl) ?_
          refine OW.nil ?_
          refine KW.seq (KW.seq (KW.region ?_))
          refine OW.val rfl rfl (EX.move rfl) ?_
          refine OW.val rfl rfl (by first | exact EX.subN (b := 2) (m := 9223372036854775807) rfl rfl rfl (by omega) | exact EX.subZ (m := 9223372036854775807) rfl rfl rfl rfl (by omega)) ?_
          refine OW.val rfl rfl (EX.assign rfl) ?_
          refine OW.nil ?_
          refine KW.block ?_
          refine KW.as 7 (.int .i64 (((k : Int) - 1 - ((0 : Nat) : Int)) : Int)) rfl (by congr 1; omega) ?_
          rw [← bytesV_nul] at hb
          refine KW.loop3 (fun (c : Nat) (x : Nat) (wr : World) => c ≤ k ∧ x = a / 8 ^ c ∧ x ≤ 9223372036854775807 ∧ Bk wr b 5 (bytesV (nul (k - c) ++ octs a c ++ [0])) ∧ Ext w wr) (fun (c : Nat) (x : Nat) (wr : World) => [(0, .int .i64 ((x : Nat) : Int)), (6, .slice (some ⟨b, 0, none⟩) (k + 1) (k + 1)), (7, .int .i64 (((k : Int) - 1 - (c : Int)) : Int))]) (fun (c : Nat) (x : Nat) (wr : World) => wr) (fun (c : Nat) (x : Nat) (wr : World) => k - c) (0) (a) (w1) ⟨rfl, rfl, rfl, trivial⟩ rfl ?_ ?_
          · refine ⟨by omega, by simp, by omega, ?_, hx⟩
            have : nul (k - 0) ++ octs a 0 ++ [0] = nul (k + 1) := by simp [nul, octs, List.replicate_succ']
            rw [this]; exact hb
          · rintro c x wr ⟨hc, hx0, hxm, hb, hxx⟩
            refine KW.seq (KW.seq (KW.region ?_))
            refine OW.val rfl rfl (EX.move rfl) ?_
            refine OW.val rfl rfl (by first | exact EX.geqN (b := 0) rfl rfl | exact EX.geqZ rfl rfl) ?_
            refine OW.nil ?_
            refine KW.condD rfl (fun h6 => ?_) (fun h6 => ?_)
            · refine KW.as 7 (.int .i64 (((k - 1 - c) : Nat) : Int)) rfl (by congr 1; omega) ?_
              have hlen : (bytesV (nul (k - c) ++ octs a c ++ [0])).length = k + 1 := by simp [bytesV, nul, octs_length]; omega
              refine KW.skip (KW.seq (KW.block (KW.seq (KW.region ?_))))
              refine OW.val rfl rfl (EX.move rfl) ?_
              refine OW.val rfl rfl (EX.move rfl) ?_
              refine OW.val rfl rfl (EX.move rfl) ?_
              refine OW.val rfl rfl (EX.maskN (b := 7) (j := 3) (p := 8) (m := 9223372036854775807) rfl rfl (by decide) (by decide) rfl (by omega)) ?_
              refine OW.val rfl rfl (by first | exact EX.addN (a := 48) (m := 9223372036854775807) rfl rfl rfl (by omega) | exact EX.addZ (m := 9223372036854775807) rfl rfl rfl rfl (by omega)) ?_
              refine OW.val rfl rfl (by first | exact EX.convN (m := 255) Tryz.underlying3 Tryz.underlying5 rfl rfl (by omega) | exact EX.convW (m := 256) Tryz.underlying3 Tryz.underlying5 rfl rfl (by decide) | exact EX.convZ Tryz.underlying3 Tryz.underlying5 rfl) ?_
              refine OW.val rfl rfl (by first | exact EX.indexAddrS0 Tryz.underlying55 ti5 rfl rfl (by omega) | exact EX.indexAddrS1 Tryz.underlying55 ti5 rfl rfl (by omega)) ?_
              refine OW.storeB rfl ti5 rfl rfl (by first | rfl | assumption | exact Own.one (by assumption)) (hb) (by omega) ?_
              rintro w2 hb2 hm2
              refine OW.nil ?_
              refine KW.region ?_
              refine OW.val rfl rfl (EX.move rfl) ?_
              refine OW.val rfl rfl (by first | exact EX.shrN (s := 3) (p := 8) rfl rfl (by decide) (by decide) | exact EX.shrZ (s := 3) (p := 8) rfl rfl (by decide) (by decide)) ?_
              refine OW.val rfl rfl (EX.assign rfl) ?_
              refine OW.nil ?_
              refine KW.leave (KW.region ?_)
              refine OW.val rfl rfl (EX.move rfl) ?_
              refine OW.val rfl rfl (by first | exact EX.subN (b := 1) (m := 9223372036854775807) rfl rfl rfl (by omega) | exact EX.subZ (m := 9223372036854775807) rfl rfl rfl rfl (by omega)) ?_
              refine OW.val rfl rfl (EX.assign rfl) ?_
              refine OW.nil ?_
              refine KW.as 7 (.int .i64 (((k : Int) - 1 - ((c + 1 : Nat) : Int)) : Int)) rfl (by congr 1; omega) ?_
              refine KW.back3 (c + 1) (x / 8) (w2) ⟨rfl, rfl, rfl, trivial⟩ rfl ?_ (by omega)
              refine ⟨by omega, by rw [hx0, Nat.div_div_eq_div_mul, Nat.pow_succ], by omega, ?_, below_mo hxx hm2 hxx.size (by simp; omega)⟩
              rw [← oct_cells _ _ _ (by omega), dgt_toNat (by omega), ← hx0]
              exact hb2
            · obtain rfl : c = k := by omega
              refine KW.exit rfl (KW.seq (KW.region ?_))
              refine OW.val rfl rfl (EX.move rfl) ?_
              have hb' := hb.sl
              rw [Nat.sub_self] at hb'
              refine OW.val rfl rfl (EX.strOf Tryz.underlying55 Tryz.underlying5 Tryz.underlying9 rfl (hb') (by simp [nul, octs_length])) ?_
              refine OW.val rfl rfl (EX.assign rfl) ?_
              refine OW.val rfl rfl (EX.assign rfl) ?_
              refine OW.nil ?_
              refine KW.ret (ret2 rfl rfl rfl ?_)
              rw [hd]
              exact ⟨rfl, hxx⟩
theorem refOctal_s (n : Int) (h0 : -9223372036854775808 ≤ n) (h1 : n ≤ 9223372036854775807) (m : Int) (g0 : -9223372036854775808 ≤ m) (g1 : m ≤ 9223372036854775807) (w : World) :
    Ret Tryz.prog 110 [.int .i64 n, .int .i64 m] w fun v w' => v = .tuple #[str (octal n m).1, .int .i64 ((octal n m).2 : Nat)] ∧ w = w' := by
  refine Ret.enter Tryz.func110 rfl Tryz.ntmps110 (by kernel_rfl) rfl ?_
  refine KW.seq (KW.region ?_)
  refine OW.val rfl rfl (EX.assign rfl) ?_
  refine OW.val rfl rfl (EX.assign rfl) ?_
  refine OW.nil ?_
  refine KW.seq (KW.seq ?_)
  refine KW.region ?_
  refine OW.val rfl rfl (EX.move rfl) ?_
  refine OW.val rfl rfl (by first | exact EX.lssN (b := 2) rfl rfl | exact EX.lssZ rfl rfl) ?_
  refine OW.val rfl rfl (EX.move rfl) ?_
  refine OW.splitD 11 rfl (fun h2 => ?_) (fun h2 => ?_)
  · have hd := octal_bad (n := n) (.inl h2)
    refine OW.pass rfl rfl ?_
    refine OW.pass rfl rfl ?_
    refine OW.val rfl rfl (EX.pickT rfl rfl) ?_
    refine OW.nil ?_
    refine KW.condT rfl (KW.seq (KW.region ?_))
    refine OW.val rfl rfl (EX.assign rfl) ?_
    refine OW.val rfl rfl (EX.assign rfl) ?_
    refine OW.nil ?_
    refine KW.ret (ret2 rfl rfl rfl ?_)
    rw [hd]
    exact ⟨rfl, rfl⟩
  · refine OW.val rfl rfl (EX.move rfl) ?_
    refine OW.val rfl rfl (by first | exact EX.gtrN (b := 20) rfl rfl | exact EX.gtrZ rfl rfl) ?_
    refine OW.val rfl rfl (EX.pickF rfl rfl) ?_
    refine OW.nil ?_
    refine KW.condD rfl (fun h3 => ?_) (fun h3 => ?_)
    · have hd := octal_bad (n := n) (.inr h3)
      refine KW.seq (KW.region ?_)
      refine OW.val rfl rfl (EX.assign rfl) ?_
      refine OW.val rfl rfl (EX.assign rfl) ?_
      refine OW.nil ?_
      refine KW.ret (ret2 rfl rfl rfl ?_)
      rw [hd]
      exact ⟨rfl, rfl⟩
    · obtain ⟨k, rfl⟩ : ∃ k : Nat, m = ((k + 1 : Nat) : Int) := ⟨m.toNat - 1, by omega⟩
      have hk : 1 ≤ k ∧ k ≤ 19 := by omega
      refine KW.skip (KW.seq (KW.region ?_))
      refine OW.val rfl rfl (EX.assign rfl) ?_
      refine OW.nil ?_
      refine KW.seq (KW.seq (KW.region ?_))
      refine OW.val rfl rfl (EX.assign rfl) ?_
      refine OW.nil ?_
      refine KW.block ?_
      refine KW.loop3 (fun (c : Nat) (x : Int) (l : List UInt8) => c ≤ k ∧ x = n / 8 ^ c ∧ -9223372036854775808 ≤ x ∧ x ≤ 9223372036854775807 ∧ l.length = c + 1 ∧ (0 ≤ n → l = octs n.toNat c ++ [0])) (fun (c : Nat) (x : Int) (l : List UInt8) => [(0, .int .i64 (x : Int)), (1, .int .i64 (((k + 1) : Nat) : Int)), (6, str (l)), (7, .int .i64 ((c : Nat) : Int))]) (fun (c : Nat) (x : Int) (l : List UInt8) => w) (fun (c : Nat) (x : Int) (l : List UInt8) => k - c) (0) (n) ([0]) ⟨rfl, rfl, rfl, rfl, trivial⟩ rfl ?_ ?_
      · exact ⟨by omega, by simp, h0, h1, rfl, fun _ => by simp [octs]⟩
      · rintro c x l ⟨hc, hx, x0, x1, hl, he⟩
        refine KW.seq (KW.seq (KW.region ?_))
        refine OW.val rfl rfl (EX.move rfl) ?_
        refine OW.val rfl rfl (EX.move rfl) ?_
        refine OW.val rfl rfl (by first | exact EX.subN (b := 1) (m := 9223372036854775807) rfl rfl rfl (by omega) | exact EX.subZ (m := 9223372036854775807) rfl rfl rfl rfl (by omega)) ?_
        refine OW.val rfl rfl (by first | exact EX.lssN rfl rfl | exact EX.lssZ rfl rfl) ?_
        refine OW.nil ?_
        refine KW.condD rfl (fun h6 => ?_) (fun h6 => ?_)
        · refine KW.skip (KW.seq (KW.block (KW.seq (KW.region ?_))))
          refine OW.val rfl rfl (EX.move rfl) ?_
          refine OW.maskE (b := 7) (j := 3) (p := 8) rfl rfl rfl rfl (by decide) (by decide) (by decide) x1 ?_
          rintro r hr hrx
          refine OW.val rfl rfl (EX.assign rfl) ?_
          refine OW.nil ?_
          refine KW.seq (KW.region ?_)
          refine OW.val rfl rfl (EX.move rfl) ?_
          refine OW.val rfl rfl (EX.move rfl) ?_
          refine OW.val rfl rfl (by first | exact EX.addN (b := 1) (m := 9223372036854775807) rfl rfl rfl (by omega) | exact EX.addZ (m := 9223372036854775807) rfl rfl rfl rfl (by omega)) ?_
          refine OW.val rfl rfl (EX.sliceLH (s := [48, 49, 50, 51, 52, 53, 54, 55]) Tryz.underlying9 rfl rfl rfl (by simp only [List.length_cons, List.length_nil]; omega)) ?_
          refine OW.val rfl rfl (EX.move rfl) ?_
          refine OW.val rfl rfl (EX.addS rfl rfl (by first | omega | (simp only [List.length_append, List.length_cons, List.length_nil, List.length_take, List.length_drop, List.length_replicate]; omega))) ?_
          refine OW.val rfl rfl (EX.assign rfl) ?_
          refine OW.nil ?_
          refine KW.region ?_
          refine OW.val rfl rfl (EX.move rfl) ?_
          refine OW.val rfl rfl (by first | exact EX.shrN (s := 3) (p := 8) rfl rfl (by decide) (by decide) | exact EX.shrZ (s := 3) (p := 8) rfl rfl (by decide) (by decide)) ?_
          refine OW.val rfl rfl (EX.assign rfl) ?_
          refine OW.nil ?_
          refine KW.leave (KW.region ?_)
          refine OW.val rfl rfl (EX.move rfl) ?_
          refine OW.val rfl rfl (by first | exact EX.addN (b := 1) (m := 9223372036854775807) rfl rfl rfl (by omega) | exact EX.addZ (m := 9223372036854775807) rfl rfl rfl rfl (by omega)) ?_
          refine OW.val rfl rfl (EX.assign rfl) ?_
          refine OW.nil ?_
          refine KW.as 6 (str ((dgt r :: l))) rfl (by rw [octit_at r hr]; rfl) ?_
          refine KW.back3 (c + 1) (x / 8) (dgt r :: l) ⟨rfl, rfl, rfl, rfl, trivial⟩ rfl ?_ (by omega)
          refine ⟨by omega, by rw [hx, div_pow_step], by omega, by omega, by simp [hl], fun q => ?_⟩
          have hn : n = (n.toNat : Int) := by omega
          have hxn : x = ((n.toNat / 8 ^ c : Nat) : Int) := by rw [hx, hn]; simp
          have hp0 : 0 ≤ x := by rw [hxn]; exact Int.natCast_nonneg _
          have hr' := hrx hp0
          rw [octs_cons, he q, List.cons_append]
          congr 2
          generalize n.toNat / 8 ^ c = y at hxn ⊢
          omega
        · obtain rfl : c = k := by omega
          refine KW.exit rfl (KW.seq (KW.seq (KW.region ?_)))
          refine OW.val rfl rfl (EX.move rfl) ?_
          refine OW.val rfl rfl (by first | exact EX.neqN (b := 0) rfl rfl | exact EX.neqZ rfl rfl) ?_
          refine OW.nil ?_
          refine KW.condD rfl (fun h7 => ?_) (fun h7 => ?_)
          · have hd := octal_no (n := n) hk.1 hk.2 (.inr (by rw [← hx]; exact h7))
            refine KW.seq (KW.region ?_)
            refine OW.val rfl rfl (EX.assign rfl) ?_
            refine OW.val rfl rfl (EX.assign rfl) ?_
            refine OW.nil ?_
            refine KW.ret (ret2 rfl rfl rfl ?_)
            rw [hd]
            exact ⟨rfl, rfl⟩
          · have hx0 : x = 0 := Classical.not_not.1 h7
            have hn : 0 ≤ n := by
              rcases Int.lt_or_le n 0 with q | q
              · have := Int.ediv_neg_of_neg_of_pos q (show (0 : Int) < 8 ^ c by exact_mod_cast Nat.pow_pos (by decide))
                omega
              · exact q
            obtain ⟨a, rfl⟩ := Int.eq_ofNat_of_zero_le hn
            have hz : a / 8 ^ c = 0 := by rw [hx0] at hx; exact_mod_cast hx.symm
            have hd := octal_yes (n := a) hk.1 hk.2 hz
            refine KW.skip (KW.seq (KW.region ?_))
            refine OW.val rfl rfl (EX.move rfl) ?_
            refine OW.val rfl rfl (EX.assign rfl) ?_
            refine OW.val rfl rfl (EX.assign rfl) ?_
            refine OW.nil ?_
            refine KW.ret (ret2 rfl rfl rfl ?_)
            rw [hd, he (by omega)]
            exact ⟨rfl, rfl⟩
theorem octal_ok {n m : Int} (h : (octal n m).2 = 0) (hm : n ≤ 9007199254740992) : num (octal n m).1 = (n.toNat, 0) ∧ ((octal n m).1.length : Int) = m ∧ 0 ≤ n := by
  unfold octal at h ⊢
  split at h
  · simp at h
  · rename_i h1
    rw [if_neg h1]
    split at h
    · simp at h
    · rename_i h2
      rw [if_neg h2]
      have hn : 0 ≤ n := by omega
      obtain ⟨a, rfl⟩ := Int.eq_ofNat_of_zero_le hn
      have hz : a / 8 ^ (m.toNat - 1) = 0 := by
        have : ((a : Int) / 8 ^ (m.toNat - 1)) = 0 := Classical.byContradiction fun q => h2 (.inr q)
        exact_mod_cast this
      refine ⟨num_octs (by omega) hz (by omega), ?_, hn⟩
      simp [octs_length]
      omega
theorem octal_len (n m : Int) : (octal n m).1.length ≤ 20 := by
  unfold octal
  split
  · simp
  · split
    · simp
    · simp [octs_length]; omega
theorem text_len (s : List UInt8) (m : Int) : (text s m).1.length ≤ 512 := by
  unfold text
  split
  · simp
  · split
    · simp
    · simp [nul]; omega
theorem text_ok {s : List UInt8} {m : Int} (h : (text s m).2 = 0) : cut (text s m).1 = s ∧ ((text s m).1.length : Int) = m := by
  unfold text at h ⊢
  split at h
  · simp at h
  · rename_i h1
    rw [if_neg h1]
    split at h
    · simp at h
    · rename_i h2
      rw [if_neg h2]
      refine ⟨cut_nul (Classical.byContradiction fun q => h2 (.inr q)) _, ?_⟩
      simp [nul]; omega
theorem sum_iff (s : List UInt8) : ((sum s).2 = 0) ↔ s.length = 512 := by
  unfold sum
  split
  · rename_i h; simp; omega
  · rename_i h; simp; omega
theorem bytes_set (s : List UInt8) (rs : List Value) (k : Nat) (v : UInt8) (h : k < s.length) : (bytesV s ++ rs).set k (.int .u8 (v.toNat : Int)) = bytesV (s.set k v) ++ rs := by
  rw [List.set_append_left _ _ (by simpa [bytesV] using h)]
  congr 1
  simp [bytesV, List.map_set]
theorem bytes_get (s : List UInt8) (rs : List Value) (k : Nat) (h : k < s.length) : (bytesV s ++ rs)[k]? = some (.int .u8 ((s[k]).toNat : Int)) := by
  rw [List.getElem?_append_left (by simpa [bytesV] using h)]
  simp [bytesV, h]
theorem xor_byte {a b : Nat} (ha : a < 256) (hb : b ≤ 255) : (UInt8.ofNat (a ^^^ b)).toNat = a ^^^ b := by
  have : a ^^^ b < 2 ^ 8 := Nat.xor_lt_two_pow (by omega) (by omega)
  rw [UInt8.toNat_ofNat']
  exact Nat.mod_eq_of_lt this
theorem xor_ne {a b : Nat} (hb : b ≠ 0) : a ^^^ b ≠ a := by
  intro h
  have h1 : a ^^^ (a ^^^ b) = b := by rw [← Nat.xor_assoc, Nat.xor_self, Nat.zero_xor]
  rw [h, Nat.xor_self] at h1
  exact hb h1.symm

end Go.Proofs.YtjgeoeeikfjmdaaGreatDoor
/- ustar: fields are made, and joined. -/
namespace Go.Proofs.YtjgeoeeikfjmdaaGreatDoor
set_option linter.unnecessarySimpa false
open Go.RowKit Fld Ust
set_option linter.unusedVariables false
set_option linter.unusedSimpArgs false

abbrev Fd := List UInt8 × Nat
def fdV (f : Fd) : List Value := [str f.1, .int .i64 ((f.2 : Nat) : Int)]
def fieldT (s : List UInt8) (width most : Int) : Fd := ((text s width).1, if most < (s.length : Int) then 150 else (text s width).2)
theorem utext_s (s : List UInt8) (hs : s.length ≤ 140737488355328) (n : Int) (h0 : -9223372036854775808 ≤ n) (h1 : n ≤ 9223372036854775807) (m : Int) (w : World) :
    Ret Tryz.prog 72 [str s, .int .i64 n, .int .i64 m] w fun v w' => v = .agg (fdV (fieldT s n m)).toArray ∧ Ext w w' := by
  refine Ret.enter Tryz.func72 rfl Tryz.ntmps72 (by kernel_rfl) rfl ?_
  refine KW.seq (KW.region ?_)
  refine OW.allocB (l := [str [], .int .i64 0]) rfl rfl ti117 rfl ?_
  rintro fb w1 hge1 hb1 hx1
  refine OW.nil ?_
  refine KW.seq (KW.region ?_)
  refine OW.val rfl rfl (EX.move rfl) ?_
  refine OW.val rfl rfl (EX.move rfl) ?_
  refine OW.call rfl rfl rfl (text_s s hs n h0 h1 w1) ?_
  rintro _ w2 ⟨rfl, hx2⟩
  refine OW.val rfl rfl (EX.move rfl) ?_
  refine OW.val rfl rfl (EX.extract rfl rfl) ?_
  refine OW.val rfl rfl (EX.extract rfl rfl) ?_
  refine OW.val rfl rfl (EX.assign rfl) ?_
  refine OW.val rfl rfl (EX.assign rfl) ?_
  refine OW.nil ?_
  refine KW.seq (KW.seq (KW.region ?_))
  refine OW.val rfl rfl (EX.move rfl) ?_
  refine OW.val rfl rfl (EX.lenS Tryz.underlying9 rfl) ?_
  refine OW.val rfl rfl (EX.move rfl) ?_
  refine OW.val rfl rfl (by first | exact EX.gtrN rfl rfl | exact EX.gtrZ rfl rfl) ?_
  refine OW.nil ?_
  have hb2 := hb1.ext hx2
  have x2 := hx1.trans hx2
  refine KW.condD rfl (fun hm => ?_) (fun hm => ?_)
  · have e : fieldT s n m = ((text s n).1, 150) := by unfold fieldT; rw [if_pos hm]
    refine KW.region ?_
    refine OW.val rfl rfl (EX.assign rfl) ?_
    refine OW.nil ?_
    refine KW.seq (KW.region ?_)
    refine OW.val rfl rfl (EX.move rfl) ?_
    refine OW.val rfl rfl (EX.move rfl) ?_
    refine OW.val rfl rfl (EX.buildS (pl := [(0, 1), (1, 1)]) (ks := [0, 1]) (is := [0, 1]) (zs := [str [], .int .i64 0]) Tryz.underlying117 ti117 (by kernel_rfl) rfl rfl rfl (by first | rfl | (simp only [List.all_cons, List.all_nil, Bool.and_true, Bool.true_and, Bool.and_eq_true, Value.oneCell']; repeat (first | assumption | exact Own.one (by assumption) | constructor))) (by simp only [setAll, List.set_cons_zero, List.set_cons_succ]; rfl)) ?_
    refine OW.storeS rfl ti117 rfl rfl rfl (by first | rfl | (simp only [List.all_cons, List.all_nil, Bool.and_true, Bool.true_and, Bool.and_eq_true, Value.oneCell']; repeat (first | assumption | exact Own.one (by assumption) | constructor))) (hb2) (Nat.le_refl _) ?_
    rintro w3 hb3 hm3
    refine OW.nil ?_
    refine KW.ret (retC1 rfl Tryz.underlying117 rfl ti117 rfl (hb3) rfl ?_)
    rw [e]
    exact ⟨rfl, below_mo x2 hm3 x2.size (fun k hk => by simp at hk; omega)⟩
  · have e : fieldT s n m = ((text s n).1, (text s n).2) := by unfold fieldT; rw [if_neg hm]
    refine KW.skip (KW.seq (KW.region ?_))
    refine OW.val rfl rfl (EX.move rfl) ?_
    refine OW.val rfl rfl (EX.move rfl) ?_
    refine OW.val rfl rfl (EX.buildS (pl := [(0, 1), (1, 1)]) (ks := [0, 1]) (is := [0, 1]) (zs := [str [], .int .i64 0]) Tryz.underlying117 ti117 (by kernel_rfl) rfl rfl rfl (by first | rfl | (simp only [List.all_cons, List.all_nil, Bool.and_true, Bool.true_and, Bool.and_eq_true, Value.oneCell']; repeat (first | assumption | exact Own.one (by assumption) | constructor))) (by simp only [setAll, List.set_cons_zero, List.set_cons_succ]; rfl)) ?_
    refine OW.storeS rfl ti117 rfl rfl rfl (by first | rfl | (simp only [List.all_cons, List.all_nil, Bool.and_true, Bool.true_and, Bool.and_eq_true, Value.oneCell']; repeat (first | assumption | exact Own.one (by assumption) | constructor))) (hb2) (Nat.le_refl _) ?_
    rintro w3 hb3 hm3
    refine OW.nil ?_
    refine KW.ret (retC1 rfl Tryz.underlying117 rfl ti117 rfl (hb3) rfl ?_)
    rw [e]
    exact ⟨rfl, below_mo x2 hm3 x2.size (fun k hk => by simp at hk; omega)⟩
theorem unumber_s (n : Int) (h0 : -9223372036854775808 ≤ n) (h1 : n ≤ 9223372036854775807) (m : Int) (g0 : -9223372036854775808 ≤ m) (g1 : m ≤ 9223372036854775807) (w : World) :
    Ret Tryz.prog 73 [.int .i64 n, .int .i64 m] w fun v w' => v = .agg (fdV (octal n m)).toArray ∧ Ext w w' := by
  refine Ret.enter Tryz.func73 rfl Tryz.ntmps73 (by kernel_rfl) rfl ?_
  refine KW.seq (KW.region ?_)
  refine OW.allocB (l := [str [], .int .i64 0]) rfl rfl ti117 rfl ?_
  rintro fb w1 hge1 hb1 hx1
  refine OW.nil ?_
  refine KW.seq (KW.region ?_)
  refine OW.val rfl rfl (EX.move rfl) ?_
  refine OW.val rfl rfl (EX.move rfl) ?_
  refine OW.call rfl rfl rfl (octal_s n h0 h1 m g0 g1 w1) ?_
  rintro _ w2 ⟨rfl, hx2⟩
  refine OW.val rfl rfl (EX.move rfl) ?_
  refine OW.val rfl rfl (EX.extract rfl rfl) ?_
  refine OW.val rfl rfl (EX.extract rfl rfl) ?_
  refine OW.val rfl rfl (EX.assign rfl) ?_
  refine OW.val rfl rfl (EX.assign rfl) ?_
  refine OW.nil ?_
  refine KW.seq (KW.region ?_)
  refine OW.val rfl rfl (EX.move rfl) ?_
  refine OW.val rfl rfl (EX.move rfl) ?_
  refine OW.val rfl rfl (EX.buildS (pl := [(0, 1), (1, 1)]) (ks := [0, 1]) (is := [0, 1]) (zs := [str [], .int .i64 0]) Tryz.underlying117 ti117 (by kernel_rfl) rfl rfl rfl (by first | rfl | (simp only [List.all_cons, List.all_nil, Bool.and_true, Bool.true_and, Bool.and_eq_true, Value.oneCell']; repeat (first | assumption | exact Own.one (by assumption) | constructor))) (by simp only [setAll, List.set_cons_zero, List.set_cons_succ]; rfl)) ?_
  have hb2 := hb1.ext hx2
  have x2 := hx1.trans hx2
  refine OW.storeS rfl ti117 rfl rfl rfl (by first | rfl | (simp only [List.all_cons, List.all_nil, Bool.and_true, Bool.true_and, Bool.and_eq_true, Value.oneCell']; repeat (first | assumption | exact Own.one (by assumption) | constructor))) (hb2) (Nat.le_refl _) ?_
  rintro w3 hb3 hm3
  refine OW.nil ?_
  refine KW.ret (retC1 rfl Tryz.underlying117 rfl ti117 rfl (hb3) rfl ?_)
  exact ⟨rfl, below_mo x2 hm3 x2.size (fun k hk => by simp at hk; omega)⟩
def joinF (l : List Fd) : List UInt8 × Bool := if ∀ f ∈ l, f.2 = 0 then (l.flatMap (·.1), true) else ([], false)
theorem joined_s (l : List Fd) (hne : ∀ f ∈ l, f.2 = 0 → f.1 ≠ []) (hlen : ∀ f ∈ l, f.1.length ≤ 1000) (hl : l.length ≤ 1000) (A : Option Addr) (k B : Nat) (w : World) (hs : Sl w B A (l.flatMap fdV)) :
    Ret Tryz.prog 71 [.slice A l.length k] w fun v w' => v = .tuple #[str (joinF l).1, .bool (joinF l).2] ∧ Ext w w' := by
  have htot : ∀ i, ((l.take i).flatMap (·.1)).length ≤ 1000 * i := by
    intro i
    induction i with
    | zero => simp
    | succ i ih =>
      rw [List.take_add_one]
      rcases hq : l[i]? with _ | f
      · simp; simp at ih; omega
      · have := hlen f (List.mem_of_getElem? hq)
        simp at ih ⊢
        omega
  refine Ret.enter Tryz.func71 rfl Tryz.ntmps71 (by kernel_rfl) rfl ?_
  refine KW.seq (KW.region ?_)
  refine OW.val rfl rfl (EX.assign rfl) ?_
  refine OW.val rfl rfl (EX.assign rfl) ?_
  refine OW.nil ?_
  refine KW.seq (KW.region ?_)
  refine OW.allocB (l := [.pointer none, .slice none 0 0]) rfl rfl ti57 rfl ?_
  rintro bb w1 hge1 hb1 hx1
  refine OW.nil ?_
  refine KW.seq (KW.seq (KW.region ?_))
  refine OW.val rfl rfl (EX.move rfl) ?_
  refine OW.val rfl rfl (EX.lenA Tryz.underlying145 rfl) ?_
  refine OW.val rfl rfl (EX.move rfl) ?_
  refine OW.nil ?_
  refine KW.block ?_
  refine KW.loop2 (fun (i : Nat) (wr : World) => i ≤ l.length ∧ (∀ j f, j < i → l[j]? = some f → f.2 = 0) ∧ Bd wr w.heap.size bb ((l.take i).flatMap (·.1)) ∧ Ext w wr) (fun (i : Nat) (wr : World) => [(4, .pointer (some ⟨bb, 0, none⟩)), (7, .slice A l.length k), (8, .int .i64 ((l.length : Nat) : Int)), (9, .int .i64 ((i : Nat) : Int))]) (fun (i : Nat) (wr : World) => wr) (fun (i : Nat) (wr : World) => l.length - i) (0) (w1) ⟨rfl, rfl, rfl, rfl, trivial⟩ rfl ?_ ?_
  · exact ⟨by omega, fun j f hj => by omega, Bd.new hge1 hb1, hx1⟩
  · rintro i wr ⟨hi, hz, hbd, hx⟩
    have hti := htot i
    refine KW.seq (KW.region ?_)
    refine OW.val rfl rfl (by first | exact EX.lssN rfl rfl | exact EX.lssZ rfl rfl) ?_
    refine OW.nil ?_
    refine KW.seq ?_
    refine KW.condD rfl (fun hlt => ?_) (fun hlt => ?_)
    · obtain ⟨b, o, rfl, _, hcell⟩ := (hs.ext hx).flat (c := 2) (fun _ => rfl) (by decide) hlt
      have hmem := List.getElem_mem hlt
      have hsn : l.take (i + 1) = l.take i ++ [l[i]] := (List.take_append_getElem hlt).symm
      have hgi : l[i]? = some l[i] := List.getElem?_eq_getElem hlt
      have hfl := hlen _ hmem
      have hfn := hne _ hmem
      generalize l[i] = f at hcell hsn hgi hfl hfn
      refine KW.skip (KW.seq (KW.block (KW.seq (KW.region ?_))))
      refine OW.val rfl rfl (EX.indexAddrS Tryz.underlying145 ti117 rfl rfl (by omega)) ?_
      refine OW.val rfl rfl (EX.loadA (l := fdV f) Tryz.underlying117 rfl ti117 rfl rfl hcell) ?_
      refine OW.allocB (l := [str [], .int .i64 0]) rfl rfl ti117 rfl ?_
      rintro fb w2 hge2 hf2 hx2
      refine OW.storeS rfl ti117 rfl rfl rfl (by first | rfl | (simp only [List.all_cons, List.all_nil, Bool.and_true, Bool.true_and, Bool.and_eq_true, Value.oneCell']; repeat (first | assumption | exact Own.one (by assumption) | constructor))) (hf2) (Nat.le_refl _) ?_
      rintro w3 hf3 hm3
      refine OW.nil ?_
      refine KW.seq (KW.seq (KW.region ?_))
      refine OW.val rfl rfl (EX.fieldAddr (off := 1) Tryz.underlying117 rfl rfl ti25 rfl rfl) ?_
      replace hf3 : Bk w3 fb 117 (fdV f) := hf3
      have xr3 : Ext wr w3 := below_mo hx2 hm3 hx2.size (fun k hk => by simp at hk; omega)
      have x3 := hx.trans xr3
      have hbd3 := hbd.ext xr3
      refine OW.val rfl rfl (EX.load Tryz.underlying25 rfl rfl (hf3.cell_of rfl)) ?_
      refine OW.val rfl rfl (by first | exact EX.neqN (b := 0) rfl rfl | exact EX.neqZ rfl rfl) ?_
      refine OW.nil ?_
      refine KW.condD rfl (fun hbad => ?_) (fun hbad => ?_)
      · refine KW.seq (KW.region ?_)
        refine OW.val rfl rfl (EX.assign rfl) ?_
        refine OW.val rfl rfl (EX.assign rfl) ?_
        refine OW.nil ?_
        refine KW.ret (ret2 rfl rfl rfl ?_)
        have e : joinF l = ([], false) := by
          unfold joinF
          rw [if_neg]
          intro h
          have := h f (List.mem_of_getElem? hgi)
          omega
        rw [e]
        exact ⟨rfl, x3⟩
      · have h0 : f.2 = 0 := by omega
        refine KW.skip (KW.region ?_)
        refine OW.val rfl rfl (EX.fieldAddr (off := 0) Tryz.underlying117 rfl rfl ti9 rfl rfl) ?_
        refine OW.val rfl rfl (EX.load Tryz.underlying9 rfl rfl (hf3.cell_of rfl)) ?_
        refine OW.call rfl rfl rfl (writeString_b w.heap.size bb _ f.1 w3 hbd3 (hfn h0) (by omega) x3.size) ?_
        rintro _ w4 ⟨⟨q4, rfl⟩, hbd4, b4⟩
        refine OW.nil ?_
        refine KW.leave (KW.region ?_)
        refine OW.val rfl rfl (by first | exact EX.addN (b := 1) (m := 9223372036854775807) rfl rfl rfl (by omega) | exact EX.addZ (m := 9223372036854775807) rfl rfl rfl rfl (by omega)) ?_
        refine OW.val rfl rfl (EX.move rfl) ?_
        refine OW.nil ?_
        refine KW.back2 (i + 1) (w4) ⟨rfl, rfl, rfl, rfl, trivial⟩ rfl ?_ (by omega)
        refine ⟨by omega, fun j g hj hg => ?_, ?_, Below.trans x3 b4⟩
        · by_cases e : j = i
          · subst e
            rw [hgi] at hg
            cases hg
            exact h0
          · exact hz j g (by omega) hg
        · rw [hsn, List.flatMap_append]
          simpa using hbd4
    · obtain rfl : i = l.length := by omega
      rw [List.take_length] at hbd hti
      refine KW.exit rfl (KW.seq (KW.region ?_))
      refine OW.call rfl rfl rfl (bstring_b w.heap.size bb _ wr hbd (by omega) hx.size) ?_
      rintro _ w5 ⟨rfl, b5⟩
      refine OW.val rfl rfl (EX.assign rfl) ?_
      refine OW.val rfl rfl (EX.assign rfl) ?_
      refine OW.nil ?_
      refine KW.ret (ret2 rfl rfl rfl ?_)
      have e : joinF l = (l.flatMap (·.1), true) := by
        unfold joinF
        rw [if_pos]
        intro f hf
        obtain ⟨j, hj, rfl⟩ := List.getElem_of_mem hf
        exact hz j _ hj (List.getElem?_eq_getElem hj)
      rw [e]
      exact ⟨rfl, Below.trans hx b5⟩
end Go.Proofs.YtjgeoeeikfjmdaaGreatDoor
/- paths: Split, by the program and by the document. -/
namespace Go.Proofs.YtjgeoeeikfjmdaaGreatDoor
set_option linter.unnecessarySimpa false
open Go.RowKit
set_option linter.unusedVariables false
set_option linter.unusedSimpArgs false
theorem psplit_s (p : List UInt8) (hp : p.length ≤ 9223372036854775807) (w : World) : Ret Tryz.prog 21 [str p] w fun v w' => ∃ r, v = .tuple #[str r.1, str r.2.1, .bool r.2.2] ∧ IsSplit p r ∧ Ext w w' := by
  refine Ret.enter Tryz.func21 rfl Tryz.ntmps21 (by kernel_rfl) rfl ?_
  refine KW.seq (KW.region ?_)
  refine OW.val rfl rfl (EX.assign rfl) ?_
  refine OW.val rfl rfl (EX.assign rfl) ?_
  refine OW.val rfl rfl (EX.assign rfl) ?_
  refine OW.nil ?_
  refine KW.seq (KW.seq (KW.region ?_))
  refine OW.val rfl rfl (EX.move rfl) ?_
  refine OW.val rfl rfl (EX.lenS Tryz.underlying9 rfl) ?_
  refine OW.val rfl rfl (by first | exact EX.leqN (b := 100) rfl rfl | exact EX.leqZ rfl rfl) ?_
  refine OW.nil ?_
  refine KW.condD rfl (fun h100 => ?_) (fun h100 => ?_)
  · refine KW.seq (KW.region ?_)
    refine OW.val rfl rfl (EX.move rfl) ?_
    refine OW.val rfl rfl (EX.assign rfl) ?_
    refine OW.val rfl rfl (EX.assign rfl) ?_
    refine OW.val rfl rfl (EX.assign rfl) ?_
    refine OW.nil ?_
    refine KW.ret (ret3 rfl rfl rfl rfl ?_)
    exact ⟨([], p, true), rfl, .inl ⟨by omega, rfl⟩, Ext.refl _⟩
  · refine KW.skip (KW.seq (KW.seq (KW.region ?_)))
    refine OW.val rfl rfl (EX.assign rfl) ?_
    refine OW.nil ?_
    refine KW.block ?_
    refine KW.loop1 (fun (i : Nat) => 1 ≤ i ∧ i ≤ p.length ∧ ∀ j, j < i → ¬ good p j) (fun (i : Nat) => [(0, str (p)), (5, .int .i64 ((i : Nat) : Int))]) (fun (i : Nat) => w) (fun (i : Nat) => p.length - i) (1) ⟨rfl, rfl, trivial⟩ rfl ?_ ?_
    · exact ⟨by omega, by omega, fun j hj hg => by have := hg.2.1; omega⟩
    · rintro i ⟨hi1, hi, hn⟩
      have stop : ¬ (i < p.length - 1 ∧ i ≤ 155) → ∀ j, ¬ good p j := fun h j hg => by
        rcases Nat.lt_or_ge j i with hj | hj
        · exact hn j hj hg
        · have := hg.2.2
          omega
      have step : ¬ good p i → ∀ j, j < i + 1 → ¬ good p j := fun h j hj => by
        rcases Nat.lt_or_ge j i with hj' | hj'
        · exact hn j hj'
        · obtain rfl : j = i := by omega
          exact h
      refine KW.seq (KW.seq ?_)
      refine KW.region ?_
      refine OW.val rfl rfl (EX.move rfl) ?_
      refine OW.val rfl rfl (EX.move rfl) ?_
      refine OW.val rfl rfl (EX.lenS Tryz.underlying9 rfl) ?_
      refine OW.val rfl rfl (by first | exact EX.subN (b := 1) (m := 9223372036854775807) rfl rfl rfl (by omega) | exact EX.subZ (m := 9223372036854775807) rfl rfl rfl rfl (by omega)) ?_
      refine OW.val rfl rfl (by first | exact EX.lssN rfl rfl | exact EX.lssZ rfl rfl) ?_
      refine OW.val rfl rfl (EX.move rfl) ?_
      refine OW.splitD 15 rfl (fun c1 => ?_) (fun c1 => ?_)
      · refine OW.val rfl rfl (EX.move rfl) ?_
        refine OW.val rfl rfl (by first | exact EX.leqN (b := 155) rfl rfl | exact EX.leqZ rfl rfl) ?_
        refine OW.val rfl rfl (EX.pickT rfl rfl) ?_
        refine OW.nil ?_
        refine KW.condD rfl (fun c2 => ?_) (fun c2 => ?_)
        · have hlt : i < p.length := by omega
          have hga := good_at hlt
          refine KW.skip (KW.seq (KW.block (KW.seq ?_)))
          refine KW.region ?_
          refine OW.val rfl rfl (EX.move rfl) ?_
          refine OW.val rfl rfl (EX.move rfl) ?_
          refine OW.val rfl rfl (EX.indexS Tryz.underlying9 rfl rfl (List.getElem?_eq_getElem (by omega))) ?_
          refine OW.val rfl rfl (by first | exact EX.eqlN (b := 47) rfl rfl | exact EX.eqlZ rfl rfl) ?_
          refine OW.val rfl rfl (EX.move rfl) ?_
          refine OW.splitD 25 rfl (fun d1 => ?_) (fun d1 => ?_)
          · refine OW.val rfl rfl (EX.move rfl) ?_
            refine OW.val rfl rfl (EX.lenS Tryz.underlying9 rfl) ?_
            refine OW.val rfl rfl (EX.move rfl) ?_
            refine OW.val rfl rfl (by first | exact EX.subN (m := 9223372036854775807) rfl rfl rfl (by omega) | exact EX.subZ (m := 9223372036854775807) rfl rfl rfl rfl (by omega)) ?_
            refine OW.val rfl rfl (by first | exact EX.subN (b := 1) (m := 9223372036854775807) rfl rfl rfl (by omega) | exact EX.subZ (m := 9223372036854775807) rfl rfl rfl rfl (by omega)) ?_
            refine OW.val rfl rfl (by first | exact EX.leqN (b := 100) rfl rfl | exact EX.leqZ rfl rfl) ?_
            refine OW.val rfl rfl (EX.pickT rfl rfl) ?_
            refine OW.nil ?_
            refine KW.condD rfl (fun d2 => ?_) (fun d2 => ?_)
            · have hg : good p i := hga.2 ⟨d1, by omega, by omega, by omega, by omega⟩
              refine KW.seq ?_
              refine KW.regionQ (by kernel_rfl) (by kernel_rfl) ?_
              refine QW.val rfl rfl (fun _ => EX.move rfl) ?_
              refine QW.val rfl rfl (fun _ => EX.move rfl) ?_
              refine QW.val rfl rfl (fun _ => EX.sliceFH Tryz.underlying9 rfl rfl (by omega)) ?_
              refine QW.val rfl rfl (fun _ => EX.move rfl) ?_
              refine QW.val rfl rfl (fun _ => EX.move rfl) ?_
              refine QW.val rfl rfl (fun _ => by first | exact EX.addN (b := 1) (m := 9223372036854775807) rfl rfl rfl (by omega) | exact EX.addZ (m := 9223372036854775807) rfl rfl rfl rfl (by omega)) ?_
              refine QW.val rfl rfl (fun _ => EX.sliceLE Tryz.underlying9 rfl rfl (by omega)) ?_
              refine QW.val rfl rfl (fun _ => EX.assign rfl) ?_
              refine QW.val rfl rfl (fun _ => EX.assign rfl) ?_
              refine QW.val rfl rfl (fun _ => EX.assign rfl) ?_
              refine QW.nil (fun nq => ?_)
              refine KW.ret (ret3 rfl rfl rfl rfl ?_)
              exact ⟨(p.take i, p.drop (i + 1), true), rfl, .inr (.inl ⟨by omega, i, hg, hn, rfl⟩), Ext.drewN _ _⟩
            · refine KW.skip (KW.leave (KW.region ?_))
              refine OW.val rfl rfl (EX.move rfl) ?_
              refine OW.val rfl rfl (by first | exact EX.addN (b := 1) (m := 9223372036854775807) rfl rfl rfl (by omega) | exact EX.addZ (m := 9223372036854775807) rfl rfl rfl rfl (by omega)) ?_
              refine OW.val rfl rfl (EX.assign rfl) ?_
              refine OW.nil ?_
              refine KW.back1 (i + 1) ⟨rfl, rfl, trivial⟩ rfl ?_ (by omega)
              exact ⟨by omega, by omega, step (fun h => by have := (hga.1 h).2; omega)⟩
          · refine OW.pass rfl rfl ?_
            refine OW.pass rfl rfl ?_
            refine OW.pass rfl rfl ?_
            refine OW.pass rfl rfl ?_
            refine OW.pass rfl rfl ?_
            refine OW.pass rfl rfl ?_
            refine OW.val rfl rfl (EX.pickF rfl rfl) ?_
            refine OW.nil ?_
            refine KW.condF rfl (KW.skip (KW.leave (KW.region ?_)))
            refine OW.val rfl rfl (EX.move rfl) ?_
            refine OW.val rfl rfl (by first | exact EX.addN (b := 1) (m := 9223372036854775807) rfl rfl rfl (by omega) | exact EX.addZ (m := 9223372036854775807) rfl rfl rfl rfl (by omega)) ?_
            refine OW.val rfl rfl (EX.assign rfl) ?_
            refine OW.nil ?_
            refine KW.back1 (i + 1) ⟨rfl, rfl, trivial⟩ rfl ?_ (by omega)
            exact ⟨by omega, by omega, step (fun h => d1 (hga.1 h).1)⟩
        · refine KW.exit rfl (KW.seq (KW.region ?_))
          refine OW.val rfl rfl (EX.assign rfl) ?_
          refine OW.val rfl rfl (EX.assign rfl) ?_
          refine OW.val rfl rfl (EX.assign rfl) ?_
          refine OW.nil ?_
          refine KW.ret (ret3 rfl rfl rfl rfl ?_)
          exact ⟨([], [], false), rfl, .inr (.inr ⟨by omega, stop (by omega), rfl⟩), Ext.refl _⟩
      · refine OW.pass rfl rfl ?_
        refine OW.pass rfl rfl ?_
        refine OW.val rfl rfl (EX.pickF rfl rfl) ?_
        refine OW.nil ?_
        refine KW.condF rfl (KW.exit rfl (KW.seq (KW.region ?_)))
        refine OW.val rfl rfl (EX.assign rfl) ?_
        refine OW.val rfl rfl (EX.assign rfl) ?_
        refine OW.val rfl rfl (EX.assign rfl) ?_
        refine OW.nil ?_
        refine KW.ret (ret3 rfl rfl rfl rfl ?_)
        exact ⟨([], [], false), rfl, .inr (.inr ⟨by omega, stop (by omega), rfl⟩), Ext.refl _⟩
theorem rsplit_s (p : List UInt8) (hp : p.length ≤ 9223372036854775807) (w : World) : Ret Tryz.prog 25 [str p] w fun v w' => ∃ r, v = .tuple #[str r.1, str r.2.1, .bool r.2.2] ∧ IsSplit p r ∧ Ext w w' := by
  refine Ret.enter Tryz.func25 rfl Tryz.ntmps25 (by kernel_rfl) rfl ?_
  refine KW.seq (KW.region ?_)
  refine OW.val rfl rfl (EX.assign rfl) ?_
  refine OW.val rfl rfl (EX.assign rfl) ?_
  refine OW.val rfl rfl (EX.assign rfl) ?_
  refine OW.nil ?_
  refine KW.seq (KW.seq (KW.region ?_))
  refine OW.val rfl rfl (EX.move rfl) ?_
  refine OW.val rfl rfl (EX.lenS Tryz.underlying9 rfl) ?_
  refine OW.val rfl rfl (by first | exact EX.leqN (b := 100) rfl rfl | exact EX.leqZ rfl rfl) ?_
  refine OW.nil ?_
  refine KW.condD rfl (fun h100 => ?_) (fun h100 => ?_)
  · refine KW.seq (KW.region ?_)
    refine OW.val rfl rfl (EX.move rfl) ?_
    refine OW.val rfl rfl (EX.assign rfl) ?_
    refine OW.val rfl rfl (EX.assign rfl) ?_
    refine OW.val rfl rfl (EX.assign rfl) ?_
    refine OW.nil ?_
    refine KW.ret (ret3 rfl rfl rfl rfl ?_)
    exact ⟨([], p, true), rfl, .inl ⟨by omega, rfl⟩, Ext.refl _⟩
  · refine KW.skip (KW.seq (KW.seq (KW.region ?_)))
    refine OW.val rfl rfl (EX.assign rfl) ?_
    refine OW.nil ?_
    refine KW.block ?_
    refine KW.loop1 (fun (i : Nat) => i ≤ p.length ∧ ∀ j, j < i → ¬ good p j) (fun (i : Nat) => [(0, str (p)), (5, .int .i64 ((i : Nat) : Int))]) (fun (i : Nat) => w) (fun (i : Nat) => p.length - i) (0) ⟨rfl, rfl, trivial⟩ rfl ?_ ?_
    · exact ⟨by omega, fun j hj => by omega⟩
    · rintro i ⟨hi, hn⟩
      have step : ¬ good p i → ∀ j, j < i + 1 → ¬ good p j := fun h j hj => by
        rcases Nat.lt_or_ge j i with hj' | hj'
        · exact hn j hj'
        · obtain rfl : j = i := by omega
          exact h
      refine KW.seq (KW.seq (KW.region ?_))
      refine OW.val rfl rfl (EX.move rfl) ?_
      refine OW.val rfl rfl (EX.move rfl) ?_
      refine OW.val rfl rfl (EX.lenS Tryz.underlying9 rfl) ?_
      refine OW.val rfl rfl (by first | exact EX.lssN rfl rfl | exact EX.lssZ rfl rfl) ?_
      refine OW.nil ?_
      refine KW.condD rfl (fun hlt => ?_) (fun hlt => ?_)
      · have hga := good_at hlt
        refine KW.skip (KW.seq (KW.block (KW.seq (KW.region ?_))))
        refine OW.val rfl rfl (EX.move rfl) ?_
        refine OW.val rfl rfl (EX.lenS Tryz.underlying9 rfl) ?_
        refine OW.val rfl rfl (EX.move rfl) ?_
        refine OW.val rfl rfl (by first | exact EX.subN (m := 9223372036854775807) rfl rfl rfl (by omega) | exact EX.subZ (m := 9223372036854775807) rfl rfl rfl rfl (by omega)) ?_
        refine OW.val rfl rfl (by first | exact EX.subN (b := 1) (m := 9223372036854775807) rfl rfl rfl (by omega) | exact EX.subZ (m := 9223372036854775807) rfl rfl rfl rfl (by omega)) ?_
        refine OW.val rfl rfl (EX.assign rfl) ?_
        refine OW.nil ?_
        refine KW.seq ?_
        refine KW.region ?_
        refine OW.val rfl rfl (EX.move rfl) ?_
        refine OW.val rfl rfl (EX.move rfl) ?_
        refine OW.val rfl rfl (EX.indexS Tryz.underlying9 rfl rfl (List.getElem?_eq_getElem (by omega))) ?_
        refine OW.val rfl rfl (by first | exact EX.eqlN (b := 47) rfl rfl | exact EX.eqlZ rfl rfl) ?_
        refine OW.val rfl rfl (EX.move rfl) ?_
        refine OW.splitD 26 rfl (fun d1 => ?_) (fun d1 => ?_)
        · refine OW.val rfl rfl (EX.move rfl) ?_
          refine OW.val rfl rfl (by first | exact EX.geqN (b := 1) rfl rfl | exact EX.geqZ rfl rfl) ?_
          refine OW.val rfl rfl (EX.pickT rfl rfl) ?_
          refine OW.val rfl rfl (EX.move rfl) ?_
          refine OW.splitD 30 rfl (fun d2 => ?_) (fun d2 => ?_)
          · refine OW.val rfl rfl (EX.move rfl) ?_
            refine OW.val rfl rfl (by first | exact EX.leqN (b := 155) rfl rfl | exact EX.leqZ rfl rfl) ?_
            refine OW.val rfl rfl (EX.pickT rfl rfl) ?_
            refine OW.val rfl rfl (EX.move rfl) ?_
            refine OW.splitD 34 rfl (fun d3 => ?_) (fun d3 => ?_)
            · refine OW.val rfl rfl (EX.move rfl) ?_
              refine OW.val rfl rfl (by first | exact EX.geqN (b := 1) rfl rfl | exact EX.geqZ rfl rfl) ?_
              refine OW.val rfl rfl (EX.pickT rfl rfl) ?_
              refine OW.val rfl rfl (EX.move rfl) ?_
              refine OW.splitD 38 rfl (fun d4 => ?_) (fun d4 => ?_)
              · refine OW.val rfl rfl (EX.move rfl) ?_
                refine OW.val rfl rfl (by first | exact EX.leqN (b := 100) rfl rfl | exact EX.leqZ rfl rfl) ?_
                refine OW.val rfl rfl (EX.pickT rfl rfl) ?_
                refine OW.nil ?_
                refine KW.condD rfl (fun d5 => ?_) (fun d5 => ?_)
                · have hg : good p i := hga.2 ⟨d1, by omega, by omega, by omega, by omega⟩
                  refine KW.seq ?_
                  refine KW.regionQ (by kernel_rfl) (by kernel_rfl) ?_
                  refine QW.val rfl rfl (fun _ => EX.move rfl) ?_
                  refine QW.val rfl rfl (fun _ => EX.move rfl) ?_
                  refine QW.val rfl rfl (fun _ => EX.sliceFH Tryz.underlying9 rfl rfl (by omega)) ?_
                  refine QW.val rfl rfl (fun _ => EX.move rfl) ?_
                  refine QW.val rfl rfl (fun _ => EX.move rfl) ?_
                  refine QW.val rfl rfl (fun _ => by first | exact EX.addN (b := 1) (m := 9223372036854775807) rfl rfl rfl (by omega) | exact EX.addZ (m := 9223372036854775807) rfl rfl rfl rfl (by omega)) ?_
                  refine QW.val rfl rfl (fun _ => EX.sliceLE Tryz.underlying9 rfl rfl (by omega)) ?_
                  refine QW.val rfl rfl (fun _ => EX.assign rfl) ?_
                  refine QW.val rfl rfl (fun _ => EX.assign rfl) ?_
                  refine QW.val rfl rfl (fun _ => EX.assign rfl) ?_
                  refine QW.nil (fun nq => ?_)
                  refine KW.ret (ret3 rfl rfl rfl rfl ?_)
                  exact ⟨(p.take i, p.drop (i + 1), true), rfl, .inr (.inl ⟨by omega, i, hg, hn, rfl⟩), Ext.drewN _ _⟩
                · refine KW.skip (KW.leave (KW.region ?_))
                  refine OW.val rfl rfl (EX.move rfl) ?_
                  refine OW.val rfl rfl (by first | exact EX.addN (b := 1) (m := 9223372036854775807) rfl rfl rfl (by omega) | exact EX.addZ (m := 9223372036854775807) rfl rfl rfl rfl (by omega)) ?_
                  refine OW.val rfl rfl (EX.assign rfl) ?_
                  refine OW.nil ?_
                  refine KW.back1 (i + 1) ⟨rfl, rfl, trivial⟩ rfl ?_ (by omega)
                  exact ⟨by omega, step (fun h => by have := (hga.1 h).2; omega)⟩
              · refine OW.pass rfl rfl ?_
                refine OW.pass rfl rfl ?_
                refine OW.val rfl rfl (EX.pickF rfl rfl) ?_
                refine OW.nil ?_
                refine KW.condF rfl (KW.skip (KW.leave (KW.region ?_)))
                refine OW.val rfl rfl (EX.move rfl) ?_
                refine OW.val rfl rfl (by first | exact EX.addN (b := 1) (m := 9223372036854775807) rfl rfl rfl (by omega) | exact EX.addZ (m := 9223372036854775807) rfl rfl rfl rfl (by omega)) ?_
                refine OW.val rfl rfl (EX.assign rfl) ?_
                refine OW.nil ?_
                refine KW.back1 (i + 1) ⟨rfl, rfl, trivial⟩ rfl ?_ (by omega)
                exact ⟨by omega, step (fun h => by have := (hga.1 h).2; omega)⟩
            · refine OW.pass rfl rfl ?_
              refine OW.pass rfl rfl ?_
              refine OW.val rfl rfl (EX.pickF rfl rfl) ?_
              refine OW.val rfl rfl (EX.move rfl) ?_
              refine OW.pass rfl rfl ?_
              refine OW.pass rfl rfl ?_
              refine OW.val rfl rfl (EX.pickF rfl rfl) ?_
              refine OW.nil ?_
              refine KW.condF rfl (KW.skip (KW.leave (KW.region ?_)))
              refine OW.val rfl rfl (EX.move rfl) ?_
              refine OW.val rfl rfl (by first | exact EX.addN (b := 1) (m := 9223372036854775807) rfl rfl rfl (by omega) | exact EX.addZ (m := 9223372036854775807) rfl rfl rfl rfl (by omega)) ?_
              refine OW.val rfl rfl (EX.assign rfl) ?_
              refine OW.nil ?_
              refine KW.back1 (i + 1) ⟨rfl, rfl, trivial⟩ rfl ?_ (by omega)
              exact ⟨by omega, step (fun h => by have := (hga.1 h).2; omega)⟩
          · refine OW.pass rfl rfl ?_
            refine OW.pass rfl rfl ?_
            refine OW.val rfl rfl (EX.pickF rfl rfl) ?_
            refine OW.val rfl rfl (EX.move rfl) ?_
            refine OW.pass rfl rfl ?_
            refine OW.pass rfl rfl ?_
            refine OW.val rfl rfl (EX.pickF rfl rfl) ?_
            refine OW.val rfl rfl (EX.move rfl) ?_
            refine OW.pass rfl rfl ?_
            refine OW.pass rfl rfl ?_
            refine OW.val rfl rfl (EX.pickF rfl rfl) ?_
            refine OW.nil ?_
            refine KW.condF rfl (KW.skip (KW.leave (KW.region ?_)))
            refine OW.val rfl rfl (EX.move rfl) ?_
            refine OW.val rfl rfl (by first | exact EX.addN (b := 1) (m := 9223372036854775807) rfl rfl rfl (by omega) | exact EX.addZ (m := 9223372036854775807) rfl rfl rfl rfl (by omega)) ?_
            refine OW.val rfl rfl (EX.assign rfl) ?_
            refine OW.nil ?_
            refine KW.back1 (i + 1) ⟨rfl, rfl, trivial⟩ rfl ?_ (by omega)
            exact ⟨by omega, step (fun h => by have := (hga.1 h).2; omega)⟩
        · refine OW.pass rfl rfl ?_
          refine OW.pass rfl rfl ?_
          refine OW.val rfl rfl (EX.pickF rfl rfl) ?_
          refine OW.val rfl rfl (EX.move rfl) ?_
          refine OW.pass rfl rfl ?_
          refine OW.pass rfl rfl ?_
          refine OW.val rfl rfl (EX.pickF rfl rfl) ?_
          refine OW.val rfl rfl (EX.move rfl) ?_
          refine OW.pass rfl rfl ?_
          refine OW.pass rfl rfl ?_
          refine OW.val rfl rfl (EX.pickF rfl rfl) ?_
          refine OW.val rfl rfl (EX.move rfl) ?_
          refine OW.pass rfl rfl ?_
          refine OW.pass rfl rfl ?_
          refine OW.val rfl rfl (EX.pickF rfl rfl) ?_
          refine OW.nil ?_
          refine KW.condF rfl (KW.skip (KW.leave (KW.region ?_)))
          refine OW.val rfl rfl (EX.move rfl) ?_
          refine OW.val rfl rfl (by first | exact EX.addN (b := 1) (m := 9223372036854775807) rfl rfl rfl (by omega) | exact EX.addZ (m := 9223372036854775807) rfl rfl rfl rfl (by omega)) ?_
          refine OW.val rfl rfl (EX.assign rfl) ?_
          refine OW.nil ?_
          refine KW.back1 (i + 1) ⟨rfl, rfl, trivial⟩ rfl ?_ (by omega)
          exact ⟨by omega, step (fun h => d1 (hga.1 h).1)⟩
      · obtain rfl : i = p.length := by omega
        refine KW.exit rfl (KW.seq (KW.region ?_))
        refine OW.val rfl rfl (EX.assign rfl) ?_
        refine OW.val rfl rfl (EX.assign rfl) ?_
        refine OW.val rfl rfl (EX.assign rfl) ?_
        refine OW.nil ?_
        refine KW.ret (ret3 rfl rfl rfl rfl ?_)
        exact ⟨([], [], false), rfl, .inr (.inr ⟨by omega, fun j hg => by have := hg.2.2; exact hn j (by omega) hg, rfl⟩), Ext.refl _⟩
end Go.Proofs.YtjgeoeeikfjmdaaGreatDoor
/- ustar: headers are laid, by the program. -/
namespace Go.Proofs.YtjgeoeeikfjmdaaGreatDoor
set_option linter.unnecessarySimpa false
open Go.RowKit Fld Ust
set_option linter.unusedVariables false
set_option linter.unusedSimpArgs false

def _root_.Go.Proofs.YtjgeoeeikfjmdaaGreatDoor.Ust.Hd.cells (h : Hd) : List Value := [str h.path, .int .i64 h.size, .int .u8 (h.kind : Int), .int .i64 h.mode, .int .i64 h.time, str h.link, str h.n0, str h.n1, .int .i64 h.i0, .int .i64 h.i1]
def I64 (n : Int) : Prop := -9223372036854775808 ≤ n ∧ n ≤ 9223372036854775807
structure _root_.Go.Proofs.YtjgeoeeikfjmdaaGreatDoor.Ust.Hd.Ok (h : Hd) : Prop where
  kind : h.kind ≤ 255
  path : h.path.length ≤ 140737488351232
  link : h.link.length ≤ 140737488351232
  n0 : h.n0.length ≤ 140737488351232
  n1 : h.n1.length ≤ 140737488351232
  size : I64 h.size
  mode : I64 h.mode
  time : I64 h.time
  i0 : I64 h.i0
  i1 : I64 h.i1
/-! ### In plain words -/
theorem fieldT_ok {s : List UInt8} {n m : Nat} (h : mayT s m) (hm : m ≤ n) (hn : n ≤ 512) : fieldT s (n : Int) (m : Int) = (lay s n, 0) := by
  have h1 := h.1
  unfold fieldT
  rw [if_neg (by omega), text_yes (by omega) (by rw [not_or, Classical.not_not]; exact ⟨by omega, cut_none h.2⟩)]
  simp [lay]
theorem fieldT_no {s : List UInt8} {n m : Nat} (h : ¬ mayT s m) (hn : n ≤ 512) : (fieldT s (n : Int) (m : Int)).2 ≠ 0 := by
  unfold fieldT
  simp only
  split
  · decide
  · rename_i h1
    rw [text_no (by omega) (.inr fun e => h ⟨by omega, (cut_eq_iff s).1 e⟩)]
    decide
theorem octal_may {n : Int} {k : Nat} (hk : 1 ≤ k) (hk2 : k ≤ 19) {m : Int} (h : mayN n m) (hm : m < ((8 ^ k : Nat) : Int)) : octal n ((k + 1 : Nat) : Int) = (oc n k, 0) := by
  obtain ⟨a, rfl⟩ := Int.eq_ofNat_of_zero_le h.1
  have := div_zero h hm
  rw [octal_yes hk hk2 (by simpa using this)]
  rfl
theorem octal_not {n : Int} {k : Nat} (hk : 1 ≤ k) (hk2 : k ≤ 19) {m : Int} (h : ¬ mayN n m) (hm : m + 1 = ((8 ^ k : Nat) : Int)) : (octal n ((k + 1 : Nat) : Int)).2 ≠ 0 := by
  rw [octal_no hk hk2]
  · decide
  · by_cases h0 : n < 0
    · exact .inl h0
    · refine .inr fun hz => h ⟨by omega, ?_⟩
      obtain ⟨a, rfl⟩ := Int.eq_ofNat_of_zero_le (show 0 ≤ n by omega)
      have h2 : (((a / 8 ^ k : Nat)) : Int) = 0 := by simpa using hz
      have h3 : a / 8 ^ k = 0 := by exact_mod_cast h2
      have h4 : a < 8 ^ k := by
        rcases Nat.div_eq_zero_iff.1 h3 with h | h
        · exact absurd h (Nat.pos_iff_ne_zero.1 (Nat.pow_pos (by decide)))
        · exact h
      omega
def L1 (h : Hd) (name : List UInt8) : List Fd := [fieldT name 100 100, octal h.mode 8, octal h.i0 8, octal h.i1 8, octal h.size 12, octal h.time 12, fieldT [] 8 8]
def L2 (h : Hd) (pre : List UInt8) : List Fd := [([UInt8.ofNat h.kind], 0), fieldT h.link 100 100, (magic, 0), fieldT h.n0 32 31, fieldT h.n1 32 31, octal 0 8, octal 0 8, fieldT pre 155 155, fieldT [] 12 12]
theorem fieldT_nil (n : Nat) (h : n ≤ 512) : fieldT [] (n : Int) (n : Int) = (nul n, 0) := by
  rw [fieldT_ok (s := []) (n := n) (m := n) ⟨by simp, by simp⟩ (Nat.le_refl _) h]
  simp [lay]
theorem joinF_yes {h : Hd} (hm : May h) {pre name : List UInt8} (hn : name.length ≤ 100) (hp : pre.length ≤ 155) (zn : (0 : UInt8) ∉ name) (zp : (0 : UInt8) ∉ pre) :
    joinF (L1 h name) = ((headL h name).flatten ++ nul 8, true) ∧ joinF (L2 h pre) = ((tailL h pre).flatten, true) := by
  have a1 := fieldT_ok (s := name) (n := 100) (m := 100) ⟨hn, zn⟩ (by decide) (by decide)
  have a2 := octal_may (k := 7) (by decide) (by decide) hm.mode (by decide)
  have a3 := octal_may (k := 7) (by decide) (by decide) hm.i0 (by decide)
  have a4 := octal_may (k := 7) (by decide) (by decide) hm.i1 (by decide)
  have a5 := octal_may (k := 11) (by decide) (by decide) hm.size (by decide)
  have a6 := octal_may (k := 11) (by decide) (by decide) hm.time (by decide)
  have a7 := fieldT_nil 8 (by decide)
  have b1 := fieldT_ok (s := h.link) (n := 100) (m := 100) hm.link (by decide) (by decide)
  have b2 := fieldT_ok (s := h.n0) (n := 32) (m := 31) hm.n0 (by decide) (by decide)
  have b3 := fieldT_ok (s := h.n1) (n := 32) (m := 31) hm.n1 (by decide) (by decide)
  have b4 := octal_may (n := 0) (m := 0) (k := 7) (by decide) (by decide) ⟨by decide, by decide⟩ (by decide)
  have b5 := fieldT_ok (s := pre) (n := 155) (m := 155) ⟨hp, zp⟩ (by decide) (by decide)
  have b6 := fieldT_nil 12 (by decide)
  have e1 : L1 h name = [(lay name 100, 0), (oc h.mode 7, 0), (oc h.i0 7, 0), (oc h.i1 7, 0), (oc h.size 11, 0), (oc h.time 11, 0), (nul 8, 0)] := by
    rw [← a1, ← a2, ← a3, ← a4, ← a5, ← a6, ← a7]; rfl
  have e2 : L2 h pre = [([UInt8.ofNat h.kind], 0), (lay h.link 100, 0), (magic, 0), (lay h.n0 32, 0), (lay h.n1 32, 0), (oc 0 7, 0), (oc 0 7, 0), (lay pre 155, 0), (nul 12, 0)] := by
    rw [← b1, ← b2, ← b3, ← b4, ← b5, ← b6]; rfl
  constructor
  · rw [e1]
    unfold joinF
    rw [if_pos (by simp)]
    simp [headL]
  · rw [e2]
    unfold joinF
    rw [if_pos (by simp)]
    simp [tailL]
theorem joinF_two {l : List Fd} (h : (joinF l).2 = true) : ∀ f ∈ l, f.2 = 0 := by
  unfold joinF at h
  split at h
  · assumption
  · cases h
theorem joinF_no {h : Hd} {pre name : List UInt8} (hk : mayK h.kind) (hz : (0 : UInt8) ∉ h.path) (h1 : (joinF (L1 h name)).2 = true) (h2 : (joinF (L2 h pre)).2 = true) : May h := by
  have g1 := joinF_two h1
  have g2 := joinF_two h2
  have p : ∀ {n : Int} {k : Nat} {m : Int}, 1 ≤ k → k ≤ 19 → m + 1 = ((8 ^ k : Nat) : Int) → (octal n ((k + 1 : Nat) : Int)).2 = 0 → mayN n m := fun hk hk2 hm hz => Classical.byContradiction fun hn => octal_not hk hk2 hn hm hz
  have q : ∀ {s : List UInt8} {n m : Nat}, n ≤ 512 → (fieldT s (n : Int) (m : Int)).2 = 0 → mayT s m := fun hn hz => Classical.byContradiction fun h => fieldT_no h hn hz
  exact ⟨hk, hz, q (n := 100) (by decide) (g2 _ (by simp [L2])), q (n := 32) (by decide) (g2 (fieldT h.n0 32 31) (by simp [L2])), q (n := 32) (by decide) (g2 (fieldT h.n1 32 31) (by simp [L2])),
    p (k := 7) (by decide) (by decide) (by decide) (g1 (octal h.mode 8) (by simp [L1])), p (k := 7) (by decide) (by decide) (by decide) (g1 (octal h.i0 8) (by simp [L1])), p (k := 7) (by decide) (by decide) (by decide) (g1 (octal h.i1 8) (by simp [L1])),
    p (k := 11) (by decide) (by decide) (by decide) (g1 (octal h.size 12) (by simp [L1])), p (k := 11) (by decide) (by decide) (by decide) (g1 (octal h.time 12) (by simp [L1]))⟩
/-- what joined asks -/
structure FdOk (f : Fd) : Prop where
  ne : f.2 = 0 → f.1 ≠ []
  len : f.1.length ≤ 1000
theorem fdOk_text {s : List UInt8} {n : Nat} {m : Int} (h0 : 1 ≤ n) : FdOk (fieldT s (n : Int) m) := by
  refine ⟨fun h e => ?_, ?_⟩
  · unfold fieldT at h e
    simp only at h e
    split at h
    · exact absurd h (by decide)
    · have := (text_ok h).2
      rw [e] at this
      simp at this
      omega
  · have := text_len s n
    show (text s n).1.length ≤ 1000
    omega
theorem fdOk_octal (n : Int) (m : Nat) (hm : 2 ≤ m) : FdOk (octal n (m : Int)) := by
  refine ⟨fun h e => ?_, ?_⟩
  · unfold octal at h e
    split at h
    · exact absurd h (by decide)
    · rename_i h1
      rw [if_neg h1] at e
      split at h
      · exact absurd h (by decide)
      · rename_i h2
        rw [if_neg h2] at e
        simp at e
  · have := octal_len n m
    omega
theorem l1_ok (h : Hd) (name : List UInt8) : ∀ f ∈ L1 h name, FdOk f := by
  intro f hf
  simp only [L1, List.mem_cons, List.not_mem_nil, or_false] at hf
  rcases hf with rfl | rfl | rfl | rfl | rfl | rfl | rfl
  · exact fdOk_text (n := 100) (by decide)
  · exact fdOk_octal _ 8 (by decide)
  · exact fdOk_octal _ 8 (by decide)
  · exact fdOk_octal _ 8 (by decide)
  · exact fdOk_octal _ 12 (by decide)
  · exact fdOk_octal _ 12 (by decide)
  · exact fdOk_text (n := 8) (by decide)
theorem l2_ok (h : Hd) (pre : List UInt8) : ∀ f ∈ L2 h pre, FdOk f := by
  intro f hf
  simp only [L2, List.mem_cons, List.not_mem_nil, or_false] at hf
  rcases hf with rfl | rfl | rfl | rfl | rfl | rfl | rfl | rfl | rfl
  · exact ⟨fun _ => by simp, by simp⟩
  · exact fdOk_text (n := 100) (by decide)
  · exact ⟨fun _ => by decide, by decide⟩
  · exact fdOk_text (n := 32) (by decide)
  · exact fdOk_text (n := 32) (by decide)
  · exact fdOk_octal _ 8 (by decide)
  · exact fdOk_octal _ 8 (by decide)
  · exact fdOk_text (n := 155) (by decide)
  · exact fdOk_text (n := 12) (by decide)
theorem oneB {w : World} {b k : Nat} {T : TypeId} (h : Bk w b T [.int .u8 (k : Int)]) (hk : k ≤ 255) : Sl w w.heap.size (some ⟨b, 0, none⟩) (bytesV [UInt8.ofNat k]) := by
  have e : bytesV [UInt8.ofNat k] = [.int .u8 (k : Int)] := by
    have : (UInt8.ofNat k).toNat = k := by simp; omega
    simp [bytesV, this]
  rw [e]
  exact h.sl
/-! ### The library -/
theorem contains_c (c : Nat) (hc : c ≤ 255) (w : World) : Ret Tryz.prog 46 [str [48, 53, 120, 103], str [UInt8.ofNat c]] w fun v w' => v = .bool (decide (mayK c)) ∧ w = w' := by
  refine (Ret.of_calls Tryz.func46 (by kernel_rfl) (Tryz.strings_Contains_one ⟨#[48, 53, 120, 103]⟩ (UInt8.ofNat c) w)).mono ?_
  rintro v w' ⟨rfl, rfl⟩
  refine ⟨congrArg Value.bool (decide_eq_decide.2 ?_), rfl⟩
  have e : (UInt8.ofNat c).toNat = c := by simp; omega
  have key : UInt8.ofNat c ∈ ([48, 53, 120, 103] : List UInt8) ↔ mayK c := by
    unfold mayK
    simp only [List.mem_cons, List.not_mem_nil, or_false, ← UInt8.toNat_inj, e]
    rfl
  rcases indexByte_lt [48, 53, 120, 103] (UInt8.ofNat c) with ⟨h1, h2⟩ | ⟨i, h1, _, _, h2⟩
  · rw [show (⟨#[48, 53, 120, 103]⟩ : ByteArray).data.toList = [48, 53, 120, 103] from rfl, h1]
    exact ⟨fun h => absurd h (by decide), fun h => absurd (key.2 h) h2⟩
  · rw [show (⟨#[48, 53, 120, 103]⟩ : ByteArray).data.toList = [48, 53, 120, 103] from rfl, h1]
    exact ⟨fun _ => key.1 h2, fun _ => by omega⟩
set_option maxRecDepth 20000 in
theorem encode_s (h : Hd) (ho : h.Ok) (w : World) : Ret Tryz.prog 44 [.agg h.cells.toArray] w fun v w' => v = .tuple #[str (encH h).1, .int .i64 (((encH h).2 : Nat) : Int)] ∧ Ext w w' := by
  have hk := ho.kind
  have hpl := ho.path
  have q1 := ho.size
  have q2 := ho.mode
  have q3 := ho.time
  have q4 := ho.i0
  have q5 := ho.i1
  unfold I64 at q1 q2 q3 q4 q5
  refine Ret.enter Tryz.func44 rfl Tryz.ntmps44 (by kernel_rfl) rfl ?_
  refine KW.seq (KW.region ?_)
  refine OW.boxS rfl rfl rfl ?_
  rintro hb w0 hge0 hb0 hx0
  refine OW.val rfl rfl (EX.assign rfl) ?_
  refine OW.val rfl rfl (EX.assign rfl) ?_
  refine OW.nil ?_
  refine KW.seq (KW.region ?_)
  refine OW.val rfl rfl (EX.fieldAddr (off := 0) Tryz.underlying72 rfl rfl ti9 rfl rfl) ?_
  replace hb0 : Bk w0 hb 72 h.cells := hb0
  refine OW.val rfl rfl (EX.load Tryz.underlying9 rfl rfl (hb0.cell_of rfl)) ?_
  refine OW.call rfl rfl rfl (psplit_s h.path (by omega) w0) ?_
  rintro _ w1 ⟨r, rfl, hr, hx1⟩
  refine OW.val rfl rfl (EX.move rfl) ?_
  refine OW.val rfl rfl (EX.extract rfl rfl) ?_
  refine OW.val rfl rfl (EX.extract rfl rfl) ?_
  refine OW.val rfl rfl (EX.extract rfl rfl) ?_
  refine OW.val rfl rfl (EX.assign rfl) ?_
  refine OW.val rfl rfl (EX.assign rfl) ?_
  refine OW.val rfl rfl (EX.assign rfl) ?_
  refine OW.nil ?_
  refine KW.seq (KW.seq ?_)
  obtain rfl := split_val hr
  have x1 := hx0.trans hx1
  have hb1 := hb0.ext hx1
  rcases hs1 : (splitP h.path).2.2 with _ | _
  · skip
    have e : encH h = ([], 140) := by unfold encH; rw [if_pos (.inl hs1)]
    refine KW.region ?_
    refine OW.val rfl rfl (EX.move rfl) ?_
    refine OW.val rfl rfl (by first | exact EX.notD rfl | exact EX.notB rfl) ?_
    refine OW.val rfl rfl (EX.move rfl) ?_
    refine OW.pass rfl rfl ?_
    refine OW.pass rfl rfl ?_
    refine OW.pass rfl rfl ?_
    refine OW.val rfl rfl (EX.pickT rfl rfl) ?_
    refine OW.nil ?_
    refine KW.condT rfl (KW.seq (KW.region ?_))
    refine OW.val rfl rfl (EX.assign rfl) ?_
    refine OW.val rfl rfl (EX.assign rfl) ?_
    refine OW.nil ?_
    refine KW.ret (ret2 rfl rfl rfl ?_)
    rw [e]
    exact ⟨rfl, x1⟩
  · skip
    refine KW.region ?_
    refine OW.val rfl rfl (EX.move rfl) ?_
    refine OW.val rfl rfl (by first | exact EX.notD rfl | exact EX.notB rfl) ?_
    refine OW.val rfl rfl (EX.move rfl) ?_
    refine OW.val rfl rfl (EX.fieldAddr (off := 0) Tryz.underlying72 rfl rfl ti9 rfl rfl) ?_
    refine OW.val rfl rfl (EX.load Tryz.underlying9 rfl rfl (hb1.cell_of rfl)) ?_
    refine OW.val rfl rfl (EX.eqlS (r := []) rfl rfl) ?_
    refine OW.val rfl rfl (EX.pickF rfl rfl) ?_
    refine OW.nil ?_
    refine KW.condD rfl (fun hnil => ?_) (fun hnil => ?_)
    · have e : encH h = ([], 140) := by unfold encH; rw [if_pos (.inr hnil)]
      refine KW.seq (KW.region ?_)
      refine OW.val rfl rfl (EX.assign rfl) ?_
      refine OW.val rfl rfl (EX.assign rfl) ?_
      refine OW.nil ?_
      refine KW.ret (ret2 rfl rfl rfl ?_)
      rw [e]
      exact ⟨rfl, x1⟩
    · obtain ⟨p1, p2, p3, p4, p5, p6, p7⟩ := splitP_ok hs1 hnil
      have hno : ¬ ((splitP h.path).2.2 = false ∨ h.path = []) := by rw [hs1]; simp [hnil]
      have eno : ¬ May h → encH h = ([], 160) := fun hm => by unfold encH; rw [if_neg hno, if_neg hm]
      have eyes : May h → encH h = (hdText h, 0) := fun hm => by unfold encH; rw [if_neg hno, if_pos hm]
      refine KW.skip (KW.seq (KW.seq ?_))
      refine KW.region ?_
      refine OW.val rfl rfl (EX.fieldAddr (off := 2) Tryz.underlying72 rfl rfl ti5 rfl rfl) ?_
      refine OW.val rfl rfl (EX.load Tryz.underlying5 rfl rfl (hb1.cell_of rfl)) ?_
      refine OW.buildB 1 rfl rfl Tryz.underlying55 ti5 rfl rfl rfl rfl (by first | rfl | (simp only [List.all_cons, List.all_nil, Bool.and_true, Bool.and_eq_true]; assumption)) (by decide) ?_
      rintro kb w2 hge2 hk2 hx2
      have x2 := x1.trans hx2
      have hb2 := hb1.ext hx2
      refine OW.val rfl rfl (EX.strOf Tryz.underlying55 Tryz.underlying5 Tryz.underlying9 rfl (oneB hk2 hk) (rfl)) ?_
      refine OW.call rfl rfl rfl (contains_c h.kind hk w2) ?_
      rintro _ _ ⟨rfl, rfl⟩
      refine OW.val rfl rfl (by first | exact EX.notD rfl | exact EX.notB rfl) ?_
      refine OW.val rfl rfl (EX.move rfl) ?_
      refine OW.splitD 34 rfl (fun hmk => ?_) (fun hmk => ?_)
      · have hmk' : ¬ mayK h.kind := by simpa using hmk
        refine OW.pass rfl rfl ?_
        refine OW.pass rfl rfl ?_
        refine OW.pass rfl rfl ?_
        refine OW.pass rfl rfl ?_
        refine OW.val rfl rfl (EX.pickT rfl rfl) ?_
        refine OW.nil ?_
        refine KW.condT rfl (KW.seq (KW.region ?_))
        refine OW.val rfl rfl (EX.assign rfl) ?_
        refine OW.val rfl rfl (EX.assign rfl) ?_
        refine OW.nil ?_
        refine KW.ret (ret2 rfl rfl rfl ?_)
        rw [eno fun hm => hmk' hm.kind]
        exact ⟨rfl, x2⟩
      · have hmk' : mayK h.kind := by simpa using hmk
        refine OW.val rfl rfl (EX.fieldAddr (off := 0) Tryz.underlying72 rfl rfl ti9 rfl rfl) ?_
        refine OW.val rfl rfl (EX.load Tryz.underlying9 rfl rfl (hb2.cell_of rfl)) ?_
        refine OW.call rfl rfl rfl (indexByte0_c h.path w2) ?_
        rintro _ w3 ⟨rfl, rfl⟩
        refine OW.val rfl rfl (by first | exact EX.geqN (b := 0) rfl rfl | exact EX.geqZ rfl rfl) ?_
        refine OW.val rfl rfl (EX.pickF rfl rfl) ?_
        refine OW.nil ?_
        have hix := indexByte_lt h.path 0
        refine KW.condD rfl (fun hz => ?_) (fun hz => ?_)
        · have hz' : (0 : UInt8) ∈ h.path := by
            rcases hix with ⟨q, _⟩ | ⟨_, _, _, _, q⟩
            · omega
            · exact q
          refine KW.seq (KW.region ?_)
          refine OW.val rfl rfl (EX.assign rfl) ?_
          refine OW.val rfl rfl (EX.assign rfl) ?_
          refine OW.nil ?_
          refine KW.ret (ret2 rfl rfl rfl ?_)
          rw [eno fun hm => hm.path hz']
          exact ⟨rfl, x2⟩
        · have hz' : (0 : UInt8) ∉ h.path := by
            rcases hix with ⟨_, q⟩ | ⟨_, q, _⟩
            · exact q
            · omega
          have nl := l1_ok h (splitP h.path).2.1
          have nl2 := l2_ok h (splitP h.path).1
          refine KW.skip (KW.seq ?_)
          refine KW.cut1 (fun (wr : World) => Ext w wr ∧ Bk wr hb 72 h.cells) (fun (wr : World) => [(1, .pointer (some ⟨hb, 0, none⟩)), (4, str ((splitP h.path).1)), (7, str ((joinF (L1 h (splitP h.path).2.1)).1)), (6, .bool (joinF (L1 h (splitP h.path).2.1)).2)]) (fun (wr : World) => wr) ?_ ?_
          · skip
            refine KW.regionG (N := 27) (fun w' => Ext w w' ∧ Bk w' hb 72 h.cells) (by kernel_rfl) rfl ?_
            have hS : (fun w' => Ext w w' ∧ Bk w' hb 72 h.cells) w3.drew := ⟨x2.trans (Ext.drew w3), hb2.drew⟩
            refine GW.val 0 rfl (by kernel_rfl) (by kernel_rfl) (by kernel_rfl) rfl rfl hS (fun w' hS' => EX.move rfl) ?_
            refine GW.val 2 rfl (by kernel_rfl) (by kernel_rfl) (by kernel_rfl) rfl rfl hS (fun w' hS' => EX.fieldAddr (off := 3) Tryz.underlying72 rfl rfl ti3 rfl rfl) ?_
            refine GW.val 3 rfl (by kernel_rfl) (by kernel_rfl) (by kernel_rfl) rfl rfl hS (fun w' hS' => EX.load Tryz.underlying3 rfl rfl (hS'.2.cell_of rfl)) ?_
            refine GW.val 5 rfl (by kernel_rfl) (by kernel_rfl) (by kernel_rfl) rfl rfl hS (fun w' hS' => EX.fieldAddr (off := 8) Tryz.underlying72 rfl rfl ti70 rfl rfl) ?_
            refine GW.val 6 rfl (by kernel_rfl) (by kernel_rfl) (by kernel_rfl) rfl rfl hS (fun w' hS' => by first | exact EX.indexAddrA0 (i := 0) Tryz.underlying70 ti3 rfl rfl (by omega) | exact EX.indexAddrA1 (i := 0) Tryz.underlying70 ti3 rfl rfl (by omega)) ?_
            refine GW.val 7 rfl (by kernel_rfl) (by kernel_rfl) (by kernel_rfl) rfl rfl hS (fun w' hS' => EX.load Tryz.underlying3 rfl rfl (hS'.2.cell_of rfl)) ?_
            refine GW.val 9 rfl (by kernel_rfl) (by kernel_rfl) (by kernel_rfl) rfl rfl hS (fun w' hS' => EX.fieldAddr (off := 8) Tryz.underlying72 rfl rfl ti70 rfl rfl) ?_
            refine GW.val 10 rfl (by kernel_rfl) (by kernel_rfl) (by kernel_rfl) rfl rfl hS (fun w' hS' => by first | exact EX.indexAddrA0 (i := 1) Tryz.underlying70 ti3 rfl rfl (by omega) | exact EX.indexAddrA1 (i := 1) Tryz.underlying70 ti3 rfl rfl (by omega)) ?_
            refine GW.val 11 rfl (by kernel_rfl) (by kernel_rfl) (by kernel_rfl) rfl rfl hS (fun w' hS' => EX.load Tryz.underlying3 rfl rfl (hS'.2.cell_of rfl)) ?_
            refine GW.val 13 rfl (by kernel_rfl) (by kernel_rfl) (by kernel_rfl) rfl rfl hS (fun w' hS' => EX.fieldAddr (off := 1) Tryz.underlying72 rfl rfl ti3 rfl rfl) ?_
            refine GW.val 14 rfl (by kernel_rfl) (by kernel_rfl) (by kernel_rfl) rfl rfl hS (fun w' hS' => EX.load Tryz.underlying3 rfl rfl (hS'.2.cell_of rfl)) ?_
            refine GW.val 16 rfl (by kernel_rfl) (by kernel_rfl) (by kernel_rfl) rfl rfl hS (fun w' hS' => EX.fieldAddr (off := 4) Tryz.underlying72 rfl rfl ti3 rfl rfl) ?_
            refine GW.val 17 rfl (by kernel_rfl) (by kernel_rfl) (by kernel_rfl) rfl rfl hS (fun w' hS' => EX.load Tryz.underlying3 rfl rfl (hS'.2.cell_of rfl)) ?_
            refine GW.call 1 rfl (by kernel_rfl) rfl rfl rfl (utext_s (splitP h.path).2.1 (by omega) ((100 : Nat) : Int) (by decide) (by decide) ((100 : Nat) : Int) w3.drew) ?_
            rintro _ w1 ⟨rfl, hx1⟩
            refine ⟨⟨hS.1.trans hx1, hS.2.ext hx1⟩, fun hS => ?_⟩
            refine GW.call 4 rfl (by kernel_rfl) rfl rfl rfl (unumber_s h.mode q2.1 q2.2 ((8 : Nat) : Int) (by decide) (by decide) w1) ?_
            rintro _ w4 ⟨rfl, hx4⟩
            refine ⟨⟨hS.1.trans hx4, hS.2.ext hx4⟩, fun hS => ?_⟩
            refine GW.call 8 rfl (by kernel_rfl) rfl rfl rfl (unumber_s h.i0 q4.1 q4.2 ((8 : Nat) : Int) (by decide) (by decide) w4) ?_
            rintro _ w8 ⟨rfl, hx8⟩
            refine ⟨⟨hS.1.trans hx8, hS.2.ext hx8⟩, fun hS => ?_⟩
            refine GW.call 12 rfl (by kernel_rfl) rfl rfl rfl (unumber_s h.i1 q5.1 q5.2 ((8 : Nat) : Int) (by decide) (by decide) w8) ?_
            rintro _ w12 ⟨rfl, hx12⟩
            refine ⟨⟨hS.1.trans hx12, hS.2.ext hx12⟩, fun hS => ?_⟩
            refine GW.call 15 rfl (by kernel_rfl) rfl rfl rfl (unumber_s h.size q1.1 q1.2 ((12 : Nat) : Int) (by decide) (by decide) w12) ?_
            rintro _ w15 ⟨rfl, hx15⟩
            refine ⟨⟨hS.1.trans hx15, hS.2.ext hx15⟩, fun hS => ?_⟩
            refine GW.call 18 rfl (by kernel_rfl) rfl rfl rfl (unumber_s h.time q3.1 q3.2 ((12 : Nat) : Int) (by decide) (by decide) w15) ?_
            rintro _ w18 ⟨rfl, hx18⟩
            refine ⟨⟨hS.1.trans hx18, hS.2.ext hx18⟩, fun hS => ?_⟩
            refine GW.call 19 rfl (by kernel_rfl) rfl rfl rfl (utext_s [] (by simp) ((8 : Nat) : Int) (by decide) (by decide) ((8 : Nat) : Int) w18) ?_
            rintro _ w19 ⟨rfl, hx19⟩
            refine ⟨⟨hS.1.trans hx19, hS.2.ext hx19⟩, fun hS => ?_⟩
            refine GW.buildG 20 7 ((L1 h (splitP h.path).2.1).map fdV) rfl (by kernel_rfl) rfl rfl Tryz.underlying145 ti117 rfl (by decide) rfl rfl rfl (by first | (intro v hv; obtain ⟨f, hf, rfl⟩ := List.mem_map.1 hv; rfl) | simp) (by decide) ?_
            rintro sb w20 hge20 h20 hx20
            refine ⟨⟨hS.1.trans hx20, hS.2.ext hx20⟩, fun hS => ?_⟩
            refine GW.call 21 rfl (by kernel_rfl) rfl rfl rfl (joined_s (L1 h (splitP h.path).2.1) (fun f hf => (nl f hf).ne) (fun f hf => (nl f hf).len) (by simp [L1]) (some ⟨sb, 0, none⟩) 7 _ w20 (by have hh := h20.sl; rw [← List.flatMap_def] at hh; exact hh)) ?_
            rintro _ w21 ⟨rfl, hx21⟩
            refine ⟨⟨hS.1.trans hx21, hS.2.ext hx21⟩, fun hS => ?_⟩
            have h20 := h20.ext hx21
            refine GW.val 22 rfl (by kernel_rfl) (by kernel_rfl) (by kernel_rfl) rfl rfl hS (fun w' hS' => EX.move rfl) ?_
            refine GW.val 23 rfl (by kernel_rfl) (by kernel_rfl) (by kernel_rfl) rfl rfl hS (fun w' hS' => EX.extract rfl rfl) ?_
            refine GW.val 24 rfl (by kernel_rfl) (by kernel_rfl) (by kernel_rfl) rfl rfl hS (fun w' hS' => EX.extract rfl rfl) ?_
            refine GW.val 25 rfl (by kernel_rfl) (by kernel_rfl) (by kernel_rfl) rfl rfl hS (fun w' hS' => EX.assign rfl) ?_
            refine GW.val 26 rfl (by kernel_rfl) (by kernel_rfl) (by kernel_rfl) rfl rfl hS (fun w' hS' => EX.assign rfl) ?_
            refine GW.done (by kernel_rfl) ?_
            refine KW.meet1 w21 ⟨rfl, rfl, rfl, rfl, trivial⟩ rfl ?_
            exact hS
          · rintro wr ⟨xr, hbr⟩
            refine KW.seq ?_
            refine KW.cut1 (fun (wq : World) => Ext w wq) (fun (wq : World) => [(6, .bool (joinF (L1 h (splitP h.path).2.1)).2), (7, str ((joinF (L1 h (splitP h.path).2.1)).1)), (8, str ((joinF (L2 h (splitP h.path).1)).1)), (9, .bool (joinF (L2 h (splitP h.path).1)).2)]) (fun (wq : World) => wq) ?_ ?_
            · skip
              refine KW.regionG (N := 29) (fun w' => Ext w w' ∧ Bk w' hb 72 h.cells) (by kernel_rfl) rfl ?_
              have hS : (fun w' => Ext w w' ∧ Bk w' hb 72 h.cells) wr.drew := ⟨xr.trans (Ext.drew wr), hbr.drew⟩
              refine GW.val 0 rfl (by kernel_rfl) (by kernel_rfl) (by kernel_rfl) rfl rfl hS (fun w' hS' => EX.fieldAddr (off := 2) Tryz.underlying72 rfl rfl ti5 rfl rfl) ?_
              refine GW.val 1 rfl (by kernel_rfl) (by kernel_rfl) (by kernel_rfl) rfl rfl hS (fun w' hS' => EX.load Tryz.underlying5 rfl rfl (hS'.2.cell_of rfl)) ?_
              refine GW.val 5 rfl (by kernel_rfl) (by kernel_rfl) (by kernel_rfl) rfl rfl hS (fun w' hS' => EX.fieldAddr (off := 5) Tryz.underlying72 rfl rfl ti9 rfl rfl) ?_
              refine GW.val 6 rfl (by kernel_rfl) (by kernel_rfl) (by kernel_rfl) rfl rfl hS (fun w' hS' => EX.load Tryz.underlying9 rfl rfl (hS'.2.cell_of rfl)) ?_
              refine GW.val 8 rfl (by kernel_rfl) (by kernel_rfl) (by kernel_rfl) rfl rfl hS (fun w' hS' => EX.buildS (pl := [(0, 1), (1, 1)]) (ks := [0]) (is := [0]) (zs := [str [], .int .i64 0]) Tryz.underlying117 ti117 (by kernel_rfl) rfl rfl rfl (by first | rfl | (simp only [List.all_cons, List.all_nil, Bool.and_true, Bool.true_and, Bool.and_eq_true, Value.oneCell']; repeat (first | assumption | exact Own.one (by assumption) | constructor))) (by simp only [setAll, List.set_cons_zero, List.set_cons_succ]; rfl)) ?_
              refine GW.val 9 rfl (by kernel_rfl) (by kernel_rfl) (by kernel_rfl) rfl rfl hS (fun w' hS' => EX.fieldAddr (off := 6) Tryz.underlying72 rfl rfl ti69 rfl rfl) ?_
              refine GW.val 10 rfl (by kernel_rfl) (by kernel_rfl) (by kernel_rfl) rfl rfl hS (fun w' hS' => by first | exact EX.indexAddrA0 (i := 0) Tryz.underlying69 ti9 rfl rfl (by omega) | exact EX.indexAddrA1 (i := 0) Tryz.underlying69 ti9 rfl rfl (by omega)) ?_
              refine GW.val 11 rfl (by kernel_rfl) (by kernel_rfl) (by kernel_rfl) rfl rfl hS (fun w' hS' => EX.load Tryz.underlying9 rfl rfl (hS'.2.cell_of rfl)) ?_
              refine GW.val 13 rfl (by kernel_rfl) (by kernel_rfl) (by kernel_rfl) rfl rfl hS (fun w' hS' => EX.fieldAddr (off := 6) Tryz.underlying72 rfl rfl ti69 rfl rfl) ?_
              refine GW.val 14 rfl (by kernel_rfl) (by kernel_rfl) (by kernel_rfl) rfl rfl hS (fun w' hS' => by first | exact EX.indexAddrA0 (i := 1) Tryz.underlying69 ti9 rfl rfl (by omega) | exact EX.indexAddrA1 (i := 1) Tryz.underlying69 ti9 rfl rfl (by omega)) ?_
              refine GW.val 15 rfl (by kernel_rfl) (by kernel_rfl) (by kernel_rfl) rfl rfl hS (fun w' hS' => EX.load Tryz.underlying9 rfl rfl (hS'.2.cell_of rfl)) ?_
              refine GW.val 19 rfl (by kernel_rfl) (by kernel_rfl) (by kernel_rfl) rfl rfl hS (fun w' hS' => EX.move rfl) ?_
              refine GW.two 2 7 (by kernel_rfl) ?_ ?_
              · refine GO.buildB 2 1 rfl rfl rfl Tryz.underlying55 ti5 rfl rfl rfl rfl rfl (by decide) ?_
                rintro gb w2 hge2 h2 hx2
                refine ⟨⟨hS.1.trans hx2, hS.2.ext hx2⟩, fun hS => ?_⟩
                refine GW.strong (fun w' => Ext w w' ∧ Bk w' hb 72 h.cells ∧ Bk w' gb 5 [.int .u8 (h.kind : Int)]) (fun _ h => ⟨h.1, h.2.1⟩) ?_
                replace hS := (⟨hS.1, hS.2, h2⟩ : (fun w' => Ext w w' ∧ Bk w' hb 72 h.cells ∧ Bk w' gb 5 [.int .u8 (h.kind : Int)]) w2)
                refine GW.val 3 rfl (by kernel_rfl) (by kernel_rfl) (by kernel_rfl) rfl rfl hS (fun w' hS' => EX.strOf Tryz.underlying55 Tryz.underlying5 Tryz.underlying9 rfl (oneB hS'.2.2 hk) rfl) ?_
                refine GW.val 4 rfl (by kernel_rfl) (by kernel_rfl) (by kernel_rfl) rfl rfl hS (fun w' hS' => EX.buildS (pl := [(0, 1), (1, 1)]) (ks := [0]) (is := [0]) (zs := [str [], .int .i64 0]) Tryz.underlying117 ti117 (by kernel_rfl) rfl rfl rfl (by first | rfl | (simp only [List.all_cons, List.all_nil, Bool.and_true, Bool.true_and, Bool.and_eq_true, Value.oneCell']; repeat (first | assumption | exact Own.one (by assumption) | constructor))) (by simp only [setAll, List.set_cons_zero, List.set_cons_succ]; rfl)) ?_
                refine GW.call 7 rfl (by kernel_rfl) rfl rfl rfl (utext_s h.link (by have := ho.link; omega) ((100 : Nat) : Int) (by decide) (by decide) ((100 : Nat) : Int) w2) ?_
                rintro _ w7 ⟨rfl, hx7⟩
                refine ⟨⟨hS.1.trans hx7, hS.2.1.ext hx7, hS.2.2.ext hx7⟩, fun hS => ?_⟩
                refine GW.call 12 rfl (by kernel_rfl) rfl rfl rfl (utext_s h.n0 (by have := ho.n0; omega) ((32 : Nat) : Int) (by decide) (by decide) ((31 : Nat) : Int) w7) ?_
                rintro _ w12 ⟨rfl, hx12⟩
                refine ⟨⟨hS.1.trans hx12, hS.2.1.ext hx12, hS.2.2.ext hx12⟩, fun hS => ?_⟩
                refine GW.call 16 rfl (by kernel_rfl) rfl rfl rfl (utext_s h.n1 (by have := ho.n1; omega) ((32 : Nat) : Int) (by decide) (by decide) ((31 : Nat) : Int) w12) ?_
                rintro _ w16 ⟨rfl, hx16⟩
                refine ⟨⟨hS.1.trans hx16, hS.2.1.ext hx16, hS.2.2.ext hx16⟩, fun hS => ?_⟩
                refine GW.call 17 rfl (by kernel_rfl) rfl rfl rfl (unumber_s 0 (by decide) (by decide) ((8 : Nat) : Int) (by decide) (by decide) w16) ?_
                rintro _ w17 ⟨rfl, hx17⟩
                refine ⟨⟨hS.1.trans hx17, hS.2.1.ext hx17, hS.2.2.ext hx17⟩, fun hS => ?_⟩
                refine GW.call 18 rfl (by kernel_rfl) rfl rfl rfl (unumber_s 0 (by decide) (by decide) ((8 : Nat) : Int) (by decide) (by decide) w17) ?_
                rintro _ w18 ⟨rfl, hx18⟩
                refine ⟨⟨hS.1.trans hx18, hS.2.1.ext hx18, hS.2.2.ext hx18⟩, fun hS => ?_⟩
                refine GW.call 20 rfl (by kernel_rfl) rfl rfl rfl (utext_s (splitP h.path).1 (by omega) ((155 : Nat) : Int) (by decide) (by decide) ((155 : Nat) : Int) w18) ?_
                rintro _ w20 ⟨rfl, hx20⟩
                refine ⟨⟨hS.1.trans hx20, hS.2.1.ext hx20, hS.2.2.ext hx20⟩, fun hS => ?_⟩
                refine GW.call 21 rfl (by kernel_rfl) rfl rfl rfl (utext_s [] (by simp) ((12 : Nat) : Int) (by decide) (by decide) ((12 : Nat) : Int) w20) ?_
                rintro _ w21 ⟨rfl, hx21⟩
                refine ⟨⟨hS.1.trans hx21, hS.2.1.ext hx21, hS.2.2.ext hx21⟩, fun hS => ?_⟩
                refine GW.buildG 22 9 ((L2 h (splitP h.path).1).map fdV) rfl (by kernel_rfl) rfl rfl Tryz.underlying145 ti117 rfl (by decide) rfl rfl rfl (by first | (intro v hv; obtain ⟨f, hf, rfl⟩ := List.mem_map.1 hv; rfl) | simp) (by decide) ?_
                rintro sb w22 hge22 h22 hx22
                refine ⟨⟨hS.1.trans hx22, hS.2.1.ext hx22, hS.2.2.ext hx22⟩, fun hS => ?_⟩
                refine GW.call 23 rfl (by kernel_rfl) rfl rfl rfl (joined_s (L2 h (splitP h.path).1) (fun f hf => (nl2 f hf).ne) (fun f hf => (nl2 f hf).len) (by simp [L2]) (some ⟨sb, 0, none⟩) 9 _ w22 (by have hh := h22.sl; rw [← List.flatMap_def] at hh; exact hh)) ?_
                rintro _ w23 ⟨rfl, hx23⟩
                refine ⟨⟨hS.1.trans hx23, hS.2.1.ext hx23, hS.2.2.ext hx23⟩, fun hS => ?_⟩
                have h22 := h22.ext hx23
                refine GW.val 24 rfl (by kernel_rfl) (by kernel_rfl) (by kernel_rfl) rfl rfl hS (fun w' hS' => EX.move rfl) ?_
                refine GW.val 25 rfl (by kernel_rfl) (by kernel_rfl) (by kernel_rfl) rfl rfl hS (fun w' hS' => EX.extract rfl rfl) ?_
                refine GW.val 26 rfl (by kernel_rfl) (by kernel_rfl) (by kernel_rfl) rfl rfl hS (fun w' hS' => EX.extract rfl rfl) ?_
                refine GW.val 27 rfl (by kernel_rfl) (by kernel_rfl) (by kernel_rfl) rfl rfl hS (fun w' hS' => EX.assign rfl) ?_
                refine GW.val 28 rfl (by kernel_rfl) (by kernel_rfl) (by kernel_rfl) rfl rfl hS (fun w' hS' => EX.assign rfl) ?_
                refine GW.done (by kernel_rfl) ?_
                refine KW.meet1 w23 ⟨rfl, rfl, rfl, rfl, trivial⟩ rfl ?_
                exact hS.1
              · refine GO.call 7 rfl rfl rfl rfl (utext_s h.link (by have := ho.link; omega) ((100 : Nat) : Int) (by decide) (by decide) ((100 : Nat) : Int) wr.drew) ?_
                rintro _ w7 ⟨rfl, hx7⟩
                refine ⟨⟨hS.1.trans hx7, hS.2.ext hx7⟩, fun hS => ?_⟩
                refine GW.two 2 12 (by kernel_rfl) ?_ ?_
                · refine GO.buildB 2 1 rfl rfl rfl Tryz.underlying55 ti5 rfl rfl rfl rfl rfl (by decide) ?_
                  rintro gb w2 hge2 h2 hx2
                  refine ⟨⟨hS.1.trans hx2, hS.2.ext hx2⟩, fun hS => ?_⟩
                  refine GW.strong (fun w' => Ext w w' ∧ Bk w' hb 72 h.cells ∧ Bk w' gb 5 [.int .u8 (h.kind : Int)]) (fun _ h => ⟨h.1, h.2.1⟩) ?_
                  replace hS := (⟨hS.1, hS.2, h2⟩ : (fun w' => Ext w w' ∧ Bk w' hb 72 h.cells ∧ Bk w' gb 5 [.int .u8 (h.kind : Int)]) w2)
                  refine GW.val 3 rfl (by kernel_rfl) (by kernel_rfl) (by kernel_rfl) rfl rfl hS (fun w' hS' => EX.strOf Tryz.underlying55 Tryz.underlying5 Tryz.underlying9 rfl (oneB hS'.2.2 hk) rfl) ?_
                  refine GW.val 4 rfl (by kernel_rfl) (by kernel_rfl) (by kernel_rfl) rfl rfl hS (fun w' hS' => EX.buildS (pl := [(0, 1), (1, 1)]) (ks := [0]) (is := [0]) (zs := [str [], .int .i64 0]) Tryz.underlying117 ti117 (by kernel_rfl) rfl rfl rfl (by first | rfl | (simp only [List.all_cons, List.all_nil, Bool.and_true, Bool.true_and, Bool.and_eq_true, Value.oneCell']; repeat (first | assumption | exact Own.one (by assumption) | constructor))) (by simp only [setAll, List.set_cons_zero, List.set_cons_succ]; rfl)) ?_
                  refine GW.call 12 rfl (by kernel_rfl) rfl rfl rfl (utext_s h.n0 (by have := ho.n0; omega) ((32 : Nat) : Int) (by decide) (by decide) ((31 : Nat) : Int) w2) ?_
                  rintro _ w12 ⟨rfl, hx12⟩
                  refine ⟨⟨hS.1.trans hx12, hS.2.1.ext hx12, hS.2.2.ext hx12⟩, fun hS => ?_⟩
                  refine GW.call 16 rfl (by kernel_rfl) rfl rfl rfl (utext_s h.n1 (by have := ho.n1; omega) ((32 : Nat) : Int) (by decide) (by decide) ((31 : Nat) : Int) w12) ?_
                  rintro _ w16 ⟨rfl, hx16⟩
                  refine ⟨⟨hS.1.trans hx16, hS.2.1.ext hx16, hS.2.2.ext hx16⟩, fun hS => ?_⟩
                  refine GW.call 17 rfl (by kernel_rfl) rfl rfl rfl (unumber_s 0 (by decide) (by decide) ((8 : Nat) : Int) (by decide) (by decide) w16) ?_
                  rintro _ w17 ⟨rfl, hx17⟩
                  refine ⟨⟨hS.1.trans hx17, hS.2.1.ext hx17, hS.2.2.ext hx17⟩, fun hS => ?_⟩
                  refine GW.call 18 rfl (by kernel_rfl) rfl rfl rfl (unumber_s 0 (by decide) (by decide) ((8 : Nat) : Int) (by decide) (by decide) w17) ?_
                  rintro _ w18 ⟨rfl, hx18⟩
                  refine ⟨⟨hS.1.trans hx18, hS.2.1.ext hx18, hS.2.2.ext hx18⟩, fun hS => ?_⟩
                  refine GW.call 20 rfl (by kernel_rfl) rfl rfl rfl (utext_s (splitP h.path).1 (by omega) ((155 : Nat) : Int) (by decide) (by decide) ((155 : Nat) : Int) w18) ?_
                  rintro _ w20 ⟨rfl, hx20⟩
                  refine ⟨⟨hS.1.trans hx20, hS.2.1.ext hx20, hS.2.2.ext hx20⟩, fun hS => ?_⟩
                  refine GW.call 21 rfl (by kernel_rfl) rfl rfl rfl (utext_s [] (by simp) ((12 : Nat) : Int) (by decide) (by decide) ((12 : Nat) : Int) w20) ?_
                  rintro _ w21 ⟨rfl, hx21⟩
                  refine ⟨⟨hS.1.trans hx21, hS.2.1.ext hx21, hS.2.2.ext hx21⟩, fun hS => ?_⟩
                  refine GW.buildG 22 9 ((L2 h (splitP h.path).1).map fdV) rfl (by kernel_rfl) rfl rfl Tryz.underlying145 ti117 rfl (by decide) rfl rfl rfl (by first | (intro v hv; obtain ⟨f, hf, rfl⟩ := List.mem_map.1 hv; rfl) | simp) (by decide) ?_
                  rintro sb w22 hge22 h22 hx22
                  refine ⟨⟨hS.1.trans hx22, hS.2.1.ext hx22, hS.2.2.ext hx22⟩, fun hS => ?_⟩
                  refine GW.call 23 rfl (by kernel_rfl) rfl rfl rfl (joined_s (L2 h (splitP h.path).1) (fun f hf => (nl2 f hf).ne) (fun f hf => (nl2 f hf).len) (by simp [L2]) (some ⟨sb, 0, none⟩) 9 _ w22 (by have hh := h22.sl; rw [← List.flatMap_def] at hh; exact hh)) ?_
                  rintro _ w23 ⟨rfl, hx23⟩
                  refine ⟨⟨hS.1.trans hx23, hS.2.1.ext hx23, hS.2.2.ext hx23⟩, fun hS => ?_⟩
                  have h22 := h22.ext hx23
                  refine GW.val 24 rfl (by kernel_rfl) (by kernel_rfl) (by kernel_rfl) rfl rfl hS (fun w' hS' => EX.move rfl) ?_
                  refine GW.val 25 rfl (by kernel_rfl) (by kernel_rfl) (by kernel_rfl) rfl rfl hS (fun w' hS' => EX.extract rfl rfl) ?_
                  refine GW.val 26 rfl (by kernel_rfl) (by kernel_rfl) (by kernel_rfl) rfl rfl hS (fun w' hS' => EX.extract rfl rfl) ?_
                  refine GW.val 27 rfl (by kernel_rfl) (by kernel_rfl) (by kernel_rfl) rfl rfl hS (fun w' hS' => EX.assign rfl) ?_
                  refine GW.val 28 rfl (by kernel_rfl) (by kernel_rfl) (by kernel_rfl) rfl rfl hS (fun w' hS' => EX.assign rfl) ?_
                  refine GW.done (by kernel_rfl) ?_
                  refine KW.meet1 w23 ⟨rfl, rfl, rfl, rfl, trivial⟩ rfl ?_
                  exact hS.1
                · refine GO.call 12 rfl rfl rfl rfl (utext_s h.n0 (by have := ho.n0; omega) ((32 : Nat) : Int) (by decide) (by decide) ((31 : Nat) : Int) w7) ?_
                  rintro _ w12 ⟨rfl, hx12⟩
                  refine ⟨⟨hS.1.trans hx12, hS.2.ext hx12⟩, fun hS => ?_⟩
                  refine GW.two 2 16 (by kernel_rfl) ?_ ?_
                  · refine GO.buildB 2 1 rfl rfl rfl Tryz.underlying55 ti5 rfl rfl rfl rfl rfl (by decide) ?_
                    rintro gb w2 hge2 h2 hx2
                    refine ⟨⟨hS.1.trans hx2, hS.2.ext hx2⟩, fun hS => ?_⟩
                    refine GW.strong (fun w' => Ext w w' ∧ Bk w' hb 72 h.cells ∧ Bk w' gb 5 [.int .u8 (h.kind : Int)]) (fun _ h => ⟨h.1, h.2.1⟩) ?_
                    replace hS := (⟨hS.1, hS.2, h2⟩ : (fun w' => Ext w w' ∧ Bk w' hb 72 h.cells ∧ Bk w' gb 5 [.int .u8 (h.kind : Int)]) w2)
                    refine GW.val 3 rfl (by kernel_rfl) (by kernel_rfl) (by kernel_rfl) rfl rfl hS (fun w' hS' => EX.strOf Tryz.underlying55 Tryz.underlying5 Tryz.underlying9 rfl (oneB hS'.2.2 hk) rfl) ?_
                    refine GW.val 4 rfl (by kernel_rfl) (by kernel_rfl) (by kernel_rfl) rfl rfl hS (fun w' hS' => EX.buildS (pl := [(0, 1), (1, 1)]) (ks := [0]) (is := [0]) (zs := [str [], .int .i64 0]) Tryz.underlying117 ti117 (by kernel_rfl) rfl rfl rfl (by first | rfl | (simp only [List.all_cons, List.all_nil, Bool.and_true, Bool.true_and, Bool.and_eq_true, Value.oneCell']; repeat (first | assumption | exact Own.one (by assumption) | constructor))) (by simp only [setAll, List.set_cons_zero, List.set_cons_succ]; rfl)) ?_
                    refine GW.call 16 rfl (by kernel_rfl) rfl rfl rfl (utext_s h.n1 (by have := ho.n1; omega) ((32 : Nat) : Int) (by decide) (by decide) ((31 : Nat) : Int) w2) ?_
                    rintro _ w16 ⟨rfl, hx16⟩
                    refine ⟨⟨hS.1.trans hx16, hS.2.1.ext hx16, hS.2.2.ext hx16⟩, fun hS => ?_⟩
                    refine GW.call 17 rfl (by kernel_rfl) rfl rfl rfl (unumber_s 0 (by decide) (by decide) ((8 : Nat) : Int) (by decide) (by decide) w16) ?_
                    rintro _ w17 ⟨rfl, hx17⟩
                    refine ⟨⟨hS.1.trans hx17, hS.2.1.ext hx17, hS.2.2.ext hx17⟩, fun hS => ?_⟩
                    refine GW.call 18 rfl (by kernel_rfl) rfl rfl rfl (unumber_s 0 (by decide) (by decide) ((8 : Nat) : Int) (by decide) (by decide) w17) ?_
                    rintro _ w18 ⟨rfl, hx18⟩
                    refine ⟨⟨hS.1.trans hx18, hS.2.1.ext hx18, hS.2.2.ext hx18⟩, fun hS => ?_⟩
                    refine GW.call 20 rfl (by kernel_rfl) rfl rfl rfl (utext_s (splitP h.path).1 (by omega) ((155 : Nat) : Int) (by decide) (by decide) ((155 : Nat) : Int) w18) ?_
                    rintro _ w20 ⟨rfl, hx20⟩
                    refine ⟨⟨hS.1.trans hx20, hS.2.1.ext hx20, hS.2.2.ext hx20⟩, fun hS => ?_⟩
                    refine GW.call 21 rfl (by kernel_rfl) rfl rfl rfl (utext_s [] (by simp) ((12 : Nat) : Int) (by decide) (by decide) ((12 : Nat) : Int) w20) ?_
                    rintro _ w21 ⟨rfl, hx21⟩
                    refine ⟨⟨hS.1.trans hx21, hS.2.1.ext hx21, hS.2.2.ext hx21⟩, fun hS => ?_⟩
                    refine GW.buildG 22 9 ((L2 h (splitP h.path).1).map fdV) rfl (by kernel_rfl) rfl rfl Tryz.underlying145 ti117 rfl (by decide) rfl rfl rfl (by first | (intro v hv; obtain ⟨f, hf, rfl⟩ := List.mem_map.1 hv; rfl) | simp) (by decide) ?_
                    rintro sb w22 hge22 h22 hx22
                    refine ⟨⟨hS.1.trans hx22, hS.2.1.ext hx22, hS.2.2.ext hx22⟩, fun hS => ?_⟩
                    refine GW.call 23 rfl (by kernel_rfl) rfl rfl rfl (joined_s (L2 h (splitP h.path).1) (fun f hf => (nl2 f hf).ne) (fun f hf => (nl2 f hf).len) (by simp [L2]) (some ⟨sb, 0, none⟩) 9 _ w22 (by have hh := h22.sl; rw [← List.flatMap_def] at hh; exact hh)) ?_
                    rintro _ w23 ⟨rfl, hx23⟩
                    refine ⟨⟨hS.1.trans hx23, hS.2.1.ext hx23, hS.2.2.ext hx23⟩, fun hS => ?_⟩
                    have h22 := h22.ext hx23
                    refine GW.val 24 rfl (by kernel_rfl) (by kernel_rfl) (by kernel_rfl) rfl rfl hS (fun w' hS' => EX.move rfl) ?_
                    refine GW.val 25 rfl (by kernel_rfl) (by kernel_rfl) (by kernel_rfl) rfl rfl hS (fun w' hS' => EX.extract rfl rfl) ?_
                    refine GW.val 26 rfl (by kernel_rfl) (by kernel_rfl) (by kernel_rfl) rfl rfl hS (fun w' hS' => EX.extract rfl rfl) ?_
                    refine GW.val 27 rfl (by kernel_rfl) (by kernel_rfl) (by kernel_rfl) rfl rfl hS (fun w' hS' => EX.assign rfl) ?_
                    refine GW.val 28 rfl (by kernel_rfl) (by kernel_rfl) (by kernel_rfl) rfl rfl hS (fun w' hS' => EX.assign rfl) ?_
                    refine GW.done (by kernel_rfl) ?_
                    refine KW.meet1 w23 ⟨rfl, rfl, rfl, rfl, trivial⟩ rfl ?_
                    exact hS.1
                  · refine GO.call 16 rfl rfl rfl rfl (utext_s h.n1 (by have := ho.n1; omega) ((32 : Nat) : Int) (by decide) (by decide) ((31 : Nat) : Int) w12) ?_
                    rintro _ w16 ⟨rfl, hx16⟩
                    refine ⟨⟨hS.1.trans hx16, hS.2.ext hx16⟩, fun hS => ?_⟩
                    refine GW.two 2 17 (by kernel_rfl) ?_ ?_
                    · refine GO.buildB 2 1 rfl rfl rfl Tryz.underlying55 ti5 rfl rfl rfl rfl rfl (by decide) ?_
                      rintro gb w2 hge2 h2 hx2
                      refine ⟨⟨hS.1.trans hx2, hS.2.ext hx2⟩, fun hS => ?_⟩
                      refine GW.strong (fun w' => Ext w w' ∧ Bk w' hb 72 h.cells ∧ Bk w' gb 5 [.int .u8 (h.kind : Int)]) (fun _ h => ⟨h.1, h.2.1⟩) ?_
                      replace hS := (⟨hS.1, hS.2, h2⟩ : (fun w' => Ext w w' ∧ Bk w' hb 72 h.cells ∧ Bk w' gb 5 [.int .u8 (h.kind : Int)]) w2)
                      refine GW.val 3 rfl (by kernel_rfl) (by kernel_rfl) (by kernel_rfl) rfl rfl hS (fun w' hS' => EX.strOf Tryz.underlying55 Tryz.underlying5 Tryz.underlying9 rfl (oneB hS'.2.2 hk) rfl) ?_
                      refine GW.val 4 rfl (by kernel_rfl) (by kernel_rfl) (by kernel_rfl) rfl rfl hS (fun w' hS' => EX.buildS (pl := [(0, 1), (1, 1)]) (ks := [0]) (is := [0]) (zs := [str [], .int .i64 0]) Tryz.underlying117 ti117 (by kernel_rfl) rfl rfl rfl (by first | rfl | (simp only [List.all_cons, List.all_nil, Bool.and_true, Bool.true_and, Bool.and_eq_true, Value.oneCell']; repeat (first | assumption | exact Own.one (by assumption) | constructor))) (by simp only [setAll, List.set_cons_zero, List.set_cons_succ]; rfl)) ?_
                      refine GW.call 17 rfl (by kernel_rfl) rfl rfl rfl (unumber_s 0 (by decide) (by decide) ((8 : Nat) : Int) (by decide) (by decide) w2) ?_
                      rintro _ w17 ⟨rfl, hx17⟩
                      refine ⟨⟨hS.1.trans hx17, hS.2.1.ext hx17, hS.2.2.ext hx17⟩, fun hS => ?_⟩
                      refine GW.call 18 rfl (by kernel_rfl) rfl rfl rfl (unumber_s 0 (by decide) (by decide) ((8 : Nat) : Int) (by decide) (by decide) w17) ?_
                      rintro _ w18 ⟨rfl, hx18⟩
                      refine ⟨⟨hS.1.trans hx18, hS.2.1.ext hx18, hS.2.2.ext hx18⟩, fun hS => ?_⟩
                      refine GW.call 20 rfl (by kernel_rfl) rfl rfl rfl (utext_s (splitP h.path).1 (by omega) ((155 : Nat) : Int) (by decide) (by decide) ((155 : Nat) : Int) w18) ?_
                      rintro _ w20 ⟨rfl, hx20⟩
                      refine ⟨⟨hS.1.trans hx20, hS.2.1.ext hx20, hS.2.2.ext hx20⟩, fun hS => ?_⟩
                      refine GW.call 21 rfl (by kernel_rfl) rfl rfl rfl (utext_s [] (by simp) ((12 : Nat) : Int) (by decide) (by decide) ((12 : Nat) : Int) w20) ?_
                      rintro _ w21 ⟨rfl, hx21⟩
                      refine ⟨⟨hS.1.trans hx21, hS.2.1.ext hx21, hS.2.2.ext hx21⟩, fun hS => ?_⟩
                      refine GW.buildG 22 9 ((L2 h (splitP h.path).1).map fdV) rfl (by kernel_rfl) rfl rfl Tryz.underlying145 ti117 rfl (by decide) rfl rfl rfl (by first | (intro v hv; obtain ⟨f, hf, rfl⟩ := List.mem_map.1 hv; rfl) | simp) (by decide) ?_
                      rintro sb w22 hge22 h22 hx22
                      refine ⟨⟨hS.1.trans hx22, hS.2.1.ext hx22, hS.2.2.ext hx22⟩, fun hS => ?_⟩
                      refine GW.call 23 rfl (by kernel_rfl) rfl rfl rfl (joined_s (L2 h (splitP h.path).1) (fun f hf => (nl2 f hf).ne) (fun f hf => (nl2 f hf).len) (by simp [L2]) (some ⟨sb, 0, none⟩) 9 _ w22 (by have hh := h22.sl; rw [← List.flatMap_def] at hh; exact hh)) ?_
                      rintro _ w23 ⟨rfl, hx23⟩
                      refine ⟨⟨hS.1.trans hx23, hS.2.1.ext hx23, hS.2.2.ext hx23⟩, fun hS => ?_⟩
                      have h22 := h22.ext hx23
                      refine GW.val 24 rfl (by kernel_rfl) (by kernel_rfl) (by kernel_rfl) rfl rfl hS (fun w' hS' => EX.move rfl) ?_
                      refine GW.val 25 rfl (by kernel_rfl) (by kernel_rfl) (by kernel_rfl) rfl rfl hS (fun w' hS' => EX.extract rfl rfl) ?_
                      refine GW.val 26 rfl (by kernel_rfl) (by kernel_rfl) (by kernel_rfl) rfl rfl hS (fun w' hS' => EX.extract rfl rfl) ?_
                      refine GW.val 27 rfl (by kernel_rfl) (by kernel_rfl) (by kernel_rfl) rfl rfl hS (fun w' hS' => EX.assign rfl) ?_
                      refine GW.val 28 rfl (by kernel_rfl) (by kernel_rfl) (by kernel_rfl) rfl rfl hS (fun w' hS' => EX.assign rfl) ?_
                      refine GW.done (by kernel_rfl) ?_
                      refine KW.meet1 w23 ⟨rfl, rfl, rfl, rfl, trivial⟩ rfl ?_
                      exact hS.1
                    · refine GO.call 17 rfl rfl rfl rfl (unumber_s 0 (by decide) (by decide) ((8 : Nat) : Int) (by decide) (by decide) w16) ?_
                      rintro _ w17 ⟨rfl, hx17⟩
                      refine ⟨⟨hS.1.trans hx17, hS.2.ext hx17⟩, fun hS => ?_⟩
                      refine GW.two 2 18 (by kernel_rfl) ?_ ?_
                      · refine GO.buildB 2 1 rfl rfl rfl Tryz.underlying55 ti5 rfl rfl rfl rfl rfl (by decide) ?_
                        rintro gb w2 hge2 h2 hx2
                        refine ⟨⟨hS.1.trans hx2, hS.2.ext hx2⟩, fun hS => ?_⟩
                        refine GW.strong (fun w' => Ext w w' ∧ Bk w' hb 72 h.cells ∧ Bk w' gb 5 [.int .u8 (h.kind : Int)]) (fun _ h => ⟨h.1, h.2.1⟩) ?_
                        replace hS := (⟨hS.1, hS.2, h2⟩ : (fun w' => Ext w w' ∧ Bk w' hb 72 h.cells ∧ Bk w' gb 5 [.int .u8 (h.kind : Int)]) w2)
                        refine GW.val 3 rfl (by kernel_rfl) (by kernel_rfl) (by kernel_rfl) rfl rfl hS (fun w' hS' => EX.strOf Tryz.underlying55 Tryz.underlying5 Tryz.underlying9 rfl (oneB hS'.2.2 hk) rfl) ?_
                        refine GW.val 4 rfl (by kernel_rfl) (by kernel_rfl) (by kernel_rfl) rfl rfl hS (fun w' hS' => EX.buildS (pl := [(0, 1), (1, 1)]) (ks := [0]) (is := [0]) (zs := [str [], .int .i64 0]) Tryz.underlying117 ti117 (by kernel_rfl) rfl rfl rfl (by first | rfl | (simp only [List.all_cons, List.all_nil, Bool.and_true, Bool.true_and, Bool.and_eq_true, Value.oneCell']; repeat (first | assumption | exact Own.one (by assumption) | constructor))) (by simp only [setAll, List.set_cons_zero, List.set_cons_succ]; rfl)) ?_
                        refine GW.call 18 rfl (by kernel_rfl) rfl rfl rfl (unumber_s 0 (by decide) (by decide) ((8 : Nat) : Int) (by decide) (by decide) w2) ?_
                        rintro _ w18 ⟨rfl, hx18⟩
                        refine ⟨⟨hS.1.trans hx18, hS.2.1.ext hx18, hS.2.2.ext hx18⟩, fun hS => ?_⟩
                        refine GW.call 20 rfl (by kernel_rfl) rfl rfl rfl (utext_s (splitP h.path).1 (by omega) ((155 : Nat) : Int) (by decide) (by decide) ((155 : Nat) : Int) w18) ?_
                        rintro _ w20 ⟨rfl, hx20⟩
                        refine ⟨⟨hS.1.trans hx20, hS.2.1.ext hx20, hS.2.2.ext hx20⟩, fun hS => ?_⟩
                        refine GW.call 21 rfl (by kernel_rfl) rfl rfl rfl (utext_s [] (by simp) ((12 : Nat) : Int) (by decide) (by decide) ((12 : Nat) : Int) w20) ?_
                        rintro _ w21 ⟨rfl, hx21⟩
                        refine ⟨⟨hS.1.trans hx21, hS.2.1.ext hx21, hS.2.2.ext hx21⟩, fun hS => ?_⟩
                        refine GW.buildG 22 9 ((L2 h (splitP h.path).1).map fdV) rfl (by kernel_rfl) rfl rfl Tryz.underlying145 ti117 rfl (by decide) rfl rfl rfl (by first | (intro v hv; obtain ⟨f, hf, rfl⟩ := List.mem_map.1 hv; rfl) | simp) (by decide) ?_
                        rintro sb w22 hge22 h22 hx22
                        refine ⟨⟨hS.1.trans hx22, hS.2.1.ext hx22, hS.2.2.ext hx22⟩, fun hS => ?_⟩
                        refine GW.call 23 rfl (by kernel_rfl) rfl rfl rfl (joined_s (L2 h (splitP h.path).1) (fun f hf => (nl2 f hf).ne) (fun f hf => (nl2 f hf).len) (by simp [L2]) (some ⟨sb, 0, none⟩) 9 _ w22 (by have hh := h22.sl; rw [← List.flatMap_def] at hh; exact hh)) ?_
                        rintro _ w23 ⟨rfl, hx23⟩
                        refine ⟨⟨hS.1.trans hx23, hS.2.1.ext hx23, hS.2.2.ext hx23⟩, fun hS => ?_⟩
                        have h22 := h22.ext hx23
                        refine GW.val 24 rfl (by kernel_rfl) (by kernel_rfl) (by kernel_rfl) rfl rfl hS (fun w' hS' => EX.move rfl) ?_
                        refine GW.val 25 rfl (by kernel_rfl) (by kernel_rfl) (by kernel_rfl) rfl rfl hS (fun w' hS' => EX.extract rfl rfl) ?_
                        refine GW.val 26 rfl (by kernel_rfl) (by kernel_rfl) (by kernel_rfl) rfl rfl hS (fun w' hS' => EX.extract rfl rfl) ?_
                        refine GW.val 27 rfl (by kernel_rfl) (by kernel_rfl) (by kernel_rfl) rfl rfl hS (fun w' hS' => EX.assign rfl) ?_
                        refine GW.val 28 rfl (by kernel_rfl) (by kernel_rfl) (by kernel_rfl) rfl rfl hS (fun w' hS' => EX.assign rfl) ?_
                        refine GW.done (by kernel_rfl) ?_
                        refine KW.meet1 w23 ⟨rfl, rfl, rfl, rfl, trivial⟩ rfl ?_
                        exact hS.1
                      · refine GO.call 18 rfl rfl rfl rfl (unumber_s 0 (by decide) (by decide) ((8 : Nat) : Int) (by decide) (by decide) w17) ?_
                        rintro _ w18 ⟨rfl, hx18⟩
                        refine ⟨⟨hS.1.trans hx18, hS.2.ext hx18⟩, fun hS => ?_⟩
                        refine GW.two 2 20 (by kernel_rfl) ?_ ?_
                        · refine GO.buildB 2 1 rfl rfl rfl Tryz.underlying55 ti5 rfl rfl rfl rfl rfl (by decide) ?_
                          rintro gb w2 hge2 h2 hx2
                          refine ⟨⟨hS.1.trans hx2, hS.2.ext hx2⟩, fun hS => ?_⟩
                          refine GW.strong (fun w' => Ext w w' ∧ Bk w' hb 72 h.cells ∧ Bk w' gb 5 [.int .u8 (h.kind : Int)]) (fun _ h => ⟨h.1, h.2.1⟩) ?_
                          replace hS := (⟨hS.1, hS.2, h2⟩ : (fun w' => Ext w w' ∧ Bk w' hb 72 h.cells ∧ Bk w' gb 5 [.int .u8 (h.kind : Int)]) w2)
                          refine GW.val 3 rfl (by kernel_rfl) (by kernel_rfl) (by kernel_rfl) rfl rfl hS (fun w' hS' => EX.strOf Tryz.underlying55 Tryz.underlying5 Tryz.underlying9 rfl (oneB hS'.2.2 hk) rfl) ?_
                          refine GW.val 4 rfl (by kernel_rfl) (by kernel_rfl) (by kernel_rfl) rfl rfl hS (fun w' hS' => EX.buildS (pl := [(0, 1), (1, 1)]) (ks := [0]) (is := [0]) (zs := [str [], .int .i64 0]) Tryz.underlying117 ti117 (by kernel_rfl) rfl rfl rfl (by first | rfl | (simp only [List.all_cons, List.all_nil, Bool.and_true, Bool.true_and, Bool.and_eq_true, Value.oneCell']; repeat (first | assumption | exact Own.one (by assumption) | constructor))) (by simp only [setAll, List.set_cons_zero, List.set_cons_succ]; rfl)) ?_
                          refine GW.call 20 rfl (by kernel_rfl) rfl rfl rfl (utext_s (splitP h.path).1 (by omega) ((155 : Nat) : Int) (by decide) (by decide) ((155 : Nat) : Int) w2) ?_
                          rintro _ w20 ⟨rfl, hx20⟩
                          refine ⟨⟨hS.1.trans hx20, hS.2.1.ext hx20, hS.2.2.ext hx20⟩, fun hS => ?_⟩
                          refine GW.call 21 rfl (by kernel_rfl) rfl rfl rfl (utext_s [] (by simp) ((12 : Nat) : Int) (by decide) (by decide) ((12 : Nat) : Int) w20) ?_
                          rintro _ w21 ⟨rfl, hx21⟩
                          refine ⟨⟨hS.1.trans hx21, hS.2.1.ext hx21, hS.2.2.ext hx21⟩, fun hS => ?_⟩
                          refine GW.buildG 22 9 ((L2 h (splitP h.path).1).map fdV) rfl (by kernel_rfl) rfl rfl Tryz.underlying145 ti117 rfl (by decide) rfl rfl rfl (by first | (intro v hv; obtain ⟨f, hf, rfl⟩ := List.mem_map.1 hv; rfl) | simp) (by decide) ?_
                          rintro sb w22 hge22 h22 hx22
                          refine ⟨⟨hS.1.trans hx22, hS.2.1.ext hx22, hS.2.2.ext hx22⟩, fun hS => ?_⟩
                          refine GW.call 23 rfl (by kernel_rfl) rfl rfl rfl (joined_s (L2 h (splitP h.path).1) (fun f hf => (nl2 f hf).ne) (fun f hf => (nl2 f hf).len) (by simp [L2]) (some ⟨sb, 0, none⟩) 9 _ w22 (by have hh := h22.sl; rw [← List.flatMap_def] at hh; exact hh)) ?_
                          rintro _ w23 ⟨rfl, hx23⟩
                          refine ⟨⟨hS.1.trans hx23, hS.2.1.ext hx23, hS.2.2.ext hx23⟩, fun hS => ?_⟩
                          have h22 := h22.ext hx23
                          refine GW.val 24 rfl (by kernel_rfl) (by kernel_rfl) (by kernel_rfl) rfl rfl hS (fun w' hS' => EX.move rfl) ?_
                          refine GW.val 25 rfl (by kernel_rfl) (by kernel_rfl) (by kernel_rfl) rfl rfl hS (fun w' hS' => EX.extract rfl rfl) ?_
                          refine GW.val 26 rfl (by kernel_rfl) (by kernel_rfl) (by kernel_rfl) rfl rfl hS (fun w' hS' => EX.extract rfl rfl) ?_
                          refine GW.val 27 rfl (by kernel_rfl) (by kernel_rfl) (by kernel_rfl) rfl rfl hS (fun w' hS' => EX.assign rfl) ?_
                          refine GW.val 28 rfl (by kernel_rfl) (by kernel_rfl) (by kernel_rfl) rfl rfl hS (fun w' hS' => EX.assign rfl) ?_
                          refine GW.done (by kernel_rfl) ?_
                          refine KW.meet1 w23 ⟨rfl, rfl, rfl, rfl, trivial⟩ rfl ?_
                          exact hS.1
                        · refine GO.call 20 rfl rfl rfl rfl (utext_s (splitP h.path).1 (by omega) ((155 : Nat) : Int) (by decide) (by decide) ((155 : Nat) : Int) w18) ?_
                          rintro _ w20 ⟨rfl, hx20⟩
                          refine ⟨⟨hS.1.trans hx20, hS.2.ext hx20⟩, fun hS => ?_⟩
                          refine GW.two 2 21 (by kernel_rfl) ?_ ?_
                          · refine GO.buildB 2 1 rfl rfl rfl Tryz.underlying55 ti5 rfl rfl rfl rfl rfl (by decide) ?_
                            rintro gb w2 hge2 h2 hx2
                            refine ⟨⟨hS.1.trans hx2, hS.2.ext hx2⟩, fun hS => ?_⟩
                            refine GW.strong (fun w' => Ext w w' ∧ Bk w' hb 72 h.cells ∧ Bk w' gb 5 [.int .u8 (h.kind : Int)]) (fun _ h => ⟨h.1, h.2.1⟩) ?_
                            replace hS := (⟨hS.1, hS.2, h2⟩ : (fun w' => Ext w w' ∧ Bk w' hb 72 h.cells ∧ Bk w' gb 5 [.int .u8 (h.kind : Int)]) w2)
                            refine GW.val 3 rfl (by kernel_rfl) (by kernel_rfl) (by kernel_rfl) rfl rfl hS (fun w' hS' => EX.strOf Tryz.underlying55 Tryz.underlying5 Tryz.underlying9 rfl (oneB hS'.2.2 hk) rfl) ?_
                            refine GW.val 4 rfl (by kernel_rfl) (by kernel_rfl) (by kernel_rfl) rfl rfl hS (fun w' hS' => EX.buildS (pl := [(0, 1), (1, 1)]) (ks := [0]) (is := [0]) (zs := [str [], .int .i64 0]) Tryz.underlying117 ti117 (by kernel_rfl) rfl rfl rfl (by first | rfl | (simp only [List.all_cons, List.all_nil, Bool.and_true, Bool.true_and, Bool.and_eq_true, Value.oneCell']; repeat (first | assumption | exact Own.one (by assumption) | constructor))) (by simp only [setAll, List.set_cons_zero, List.set_cons_succ]; rfl)) ?_
                            refine GW.call 21 rfl (by kernel_rfl) rfl rfl rfl (utext_s [] (by simp) ((12 : Nat) : Int) (by decide) (by decide) ((12 : Nat) : Int) w2) ?_
                            rintro _ w21 ⟨rfl, hx21⟩
                            refine ⟨⟨hS.1.trans hx21, hS.2.1.ext hx21, hS.2.2.ext hx21⟩, fun hS => ?_⟩
                            refine GW.buildG 22 9 ((L2 h (splitP h.path).1).map fdV) rfl (by kernel_rfl) rfl rfl Tryz.underlying145 ti117 rfl (by decide) rfl rfl rfl (by first | (intro v hv; obtain ⟨f, hf, rfl⟩ := List.mem_map.1 hv; rfl) | simp) (by decide) ?_
                            rintro sb w22 hge22 h22 hx22
                            refine ⟨⟨hS.1.trans hx22, hS.2.1.ext hx22, hS.2.2.ext hx22⟩, fun hS => ?_⟩
                            refine GW.call 23 rfl (by kernel_rfl) rfl rfl rfl (joined_s (L2 h (splitP h.path).1) (fun f hf => (nl2 f hf).ne) (fun f hf => (nl2 f hf).len) (by simp [L2]) (some ⟨sb, 0, none⟩) 9 _ w22 (by have hh := h22.sl; rw [← List.flatMap_def] at hh; exact hh)) ?_
                            rintro _ w23 ⟨rfl, hx23⟩
                            refine ⟨⟨hS.1.trans hx23, hS.2.1.ext hx23, hS.2.2.ext hx23⟩, fun hS => ?_⟩
                            have h22 := h22.ext hx23
                            refine GW.val 24 rfl (by kernel_rfl) (by kernel_rfl) (by kernel_rfl) rfl rfl hS (fun w' hS' => EX.move rfl) ?_
                            refine GW.val 25 rfl (by kernel_rfl) (by kernel_rfl) (by kernel_rfl) rfl rfl hS (fun w' hS' => EX.extract rfl rfl) ?_
                            refine GW.val 26 rfl (by kernel_rfl) (by kernel_rfl) (by kernel_rfl) rfl rfl hS (fun w' hS' => EX.extract rfl rfl) ?_
                            refine GW.val 27 rfl (by kernel_rfl) (by kernel_rfl) (by kernel_rfl) rfl rfl hS (fun w' hS' => EX.assign rfl) ?_
                            refine GW.val 28 rfl (by kernel_rfl) (by kernel_rfl) (by kernel_rfl) rfl rfl hS (fun w' hS' => EX.assign rfl) ?_
                            refine GW.done (by kernel_rfl) ?_
                            refine KW.meet1 w23 ⟨rfl, rfl, rfl, rfl, trivial⟩ rfl ?_
                            exact hS.1
                          · refine GO.call 21 rfl rfl rfl rfl (utext_s [] (by simp) ((12 : Nat) : Int) (by decide) (by decide) ((12 : Nat) : Int) w20) ?_
                            rintro _ w21 ⟨rfl, hx21⟩
                            refine ⟨⟨hS.1.trans hx21, hS.2.ext hx21⟩, fun hS => ?_⟩
                            refine GW.buildB 2 1 rfl (by kernel_rfl) rfl rfl Tryz.underlying55 ti5 rfl rfl rfl rfl rfl (by decide) ?_
                            rintro gb w2 hge2 h2 hx2
                            refine ⟨⟨hS.1.trans hx2, hS.2.ext hx2⟩, fun hS => ?_⟩
                            refine GW.strong (fun w' => Ext w w' ∧ Bk w' hb 72 h.cells ∧ Bk w' gb 5 [.int .u8 (h.kind : Int)]) (fun _ h => ⟨h.1, h.2.1⟩) ?_
                            replace hS := (⟨hS.1, hS.2, h2⟩ : (fun w' => Ext w w' ∧ Bk w' hb 72 h.cells ∧ Bk w' gb 5 [.int .u8 (h.kind : Int)]) w2)
                            refine GW.val 3 rfl (by kernel_rfl) (by kernel_rfl) (by kernel_rfl) rfl rfl hS (fun w' hS' => EX.strOf Tryz.underlying55 Tryz.underlying5 Tryz.underlying9 rfl (oneB hS'.2.2 hk) rfl) ?_
                            refine GW.val 4 rfl (by kernel_rfl) (by kernel_rfl) (by kernel_rfl) rfl rfl hS (fun w' hS' => EX.buildS (pl := [(0, 1), (1, 1)]) (ks := [0]) (is := [0]) (zs := [str [], .int .i64 0]) Tryz.underlying117 ti117 (by kernel_rfl) rfl rfl rfl (by first | rfl | (simp only [List.all_cons, List.all_nil, Bool.and_true, Bool.true_and, Bool.and_eq_true, Value.oneCell']; repeat (first | assumption | exact Own.one (by assumption) | constructor))) (by simp only [setAll, List.set_cons_zero, List.set_cons_succ]; rfl)) ?_
                            refine GW.buildG 22 9 ((L2 h (splitP h.path).1).map fdV) rfl (by kernel_rfl) rfl rfl Tryz.underlying145 ti117 rfl (by decide) rfl rfl rfl (by first | (intro v hv; obtain ⟨f, hf, rfl⟩ := List.mem_map.1 hv; rfl) | simp) (by decide) ?_
                            rintro sb w22 hge22 h22 hx22
                            refine ⟨⟨hS.1.trans hx22, hS.2.1.ext hx22, hS.2.2.ext hx22⟩, fun hS => ?_⟩
                            refine GW.call 23 rfl (by kernel_rfl) rfl rfl rfl (joined_s (L2 h (splitP h.path).1) (fun f hf => (nl2 f hf).ne) (fun f hf => (nl2 f hf).len) (by simp [L2]) (some ⟨sb, 0, none⟩) 9 _ w22 (by have hh := h22.sl; rw [← List.flatMap_def] at hh; exact hh)) ?_
                            rintro _ w23 ⟨rfl, hx23⟩
                            refine ⟨⟨hS.1.trans hx23, hS.2.1.ext hx23, hS.2.2.ext hx23⟩, fun hS => ?_⟩
                            have h22 := h22.ext hx23
                            refine GW.val 24 rfl (by kernel_rfl) (by kernel_rfl) (by kernel_rfl) rfl rfl hS (fun w' hS' => EX.move rfl) ?_
                            refine GW.val 25 rfl (by kernel_rfl) (by kernel_rfl) (by kernel_rfl) rfl rfl hS (fun w' hS' => EX.extract rfl rfl) ?_
                            refine GW.val 26 rfl (by kernel_rfl) (by kernel_rfl) (by kernel_rfl) rfl rfl hS (fun w' hS' => EX.extract rfl rfl) ?_
                            refine GW.val 27 rfl (by kernel_rfl) (by kernel_rfl) (by kernel_rfl) rfl rfl hS (fun w' hS' => EX.assign rfl) ?_
                            refine GW.val 28 rfl (by kernel_rfl) (by kernel_rfl) (by kernel_rfl) rfl rfl hS (fun w' hS' => EX.assign rfl) ?_
                            refine GW.done (by kernel_rfl) ?_
                            refine KW.meet1 w23 ⟨rfl, rfl, rfl, rfl, trivial⟩ rfl ?_
                            exact hS.1
            · rintro wq xq
              have jy := fun hm : May h => joinF_yes hm p1 p3 (fun z => hz' (p5 _ z)) (fun z => hz' (p4 _ z))
              have hjn := @joinF_no h (splitP h.path).1 (splitP h.path).2.1 hmk' hz'
              generalize hJ1 : joinF (L1 h (splitP h.path).2.1) = J1 at jy hjn
              generalize hJ2 : joinF (L2 h (splitP h.path).1) = J2 at jy hjn
              obtain ⟨g1, o1⟩ := J1
              obtain ⟨g2, o2⟩ := J2
              refine KW.seq (KW.seq ?_)
              rcases o1 with _ | _
              · skip
                refine KW.region ?_
                refine OW.val rfl rfl (EX.move rfl) ?_
                refine OW.val rfl rfl (by first | exact EX.notD rfl | exact EX.notB rfl) ?_
                refine OW.val rfl rfl (EX.move rfl) ?_
                refine OW.pass rfl rfl ?_
                refine OW.pass rfl rfl ?_
                refine OW.val rfl rfl (EX.pickT rfl rfl) ?_
                refine OW.nil ?_
                refine KW.condT rfl (KW.seq (KW.region ?_))
                refine OW.val rfl rfl (EX.assign rfl) ?_
                refine OW.val rfl rfl (EX.assign rfl) ?_
                refine OW.nil ?_
                refine KW.ret (ret2 rfl rfl rfl ?_)
                rw [eno fun hm => by have := (jy hm).1; cases this]
                exact ⟨rfl, xq⟩
              · skip
                rcases o2 with _ | _
                · skip
                  refine KW.region ?_
                  refine OW.val rfl rfl (EX.move rfl) ?_
                  refine OW.val rfl rfl (by first | exact EX.notD rfl | exact EX.notB rfl) ?_
                  refine OW.val rfl rfl (EX.move rfl) ?_
                  refine OW.val rfl rfl (EX.move rfl) ?_
                  refine OW.val rfl rfl (by first | exact EX.notD rfl | exact EX.notB rfl) ?_
                  refine OW.val rfl rfl (EX.pickF rfl rfl) ?_
                  refine OW.nil ?_
                  refine KW.condT rfl (KW.seq (KW.region ?_))
                  refine OW.val rfl rfl (EX.assign rfl) ?_
                  refine OW.val rfl rfl (EX.assign rfl) ?_
                  refine OW.nil ?_
                  refine KW.ret (ret2 rfl rfl rfl ?_)
                  rw [eno fun hm => by have := (jy hm).2; cases this]
                  exact ⟨rfl, xq⟩
                · skip
                  have hm := hjn rfl rfl
                  obtain ⟨j1, j2⟩ := jy hm
                  obtain rfl := (Prod.mk.inj j1).1
                  obtain rfl := (Prod.mk.inj j2).1
                  have hl1 : ((headL h (splitP h.path).2.1).flatten).length = 148 := by rw [List.length_flatten, head_len h p1]; rfl
                  have hl2 : ((tailL h (splitP h.path).1).flatten).length = 356 := by rw [List.length_flatten, tail_len h p3 hm.link.1 (by have := hm.n0.1; omega) (by have := hm.n1.1; omega)]; rfl
                  have hl3 := nul_len 8
                  have hall : ((headL h (splitP h.path).2.1).flatten ++ nul 8 ++ (tailL h (splitP h.path).1).flatten).length = 512 := by rw [List.length_append, List.length_append]; omega
                  have hsum : sum ((headL h (splitP h.path).2.1).flatten ++ nul 8 ++ (tailL h (splitP h.path).1).flatten) = (hdSum h, 0) := by
                    unfold sum
                    rw [if_neg (by omega)]
                    rfl
                  have hsm : hdSum h / 8 ^ 6 = 0 := sumTo_small _
                  have hoct : octal ((hdSum h : Nat) : Int) ((7 : Nat) : Int) = (octs (hdSum h) 6 ++ [0], 0) := octal_yes (k := 6) (by decide) (by decide) hsm
                  have hle : hdSum h ≤ 1000000 := by have := sumTo_le (withS h (splitP h.path).1 (splitP h.path).2.1 (nul 8)) 512; unfold hdSum; omega
                  have hs6 := octs_length 6 (hdSum h)
                  have c1 := sum_s ((headL h (splitP h.path).2.1).flatten ++ nul 8 ++ (tailL h (splitP h.path).1).flatten) (by omega) wq
                  rw [hsum] at c1
                  have c2 := octal_s ((hdSum h : Nat) : Int) (by omega) (by omega) ((7 : Nat) : Int) (by decide) (by decide) wq
                  rw [hoct] at c2
                  rw [eyes hm]
                  generalize hH : (headL h (splitP h.path).2.1).flatten = H at hl1 c1 hall
                  generalize hT : (tailL h (splitP h.path).1).flatten = T at hl2 c1 hall
                  have hlH : (H ++ nul 8).length = 156 := by rw [List.length_append]; omega
                  have hlH' : (H ++ nul 8, true).1.length = 156 := hlH
                  refine KW.region ?_
                  refine OW.val rfl rfl (EX.move rfl) ?_
                  refine OW.val rfl rfl (by first | exact EX.notD rfl | exact EX.notB rfl) ?_
                  refine OW.val rfl rfl (EX.move rfl) ?_
                  refine OW.val rfl rfl (EX.move rfl) ?_
                  refine OW.val rfl rfl (by first | exact EX.notD rfl | exact EX.notB rfl) ?_
                  refine OW.val rfl rfl (EX.pickF rfl rfl) ?_
                  refine OW.nil ?_
                  refine KW.condF rfl (KW.skip (KW.seq (KW.region ?_)))
                  refine OW.val rfl rfl (EX.move rfl) ?_
                  refine OW.val rfl rfl (EX.move rfl) ?_
                  refine OW.val rfl rfl (EX.addS rfl rfl (by first | omega | (simp only [List.length_append, List.length_cons, List.length_nil, List.length_take, List.length_drop, List.length_replicate]; omega))) ?_
                  refine OW.call rfl rfl rfl (c1) ?_
                  rintro _ _ ⟨rfl, rfl⟩
                  refine OW.val rfl rfl (EX.move rfl) ?_
                  refine OW.val rfl rfl (EX.extract rfl rfl) ?_
                  refine OW.val rfl rfl (EX.extract rfl rfl) ?_
                  refine OW.val rfl rfl (EX.assign rfl) ?_
                  refine OW.val rfl rfl (EX.assign rfl) ?_
                  refine OW.nil ?_
                  refine KW.seq (KW.region ?_)
                  refine OW.val rfl rfl (EX.move rfl) ?_
                  refine OW.call rfl rfl rfl (c2) ?_
                  rintro _ wz ⟨rfl, xz⟩
                  refine OW.val rfl rfl (EX.move rfl) ?_
                  refine OW.val rfl rfl (EX.extract rfl rfl) ?_
                  refine OW.val rfl rfl (EX.extract rfl rfl) ?_
                  refine OW.val rfl rfl (EX.assign rfl) ?_
                  refine OW.val rfl rfl (EX.assign rfl) ?_
                  refine OW.nil ?_
                  refine KW.seq (KW.region ?_)
                  refine OW.val rfl rfl (EX.move rfl) ?_
                  refine OW.val rfl rfl (EX.sliceFH (j := 148) Tryz.underlying9 rfl rfl (by omega)) ?_
                  refine OW.val rfl rfl (EX.move rfl) ?_
                  refine OW.val rfl rfl (EX.addS rfl rfl (by first | omega | (simp only [List.length_append, List.length_cons, List.length_nil, List.length_take, List.length_drop, List.length_replicate]; omega))) ?_
                  refine OW.val rfl rfl (EX.addS (r := [32]) rfl rfl (by first | omega | (simp only [List.length_append, List.length_cons, List.length_nil, List.length_take, List.length_drop, List.length_replicate]; omega))) ?_
                  refine OW.val rfl rfl (EX.move rfl) ?_
                  refine OW.val rfl rfl (EX.addS rfl rfl (by first | omega | (simp only [List.length_append, List.length_cons, List.length_nil, List.length_take, List.length_drop, List.length_replicate]; omega))) ?_
                  refine OW.val rfl rfl (EX.assign rfl) ?_
                  refine OW.val rfl rfl (EX.assign rfl) ?_
                  refine OW.nil ?_
                  refine KW.ret (ret2 rfl rfl rfl ?_)
                  refine ⟨?_, xq.trans xz⟩
                  have ht : (H ++ nul 8).take 148 = H := by rw [← hl1]; exact List.take_left' rfl
                  have ed : hdText h = H ++ (octs (hdSum h) 6 ++ [0]) ++ [32] ++ T := by
                    unfold hdText withS sumF
                    rw [hH, hT]
                    simp
                  simp only [ed, ht]
                  rfl
end Go.Proofs.YtjgeoeeikfjmdaaGreatDoor
/- ustar: headers are read, by the program; sectors of noughts. -/
namespace Go.Proofs.YtjgeoeeikfjmdaaGreatDoor
set_option linter.unnecessarySimpa false
open Go.RowKit Fld Ust
set_option linter.unusedVariables false
set_option linter.unusedSimpArgs false

theorem craw_c (cb k n : Nat) (s : List UInt8) (bad : Bool) (w : World) (hs : s.length ≤ 140737488355328) (hk : k + n ≤ s.length) (hc : Bk w cb 151 [str (s.drop k), .bool bad]) :
    Ret Tryz.prog 114 [.pointer (some ⟨cb, 0, none⟩), .int .i64 ((n : Nat) : Int)] w fun v w' => v = str (sl s k n) ∧ Bk w' cb 151 [str (s.drop (k + n)), .bool bad] ∧ Mo w w' [cb] := by
  have hl : (s.drop k).length = s.length - k := List.length_drop
  refine Ret.enter Tryz.func114 rfl Tryz.ntmps114 (by kernel_rfl) rfl ?_
  refine KW.seq (KW.region ?_)
  refine OW.val rfl rfl (EX.assign rfl) ?_
  refine OW.nil ?_
  refine KW.seq (KW.region ?_)
  refine OW.val rfl rfl (EX.move rfl) ?_
  refine OW.val rfl rfl (EX.nilCheck rfl) ?_
  refine OW.val rfl rfl (EX.fieldAddr (off := 0) Tryz.underlying151 rfl rfl ti9 rfl rfl) ?_
  refine OW.val rfl rfl (EX.load Tryz.underlying9 rfl rfl (hc.cell_of rfl)) ?_
  refine OW.val rfl rfl (EX.move rfl) ?_
  refine OW.val rfl rfl (EX.sliceFH Tryz.underlying9 rfl rfl (by omega)) ?_
  refine OW.val rfl rfl (EX.assign rfl) ?_
  refine OW.nil ?_
  refine KW.seq (KW.region ?_)
  refine OW.val rfl rfl (EX.move rfl) ?_
  refine OW.val rfl rfl (EX.move rfl) ?_
  refine OW.val rfl rfl (EX.nilCheck rfl) ?_
  refine OW.val rfl rfl (EX.fieldAddr (off := 0) Tryz.underlying151 rfl rfl ti9 rfl rfl) ?_
  refine OW.val rfl rfl (EX.load Tryz.underlying9 rfl rfl (hc.cell_of rfl)) ?_
  refine OW.val rfl rfl (EX.move rfl) ?_
  refine OW.val rfl rfl (EX.sliceLE Tryz.underlying9 rfl rfl (by omega)) ?_
  refine OW.val rfl rfl (EX.nilCheck rfl) ?_
  refine OW.val rfl rfl (EX.fieldAddr (off := 0) Tryz.underlying151 rfl rfl ti9 rfl rfl) ?_
  refine OW.storeB rfl ti9 rfl rfl (by first | rfl | assumption | exact Own.one (by assumption)) (hc) (by simp) ?_
  rintro w2 hc2 hm2
  refine OW.nil ?_
  refine KW.seq (KW.region ?_)
  refine OW.val rfl rfl (EX.move rfl) ?_
  refine OW.val rfl rfl (EX.assign rfl) ?_
  refine OW.nil ?_
  refine KW.ret (ret1 rfl rfl ?_)
  refine ⟨rfl, ?_, hm2⟩
  rw [← List.drop_drop]
  exact hc2
theorem cnumber_c (cb k n : Nat) (s : List UInt8) (bad : Bool) (w : World) (hs : s.length ≤ 140737488355328) (hk : k + n ≤ s.length) (hc : Bk w cb 151 [str (s.drop k), .bool bad]) :
    Ret Tryz.prog 113 [.pointer (some ⟨cb, 0, none⟩), .int .i64 ((n : Nat) : Int)] w fun v w' => v = .int .i64 (((num (sl s k n)).1 : Nat) : Int) ∧ Bk w' cb 151 [str (s.drop (k + n)), .bool (bad || decide ((num (sl s k n)).2 ≠ 0))] ∧ Mo w w' [cb] := by
  have hl : (sl s k n).length ≤ 140737488355328 := by unfold sl; rw [List.length_take, List.length_drop]; omega
  refine Ret.enter Tryz.func113 rfl Tryz.ntmps113 (by kernel_rfl) rfl ?_
  refine KW.seq (KW.region ?_)
  refine OW.val rfl rfl (EX.assign rfl) ?_
  refine OW.nil ?_
  refine KW.seq (KW.region ?_)
  refine OW.val rfl rfl (EX.move rfl) ?_
  refine OW.val rfl rfl (EX.move rfl) ?_
  refine OW.call rfl rfl rfl (craw_c cb k n s bad w hs hk hc) ?_
  rintro _ w1 ⟨rfl, hc1, hm1⟩
  refine OW.call rfl rfl rfl (number_s (sl s k n) hl w1) ?_
  rintro _ w2 ⟨rfl, hx2⟩
  refine OW.val rfl rfl (EX.move rfl) ?_
  refine OW.val rfl rfl (EX.extract rfl rfl) ?_
  refine OW.val rfl rfl (EX.extract rfl rfl) ?_
  refine OW.val rfl rfl (EX.assign rfl) ?_
  refine OW.val rfl rfl (EX.assign rfl) ?_
  refine OW.nil ?_
  refine KW.seq ?_
  have hc2 := hc1.ext hx2
  have m2 : Mo w w2 [cb] := hm1.trans (Mo.of_ext hx2 _)
  rcases bad with _ | _
  · refine KW.region ?_
    refine OW.val rfl rfl (EX.move rfl) ?_
    refine OW.val rfl rfl (EX.move rfl) ?_
    refine OW.val rfl rfl (EX.nilCheck rfl) ?_
    refine OW.val rfl rfl (EX.fieldAddr (off := 1) Tryz.underlying151 rfl rfl ti4 rfl rfl) ?_
    refine OW.val rfl rfl (EX.load Tryz.underlying4 rfl rfl (hc2.cell_of rfl)) ?_
    refine OW.val rfl rfl (EX.move rfl) ?_
    refine OW.val rfl rfl (EX.move rfl) ?_
    refine OW.val rfl rfl (by first | exact EX.neqN (b := 0) rfl rfl | exact EX.neqZ rfl rfl) ?_
    refine OW.val rfl rfl (EX.pickF rfl rfl) ?_
    refine OW.val rfl rfl (EX.nilCheck rfl) ?_
    refine OW.val rfl rfl (EX.fieldAddr (off := 1) Tryz.underlying151 rfl rfl ti4 rfl rfl) ?_
    refine OW.storeB rfl ti4 rfl rfl (by first | rfl | assumption | exact Own.one (by assumption)) (hc2) (by simp) ?_
    rintro w3 hc3 hm3
    refine OW.nil ?_
    refine KW.seq (KW.region ?_)
    refine OW.val rfl rfl (EX.move rfl) ?_
    refine OW.val rfl rfl (EX.assign rfl) ?_
    refine OW.nil ?_
    refine KW.ret (ret1 rfl rfl ?_)
    refine ⟨rfl, ?_, m2.trans hm3⟩
    simp only [Bool.false_or]
    have e : decide (¬ (num (sl s k n)).2 = 0) = decide ((num (sl s k n)).2 ≠ 0) := rfl
    simpa using hc3
  · refine KW.region ?_
    refine OW.val rfl rfl (EX.move rfl) ?_
    refine OW.val rfl rfl (EX.move rfl) ?_
    refine OW.val rfl rfl (EX.nilCheck rfl) ?_
    refine OW.val rfl rfl (EX.fieldAddr (off := 1) Tryz.underlying151 rfl rfl ti4 rfl rfl) ?_
    refine OW.val rfl rfl (EX.load Tryz.underlying4 rfl rfl (hc2.cell_of rfl)) ?_
    refine OW.val rfl rfl (EX.move rfl) ?_
    refine OW.pass rfl rfl ?_
    refine OW.pass rfl rfl ?_
    refine OW.val rfl rfl (EX.pickT rfl rfl) ?_
    refine OW.val rfl rfl (EX.nilCheck rfl) ?_
    refine OW.val rfl rfl (EX.fieldAddr (off := 1) Tryz.underlying151 rfl rfl ti4 rfl rfl) ?_
    refine OW.storeB rfl ti4 rfl rfl (by first | rfl | assumption | exact Own.one (by assumption)) (hc2) (by simp) ?_
    rintro w3 hc3 hm3
    refine OW.nil ?_
    refine KW.seq (KW.region ?_)
    refine OW.val rfl rfl (EX.move rfl) ?_
    refine OW.val rfl rfl (EX.assign rfl) ?_
    refine OW.nil ?_
    refine KW.ret (ret1 rfl rfl ?_)
    exact ⟨rfl, hc3, m2.trans hm3⟩
/-- a sector is being read -/
structure Dc (w0 w : World) (rb cb hb : Nat) (rest : List UInt8) (bad : Bool) (h : List Value) : Prop where
  x : Ext w0 w
  r : Bk w rb 72 hd0.cells
  c : Bk w cb 151 [str rest, .bool bad]
  h : Bk w hb 72 h
  rlo : w0.heap.size ≤ rb
  clo : w0.heap.size ≤ cb
  hlo : w0.heap.size ≤ hb
  ne : rb ≠ hb
section
variable {w0 w : World} {rb cb hb : Nat} {s rest : List UInt8} {bad : Bool} {h : List Value} {k : Nat}
theorem Dc.step {w' : World} {rest' : List UInt8} {bad' : Bool} (d : Dc w0 w rb cb hb rest bad h) (hc : Bk w' cb 151 [str rest', .bool bad']) (hm : Mo w w' [cb]) : Dc w0 w' rb cb hb rest' bad' h :=
  ⟨below_mo d.x hm d.x.size (fun k hk => by simp at hk; subst hk; exact d.clo), d.r.mo hm (by simp; exact d.r.ne d.c (by decide)), hc, d.h.mo hm (by simp; exact d.h.ne d.c (by decide)), d.rlo, d.clo, d.hlo, d.ne⟩
theorem Dc.put {w' : World} {h' : List Value} (d : Dc w0 w rb cb hb rest bad h) (hh : Bk w' hb 72 h') (hm : Mo w w' [hb]) : Dc w0 w' rb cb hb rest bad h' :=
  ⟨below_mo d.x hm d.x.size (fun k hk => by simp at hk; subst hk; exact d.hlo), d.r.mo hm (by simp; exact d.ne), d.c.mo hm (by simp; exact fun z => d.h.ne d.c (by decide) z.symm), hh, d.rlo, d.clo, d.hlo, d.ne⟩
theorem Dc.raw (d : Dc w0 w rb cb hb (s.drop k) bad h) (n : Nat) (hs : s.length = 512) (hk : k + n ≤ 512) :
    Ret Tryz.prog 114 [.pointer (some ⟨cb, 0, none⟩), .int .i64 ((n : Nat) : Int)] w fun v w' => v = str (sl s k n) ∧ Dc w0 w' rb cb hb (s.drop (k + n)) bad h :=
  (craw_c cb k n s bad w (by omega) (by omega) d.c).mono fun v w' ⟨h1, h2, h3⟩ => ⟨h1, d.step h2 h3⟩
theorem Dc.num (d : Dc w0 w rb cb hb (s.drop k) bad h) (n : Nat) (hs : s.length = 512) (hk : k + n ≤ 512) :
    Ret Tryz.prog 113 [.pointer (some ⟨cb, 0, none⟩), .int .i64 ((n : Nat) : Int)] w fun v w' => v = .int .i64 (((num (sl s k n)).1 : Nat) : Int) ∧ Dc w0 w' rb cb hb (s.drop (k + n)) (bad || decide ((num (sl s k n)).2 ≠ 0)) h :=
  (cnumber_c cb k n s bad w (by omega) (by omega) d.c).mono fun v w' ⟨h1, h2, h3⟩ => ⟨h1, d.step h2 h3⟩
end
theorem sl_len {s : List UInt8} (hs : s.length = 512) (k n : Nat) : (sl s k n).length ≤ 512 := by unfold sl; rw [List.length_take, List.length_drop]; omega
theorem dec_no {s : List UInt8} (h : ¬ OkD s) : decH s = (hd0, 160) := by unfold decH; rw [if_neg h]
theorem dec_yes {s : List UInt8} (h : OkD s) : decH s = (hdD s, 0) := by unfold decH; rw [if_pos h]
set_option maxRecDepth 20000 in
theorem decode_s (s : List UInt8) (hs : s.length ≤ 140737488355328) (w : World) : Ret Tryz.prog 85 [str s] w fun v w' => v = .tuple #[.agg (decH s).1.cells.toArray, .int .i64 (((decH s).2 : Nat) : Int)] ∧ Ext w w' := by
  refine Ret.enter Tryz.func85 rfl Tryz.ntmps85 (by kernel_rfl) rfl ?_
  refine KW.seq (KW.region ?_)
  refine OW.allocB (l := [str [], .int .i64 0, .int .u8 0, .int .i64 0, .int .i64 0, str [], str [], str [], .int .i64 0, .int .i64 0]) rfl rfl ti72 rfl ?_
  rintro rb w1 hge1 hr1 hx1
  refine OW.val rfl rfl (EX.assign rfl) ?_
  refine OW.nil ?_
  refine KW.seq (KW.seq (KW.region ?_))
  refine OW.val rfl rfl (EX.move rfl) ?_
  refine OW.val rfl rfl (EX.lenS Tryz.underlying9 rfl) ?_
  refine OW.val rfl rfl (by first | exact EX.neqN (b := 512) rfl rfl | exact EX.neqZ rfl rfl) ?_
  refine OW.nil ?_
  refine KW.condD rfl (fun hl => ?_) (fun hl => ?_)
  · refine KW.seq (KW.region ?_)
    refine OW.val rfl rfl (EX.buildS (pl := [(0, 1), (1, 1), (2, 1), (3, 1), (4, 1), (5, 1), (6, 2), (8, 2)]) (ks := []) (is := []) (zs := [str [], .int .i64 0, .int .u8 0, .int .i64 0, .int .i64 0, str [], str [], str [], .int .i64 0, .int .i64 0]) Tryz.underlying72 ti72 (by kernel_rfl) rfl rfl rfl (by first | rfl | (simp only [List.all_cons, List.all_nil, Bool.and_true, Bool.true_and, Bool.and_eq_true, Value.oneCell']; repeat (first | assumption | exact Own.one (by assumption) | constructor))) (by simp only [setAll, List.set_cons_zero, List.set_cons_succ]; rfl)) ?_
    refine OW.storeS rfl ti72 rfl rfl rfl (by first | rfl | (simp only [List.all_cons, List.all_nil, Bool.and_true, Bool.true_and, Bool.and_eq_true, Value.oneCell']; repeat (first | assumption | exact Own.one (by assumption) | constructor))) (hr1) (Nat.le_refl _) ?_
    rintro w2 hr2 hm2
    refine OW.val rfl rfl (EX.assign rfl) ?_
    refine OW.nil ?_
    refine KW.ret (retC2 rfl Tryz.underlying72 rfl ti72 rfl rfl (hr2) rfl ?_)
    rw [dec_no fun h => hl (by have := h.len; omega)]
    exact ⟨rfl, below_mo hx1 hm2 hx1.size (fun k hk => by simp at hk; omega)⟩
  · have h512 : s.length = 512 := by omega
    refine KW.skip (KW.seq (KW.region ?_))
    refine OW.val rfl rfl (EX.move rfl) ?_
    refine OW.val rfl rfl (EX.buildS (pl := [(0, 1), (1, 1)]) (ks := [0]) (is := [0]) (zs := [str [], .bool false]) Tryz.underlying151 ti151 (by kernel_rfl) rfl rfl rfl (by first | rfl | (simp only [List.all_cons, List.all_nil, Bool.and_true, Bool.true_and, Bool.and_eq_true, Value.oneCell']; repeat (first | assumption | exact Own.one (by assumption) | constructor))) (by simp only [setAll, List.set_cons_zero, List.set_cons_succ]; rfl)) ?_
    refine OW.boxS rfl rfl rfl ?_
    rintro cb w2 hge2 hc2 hx2
    refine OW.val rfl rfl (EX.assign rfl) ?_
    refine OW.nil ?_
    refine KW.seq (KW.region ?_)
    refine OW.val rfl rfl (EX.move rfl) ?_
    refine OW.val rfl rfl (EX.makeFunc rfl rfl) ?_
    refine OW.val rfl rfl (EX.move rfl) ?_
    refine OW.val rfl rfl (EX.makeFunc rfl rfl) ?_
    refine OW.val rfl rfl (EX.assign rfl) ?_
    refine OW.val rfl rfl (EX.assign rfl) ?_
    refine OW.nil ?_
    refine KW.seq (KW.region ?_)
    refine OW.allocB (l := [str [], .int .i64 0, .int .u8 0, .int .i64 0, .int .i64 0, str [], str [], str [], .int .i64 0, .int .i64 0]) rfl rfl ti72 rfl ?_
    rintro hb w3 hge3 hh3 hx3
    refine OW.nil ?_
    refine KW.seq (KW.region ?_)
    refine OW.val rfl rfl (EX.move rfl) ?_
    have hlt1 := hr1.lt
    have d0 : Dc w w3 rb cb hb (s.drop 0) false hd0.cells := ⟨(hx1.trans hx2).trans hx3, (hr1.ext hx2).ext hx3, hc2.ext hx3, hh3, hge1, by have := hx1.size; omega, by have := hx1.size; have := hx2.size; omega, by have := hx2.size; omega⟩
    refine OW.callV rfl rfl rfl rfl rfl (d0.raw 100 h512 (by decide)) ?_
    rintro _ w4 ⟨rfl, d1⟩
    refine OW.call rfl rfl rfl (cut_s (sl s 0 100) (by have := sl_len h512 0 100; omega) w4) ?_
    rintro _ _ ⟨rfl, rfl⟩
    refine OW.val rfl rfl (EX.assign rfl) ?_
    refine OW.nil ?_
    refine KW.seq (KW.region ?_)
    refine OW.val rfl rfl (EX.move rfl) ?_
    refine OW.callV rfl rfl rfl rfl rfl (d1.num 8 h512 (by decide)) ?_
    rintro _ w5 ⟨rfl, d2⟩
    refine OW.val rfl rfl (EX.move rfl) ?_
    refine OW.callV rfl rfl rfl rfl rfl (d2.num 8 h512 (by decide)) ?_
    rintro _ w6 ⟨rfl, d3⟩
    refine OW.val rfl rfl (EX.move rfl) ?_
    refine OW.callV rfl rfl rfl rfl rfl (d3.num 8 h512 (by decide)) ?_
    rintro _ w7 ⟨rfl, d4⟩
    refine OW.val rfl rfl (EX.fieldAddr (off := 3) Tryz.underlying72 rfl rfl ti3 rfl rfl) ?_
    refine OW.storeB rfl ti3 rfl rfl (by first | rfl | assumption | exact Own.one (by assumption)) (d4.h) (of_decide_eq_true rfl) ?_
    rintro w8 hh8 hm8
    refine OW.val rfl rfl (EX.fieldAddr (off := 8) Tryz.underlying72 rfl rfl ti70 rfl rfl) ?_
    refine OW.val rfl rfl (by first | exact EX.indexAddrA0 (i := 0) Tryz.underlying70 ti3 rfl rfl (by omega) | exact EX.indexAddrA1 (i := 0) Tryz.underlying70 ti3 rfl rfl (by omega)) ?_
    have d5 := d4.put hh8 hm8
    refine OW.storeB rfl ti3 rfl rfl (by first | rfl | assumption | exact Own.one (by assumption)) (d5.h) (of_decide_eq_true rfl) ?_
    rintro w9 hh9 hm9
    refine OW.val rfl rfl (EX.fieldAddr (off := 8) Tryz.underlying72 rfl rfl ti70 rfl rfl) ?_
    refine OW.val rfl rfl (by first | exact EX.indexAddrA0 (i := 1) Tryz.underlying70 ti3 rfl rfl (by omega) | exact EX.indexAddrA1 (i := 1) Tryz.underlying70 ti3 rfl rfl (by omega)) ?_
    have d6 := d5.put hh9 hm9
    refine OW.storeB rfl ti3 rfl rfl (by first | rfl | assumption | exact Own.one (by assumption)) (d6.h) (of_decide_eq_true rfl) ?_
    rintro w10 hh10 hm10
    refine OW.nil ?_
    refine KW.seq (KW.region ?_)
    refine OW.val rfl rfl (EX.move rfl) ?_
    have d7 := d6.put hh10 hm10
    refine OW.callV rfl rfl rfl rfl rfl (d7.num 12 h512 (by decide)) ?_
    rintro _ w11 ⟨rfl, d8⟩
    refine OW.val rfl rfl (EX.move rfl) ?_
    refine OW.callV rfl rfl rfl rfl rfl (d8.num 12 h512 (by decide)) ?_
    rintro _ w12 ⟨rfl, d9⟩
    refine OW.val rfl rfl (EX.fieldAddr (off := 1) Tryz.underlying72 rfl rfl ti3 rfl rfl) ?_
    refine OW.storeB rfl ti3 rfl rfl (by first | rfl | assumption | exact Own.one (by assumption)) (d9.h) (of_decide_eq_true rfl) ?_
    rintro w13 hh13 hm13
    refine OW.val rfl rfl (EX.fieldAddr (off := 4) Tryz.underlying72 rfl rfl ti3 rfl rfl) ?_
    have d10 := d9.put hh13 hm13
    refine OW.storeB rfl ti3 rfl rfl (by first | rfl | assumption | exact Own.one (by assumption)) (d10.h) (of_decide_eq_true rfl) ?_
    rintro w14 hh14 hm14
    refine OW.nil ?_
    refine KW.seq (KW.region ?_)
    refine OW.val rfl rfl (EX.move rfl) ?_
    have d11 := d10.put hh14 hm14
    refine OW.callV rfl rfl rfl rfl rfl (d11.num 8 h512 (by decide)) ?_
    rintro _ w15 ⟨rfl, d12⟩
    refine OW.val rfl rfl (EX.assign rfl) ?_
    refine OW.nil ?_
    refine KW.seq (KW.region ?_)
    refine OW.val rfl rfl (EX.move rfl) ?_
    have hl1 : (sl s (0 + 100 + 8 + 8 + 8 + 12 + 12 + 8) 1).length = 1 := by unfold sl; rw [List.length_take, List.length_drop]; omega
    have hl1' : (sl s 156 1).length = 1 := hl1
    refine OW.callV rfl rfl rfl rfl rfl (d12.raw 1 h512 (by decide)) ?_
    rintro _ w16 ⟨rfl, d13⟩
    refine OW.val rfl rfl (EX.indexS (i := 0) Tryz.underlying9 rfl rfl (List.getElem?_eq_getElem (by omega))) ?_
    refine OW.val rfl rfl (EX.fieldAddr (off := 2) Tryz.underlying72 rfl rfl ti5 rfl rfl) ?_
    refine OW.storeB rfl ti5 rfl rfl (by first | rfl | assumption | exact Own.one (by assumption)) (d13.h) (of_decide_eq_true rfl) ?_
    rintro w17 hh17 hm17
    refine OW.nil ?_
    refine KW.seq (KW.region ?_)
    refine OW.val rfl rfl (EX.move rfl) ?_
    have d14 := d13.put hh17 hm17
    refine OW.callV rfl rfl rfl rfl rfl (d14.raw 100 h512 (by decide)) ?_
    rintro _ w18 ⟨rfl, d15⟩
    refine OW.call rfl rfl rfl (cut_s (sl s 157 100) (by have := sl_len h512 157 100; omega) w18) ?_
    rintro _ _ ⟨rfl, rfl⟩
    refine OW.val rfl rfl (EX.fieldAddr (off := 5) Tryz.underlying72 rfl rfl ti9 rfl rfl) ?_
    refine OW.storeB rfl ti9 rfl rfl (by first | rfl | assumption | exact Own.one (by assumption)) (d15.h) (of_decide_eq_true rfl) ?_
    rintro w19 hh19 hm19
    refine OW.nil ?_
    refine KW.seq (KW.region ?_)
    refine OW.val rfl rfl (EX.move rfl) ?_
    have d16 := d15.put hh19 hm19
    refine OW.callV rfl rfl rfl rfl rfl (d16.raw 8 h512 (by decide)) ?_
    rintro _ w20 ⟨rfl, d17⟩
    refine OW.val rfl rfl (EX.assign rfl) ?_
    refine OW.nil ?_
    refine KW.seq (KW.region ?_)
    refine OW.val rfl rfl (EX.move rfl) ?_
    refine OW.callV rfl rfl rfl rfl rfl (d17.raw 32 h512 (by decide)) ?_
    rintro _ w21 ⟨rfl, d18⟩
    refine OW.call rfl rfl rfl (cut_s (sl s 265 32) (by have := sl_len h512 265 32; omega) w21) ?_
    rintro _ _ ⟨rfl, rfl⟩
    refine OW.val rfl rfl (EX.move rfl) ?_
    refine OW.callV rfl rfl rfl rfl rfl (d18.raw 32 h512 (by decide)) ?_
    rintro _ w22 ⟨rfl, d19⟩
    refine OW.call rfl rfl rfl (cut_s (sl s 297 32) (by have := sl_len h512 297 32; omega) w22) ?_
    rintro _ _ ⟨rfl, rfl⟩
    refine OW.val rfl rfl (EX.fieldAddr (off := 6) Tryz.underlying72 rfl rfl ti69 rfl rfl) ?_
    refine OW.val rfl rfl (by first | exact EX.indexAddrA0 (i := 0) Tryz.underlying69 ti9 rfl rfl (by omega) | exact EX.indexAddrA1 (i := 0) Tryz.underlying69 ti9 rfl rfl (by omega)) ?_
    refine OW.storeB rfl ti9 rfl rfl (by first | rfl | assumption | exact Own.one (by assumption)) (d19.h) (of_decide_eq_true rfl) ?_
    rintro w23 hh23 hm23
    refine OW.val rfl rfl (EX.fieldAddr (off := 6) Tryz.underlying72 rfl rfl ti69 rfl rfl) ?_
    refine OW.val rfl rfl (by first | exact EX.indexAddrA0 (i := 1) Tryz.underlying69 ti9 rfl rfl (by omega) | exact EX.indexAddrA1 (i := 1) Tryz.underlying69 ti9 rfl rfl (by omega)) ?_
    have d20 := d19.put hh23 hm23
    refine OW.storeB rfl ti9 rfl rfl (by first | rfl | assumption | exact Own.one (by assumption)) (d20.h) (of_decide_eq_true rfl) ?_
    rintro w24 hh24 hm24
    refine OW.nil ?_
    refine KW.seq (KW.region ?_)
    refine OW.val rfl rfl (EX.move rfl) ?_
    have d21 := d20.put hh24 hm24
    refine OW.callV rfl rfl rfl rfl rfl (d21.raw 16 h512 (by decide)) ?_
    rintro _ w25 ⟨rfl, d22⟩
    refine OW.nil ?_
    refine KW.seq (KW.region ?_)
    refine OW.val rfl rfl (EX.move rfl) ?_
    refine OW.callV rfl rfl rfl rfl rfl (d22.raw 155 h512 (by decide)) ?_
    rintro _ w26 ⟨rfl, d23⟩
    refine OW.call rfl rfl rfl (cut_s (sl s 345 155) (by have := sl_len h512 345 155; omega) w26) ?_
    rintro _ _ ⟨rfl, rfl⟩
    refine OW.val rfl rfl (EX.assign rfl) ?_
    refine OW.nil ?_
    refine KW.seq (KW.region ?_)
    refine OW.val rfl rfl (EX.move rfl) ?_
    refine OW.val rfl rfl (EX.fieldAddr (off := 0) Tryz.underlying72 rfl rfl ti9 rfl rfl) ?_
    refine OW.storeB rfl ti9 rfl rfl (by first | rfl | assumption | exact Own.one (by assumption)) (d23.h) (of_decide_eq_true rfl) ?_
    rintro w27 hh27 hm27
    refine OW.nil ?_
    refine KW.seq (KW.seq (KW.region ?_))
    refine OW.val rfl rfl (EX.move rfl) ?_
    refine OW.val rfl rfl (EX.neqS (r := []) rfl rfl) ?_
    refine OW.nil ?_
    have d24 := d23.put hh27 hm27
    have hx0 : (sl s 156 1)[0] = s.getD 156 0 := by
      unfold sl
      simp [List.getD_eq_getElem?_getD, h512]
    obtain ⟨bad, hbad, d25⟩ : ∃ bad, (bad = false ↔ (num (sl s 100 8)).2 = 0 ∧ (num (sl s 108 8)).2 = 0 ∧ (num (sl s 116 8)).2 = 0 ∧ (num (sl s 124 12)).2 = 0 ∧ (num (sl s 136 12)).2 = 0 ∧ (num (sl s 148 8)).2 = 0) ∧ Dc w w27 rb cb hb (s.drop 500) bad (Hd.cells ⟨cut (sl s 0 100), (num (sl s 124 12)).1, ((sl s 156 1)[0]).toNat, (num (sl s 100 8)).1, (num (sl s 136 12)).1, cut (sl s 157 100), cut (sl s 265 32), cut (sl s 297 32), (num (sl s 108 8)).1, (num (sl s 116 8)).1⟩) := ⟨_, by simp [and_assoc], d24⟩
    rw [hx0] at d25
    have hpn := cut_le (sl s 0 100)
    have hpp := cut_le (sl s 345 155)
    have hsl1 := sl_len h512 0 100
    have hsl2 := sl_len h512 345 155
    refine KW.cut1 (fun (wr : World) => Dc w wr rb cb hb (s.drop 500) bad (Hd.cells ⟨pathD s, (num (sl s 124 12)).1, (s.getD 156 0).toNat, (num (sl s 100 8)).1, (num (sl s 136 12)).1, cut (sl s 157 100), cut (sl s 265 32), cut (sl s 297 32), (num (sl s 108 8)).1, (num (sl s 116 8)).1⟩)) (fun (wr : World) => [(0, str (s)), (2, .pointer (some ⟨rb, 0, none⟩)), (4, .pointer (some ⟨cb, 0, none⟩)), (7, .pointer (some ⟨hb, 0, none⟩)), (9, .int .i64 (((num (sl s 148 8)).1 : Nat) : Int)), (10, str ((sl s 257 8)))]) (fun (wr : World) => wr) ?_ ?_
    · refine KW.condD rfl (fun hpre => ?_) (fun hpre => ?_)
      · refine KW.region ?_
        refine OW.val rfl rfl (EX.move rfl) ?_
        refine OW.val rfl rfl (EX.addS (r := [47]) rfl rfl (by first | omega | (simp only [List.length_append, List.length_cons, List.length_nil, List.length_take, List.length_drop, List.length_replicate]; omega))) ?_
        refine OW.val rfl rfl (EX.move rfl) ?_
        refine OW.val rfl rfl (EX.addS rfl rfl (by first | omega | (simp only [List.length_append, List.length_cons, List.length_nil, List.length_take, List.length_drop, List.length_replicate]; omega))) ?_
        refine OW.val rfl rfl (EX.fieldAddr (off := 0) Tryz.underlying72 rfl rfl ti9 rfl rfl) ?_
        refine OW.storeB rfl ti9 rfl rfl (by first | rfl | assumption | exact Own.one (by assumption)) (d25.h) (of_decide_eq_true rfl) ?_
        rintro w28 hh28 hm28
        refine OW.nil ?_
        refine KW.meet1 (w28) ⟨rfl, rfl, rfl, rfl, rfl, rfl, trivial⟩ rfl ?_
        have e : pathD s = cut (sl s 345 155) ++ [47] ++ cut (sl s 0 100) := by unfold pathD; rw [if_pos hpre]
        rw [e]
        exact d25.put hh28 hm28
      · refine KW.skip ?_
        refine KW.meet1 (w27) ⟨rfl, rfl, rfl, rfl, rfl, rfl, trivial⟩ rfl ?_
        have e : pathD s = cut (sl s 0 100) := by unfold pathD; rw [if_neg hpre]
        rw [e]
        exact d25
    · rintro wr e0
      refine KW.seq (KW.seq (KW.region ?_))
      refine OW.val rfl rfl (EX.fieldAddr (off := 2) Tryz.underlying72 rfl rfl ti5 rfl rfl) ?_
      refine OW.val rfl rfl (EX.load Tryz.underlying5 rfl rfl (e0.h.cell_of rfl)) ?_
      refine OW.val rfl rfl (by first | exact EX.eqlN (b := 0) rfl rfl | exact EX.eqlZ rfl rfl) ?_
      refine OW.nil ?_
      refine KW.cut1 (fun (wq : World) => Dc w wq rb cb hb (s.drop 500) bad (hdD s).cells) (fun (wq : World) => [(0, str (s)), (2, .pointer (some ⟨rb, 0, none⟩)), (4, .pointer (some ⟨cb, 0, none⟩)), (7, .pointer (some ⟨hb, 0, none⟩)), (9, .int .i64 (((num (sl s 148 8)).1 : Nat) : Int)), (10, str ((sl s 257 8)))]) (fun (wq : World) => wq) ?_ ?_
      · refine KW.condD rfl (fun hk0 => ?_) (fun hk0 => ?_)
        · refine KW.region ?_
          refine OW.val rfl rfl (EX.fieldAddr (off := 2) Tryz.underlying72 rfl rfl ti5 rfl rfl) ?_
          refine OW.storeB rfl ti5 rfl rfl (by first | rfl | assumption | exact Own.one (by assumption)) (e0.h) (of_decide_eq_true rfl) ?_
          rintro w29 hh29 hm29
          refine OW.nil ?_
          refine KW.meet1 (w29) ⟨rfl, rfl, rfl, rfl, rfl, rfl, trivial⟩ rfl ?_
          have e : kindD s = 48 := by unfold kindD; rw [if_pos (by omega)]
          unfold hdD
          rw [e]
          exact e0.put hh29 hm29
        · refine KW.skip ?_
          refine KW.meet1 (wr) ⟨rfl, rfl, rfl, rfl, rfl, rfl, trivial⟩ rfl ?_
          have e : kindD s = (s.getD 156 0).toNat := by unfold kindD; rw [if_neg (by omega)]
          unfold hdD
          rw [e]
          exact e0
      · rintro wq f0
        have hsum : sum s = (sumTo s 512, 0) := by unfold sum; rw [if_neg (by omega)]
        have cs := sum_s s hs wq
        rw [hsum] at cs
        have bye : ∀ (w' : World), Bk w' rb 72 hd0.cells → Mo wq w' [rb] → Ext w w' := fun w' _ hm => below_mo f0.x hm f0.x.size (fun k hk => by simp at hk; subst hk; exact f0.rlo)
        refine KW.seq (KW.seq (KW.region ?_))
        refine OW.val rfl rfl (EX.move rfl) ?_
        refine OW.call rfl rfl rfl (cs) ?_
        rintro _ _ ⟨rfl, rfl⟩
        refine OW.val rfl rfl (EX.move rfl) ?_
        refine OW.val rfl rfl (EX.extract rfl rfl) ?_
        refine OW.val rfl rfl (EX.extract rfl rfl) ?_
        refine OW.val rfl rfl (EX.assign rfl) ?_
        refine OW.val rfl rfl (EX.assign rfl) ?_
        refine OW.nil ?_
        refine KW.seq ?_
        rcases bad with _ | _
        · obtain ⟨b1, b2, b3, b4, b5, b6⟩ := hbad.1 rfl
          refine KW.region ?_
          refine OW.val rfl rfl (EX.move rfl) ?_
          refine OW.val rfl rfl (EX.nilCheck rfl) ?_
          refine OW.val rfl rfl (EX.fieldAddr (off := 1) Tryz.underlying151 rfl rfl ti4 rfl rfl) ?_
          refine OW.val rfl rfl (EX.load Tryz.underlying4 rfl rfl (f0.c.cell_of rfl)) ?_
          refine OW.val rfl rfl (EX.move rfl) ?_
          refine OW.val rfl rfl (EX.move rfl) ?_
          refine OW.val rfl rfl (EX.move rfl) ?_
          refine OW.val rfl rfl (by first | exact EX.neqN rfl rfl | exact EX.neqZ rfl rfl) ?_
          refine OW.val rfl rfl (EX.pickF rfl rfl) ?_
          refine OW.val rfl rfl (EX.move rfl) ?_
          refine OW.splitD 99 rfl (fun c1 => ?_) (fun c1 => ?_)
          · refine OW.pass rfl rfl ?_
            refine OW.pass rfl rfl ?_
            refine OW.val rfl rfl (EX.pickT rfl rfl) ?_
            refine OW.val rfl rfl (EX.move rfl) ?_
            refine OW.pass rfl rfl ?_
            refine OW.pass rfl rfl ?_
            refine OW.pass rfl rfl ?_
            refine OW.val rfl rfl (EX.pickT rfl rfl) ?_
            refine OW.nil ?_
            refine KW.condT rfl (KW.seq (KW.region ?_))
            refine OW.val rfl rfl (EX.buildS (pl := [(0, 1), (1, 1), (2, 1), (3, 1), (4, 1), (5, 1), (6, 2), (8, 2)]) (ks := []) (is := []) (zs := [str [], .int .i64 0, .int .u8 0, .int .i64 0, .int .i64 0, str [], str [], str [], .int .i64 0, .int .i64 0]) Tryz.underlying72 ti72 (by kernel_rfl) rfl rfl rfl (by first | rfl | (simp only [List.all_cons, List.all_nil, Bool.and_true, Bool.true_and, Bool.and_eq_true, Value.oneCell']; repeat (first | assumption | exact Own.one (by assumption) | constructor))) (by simp only [setAll, List.set_cons_zero, List.set_cons_succ]; rfl)) ?_
            refine OW.storeS rfl ti72 rfl rfl rfl (by first | rfl | (simp only [List.all_cons, List.all_nil, Bool.and_true, Bool.true_and, Bool.and_eq_true, Value.oneCell']; repeat (first | assumption | exact Own.one (by assumption) | constructor))) (f0.r) (Nat.le_refl _) ?_
            rintro w30 hr30 hm30
            refine OW.val rfl rfl (EX.assign rfl) ?_
            refine OW.nil ?_
            refine KW.ret (retC2 rfl Tryz.underlying72 rfl ti72 rfl rfl (hr30) rfl ?_)
            rw [dec_no fun h => c1 (by have := h.sums; omega)]
            exact ⟨rfl, bye _ hr30 hm30⟩
          · refine OW.val rfl rfl (EX.move rfl) ?_
            refine OW.val rfl rfl (EX.neqS (r := [117, 115, 116, 97, 114, 0, 48, 48]) rfl rfl) ?_
            refine OW.val rfl rfl (EX.pickF rfl rfl) ?_
            refine OW.val rfl rfl (EX.move rfl) ?_
            refine OW.splitD 103 rfl (fun c2 => ?_) (fun c2 => ?_)
            · refine OW.pass rfl rfl ?_
              refine OW.pass rfl rfl ?_
              refine OW.pass rfl rfl ?_
              refine OW.val rfl rfl (EX.pickT rfl rfl) ?_
              refine OW.nil ?_
              refine KW.condT rfl (KW.seq (KW.region ?_))
              refine OW.val rfl rfl (EX.buildS (pl := [(0, 1), (1, 1), (2, 1), (3, 1), (4, 1), (5, 1), (6, 2), (8, 2)]) (ks := []) (is := []) (zs := [str [], .int .i64 0, .int .u8 0, .int .i64 0, .int .i64 0, str [], str [], str [], .int .i64 0, .int .i64 0]) Tryz.underlying72 ti72 (by kernel_rfl) rfl rfl rfl (by first | rfl | (simp only [List.all_cons, List.all_nil, Bool.and_true, Bool.true_and, Bool.and_eq_true, Value.oneCell']; repeat (first | assumption | exact Own.one (by assumption) | constructor))) (by simp only [setAll, List.set_cons_zero, List.set_cons_succ]; rfl)) ?_
              refine OW.storeS rfl ti72 rfl rfl rfl (by first | rfl | (simp only [List.all_cons, List.all_nil, Bool.and_true, Bool.true_and, Bool.and_eq_true, Value.oneCell']; repeat (first | assumption | exact Own.one (by assumption) | constructor))) (f0.r) (Nat.le_refl _) ?_
              rintro w30 hr30 hm30
              refine OW.val rfl rfl (EX.assign rfl) ?_
              refine OW.nil ?_
              refine KW.ret (retC2 rfl Tryz.underlying72 rfl ti72 rfl rfl (hr30) rfl ?_)
              rw [dec_no fun h => c2 h.magic]
              exact ⟨rfl, bye _ hr30 hm30⟩
            · refine OW.val rfl rfl (EX.fieldAddr (off := 0) Tryz.underlying72 rfl rfl ti9 rfl rfl) ?_
              refine OW.val rfl rfl (EX.load Tryz.underlying9 rfl rfl (f0.h.cell_of rfl)) ?_
              refine OW.val rfl rfl (EX.eqlS (r := []) rfl rfl) ?_
              refine OW.val rfl rfl (EX.pickF rfl rfl) ?_
              refine OW.nil ?_
              refine KW.condD rfl (fun c3 => ?_) (fun c3 => ?_)
              · refine KW.seq (KW.region ?_)
                refine OW.val rfl rfl (EX.buildS (pl := [(0, 1), (1, 1), (2, 1), (3, 1), (4, 1), (5, 1), (6, 2), (8, 2)]) (ks := []) (is := []) (zs := [str [], .int .i64 0, .int .u8 0, .int .i64 0, .int .i64 0, str [], str [], str [], .int .i64 0, .int .i64 0]) Tryz.underlying72 ti72 (by kernel_rfl) rfl rfl rfl (by first | rfl | (simp only [List.all_cons, List.all_nil, Bool.and_true, Bool.true_and, Bool.and_eq_true, Value.oneCell']; repeat (first | assumption | exact Own.one (by assumption) | constructor))) (by simp only [setAll, List.set_cons_zero, List.set_cons_succ]; rfl)) ?_
                refine OW.storeS rfl ti72 rfl rfl rfl (by first | rfl | (simp only [List.all_cons, List.all_nil, Bool.and_true, Bool.true_and, Bool.and_eq_true, Value.oneCell']; repeat (first | assumption | exact Own.one (by assumption) | constructor))) (f0.r) (Nat.le_refl _) ?_
                rintro w30 hr30 hm30
                refine OW.val rfl rfl (EX.assign rfl) ?_
                refine OW.nil ?_
                refine KW.ret (retC2 rfl Tryz.underlying72 rfl ti72 rfl rfl (hr30) rfl ?_)
                rw [dec_no fun h => h.path c3]
                exact ⟨rfl, bye _ hr30 hm30⟩
              · have ok : OkD s := ⟨h512, Classical.not_not.1 c2, b1, b2, b3, b4, b5, b6, by omega, c3⟩
                refine KW.skip (KW.seq (KW.region ?_))
                refine OW.val rfl rfl (EX.loadBk Tryz.underlying72 rfl ti72 rfl (f0.h) (rfl)) ?_
                refine OW.storeS rfl ti72 rfl rfl rfl (by first | rfl | (simp only [List.all_cons, List.all_nil, Bool.and_true, Bool.true_and, Bool.and_eq_true, Value.oneCell']; repeat (first | assumption | exact Own.one (by assumption) | constructor))) (f0.r) (Nat.le_refl _) ?_
                rintro w30 hr30 hm30
                refine OW.val rfl rfl (EX.assign rfl) ?_
                refine OW.nil ?_
                refine KW.ret (retC2 rfl Tryz.underlying72 rfl ti72 rfl rfl (hr30) rfl ?_)
                rw [dec_yes ok]
                exact ⟨rfl, below_mo f0.x hm30 f0.x.size (fun k hk => by simp at hk; subst hk; exact f0.rlo)⟩
        · refine KW.region ?_
          refine OW.val rfl rfl (EX.move rfl) ?_
          refine OW.val rfl rfl (EX.nilCheck rfl) ?_
          refine OW.val rfl rfl (EX.fieldAddr (off := 1) Tryz.underlying151 rfl rfl ti4 rfl rfl) ?_
          refine OW.val rfl rfl (EX.load Tryz.underlying4 rfl rfl (f0.c.cell_of rfl)) ?_
          refine OW.val rfl rfl (EX.move rfl) ?_
          refine OW.pass rfl rfl ?_
          refine OW.pass rfl rfl ?_
          refine OW.pass rfl rfl ?_
          refine OW.val rfl rfl (EX.pickT rfl rfl) ?_
          refine OW.val rfl rfl (EX.move rfl) ?_
          refine OW.pass rfl rfl ?_
          refine OW.pass rfl rfl ?_
          refine OW.val rfl rfl (EX.pickT rfl rfl) ?_
          refine OW.val rfl rfl (EX.move rfl) ?_
          refine OW.pass rfl rfl ?_
          refine OW.pass rfl rfl ?_
          refine OW.pass rfl rfl ?_
          refine OW.val rfl rfl (EX.pickT rfl rfl) ?_
          refine OW.nil ?_
          refine KW.condT rfl (KW.seq (KW.region ?_))
          refine OW.val rfl rfl (EX.buildS (pl := [(0, 1), (1, 1), (2, 1), (3, 1), (4, 1), (5, 1), (6, 2), (8, 2)]) (ks := []) (is := []) (zs := [str [], .int .i64 0, .int .u8 0, .int .i64 0, .int .i64 0, str [], str [], str [], .int .i64 0, .int .i64 0]) Tryz.underlying72 ti72 (by kernel_rfl) rfl rfl rfl (by first | rfl | (simp only [List.all_cons, List.all_nil, Bool.and_true, Bool.true_and, Bool.and_eq_true, Value.oneCell']; repeat (first | assumption | exact Own.one (by assumption) | constructor))) (by simp only [setAll, List.set_cons_zero, List.set_cons_succ]; rfl)) ?_
          refine OW.storeS rfl ti72 rfl rfl rfl (by first | rfl | (simp only [List.all_cons, List.all_nil, Bool.and_true, Bool.true_and, Bool.and_eq_true, Value.oneCell']; repeat (first | assumption | exact Own.one (by assumption) | constructor))) (f0.r) (Nat.le_refl _) ?_
          rintro w30 hr30 hm30
          refine OW.val rfl rfl (EX.assign rfl) ?_
          refine OW.nil ?_
          refine KW.ret (retC2 rfl Tryz.underlying72 rfl ti72 rfl rfl (hr30) rfl ?_)
          rw [dec_no fun h => by
            have := hbad.2 ⟨h.mode, h.i0, h.i1, h.size, h.time, h.sum⟩
            cases this]
          exact ⟨rfl, bye _ hr30 hm30⟩
theorem zero_c (s : List UInt8) (w : World) : Ret Tryz.prog 84 [str s, str [0]] w fun v w' => v = .int .i64 ((Lib.countByte s 0 : Nat) : Int) ∧ w' = w :=
  Ret.of_calls Tryz.func84 (by kernel_rfl) (Tryz.strings_Count_one ⟨⟨s⟩⟩ 0 w)
theorem zero_s (s : List UInt8) (w : World) : Ret Tryz.prog 55 [str s] w fun v w' => v = .bool (zeroH s) ∧ w = w' := by
  refine Ret.enter Tryz.func55 rfl Tryz.ntmps55 (by kernel_rfl) rfl ?_
  refine KW.seq (KW.region ?_)
  refine OW.val rfl rfl (EX.assign rfl) ?_
  refine OW.nil ?_
  refine KW.seq ?_
  refine KW.region ?_
  refine OW.val rfl rfl (EX.move rfl) ?_
  refine OW.val rfl rfl (EX.lenS Tryz.underlying9 rfl) ?_
  refine OW.val rfl rfl (by first | exact EX.eqlN (b := 512) rfl rfl | exact EX.eqlZ rfl rfl) ?_
  refine OW.val rfl rfl (EX.move rfl) ?_
  refine OW.splitD 6 rfl (fun h1 => ?_) (fun h1 => ?_)
  · refine OW.val rfl rfl (EX.move rfl) ?_
    refine OW.call rfl rfl rfl (zero_c s w) ?_
    rintro _ w ⟨rfl, rfl⟩
    refine OW.val rfl rfl (by first | exact EX.eqlN (b := 512) rfl rfl | exact EX.eqlZ rfl rfl) ?_
    refine OW.val rfl rfl (EX.pickT rfl rfl) ?_
    refine OW.val rfl rfl (EX.assign rfl) ?_
    refine OW.nil ?_
    refine KW.ret (ret1 rfl rfl ?_)
    refine ⟨congrArg Value.bool (decide_eq_decide.2 ?_), rfl⟩
    have h512 : s.length = 512 := by omega
    rw [show (Lib.countByte s 0 = 512) ↔ s.count 0 = s.length by unfold Lib.countByte; omega, List.count_eq_length]
    exact ⟨fun h => ⟨h512, fun c hc => (h c hc).symm⟩, fun h c hc => (h.2 c hc).symm⟩
  · refine OW.pass rfl rfl ?_
    refine OW.pass rfl rfl ?_
    refine OW.pass rfl rfl ?_
    refine OW.val rfl rfl (EX.pickF rfl rfl) ?_
    refine OW.val rfl rfl (EX.assign rfl) ?_
    refine OW.nil ?_
    refine KW.ret (ret1 rfl rfl ?_)
    exact ⟨congrArg Value.bool (decide_eq_false (fun h => h1 (by omega))).symm, rfl⟩
theorem rzero_s (s : List UInt8) (hs : s.length ≤ 140737488355328) (w : World) : Ret Tryz.prog 34 [str s] w fun v w' => v = .bool (zeroH s) ∧ w = w' := by
  refine Ret.enter Tryz.func34 rfl Tryz.ntmps34 (by kernel_rfl) rfl ?_
  refine KW.seq (KW.region ?_)
  refine OW.val rfl rfl (EX.assign rfl) ?_
  refine OW.nil ?_
  refine KW.seq (KW.seq (KW.region ?_))
  refine OW.val rfl rfl (EX.assign rfl) ?_
  refine OW.nil ?_
  refine KW.block ?_
  refine KW.loop1 (fun (i : Nat) => i ≤ s.length ∧ ∀ j, j < i → s[j]? = some 0) (fun (i : Nat) => [(0, str (s)), (3, .int .i64 ((i : Nat) : Int))]) (fun (i : Nat) => w) (fun (i : Nat) => s.length - i) (0) ⟨rfl, rfl, trivial⟩ rfl ?_ ?_
  · exact ⟨by omega, fun j hj => by omega⟩
  · rintro i ⟨hi, hz⟩
    refine KW.seq (KW.seq (KW.region ?_))
    refine OW.val rfl rfl (EX.move rfl) ?_
    refine OW.val rfl rfl (EX.move rfl) ?_
    refine OW.val rfl rfl (EX.lenS Tryz.underlying9 rfl) ?_
    refine OW.val rfl rfl (by first | exact EX.lssN rfl rfl | exact EX.lssZ rfl rfl) ?_
    refine OW.nil ?_
    refine KW.condD rfl (fun hlt => ?_) (fun hlt => ?_)
    · refine KW.skip (KW.seq (KW.block (KW.seq (KW.region ?_))))
      refine OW.val rfl rfl (EX.move rfl) ?_
      refine OW.val rfl rfl (EX.move rfl) ?_
      refine OW.val rfl rfl (EX.indexS Tryz.underlying9 rfl rfl (List.getElem?_eq_getElem (by omega))) ?_
      refine OW.val rfl rfl (by first | exact EX.neqN (b := 0) rfl rfl | exact EX.neqZ rfl rfl) ?_
      refine OW.nil ?_
      refine KW.condD rfl (fun hne => ?_) (fun hne => ?_)
      · refine KW.seq (KW.region ?_)
        refine OW.val rfl rfl (EX.assign rfl) ?_
        refine OW.nil ?_
        refine KW.ret (ret1 rfl rfl ?_)
        refine ⟨congrArg Value.bool (decide_eq_false (fun h => hne ?_)).symm, rfl⟩
        rw [h.2 _ (List.getElem_mem hlt)]
        rfl
      · refine KW.skip (KW.leave (KW.region ?_))
        refine OW.val rfl rfl (EX.move rfl) ?_
        refine OW.val rfl rfl (by first | exact EX.addN (b := 1) (m := 9223372036854775807) rfl rfl rfl (by omega) | exact EX.addZ (m := 9223372036854775807) rfl rfl rfl rfl (by omega)) ?_
        refine OW.val rfl rfl (EX.assign rfl) ?_
        refine OW.nil ?_
        refine KW.back1 (i + 1) ⟨rfl, rfl, trivial⟩ rfl ?_ (by omega)
        refine ⟨by omega, fun j hj => ?_⟩
        by_cases e : j = i
        · subst e
          rw [List.getElem?_eq_getElem hlt]
          exact congrArg some (UInt8.toNat_inj.1 (by simpa using hne))
        · exact hz j (by omega)
    · obtain rfl : i = s.length := by omega
      refine KW.exit rfl (KW.seq (KW.region ?_))
      refine OW.val rfl rfl (EX.move rfl) ?_
      refine OW.val rfl rfl (EX.lenS Tryz.underlying9 rfl) ?_
      refine OW.val rfl rfl (by first | exact EX.eqlN (b := 512) rfl rfl | exact EX.eqlZ rfl rfl) ?_
      refine OW.val rfl rfl (EX.assign rfl) ?_
      refine OW.nil ?_
      refine KW.ret (ret1 rfl rfl ?_)
      refine ⟨congrArg Value.bool (decide_eq_decide.2 ⟨fun h => ⟨by omega, fun c hc => ?_⟩, fun h => by have := h.1; omega⟩), rfl⟩
      obtain ⟨j, hj, rfl⟩ := List.getElem_of_mem hc
      have := hz j hj
      rw [List.getElem?_eq_getElem hj] at this
      exact Option.some.inj this
end Go.Proofs.YtjgeoeeikfjmdaaGreatDoor
