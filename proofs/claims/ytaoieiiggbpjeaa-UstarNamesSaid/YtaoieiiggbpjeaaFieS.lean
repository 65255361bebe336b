/-
  fields: sums.
-/
import Derived.Test.YtaoieiiggbpjeaaFieA
namespace Go.Proofs.Ytaoieiiggbpjeaa
open Go.RowKit Fld
set_option linter.unusedVariables false
theorem u8_of_toNat {c : UInt8} {n : Nat} (hn : n < 256) (h : c.toNat = n) : c = UInt8.ofNat n := by
  rw [← h]; simp
theorem octit_at (d : Nat) (h : d < 8) : (List.drop d ([48, 49, 50, 51, 52, 53, 54, 55] : List UInt8)).take (d + 1 - d) = [dgt d] := by
  have : ∀ d : Fin 8, (List.drop d.val ([48, 49, 50, 51, 52, 53, 54, 55] : List UInt8)).take (d.val + 1 - d.val) = [dgt d.val] := by decide +kernel
  exact this ⟨d, h⟩
theorem sum_s (s : List UInt8) (hs : s.length ≤ 140737488355328) (w : World) :
    Ret Try.prog 22 [str s] w fun v w' => v = .tuple #[.int .i64 ((sum s).1 : Nat), .int .i64 ((sum s).2 : Nat)] ∧ w = w' := by
  refine Ret.enter Try.func22 rfl Try.ntmps22 (by kernel_rfl) rfl ?_
  refine KW.seq (KW.region ?_)
  refine OW.val rfl rfl (EX.assign rfl) ?_
  refine OW.val rfl rfl (EX.assign rfl) ?_
  refine OW.nil ?_
  refine KW.seq (KW.seq (KW.region ?_))
  refine OW.val rfl rfl (EX.move rfl) ?_
  refine OW.val rfl rfl (EX.lenS Try.underlying9 rfl) ?_
  refine OW.val rfl rfl (by first | exact EX.neqN (b := 512) rfl rfl | exact EX.neqZ rfl rfl) ?_
  refine OW.nil ?_
  refine KW.condD rfl (fun h0 => ?_) (fun h0 => ?_)
  · have hd : sum s = (0, 2) := by unfold sum; rw [if_pos h0]
    refine KW.seq (KW.region ?_)
    refine OW.val rfl rfl (EX.assign rfl) ?_
    refine OW.val rfl rfl (EX.assign rfl) ?_
    refine OW.nil ?_
    refine KW.ret (ret2 rfl rfl rfl ?_)
    rw [hd]
    exact ⟨rfl, rfl⟩
  · have hd : sum s = (sumTo s 512, 0) := by unfold sum; rw [if_neg h0]
    have h5 : s.length = 512 := by omega
    refine KW.skip (KW.seq (KW.region ?_))
    refine OW.val rfl rfl (EX.assign rfl) ?_
    refine OW.nil ?_
    refine KW.seq (KW.seq (KW.region ?_))
    refine OW.val rfl rfl (EX.move rfl) ?_
    refine OW.val rfl rfl (EX.lenS Try.underlying9 rfl) ?_
    refine OW.val rfl rfl (EX.move rfl) ?_
    refine OW.nil ?_
    refine KW.block ?_
    refine KW.loop1 (fun (i : Nat) => i ≤ 512) (fun (i : Nat) => [(0, str (s)), (4, .int .i64 (((sumTo s i) : Nat) : Int)), (10, .int .i64 ((s.length : Nat) : Int)), (11, .int .i64 ((i : Nat) : Int))]) (fun (i : Nat) => w) (fun (i : Nat) => 512 - i) (0) ⟨rfl, rfl, rfl, rfl, trivial⟩ rfl ?_ ?_
    · omega
    · rintro i hi
      have hb := sumTo_le s i
      refine KW.seq (KW.region ?_)
      refine OW.val rfl rfl (by first | exact EX.lssN rfl rfl | exact EX.lssZ rfl rfl) ?_
      refine OW.nil ?_
      refine KW.seq ?_
      refine KW.condD rfl (fun hl => ?_) (fun hl => ?_)
      · have hc : s[i].toNat < 256 := s[i].toNat_lt
        have hg : s.getD i 0 = s[i] := by simp [List.getD, List.getElem?_eq_getElem hl]
        refine KW.skip (KW.seq (KW.block (KW.seq (KW.region ?_))))
        refine OW.val rfl rfl (EX.move rfl) ?_
        refine OW.val rfl rfl (EX.assign rfl) ?_
        refine OW.nil ?_
        refine KW.seq ?_
        refine KW.region ?_
        refine OW.val rfl rfl (EX.move rfl) ?_
        refine OW.val rfl rfl (by first | exact EX.geqN (b := 148) rfl rfl | exact EX.geqZ rfl rfl) ?_
        refine OW.val rfl rfl (EX.move rfl) ?_
        refine OW.splitD 16 rfl (fun h3 => ?_) (fun h3 => ?_)
        · refine OW.val rfl rfl (EX.move rfl) ?_
          refine OW.val rfl rfl (by first | exact EX.lssN (b := 156) rfl rfl | exact EX.lssZ rfl rfl) ?_
          refine OW.val rfl rfl (EX.pickT rfl rfl) ?_
          refine OW.nil ?_
          refine KW.condD rfl (fun h4 => ?_) (fun h4 => ?_)
          · refine KW.region ?_
            refine OW.val rfl rfl (EX.move rfl) ?_
            refine OW.val rfl rfl (by first | exact EX.addN (b := 32) (m := 9223372036854775807) rfl rfl rfl (by omega) | exact EX.addZ (m := 9223372036854775807) rfl rfl rfl rfl (by omega)) ?_
            refine OW.val rfl rfl (EX.assign rfl) ?_
            refine OW.nil ?_
            refine KW.leave (KW.region ?_)
            refine OW.val rfl rfl (by first | exact EX.addN (b := 1) (m := 9223372036854775807) rfl rfl rfl (by omega) | exact EX.addZ (m := 9223372036854775807) rfl rfl rfl rfl (by omega)) ?_
            refine OW.val rfl rfl (EX.move rfl) ?_
            refine OW.nil ?_
            refine KW.as 4 (.int .i64 (((sumTo s (i + 1)) : Nat) : Int)) rfl (by simp [sumTo, h3, h4]) ?_
            refine KW.back1 (i + 1) ⟨rfl, rfl, rfl, rfl, trivial⟩ rfl ?_ (by omega)
            omega
          · refine KW.region ?_
            refine OW.val rfl rfl (EX.move rfl) ?_
            refine OW.val rfl rfl (EX.move rfl) ?_
            refine OW.val rfl rfl (EX.move rfl) ?_
            refine OW.val rfl rfl (EX.indexS Try.underlying9 rfl rfl (List.getElem?_eq_getElem (by omega))) ?_
            refine OW.val rfl rfl (by first | exact EX.convN (m := 9223372036854775807) Try.underlying5 Try.underlying3 rfl rfl (by omega) | exact EX.convZ Try.underlying5 Try.underlying3 rfl) ?_
            refine OW.val rfl rfl (by first | exact EX.addN (m := 9223372036854775807) rfl rfl rfl (by omega) | exact EX.addZ (m := 9223372036854775807) rfl rfl rfl rfl (by omega)) ?_
            refine OW.val rfl rfl (EX.assign rfl) ?_
            refine OW.nil ?_
            refine KW.leave (KW.region ?_)
            refine OW.val rfl rfl (by first | exact EX.addN (b := 1) (m := 9223372036854775807) rfl rfl rfl (by omega) | exact EX.addZ (m := 9223372036854775807) rfl rfl rfl rfl (by omega)) ?_
            refine OW.val rfl rfl (EX.move rfl) ?_
            refine OW.nil ?_
            refine KW.as 4 (.int .i64 (((sumTo s (i + 1)) : Nat) : Int)) rfl (by simp only [sumTo]; rw [if_neg (by omega), hg]) ?_
            refine KW.back1 (i + 1) ⟨rfl, rfl, rfl, rfl, trivial⟩ rfl ?_ (by omega)
            omega
        · refine OW.pass rfl rfl ?_
          refine OW.pass rfl rfl ?_
          refine OW.val rfl rfl (EX.pickF rfl rfl) ?_
          refine OW.nil ?_
          refine KW.condF rfl (KW.region ?_)
          refine OW.val rfl rfl (EX.move rfl) ?_
          refine OW.val rfl rfl (EX.move rfl) ?_
          refine OW.val rfl rfl (EX.move rfl) ?_
          refine OW.val rfl rfl (EX.indexS Try.underlying9 rfl rfl (List.getElem?_eq_getElem (by omega))) ?_
          refine OW.val rfl rfl (by first | exact EX.convN (m := 9223372036854775807) Try.underlying5 Try.underlying3 rfl rfl (by omega) | exact EX.convZ Try.underlying5 Try.underlying3 rfl) ?_
          refine OW.val rfl rfl (by first | exact EX.addN (m := 9223372036854775807) rfl rfl rfl (by omega) | exact EX.addZ (m := 9223372036854775807) rfl rfl rfl rfl (by omega)) ?_
          refine OW.val rfl rfl (EX.assign rfl) ?_
          refine OW.nil ?_
          refine KW.leave (KW.region ?_)
          refine OW.val rfl rfl (by first | exact EX.addN (b := 1) (m := 9223372036854775807) rfl rfl rfl (by omega) | exact EX.addZ (m := 9223372036854775807) rfl rfl rfl rfl (by omega)) ?_
          refine OW.val rfl rfl (EX.move rfl) ?_
          refine OW.nil ?_
          refine KW.as 4 (.int .i64 (((sumTo s (i + 1)) : Nat) : Int)) rfl (by simp only [sumTo]; rw [if_neg (by omega), hg]) ?_
          refine KW.back1 (i + 1) ⟨rfl, rfl, rfl, rfl, trivial⟩ rfl ?_ (by omega)
          omega
      · obtain rfl : i = 512 := by omega
        refine KW.exit rfl (KW.seq (KW.region ?_))
        refine OW.val rfl rfl (EX.move rfl) ?_
        refine OW.val rfl rfl (EX.assign rfl) ?_
        refine OW.val rfl rfl (EX.assign rfl) ?_
        refine OW.nil ?_
        refine KW.ret (ret2 rfl rfl rfl ?_)
        rw [hd]
        exact ⟨rfl, rfl⟩
theorem refSum_s (s : List UInt8) (hs : s.length ≤ 140737488355328) (w : World) :
    Ret Try.prog 28 [str s] w fun v w' => v = .tuple #[.int .i64 ((sum s).1 : Nat), .int .i64 ((sum s).2 : Nat)] ∧ w = w' := by
  refine Ret.enter Try.func28 rfl Try.ntmps28 (by kernel_rfl) rfl ?_
  refine KW.seq (KW.region ?_)
  refine OW.val rfl rfl (EX.assign rfl) ?_
  refine OW.val rfl rfl (EX.assign rfl) ?_
  refine OW.nil ?_
  refine KW.seq (KW.seq (KW.region ?_))
  refine OW.val rfl rfl (EX.move rfl) ?_
  refine OW.val rfl rfl (EX.lenS Try.underlying9 rfl) ?_
  refine OW.val rfl rfl (by first | exact EX.neqN (b := 512) rfl rfl | exact EX.neqZ rfl rfl) ?_
  refine OW.nil ?_
  refine KW.condD rfl (fun h0 => ?_) (fun h0 => ?_)
  · have hd : sum s = (0, 2) := by unfold sum; rw [if_pos h0]
    refine KW.seq (KW.region ?_)
    refine OW.val rfl rfl (EX.assign rfl) ?_
    refine OW.val rfl rfl (EX.assign rfl) ?_
    refine OW.nil ?_
    refine KW.ret (ret2 rfl rfl rfl ?_)
    rw [hd]
    exact ⟨rfl, rfl⟩
  · have hd : sum s = (sumTo s 512, 0) := by unfold sum; rw [if_neg h0]
    have h5 : s.length = 512 := by omega
    refine KW.skip (KW.seq (KW.region ?_))
    refine OW.val rfl rfl (EX.assign rfl) ?_
    refine OW.nil ?_
    refine KW.seq (KW.seq (KW.region ?_))
    refine OW.val rfl rfl (EX.assign rfl) ?_
    refine OW.nil ?_
    refine KW.block ?_
    refine KW.loop1 (fun (i : Nat) => i ≤ 512) (fun (i : Nat) => [(0, str (s)), (4, .int .i64 (((sumOut s i) : Nat) : Int)), (5, .int .i64 ((i : Nat) : Int))]) (fun (i : Nat) => w) (fun (i : Nat) => 512 - i) (0) ⟨rfl, rfl, rfl, trivial⟩ rfl ?_ ?_
    · omega
    · rintro i hi
      have hb := sumOut_le s i
      refine KW.seq (KW.seq (KW.region ?_))
      refine OW.val rfl rfl (EX.move rfl) ?_
      refine OW.val rfl rfl (by first | exact EX.lssN (b := 512) rfl rfl | exact EX.lssZ rfl rfl) ?_
      refine OW.nil ?_
      refine KW.condD rfl (fun hl => ?_) (fun hl => ?_)
      · have hc : s[i].toNat < 256 := s[i].toNat_lt
        have hg : s.getD i 0 = s[i] := by simp [List.getD, List.getElem?_eq_getElem (show i < s.length by omega)]
        refine KW.skip (KW.seq (KW.block (KW.seq ?_)))
        refine KW.region ?_
        refine OW.val rfl rfl (EX.move rfl) ?_
        refine OW.val rfl rfl (by first | exact EX.lssN (b := 148) rfl rfl | exact EX.lssZ rfl rfl) ?_
        refine OW.val rfl rfl (EX.move rfl) ?_
        refine OW.splitD 15 rfl (fun h3 => ?_) (fun h3 => ?_)
        · refine OW.pass rfl rfl ?_
          refine OW.pass rfl rfl ?_
          refine OW.val rfl rfl (EX.pickT rfl rfl) ?_
          refine OW.nil ?_
          refine KW.condT rfl (KW.region ?_)
          refine OW.val rfl rfl (EX.move rfl) ?_
          refine OW.val rfl rfl (EX.move rfl) ?_
          refine OW.val rfl rfl (EX.move rfl) ?_
          refine OW.val rfl rfl (EX.indexS Try.underlying9 rfl rfl (List.getElem?_eq_getElem (by omega))) ?_
          refine OW.val rfl rfl (by first | exact EX.convN (m := 9223372036854775807) Try.underlying5 Try.underlying3 rfl rfl (by omega) | exact EX.convZ Try.underlying5 Try.underlying3 rfl) ?_
          refine OW.val rfl rfl (by first | exact EX.addN (m := 9223372036854775807) rfl rfl rfl (by omega) | exact EX.addZ (m := 9223372036854775807) rfl rfl rfl rfl (by omega)) ?_
          refine OW.val rfl rfl (EX.assign rfl) ?_
          refine OW.nil ?_
          refine KW.leave (KW.region ?_)
          refine OW.val rfl rfl (EX.move rfl) ?_
          refine OW.val rfl rfl (by first | exact EX.addN (b := 1) (m := 9223372036854775807) rfl rfl rfl (by omega) | exact EX.addZ (m := 9223372036854775807) rfl rfl rfl rfl (by omega)) ?_
          refine OW.val rfl rfl (EX.assign rfl) ?_
          refine OW.nil ?_
          refine KW.as 4 (.int .i64 (((sumOut s (i + 1)) : Nat) : Int)) rfl (by simp only [sumOut]; rw [if_neg (by omega), hg]) ?_
          refine KW.back1 (i + 1) ⟨rfl, rfl, rfl, trivial⟩ rfl ?_ (by omega)
          omega
        · refine OW.val rfl rfl (EX.move rfl) ?_
          refine OW.val rfl rfl (by first | exact EX.gtrN (b := 155) rfl rfl | exact EX.gtrZ rfl rfl) ?_
          refine OW.val rfl rfl (EX.pickF rfl rfl) ?_
          refine OW.nil ?_
          refine KW.condD rfl (fun h4 => ?_) (fun h4 => ?_)
          · refine KW.region ?_
            refine OW.val rfl rfl (EX.move rfl) ?_
            refine OW.val rfl rfl (EX.move rfl) ?_
            refine OW.val rfl rfl (EX.move rfl) ?_
            refine OW.val rfl rfl (EX.indexS Try.underlying9 rfl rfl (List.getElem?_eq_getElem (by omega))) ?_
            refine OW.val rfl rfl (by first | exact EX.convN (m := 9223372036854775807) Try.underlying5 Try.underlying3 rfl rfl (by omega) | exact EX.convZ Try.underlying5 Try.underlying3 rfl) ?_
            refine OW.val rfl rfl (by first | exact EX.addN (m := 9223372036854775807) rfl rfl rfl (by omega) | exact EX.addZ (m := 9223372036854775807) rfl rfl rfl rfl (by omega)) ?_
            refine OW.val rfl rfl (EX.assign rfl) ?_
            refine OW.nil ?_
            refine KW.leave (KW.region ?_)
            refine OW.val rfl rfl (EX.move rfl) ?_
            refine OW.val rfl rfl (by first | exact EX.addN (b := 1) (m := 9223372036854775807) rfl rfl rfl (by omega) | exact EX.addZ (m := 9223372036854775807) rfl rfl rfl rfl (by omega)) ?_
            refine OW.val rfl rfl (EX.assign rfl) ?_
            refine OW.nil ?_
            refine KW.as 4 (.int .i64 (((sumOut s (i + 1)) : Nat) : Int)) rfl (by simp only [sumOut]; rw [if_neg (by omega), hg]) ?_
            refine KW.back1 (i + 1) ⟨rfl, rfl, rfl, trivial⟩ rfl ?_ (by omega)
            omega
          · refine KW.skip (KW.leave (KW.region ?_))
            refine OW.val rfl rfl (EX.move rfl) ?_
            refine OW.val rfl rfl (by first | exact EX.addN (b := 1) (m := 9223372036854775807) rfl rfl rfl (by omega) | exact EX.addZ (m := 9223372036854775807) rfl rfl rfl rfl (by omega)) ?_
            refine OW.val rfl rfl (EX.assign rfl) ?_
            refine OW.nil ?_
            refine KW.as 4 (.int .i64 (((sumOut s (i + 1)) : Nat) : Int)) rfl (by simp only [sumOut]; rw [if_pos (by omega)]; rfl) ?_
            refine KW.back1 (i + 1) ⟨rfl, rfl, rfl, trivial⟩ rfl ?_ (by omega)
            omega
      · obtain rfl : i = 512 := by omega
        refine KW.exit rfl (KW.seq (KW.region ?_))
        refine OW.val rfl rfl (EX.move rfl) ?_
        refine OW.val rfl rfl (EX.assign rfl) ?_
        refine OW.val rfl rfl (EX.assign rfl) ?_
        refine OW.nil ?_
        refine KW.ret (ret2 rfl rfl rfl ?_)
        rw [hd, sumOut_eq]
        exact ⟨rfl, rfl⟩
end Go.Proofs.Ytaoieiiggbpjeaa
