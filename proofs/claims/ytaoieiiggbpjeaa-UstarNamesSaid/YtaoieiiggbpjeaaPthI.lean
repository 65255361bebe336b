/-
  paths: Split, by the program and by the document.
-/
import Derived.Test.YtaoieiiggbpjeaaPthS
import Derived.Test.YtaoieiiggbpjeaaTi
namespace Go.Proofs.Ytaoieiiggbpjeaa
open Go.RowKit
set_option linter.unusedVariables false
set_option linter.unusedSimpArgs false
theorem psplit_s (p : List UInt8) (hp : p.length ≤ 9223372036854775807) (w : World) : Ret Try.prog 16 [str p] w fun v w' => ∃ r, v = .tuple #[str r.1, str r.2.1, .bool r.2.2] ∧ IsSplit p r ∧ Ext w w' := by
  refine Ret.enter Try.func16 rfl Try.ntmps16 (by kernel_rfl) rfl ?_
  refine KW.seq (KW.region ?_)
  refine OW.val rfl rfl (EX.assign rfl) ?_
  refine OW.val rfl rfl (EX.assign rfl) ?_
  refine OW.val rfl rfl (EX.assign rfl) ?_
  refine OW.nil ?_
  refine KW.seq (KW.seq (KW.region ?_))
  refine OW.val rfl rfl (EX.move rfl) ?_
  refine OW.val rfl rfl (EX.lenS Try.underlying9 rfl) ?_
  refine OW.val rfl rfl (by first | exact EX.leqN (b := 100) rfl rfl | exact EX.leqZ rfl rfl) ?_
  refine OW.nil ?_
  refine KW.condD rfl (fun h100 => ?_) (fun h100 => ?_)
  · refine KW.seq (KW.region ?_)
    refine OW.val rfl rfl (EX.move rfl) ?_
    refine OW.val rfl rfl (EX.assign rfl) ?_
    refine OW.val rfl rfl (EX.assign rfl) ?_
    refine OW.val rfl rfl (EX.assign rfl) ?_
    refine OW.nil ?_
    refine KW.ret (ret3 rfl rfl rfl rfl ?_)
    exact ⟨([], p, true), rfl, .inl ⟨by omega, rfl⟩, Ext.refl _⟩
  · refine KW.skip (KW.seq (KW.seq (KW.region ?_)))
    refine OW.val rfl rfl (EX.assign rfl) ?_
    refine OW.nil ?_
    refine KW.block ?_
    refine KW.loop1 (fun (i : Nat) => 1 ≤ i ∧ i ≤ p.length ∧ ∀ j, j < i → ¬ good p j) (fun (i : Nat) => [(0, str (p)), (5, .int .i64 ((i : Nat) : Int))]) (fun (i : Nat) => w) (fun (i : Nat) => p.length - i) (1) ⟨rfl, rfl, trivial⟩ rfl ?_ ?_
    · exact ⟨by omega, by omega, fun j hj hg => by have := hg.2.1; omega⟩
    · rintro i ⟨hi1, hi, hn⟩
      have stop : ¬ (i < p.length - 1 ∧ i ≤ 155) → ∀ j, ¬ good p j := fun h j hg => by
        rcases Nat.lt_or_ge j i with hj | hj
        · exact hn j hj hg
        · have := hg.2.2
          omega
      have step : ¬ good p i → ∀ j, j < i + 1 → ¬ good p j := fun h j hj => by
        rcases Nat.lt_or_ge j i with hj' | hj'
        · exact hn j hj'
        · obtain rfl : j = i := by omega
          exact h
      refine KW.seq (KW.seq ?_)
      refine KW.region ?_
      refine OW.val rfl rfl (EX.move rfl) ?_
      refine OW.val rfl rfl (EX.move rfl) ?_
      refine OW.val rfl rfl (EX.lenS Try.underlying9 rfl) ?_
      refine OW.val rfl rfl (by first | exact EX.subN (b := 1) (m := 9223372036854775807) rfl rfl rfl (by omega) | exact EX.subZ (m := 9223372036854775807) rfl rfl rfl rfl (by omega)) ?_
      refine OW.val rfl rfl (by first | exact EX.lssN rfl rfl | exact EX.lssZ rfl rfl) ?_
      refine OW.val rfl rfl (EX.move rfl) ?_
      refine OW.splitD 15 rfl (fun c1 => ?_) (fun c1 => ?_)
      · refine OW.val rfl rfl (EX.move rfl) ?_
        refine OW.val rfl rfl (by first | exact EX.leqN (b := 155) rfl rfl | exact EX.leqZ rfl rfl) ?_
        refine OW.val rfl rfl (EX.pickT rfl rfl) ?_
        refine OW.nil ?_
        refine KW.condD rfl (fun c2 => ?_) (fun c2 => ?_)
        · have hlt : i < p.length := by omega
          have hga := good_at hlt
          refine KW.skip (KW.seq (KW.block (KW.seq ?_)))
          refine KW.region ?_
          refine OW.val rfl rfl (EX.move rfl) ?_
          refine OW.val rfl rfl (EX.move rfl) ?_
          refine OW.val rfl rfl (EX.indexS Try.underlying9 rfl rfl (List.getElem?_eq_getElem (by omega))) ?_
          refine OW.val rfl rfl (by first | exact EX.eqlN (b := 47) rfl rfl | exact EX.eqlZ rfl rfl) ?_
          refine OW.val rfl rfl (EX.move rfl) ?_
          refine OW.splitD 25 rfl (fun d1 => ?_) (fun d1 => ?_)
          · refine OW.val rfl rfl (EX.move rfl) ?_
            refine OW.val rfl rfl (EX.lenS Try.underlying9 rfl) ?_
            refine OW.val rfl rfl (EX.move rfl) ?_
            refine OW.val rfl rfl (by first | exact EX.subN (m := 9223372036854775807) rfl rfl rfl (by omega) | exact EX.subZ (m := 9223372036854775807) rfl rfl rfl rfl (by omega)) ?_
            refine OW.val rfl rfl (by first | exact EX.subN (b := 1) (m := 9223372036854775807) rfl rfl rfl (by omega) | exact EX.subZ (m := 9223372036854775807) rfl rfl rfl rfl (by omega)) ?_
            refine OW.val rfl rfl (by first | exact EX.leqN (b := 100) rfl rfl | exact EX.leqZ rfl rfl) ?_
            refine OW.val rfl rfl (EX.pickT rfl rfl) ?_
            refine OW.nil ?_
            refine KW.condD rfl (fun d2 => ?_) (fun d2 => ?_)
            · have hg : good p i := hga.2 ⟨d1, by omega, by omega, by omega, by omega⟩
              refine KW.seq ?_
              refine KW.regionQ (by kernel_rfl) (by kernel_rfl) ?_
              refine QW.val rfl rfl (fun _ => EX.move rfl) ?_
              refine QW.val rfl rfl (fun _ => EX.move rfl) ?_
              refine QW.val rfl rfl (fun _ => EX.sliceFH Try.underlying9 rfl rfl (by omega)) ?_
              refine QW.val rfl rfl (fun _ => EX.move rfl) ?_
              refine QW.val rfl rfl (fun _ => EX.move rfl) ?_
              refine QW.val rfl rfl (fun _ => by first | exact EX.addN (b := 1) (m := 9223372036854775807) rfl rfl rfl (by omega) | exact EX.addZ (m := 9223372036854775807) rfl rfl rfl rfl (by omega)) ?_
              refine QW.val rfl rfl (fun _ => EX.sliceLE Try.underlying9 rfl rfl (by omega)) ?_
              refine QW.val rfl rfl (fun _ => EX.assign rfl) ?_
              refine QW.val rfl rfl (fun _ => EX.assign rfl) ?_
              refine QW.val rfl rfl (fun _ => EX.assign rfl) ?_
              refine QW.nil (fun nq => ?_)
              refine KW.ret (ret3 rfl rfl rfl rfl ?_)
              exact ⟨(p.take i, p.drop (i + 1), true), rfl, .inr (.inl ⟨by omega, i, hg, hn, rfl⟩), Ext.drewN _ _⟩
            · refine KW.skip (KW.leave (KW.region ?_))
              refine OW.val rfl rfl (EX.move rfl) ?_
              refine OW.val rfl rfl (by first | exact EX.addN (b := 1) (m := 9223372036854775807) rfl rfl rfl (by omega) | exact EX.addZ (m := 9223372036854775807) rfl rfl rfl rfl (by omega)) ?_
              refine OW.val rfl rfl (EX.assign rfl) ?_
              refine OW.nil ?_
              refine KW.back1 (i + 1) ⟨rfl, rfl, trivial⟩ rfl ?_ (by omega)
              exact ⟨by omega, by omega, step (fun h => by have := (hga.1 h).2; omega)⟩
          · refine OW.pass rfl rfl ?_
            refine OW.pass rfl rfl ?_
            refine OW.pass rfl rfl ?_
            refine OW.pass rfl rfl ?_
            refine OW.pass rfl rfl ?_
            refine OW.pass rfl rfl ?_
            refine OW.val rfl rfl (EX.pickF rfl rfl) ?_
            refine OW.nil ?_
            refine KW.condF rfl (KW.skip (KW.leave (KW.region ?_)))
            refine OW.val rfl rfl (EX.move rfl) ?_
            refine OW.val rfl rfl (by first | exact EX.addN (b := 1) (m := 9223372036854775807) rfl rfl rfl (by omega) | exact EX.addZ (m := 9223372036854775807) rfl rfl rfl rfl (by omega)) ?_
            refine OW.val rfl rfl (EX.assign rfl) ?_
            refine OW.nil ?_
            refine KW.back1 (i + 1) ⟨rfl, rfl, trivial⟩ rfl ?_ (by omega)
            exact ⟨by omega, by omega, step (fun h => d1 (hga.1 h).1)⟩
        · refine KW.exit rfl (KW.seq (KW.region ?_))
          refine OW.val rfl rfl (EX.assign rfl) ?_
          refine OW.val rfl rfl (EX.assign rfl) ?_
          refine OW.val rfl rfl (EX.assign rfl) ?_
          refine OW.nil ?_
          refine KW.ret (ret3 rfl rfl rfl rfl ?_)
          exact ⟨([], [], false), rfl, .inr (.inr ⟨by omega, stop (by omega), rfl⟩), Ext.refl _⟩
      · refine OW.pass rfl rfl ?_
        refine OW.pass rfl rfl ?_
        refine OW.val rfl rfl (EX.pickF rfl rfl) ?_
        refine OW.nil ?_
        refine KW.condF rfl (KW.exit rfl (KW.seq (KW.region ?_)))
        refine OW.val rfl rfl (EX.assign rfl) ?_
        refine OW.val rfl rfl (EX.assign rfl) ?_
        refine OW.val rfl rfl (EX.assign rfl) ?_
        refine OW.nil ?_
        refine KW.ret (ret3 rfl rfl rfl rfl ?_)
        exact ⟨([], [], false), rfl, .inr (.inr ⟨by omega, stop (by omega), rfl⟩), Ext.refl _⟩
theorem rsplit_s (p : List UInt8) (hp : p.length ≤ 9223372036854775807) (w : World) : Ret Try.prog 24 [str p] w fun v w' => ∃ r, v = .tuple #[str r.1, str r.2.1, .bool r.2.2] ∧ IsSplit p r ∧ Ext w w' := by
  refine Ret.enter Try.func24 rfl Try.ntmps24 (by kernel_rfl) rfl ?_
  refine KW.seq (KW.region ?_)
  refine OW.val rfl rfl (EX.assign rfl) ?_
  refine OW.val rfl rfl (EX.assign rfl) ?_
  refine OW.val rfl rfl (EX.assign rfl) ?_
  refine OW.nil ?_
  refine KW.seq (KW.seq (KW.region ?_))
  refine OW.val rfl rfl (EX.move rfl) ?_
  refine OW.val rfl rfl (EX.lenS Try.underlying9 rfl) ?_
  refine OW.val rfl rfl (by first | exact EX.leqN (b := 100) rfl rfl | exact EX.leqZ rfl rfl) ?_
  refine OW.nil ?_
  refine KW.condD rfl (fun h100 => ?_) (fun h100 => ?_)
  · refine KW.seq (KW.region ?_)
    refine OW.val rfl rfl (EX.move rfl) ?_
    refine OW.val rfl rfl (EX.assign rfl) ?_
    refine OW.val rfl rfl (EX.assign rfl) ?_
    refine OW.val rfl rfl (EX.assign rfl) ?_
    refine OW.nil ?_
    refine KW.ret (ret3 rfl rfl rfl rfl ?_)
    exact ⟨([], p, true), rfl, .inl ⟨by omega, rfl⟩, Ext.refl _⟩
  · refine KW.skip (KW.seq (KW.seq (KW.region ?_)))
    refine OW.val rfl rfl (EX.assign rfl) ?_
    refine OW.nil ?_
    refine KW.block ?_
    refine KW.loop1 (fun (i : Nat) => i ≤ p.length ∧ ∀ j, j < i → ¬ good p j) (fun (i : Nat) => [(0, str (p)), (5, .int .i64 ((i : Nat) : Int))]) (fun (i : Nat) => w) (fun (i : Nat) => p.length - i) (0) ⟨rfl, rfl, trivial⟩ rfl ?_ ?_
    · exact ⟨by omega, fun j hj => by omega⟩
    · rintro i ⟨hi, hn⟩
      have step : ¬ good p i → ∀ j, j < i + 1 → ¬ good p j := fun h j hj => by
        rcases Nat.lt_or_ge j i with hj' | hj'
        · exact hn j hj'
        · obtain rfl : j = i := by omega
          exact h
      refine KW.seq (KW.seq (KW.region ?_))
      refine OW.val rfl rfl (EX.move rfl) ?_
      refine OW.val rfl rfl (EX.move rfl) ?_
      refine OW.val rfl rfl (EX.lenS Try.underlying9 rfl) ?_
      refine OW.val rfl rfl (by first | exact EX.lssN rfl rfl | exact EX.lssZ rfl rfl) ?_
      refine OW.nil ?_
      refine KW.condD rfl (fun hlt => ?_) (fun hlt => ?_)
      · have hga := good_at hlt
        refine KW.skip (KW.seq (KW.block (KW.seq (KW.region ?_))))
        refine OW.val rfl rfl (EX.move rfl) ?_
        refine OW.val rfl rfl (EX.lenS Try.underlying9 rfl) ?_
        refine OW.val rfl rfl (EX.move rfl) ?_
        refine OW.val rfl rfl (by first | exact EX.subN (m := 9223372036854775807) rfl rfl rfl (by omega) | exact EX.subZ (m := 9223372036854775807) rfl rfl rfl rfl (by omega)) ?_
        refine OW.val rfl rfl (by first | exact EX.subN (b := 1) (m := 9223372036854775807) rfl rfl rfl (by omega) | exact EX.subZ (m := 9223372036854775807) rfl rfl rfl rfl (by omega)) ?_
        refine OW.val rfl rfl (EX.assign rfl) ?_
        refine OW.nil ?_
        refine KW.seq ?_
        refine KW.region ?_
        refine OW.val rfl rfl (EX.move rfl) ?_
        refine OW.val rfl rfl (EX.move rfl) ?_
        refine OW.val rfl rfl (EX.indexS Try.underlying9 rfl rfl (List.getElem?_eq_getElem (by omega))) ?_
        refine OW.val rfl rfl (by first | exact EX.eqlN (b := 47) rfl rfl | exact EX.eqlZ rfl rfl) ?_
        refine OW.val rfl rfl (EX.move rfl) ?_
        refine OW.splitD 26 rfl (fun d1 => ?_) (fun d1 => ?_)
        · refine OW.val rfl rfl (EX.move rfl) ?_
          refine OW.val rfl rfl (by first | exact EX.geqN (b := 1) rfl rfl | exact EX.geqZ rfl rfl) ?_
          refine OW.val rfl rfl (EX.pickT rfl rfl) ?_
          refine OW.val rfl rfl (EX.move rfl) ?_
          refine OW.splitD 30 rfl (fun d2 => ?_) (fun d2 => ?_)
          · refine OW.val rfl rfl (EX.move rfl) ?_
            refine OW.val rfl rfl (by first | exact EX.leqN (b := 155) rfl rfl | exact EX.leqZ rfl rfl) ?_
            refine OW.val rfl rfl (EX.pickT rfl rfl) ?_
            refine OW.val rfl rfl (EX.move rfl) ?_
            refine OW.splitD 34 rfl (fun d3 => ?_) (fun d3 => ?_)
            · refine OW.val rfl rfl (EX.move rfl) ?_
              refine OW.val rfl rfl (by first | exact EX.geqN (b := 1) rfl rfl | exact EX.geqZ rfl rfl) ?_
              refine OW.val rfl rfl (EX.pickT rfl rfl) ?_
              refine OW.val rfl rfl (EX.move rfl) ?_
              refine OW.splitD 38 rfl (fun d4 => ?_) (fun d4 => ?_)
              · refine OW.val rfl rfl (EX.move rfl) ?_
                refine OW.val rfl rfl (by first | exact EX.leqN (b := 100) rfl rfl | exact EX.leqZ rfl rfl) ?_
                refine OW.val rfl rfl (EX.pickT rfl rfl) ?_
                refine OW.nil ?_
                refine KW.condD rfl (fun d5 => ?_) (fun d5 => ?_)
                · have hg : good p i := hga.2 ⟨d1, by omega, by omega, by omega, by omega⟩
                  refine KW.seq ?_
                  refine KW.regionQ (by kernel_rfl) (by kernel_rfl) ?_
                  refine QW.val rfl rfl (fun _ => EX.move rfl) ?_
                  refine QW.val rfl rfl (fun _ => EX.move rfl) ?_
                  refine QW.val rfl rfl (fun _ => EX.sliceFH Try.underlying9 rfl rfl (by omega)) ?_
                  refine QW.val rfl rfl (fun _ => EX.move rfl) ?_
                  refine QW.val rfl rfl (fun _ => EX.move rfl) ?_
                  refine QW.val rfl rfl (fun _ => by first | exact EX.addN (b := 1) (m := 9223372036854775807) rfl rfl rfl (by omega) | exact EX.addZ (m := 9223372036854775807) rfl rfl rfl rfl (by omega)) ?_
                  refine QW.val rfl rfl (fun _ => EX.sliceLE Try.underlying9 rfl rfl (by omega)) ?_
                  refine QW.val rfl rfl (fun _ => EX.assign rfl) ?_
                  refine QW.val rfl rfl (fun _ => EX.assign rfl) ?_
                  refine QW.val rfl rfl (fun _ => EX.assign rfl) ?_
                  refine QW.nil (fun nq => ?_)
                  refine KW.ret (ret3 rfl rfl rfl rfl ?_)
                  exact ⟨(p.take i, p.drop (i + 1), true), rfl, .inr (.inl ⟨by omega, i, hg, hn, rfl⟩), Ext.drewN _ _⟩
                · refine KW.skip (KW.leave (KW.region ?_))
                  refine OW.val rfl rfl (EX.move rfl) ?_
                  refine OW.val rfl rfl (by first | exact EX.addN (b := 1) (m := 9223372036854775807) rfl rfl rfl (by omega) | exact EX.addZ (m := 9223372036854775807) rfl rfl rfl rfl (by omega)) ?_
                  refine OW.val rfl rfl (EX.assign rfl) ?_
                  refine OW.nil ?_
                  refine KW.back1 (i + 1) ⟨rfl, rfl, trivial⟩ rfl ?_ (by omega)
                  exact ⟨by omega, step (fun h => by have := (hga.1 h).2; omega)⟩
              · refine OW.pass rfl rfl ?_
                refine OW.pass rfl rfl ?_
                refine OW.val rfl rfl (EX.pickF rfl rfl) ?_
                refine OW.nil ?_
                refine KW.condF rfl (KW.skip (KW.leave (KW.region ?_)))
                refine OW.val rfl rfl (EX.move rfl) ?_
                refine OW.val rfl rfl (by first | exact EX.addN (b := 1) (m := 9223372036854775807) rfl rfl rfl (by omega) | exact EX.addZ (m := 9223372036854775807) rfl rfl rfl rfl (by omega)) ?_
                refine OW.val rfl rfl (EX.assign rfl) ?_
                refine OW.nil ?_
                refine KW.back1 (i + 1) ⟨rfl, rfl, trivial⟩ rfl ?_ (by omega)
                exact ⟨by omega, step (fun h => by have := (hga.1 h).2; omega)⟩
            · refine OW.pass rfl rfl ?_
              refine OW.pass rfl rfl ?_
              refine OW.val rfl rfl (EX.pickF rfl rfl) ?_
              refine OW.val rfl rfl (EX.move rfl) ?_
              refine OW.pass rfl rfl ?_
              refine OW.pass rfl rfl ?_
              refine OW.val rfl rfl (EX.pickF rfl rfl) ?_
              refine OW.nil ?_
              refine KW.condF rfl (KW.skip (KW.leave (KW.region ?_)))
              refine OW.val rfl rfl (EX.move rfl) ?_
              refine OW.val rfl rfl (by first | exact EX.addN (b := 1) (m := 9223372036854775807) rfl rfl rfl (by omega) | exact EX.addZ (m := 9223372036854775807) rfl rfl rfl rfl (by omega)) ?_
              refine OW.val rfl rfl (EX.assign rfl) ?_
              refine OW.nil ?_
              refine KW.back1 (i + 1) ⟨rfl, rfl, trivial⟩ rfl ?_ (by omega)
              exact ⟨by omega, step (fun h => by have := (hga.1 h).2; omega)⟩
          · refine OW.pass rfl rfl ?_
            refine OW.pass rfl rfl ?_
            refine OW.val rfl rfl (EX.pickF rfl rfl) ?_
            refine OW.val rfl rfl (EX.move rfl) ?_
            refine OW.pass rfl rfl ?_
            refine OW.pass rfl rfl ?_
            refine OW.val rfl rfl (EX.pickF rfl rfl) ?_
            refine OW.val rfl rfl (EX.move rfl) ?_
            refine OW.pass rfl rfl ?_
            refine OW.pass rfl rfl ?_
            refine OW.val rfl rfl (EX.pickF rfl rfl) ?_
            refine OW.nil ?_
            refine KW.condF rfl (KW.skip (KW.leave (KW.region ?_)))
            refine OW.val rfl rfl (EX.move rfl) ?_
            refine OW.val rfl rfl (by first | exact EX.addN (b := 1) (m := 9223372036854775807) rfl rfl rfl (by omega) | exact EX.addZ (m := 9223372036854775807) rfl rfl rfl rfl (by omega)) ?_
            refine OW.val rfl rfl (EX.assign rfl) ?_
            refine OW.nil ?_
            refine KW.back1 (i + 1) ⟨rfl, rfl, trivial⟩ rfl ?_ (by omega)
            exact ⟨by omega, step (fun h => by have := (hga.1 h).2; omega)⟩
        · refine OW.pass rfl rfl ?_
          refine OW.pass rfl rfl ?_
          refine OW.val rfl rfl (EX.pickF rfl rfl) ?_
          refine OW.val rfl rfl (EX.move rfl) ?_
          refine OW.pass rfl rfl ?_
          refine OW.pass rfl rfl ?_
          refine OW.val rfl rfl (EX.pickF rfl rfl) ?_
          refine OW.val rfl rfl (EX.move rfl) ?_
          refine OW.pass rfl rfl ?_
          refine OW.pass rfl rfl ?_
          refine OW.val rfl rfl (EX.pickF rfl rfl) ?_
          refine OW.val rfl rfl (EX.move rfl) ?_
          refine OW.pass rfl rfl ?_
          refine OW.pass rfl rfl ?_
          refine OW.val rfl rfl (EX.pickF rfl rfl) ?_
          refine OW.nil ?_
          refine KW.condF rfl (KW.skip (KW.leave (KW.region ?_)))
          refine OW.val rfl rfl (EX.move rfl) ?_
          refine OW.val rfl rfl (by first | exact EX.addN (b := 1) (m := 9223372036854775807) rfl rfl rfl (by omega) | exact EX.addZ (m := 9223372036854775807) rfl rfl rfl rfl (by omega)) ?_
          refine OW.val rfl rfl (EX.assign rfl) ?_
          refine OW.nil ?_
          refine KW.back1 (i + 1) ⟨rfl, rfl, trivial⟩ rfl ?_ (by omega)
          exact ⟨by omega, step (fun h => d1 (hga.1 h).1)⟩
      · obtain rfl : i = p.length := by omega
        refine KW.exit rfl (KW.seq (KW.region ?_))
        refine OW.val rfl rfl (EX.assign rfl) ?_
        refine OW.val rfl rfl (EX.assign rfl) ?_
        refine OW.val rfl rfl (EX.assign rfl) ?_
        refine OW.nil ?_
        refine KW.ret (ret3 rfl rfl rfl rfl ?_)
        exact ⟨([], [], false), rfl, .inr (.inr ⟨by omega, fun j hg => by have := hg.2.2; exact hn j (by omega) hg, rfl⟩), Ext.refl _⟩
end Go.Proofs.Ytaoieiiggbpjeaa
