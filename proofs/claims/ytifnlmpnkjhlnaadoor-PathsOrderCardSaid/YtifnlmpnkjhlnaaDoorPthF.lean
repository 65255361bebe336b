/-
  paths: Under, Split, lists of texts, what the statements begin with.
-/
import Derived.Test.YtifnlmpnkjhlnaaDoorPthE
namespace Go.Proofs.YtifnlmpnkjhlnaaDoor
open Go.RowKit Pth
set_option linter.unusedVariables false
set_option linter.unusedSimpArgs false

theorem under_s (dir p : List UInt8) (w : World) : Ret Tryd.prog 15 [str dir, str p] w fun v w' => v = .bool (underB dir p) ∧ w = w' := by
  refine Ret.enter Tryd.func15 rfl Tryd.ntmps15 (by kernel_rfl) rfl ?_
  refine KW.seq (KW.region ?_)
  refine OW.val rfl rfl (EX.assign rfl) ?_
  refine OW.nil ?_
  refine KW.seq ?_
  refine KW.region ?_
  refine OW.val rfl rfl (EX.move rfl) ?_
  refine OW.val rfl rfl (EX.lenS Tryd.underlying9 rfl) ?_
  refine OW.val rfl rfl (EX.move rfl) ?_
  refine OW.val rfl rfl (EX.lenS Tryd.underlying9 rfl) ?_
  refine OW.val rfl rfl (by first | exact EX.gtrN rfl rfl | exact EX.gtrZ rfl rfl) ?_
  refine OW.val rfl rfl (EX.move rfl) ?_
  refine OW.splitD 10 rfl (fun c1 => ?_) (fun c1 => ?_)
  · refine OW.val rfl rfl (EX.move rfl) ?_
    refine OW.val rfl rfl (EX.move rfl) ?_
    refine OW.val rfl rfl (EX.lenS Tryd.underlying9 rfl) ?_
    refine OW.val rfl rfl (EX.sliceFH Tryd.underlying9 rfl rfl (by omega)) ?_
    refine OW.val rfl rfl (EX.move rfl) ?_
    refine OW.val rfl rfl (EX.eqlS rfl rfl) ?_
    refine OW.val rfl rfl (EX.pickT rfl rfl) ?_
    refine OW.val rfl rfl (EX.move rfl) ?_
    refine OW.splitD 18 rfl (fun c2 => ?_) (fun c2 => ?_)
    · refine OW.val rfl rfl (EX.move rfl) ?_
      refine OW.val rfl rfl (EX.move rfl) ?_
      refine OW.val rfl rfl (EX.lenS Tryd.underlying9 rfl) ?_
      refine OW.val rfl rfl (EX.indexS Tryd.underlying9 rfl rfl (List.getElem?_eq_getElem (by omega))) ?_
      refine OW.val rfl rfl (by first | exact EX.eqlN (b := 47) rfl rfl | exact EX.eqlZ rfl rfl) ?_
      refine OW.val rfl rfl (EX.pickT rfl rfl) ?_
      refine OW.val rfl rfl (EX.assign rfl) ?_
      refine OW.nil ?_
      refine KW.ret (ret1 rfl rfl ?_)
      refine ⟨congrArg Value.bool (decide_eq_decide.2 ?_), rfl⟩
      rw [List.getElem?_eq_getElem c1, Option.some.injEq]
      constructor
      · exact fun h => ⟨c1, c2, UInt8.toNat_inj.1 h⟩
      · exact fun h => by rw [h.2.2]; rfl
    · refine OW.pass rfl rfl ?_
      refine OW.pass rfl rfl ?_
      refine OW.pass rfl rfl ?_
      refine OW.pass rfl rfl ?_
      refine OW.pass rfl rfl ?_
      refine OW.val rfl rfl (EX.pickF rfl rfl) ?_
      refine OW.val rfl rfl (EX.assign rfl) ?_
      refine OW.nil ?_
      refine KW.ret (ret1 rfl rfl ?_)
      exact ⟨congrArg Value.bool (decide_eq_false (fun h => c2 h.2.1)).symm, rfl⟩
  · refine OW.pass rfl rfl ?_
    refine OW.pass rfl rfl ?_
    refine OW.pass rfl rfl ?_
    refine OW.pass rfl rfl ?_
    refine OW.pass rfl rfl ?_
    refine OW.pass rfl rfl ?_
    refine OW.val rfl rfl (EX.pickF rfl rfl) ?_
    refine OW.val rfl rfl (EX.move rfl) ?_
    refine OW.pass rfl rfl ?_
    refine OW.pass rfl rfl ?_
    refine OW.pass rfl rfl ?_
    refine OW.pass rfl rfl ?_
    refine OW.pass rfl rfl ?_
    refine OW.val rfl rfl (EX.pickF rfl rfl) ?_
    refine OW.val rfl rfl (EX.assign rfl) ?_
    refine OW.nil ?_
    refine KW.ret (ret1 rfl rfl ?_)
    exact ⟨congrArg Value.bool (decide_eq_false (fun h => c1 h.1)).symm, rfl⟩
theorem runder_s (dir p : List UInt8) (hd : dir.length ≤ 140737488355328) (w : World) : Ret Tryd.prog 22 [str dir, str p] w fun v w' => v = .bool (underB dir p) ∧ w = w' := by
  have hl : (dir ++ [47]).length = dir.length + 1 := by simp
  refine Ret.enter Tryd.func22 rfl Tryd.ntmps22 (by kernel_rfl) rfl ?_
  refine KW.seq (KW.region ?_)
  refine OW.val rfl rfl (EX.assign rfl) ?_
  refine OW.nil ?_
  refine KW.seq (KW.region ?_)
  refine OW.val rfl rfl (EX.move rfl) ?_
  refine OW.val rfl rfl (EX.addS (r := [47]) rfl rfl (by first | omega | (simp only [List.length_append, List.length_cons, List.length_nil, List.length_take, List.length_drop, List.length_replicate]; omega))) ?_
  refine OW.val rfl rfl (EX.assign rfl) ?_
  refine OW.nil ?_
  refine KW.seq ?_
  refine KW.region ?_
  refine OW.val rfl rfl (EX.move rfl) ?_
  refine OW.val rfl rfl (EX.lenS Tryd.underlying9 rfl) ?_
  refine OW.val rfl rfl (EX.move rfl) ?_
  refine OW.val rfl rfl (EX.lenS Tryd.underlying9 rfl) ?_
  refine OW.val rfl rfl (by first | exact EX.geqN rfl rfl | exact EX.geqZ rfl rfl) ?_
  refine OW.val rfl rfl (EX.move rfl) ?_
  refine OW.splitD 13 rfl (fun c1 => ?_) (fun c1 => ?_)
  · have h1 : (dir ++ [47]).length ≤ p.length := by omega
    refine OW.val rfl rfl (EX.move rfl) ?_
    refine OW.val rfl rfl (EX.move rfl) ?_
    refine OW.val rfl rfl (EX.lenS Tryd.underlying9 rfl) ?_
    refine OW.val rfl rfl (EX.sliceFH Tryd.underlying9 rfl rfl (by omega)) ?_
    refine OW.val rfl rfl (EX.move rfl) ?_
    refine OW.val rfl rfl (EX.eqlS rfl rfl) ?_
    refine OW.val rfl rfl (EX.pickT rfl rfl) ?_
    refine OW.val rfl rfl (EX.assign rfl) ?_
    refine OW.nil ?_
    refine KW.ret (ret1 rfl rfl ?_)
    refine ⟨congrArg Value.bool ?_, rfl⟩
    rw [Bool.eq_iff_iff, decide_eq_true_eq, under_iff]
    constructor
    · intro h
      refine ⟨p.drop (dir.length + 1), ?_⟩
      have e := List.take_append_drop (dir ++ [47]).length p
      rw [h, hl] at e
      rw [← e]
      simp
    · rintro ⟨r, rfl⟩
      have e : dir ++ 47 :: r = (dir ++ [47]) ++ r := by simp
      rw [e, List.take_left' rfl]
  · refine OW.pass rfl rfl ?_
    refine OW.pass rfl rfl ?_
    refine OW.pass rfl rfl ?_
    refine OW.pass rfl rfl ?_
    refine OW.pass rfl rfl ?_
    refine OW.pass rfl rfl ?_
    refine OW.val rfl rfl (EX.pickF rfl rfl) ?_
    refine OW.val rfl rfl (EX.assign rfl) ?_
    refine OW.nil ?_
    refine KW.ret (ret1 rfl rfl ?_)
    refine ⟨congrArg Value.bool ?_, rfl⟩
    rw [Bool.eq_iff_iff, under_iff]
    constructor
    · intro h
      cases h
    · rintro ⟨r, rfl⟩
      simp at c1
/-! ### Split -/
def good (p : List UInt8) (i : Nat) : Prop := p[i]? = some 47 ∧ 1 ≤ i ∧ i ≤ 155 ∧ i + 2 ≤ p.length ∧ p.length ≤ i + 101
def IsSplit (p : List UInt8) (r : List UInt8 × List UInt8 × Bool) : Prop :=
  (p.length ≤ 100 ∧ r = ([], p, true)) ∨ (100 < p.length ∧ ∃ i, good p i ∧ (∀ j, j < i → ¬ good p j) ∧ r = (p.take i, p.drop (i + 1), true)) ∨ (100 < p.length ∧ (∀ j, ¬ good p j) ∧ r = ([], [], false))
theorem split_one {p : List UInt8} {r r' : List UInt8 × List UInt8 × Bool} (h : IsSplit p r) (h' : IsSplit p r') : r = r' := by
  rcases h with ⟨h1, rfl⟩ | ⟨h1, i, h2, h3, rfl⟩ | ⟨h1, h2, rfl⟩
  · rcases h' with ⟨_, rfl⟩ | ⟨h1', _⟩ | ⟨h1', _⟩
    · rfl
    · omega
    · omega
  · rcases h' with ⟨h1', _⟩ | ⟨_, j, h2', h3', rfl⟩ | ⟨_, h2', _⟩
    · omega
    · have : i = j := by
        rcases Nat.lt_trichotomy i j with h | h | h
        · exact absurd h2 (h3' i h)
        · exact h
        · exact absurd h2' (h3 j h)
      rw [this]
    · exact absurd h2 (h2' i)
  · rcases h' with ⟨h1', _⟩ | ⟨_, j, h2', _⟩ | ⟨_, _, rfl⟩
    · omega
    · exact absurd h2' (h2 j)
    · rfl
theorem good_at {p : List UInt8} {i : Nat} (h : i < p.length) : good p i ↔ p[i].toNat = 47 ∧ 1 ≤ i ∧ i ≤ 155 ∧ i + 2 ≤ p.length ∧ p.length ≤ i + 101 := by
  unfold good
  rw [List.getElem?_eq_getElem h, Option.some.injEq]
  constructor
  · rintro ⟨h1, h2⟩
    exact ⟨by rw [h1]; rfl, h2⟩
  · rintro ⟨h1, h2⟩
    exact ⟨UInt8.toNat_inj.1 h1, h2⟩
theorem psplit_s (p : List UInt8) (hp : p.length ≤ 9223372036854775807) (w : World) : Ret Tryd.prog 20 [str p] w fun v w' => ∃ r, v = .tuple #[str r.1, str r.2.1, .bool r.2.2] ∧ IsSplit p r ∧ Ext w w' := by
  refine Ret.enter Tryd.func20 rfl Tryd.ntmps20 (by kernel_rfl) rfl ?_
  refine KW.seq (KW.region ?_)
  refine OW.val rfl rfl (EX.assign rfl) ?_
  refine OW.val rfl rfl (EX.assign rfl) ?_
  refine OW.val rfl rfl (EX.assign rfl) ?_
  refine OW.nil ?_
  refine KW.seq (KW.seq (KW.region ?_))
  refine OW.val rfl rfl (EX.move rfl) ?_
  refine OW.val rfl rfl (EX.lenS Tryd.underlying9 rfl) ?_
  refine OW.val rfl rfl (by first | exact EX.leqN (b := 100) rfl rfl | exact EX.leqZ rfl rfl) ?_
  refine OW.nil ?_
  refine KW.condD rfl (fun h100 => ?_) (fun h100 => ?_)
  · refine KW.seq (KW.region ?_)
    refine OW.val rfl rfl (EX.move rfl) ?_
    refine OW.val rfl rfl (EX.assign rfl) ?_
    refine OW.val rfl rfl (EX.assign rfl) ?_
    refine OW.val rfl rfl (EX.assign rfl) ?_
    refine OW.nil ?_
    refine KW.ret (ret3 rfl rfl rfl rfl ?_)
    exact ⟨([], p, true), rfl, .inl ⟨by omega, rfl⟩, Ext.refl _⟩
  · refine KW.skip (KW.seq (KW.seq (KW.region ?_)))
    refine OW.val rfl rfl (EX.assign rfl) ?_
    refine OW.nil ?_
    refine KW.block ?_
    refine KW.loop1 (fun (i : Nat) => 1 ≤ i ∧ i ≤ p.length ∧ ∀ j, j < i → ¬ good p j) (fun (i : Nat) => [(0, str (p)), (5, .int .i64 ((i : Nat) : Int))]) (fun (i : Nat) => w) (fun (i : Nat) => p.length - i) (1) ⟨rfl, rfl, trivial⟩ rfl ?_ ?_
    · exact ⟨by omega, by omega, fun j hj hg => by have := hg.2.1; omega⟩
    · rintro i ⟨hi1, hi, hn⟩
      have stop : ¬ (i < p.length - 1 ∧ i ≤ 155) → ∀ j, ¬ good p j := fun h j hg => by
        rcases Nat.lt_or_ge j i with hj | hj
        · exact hn j hj hg
        · have := hg.2.2
          omega
      have step : ¬ good p i → ∀ j, j < i + 1 → ¬ good p j := fun h j hj => by
        rcases Nat.lt_or_ge j i with hj' | hj'
        · exact hn j hj'
        · obtain rfl : j = i := by omega
          exact h
      refine KW.seq (KW.seq ?_)
      refine KW.region ?_
      refine OW.val rfl rfl (EX.move rfl) ?_
      refine OW.val rfl rfl (EX.move rfl) ?_
      refine OW.val rfl rfl (EX.lenS Tryd.underlying9 rfl) ?_
      refine OW.val rfl rfl (by first | exact EX.subN (b := 1) (m := 9223372036854775807) rfl rfl rfl (by omega) | exact EX.subZ (m := 9223372036854775807) rfl rfl rfl rfl (by omega)) ?_
      refine OW.val rfl rfl (by first | exact EX.lssN rfl rfl | exact EX.lssZ rfl rfl) ?_
      refine OW.val rfl rfl (EX.move rfl) ?_
      refine OW.splitD 15 rfl (fun c1 => ?_) (fun c1 => ?_)
      · refine OW.val rfl rfl (EX.move rfl) ?_
        refine OW.val rfl rfl (by first | exact EX.leqN (b := 155) rfl rfl | exact EX.leqZ rfl rfl) ?_
        refine OW.val rfl rfl (EX.pickT rfl rfl) ?_
        refine OW.nil ?_
        refine KW.condD rfl (fun c2 => ?_) (fun c2 => ?_)
        · have hlt : i < p.length := by omega
          have hga := good_at hlt
          refine KW.skip (KW.seq (KW.block (KW.seq ?_)))
          refine KW.region ?_
          refine OW.val rfl rfl (EX.move rfl) ?_
          refine OW.val rfl rfl (EX.move rfl) ?_
          refine OW.val rfl rfl (EX.indexS Tryd.underlying9 rfl rfl (List.getElem?_eq_getElem (by omega))) ?_
          refine OW.val rfl rfl (by first | exact EX.eqlN (b := 47) rfl rfl | exact EX.eqlZ rfl rfl) ?_
          refine OW.val rfl rfl (EX.move rfl) ?_
          refine OW.splitD 25 rfl (fun d1 => ?_) (fun d1 => ?_)
          · refine OW.val rfl rfl (EX.move rfl) ?_
            refine OW.val rfl rfl (EX.lenS Tryd.underlying9 rfl) ?_
            refine OW.val rfl rfl (EX.move rfl) ?_
            refine OW.val rfl rfl (by first | exact EX.subN (m := 9223372036854775807) rfl rfl rfl (by omega) | exact EX.subZ (m := 9223372036854775807) rfl rfl rfl rfl (by omega)) ?_
            refine OW.val rfl rfl (by first | exact EX.subN (b := 1) (m := 9223372036854775807) rfl rfl rfl (by omega) | exact EX.subZ (m := 9223372036854775807) rfl rfl rfl rfl (by omega)) ?_
            refine OW.val rfl rfl (by first | exact EX.leqN (b := 100) rfl rfl | exact EX.leqZ rfl rfl) ?_
            refine OW.val rfl rfl (EX.pickT rfl rfl) ?_
            refine OW.nil ?_
            refine KW.condD rfl (fun d2 => ?_) (fun d2 => ?_)
            · have hg : good p i := hga.2 ⟨d1, by omega, by omega, by omega, by omega⟩
              refine KW.seq ?_
              refine KW.regionQ (by kernel_rfl) (by kernel_rfl) ?_
              refine QW.val rfl rfl (fun _ => EX.move rfl) ?_
              refine QW.val rfl rfl (fun _ => EX.move rfl) ?_
              refine QW.val rfl rfl (fun _ => EX.sliceFH Tryd.underlying9 rfl rfl (by omega)) ?_
              refine QW.val rfl rfl (fun _ => EX.move rfl) ?_
              refine QW.val rfl rfl (fun _ => EX.move rfl) ?_
              refine QW.val rfl rfl (fun _ => by first | exact EX.addN (b := 1) (m := 9223372036854775807) rfl rfl rfl (by omega) | exact EX.addZ (m := 9223372036854775807) rfl rfl rfl rfl (by omega)) ?_
              refine QW.val rfl rfl (fun _ => EX.sliceLE Tryd.underlying9 rfl rfl (by omega)) ?_
              refine QW.val rfl rfl (fun _ => EX.assign rfl) ?_
              refine QW.val rfl rfl (fun _ => EX.assign rfl) ?_
              refine QW.val rfl rfl (fun _ => EX.assign rfl) ?_
              refine QW.nil (fun nq => ?_)
              refine KW.ret (ret3 rfl rfl rfl rfl ?_)
              exact ⟨(p.take i, p.drop (i + 1), true), rfl, .inr (.inl ⟨by omega, i, hg, hn, rfl⟩), Ext.drewN _ _⟩
            · refine KW.skip (KW.leave (KW.region ?_))
              refine OW.val rfl rfl (EX.move rfl) ?_
              refine OW.val rfl rfl (by first | exact EX.addN (b := 1) (m := 9223372036854775807) rfl rfl rfl (by omega) | exact EX.addZ (m := 9223372036854775807) rfl rfl rfl rfl (by omega)) ?_
              refine OW.val rfl rfl (EX.assign rfl) ?_
              refine OW.nil ?_
              refine KW.back1 (i + 1) ⟨rfl, rfl, trivial⟩ rfl ?_ (by omega)
              exact ⟨by omega, by omega, step (fun h => by have := (hga.1 h).2; omega)⟩
          · refine OW.pass rfl rfl ?_
            refine OW.pass rfl rfl ?_
            refine OW.pass rfl rfl ?_
            refine OW.pass rfl rfl ?_
            refine OW.pass rfl rfl ?_
            refine OW.pass rfl rfl ?_
            refine OW.val rfl rfl (EX.pickF rfl rfl) ?_
            refine OW.nil ?_
            refine KW.condF rfl (KW.skip (KW.leave (KW.region ?_)))
            refine OW.val rfl rfl (EX.move rfl) ?_
            refine OW.val rfl rfl (by first | exact EX.addN (b := 1) (m := 9223372036854775807) rfl rfl rfl (by omega) | exact EX.addZ (m := 9223372036854775807) rfl rfl rfl rfl (by omega)) ?_
            refine OW.val rfl rfl (EX.assign rfl) ?_
            refine OW.nil ?_
            refine KW.back1 (i + 1) ⟨rfl, rfl, trivial⟩ rfl ?_ (by omega)
            exact ⟨by omega, by omega, step (fun h => d1 (hga.1 h).1)⟩
        · refine KW.exit rfl (KW.seq (KW.region ?_))
          refine OW.val rfl rfl (EX.assign rfl) ?_
          refine OW.val rfl rfl (EX.assign rfl) ?_
          refine OW.val rfl rfl (EX.assign rfl) ?_
          refine OW.nil ?_
          refine KW.ret (ret3 rfl rfl rfl rfl ?_)
          exact ⟨([], [], false), rfl, .inr (.inr ⟨by omega, stop (by omega), rfl⟩), Ext.refl _⟩
      · refine OW.pass rfl rfl ?_
        refine OW.pass rfl rfl ?_
        refine OW.val rfl rfl (EX.pickF rfl rfl) ?_
        refine OW.nil ?_
        refine KW.condF rfl (KW.exit rfl (KW.seq (KW.region ?_)))
        refine OW.val rfl rfl (EX.assign rfl) ?_
        refine OW.val rfl rfl (EX.assign rfl) ?_
        refine OW.val rfl rfl (EX.assign rfl) ?_
        refine OW.nil ?_
        refine KW.ret (ret3 rfl rfl rfl rfl ?_)
        exact ⟨([], [], false), rfl, .inr (.inr ⟨by omega, stop (by omega), rfl⟩), Ext.refl _⟩
theorem rsplit_s (p : List UInt8) (hp : p.length ≤ 9223372036854775807) (w : World) : Ret Tryd.prog 21 [str p] w fun v w' => ∃ r, v = .tuple #[str r.1, str r.2.1, .bool r.2.2] ∧ IsSplit p r ∧ Ext w w' := by
  refine Ret.enter Tryd.func21 rfl Tryd.ntmps21 (by kernel_rfl) rfl ?_
  refine KW.seq (KW.region ?_)
  refine OW.val rfl rfl (EX.assign rfl) ?_
  refine OW.val rfl rfl (EX.assign rfl) ?_
  refine OW.val rfl rfl (EX.assign rfl) ?_
  refine OW.nil ?_
  refine KW.seq (KW.seq (KW.region ?_))
  refine OW.val rfl rfl (EX.move rfl) ?_
  refine OW.val rfl rfl (EX.lenS Tryd.underlying9 rfl) ?_
  refine OW.val rfl rfl (by first | exact EX.leqN (b := 100) rfl rfl | exact EX.leqZ rfl rfl) ?_
  refine OW.nil ?_
  refine KW.condD rfl (fun h100 => ?_) (fun h100 => ?_)
  · refine KW.seq (KW.region ?_)
    refine OW.val rfl rfl (EX.move rfl) ?_
    refine OW.val rfl rfl (EX.assign rfl) ?_
    refine OW.val rfl rfl (EX.assign rfl) ?_
    refine OW.val rfl rfl (EX.assign rfl) ?_
    refine OW.nil ?_
    refine KW.ret (ret3 rfl rfl rfl rfl ?_)
    exact ⟨([], p, true), rfl, .inl ⟨by omega, rfl⟩, Ext.refl _⟩
  · refine KW.skip (KW.seq (KW.seq (KW.region ?_)))
    refine OW.val rfl rfl (EX.assign rfl) ?_
    refine OW.nil ?_
    refine KW.block ?_
    refine KW.loop1 (fun (i : Nat) => i ≤ p.length ∧ ∀ j, j < i → ¬ good p j) (fun (i : Nat) => [(0, str (p)), (5, .int .i64 ((i : Nat) : Int))]) (fun (i : Nat) => w) (fun (i : Nat) => p.length - i) (0) ⟨rfl, rfl, trivial⟩ rfl ?_ ?_
    · exact ⟨by omega, fun j hj => by omega⟩
    · rintro i ⟨hi, hn⟩
      have step : ¬ good p i → ∀ j, j < i + 1 → ¬ good p j := fun h j hj => by
        rcases Nat.lt_or_ge j i with hj' | hj'
        · exact hn j hj'
        · obtain rfl : j = i := by omega
          exact h
      refine KW.seq (KW.seq (KW.region ?_))
      refine OW.val rfl rfl (EX.move rfl) ?_
      refine OW.val rfl rfl (EX.move rfl) ?_
      refine OW.val rfl rfl (EX.lenS Tryd.underlying9 rfl) ?_
      refine OW.val rfl rfl (by first | exact EX.lssN rfl rfl | exact EX.lssZ rfl rfl) ?_
      refine OW.nil ?_
      refine KW.condD rfl (fun hlt => ?_) (fun hlt => ?_)
      · have hga := good_at hlt
        refine KW.skip (KW.seq (KW.block (KW.seq (KW.region ?_))))
        refine OW.val rfl rfl (EX.move rfl) ?_
        refine OW.val rfl rfl (EX.lenS Tryd.underlying9 rfl) ?_
        refine OW.val rfl rfl (EX.move rfl) ?_
        refine OW.val rfl rfl (by first | exact EX.subN (m := 9223372036854775807) rfl rfl rfl (by omega) | exact EX.subZ (m := 9223372036854775807) rfl rfl rfl rfl (by omega)) ?_
        refine OW.val rfl rfl (by first | exact EX.subN (b := 1) (m := 9223372036854775807) rfl rfl rfl (by omega) | exact EX.subZ (m := 9223372036854775807) rfl rfl rfl rfl (by omega)) ?_
        refine OW.val rfl rfl (EX.assign rfl) ?_
        refine OW.nil ?_
        refine KW.seq ?_
        refine KW.region ?_
        refine OW.val rfl rfl (EX.move rfl) ?_
        refine OW.val rfl rfl (EX.move rfl) ?_
        refine OW.val rfl rfl (EX.indexS Tryd.underlying9 rfl rfl (List.getElem?_eq_getElem (by omega))) ?_
        refine OW.val rfl rfl (by first | exact EX.eqlN (b := 47) rfl rfl | exact EX.eqlZ rfl rfl) ?_
        refine OW.val rfl rfl (EX.move rfl) ?_
        refine OW.splitD 26 rfl (fun d1 => ?_) (fun d1 => ?_)
        · refine OW.val rfl rfl (EX.move rfl) ?_
          refine OW.val rfl rfl (by first | exact EX.geqN (b := 1) rfl rfl | exact EX.geqZ rfl rfl) ?_
          refine OW.val rfl rfl (EX.pickT rfl rfl) ?_
          refine OW.val rfl rfl (EX.move rfl) ?_
          refine OW.splitD 30 rfl (fun d2 => ?_) (fun d2 => ?_)
          · refine OW.val rfl rfl (EX.move rfl) ?_
            refine OW.val rfl rfl (by first | exact EX.leqN (b := 155) rfl rfl | exact EX.leqZ rfl rfl) ?_
            refine OW.val rfl rfl (EX.pickT rfl rfl) ?_
            refine OW.val rfl rfl (EX.move rfl) ?_
            refine OW.splitD 34 rfl (fun d3 => ?_) (fun d3 => ?_)
            · refine OW.val rfl rfl (EX.move rfl) ?_
              refine OW.val rfl rfl (by first | exact EX.geqN (b := 1) rfl rfl | exact EX.geqZ rfl rfl) ?_
              refine OW.val rfl rfl (EX.pickT rfl rfl) ?_
              refine OW.val rfl rfl (EX.move rfl) ?_
              refine OW.splitD 38 rfl (fun d4 => ?_) (fun d4 => ?_)
              · refine OW.val rfl rfl (EX.move rfl) ?_
                refine OW.val rfl rfl (by first | exact EX.leqN (b := 100) rfl rfl | exact EX.leqZ rfl rfl) ?_
                refine OW.val rfl rfl (EX.pickT rfl rfl) ?_
                refine OW.nil ?_
                refine KW.condD rfl (fun d5 => ?_) (fun d5 => ?_)
                · have hg : good p i := hga.2 ⟨d1, by omega, by omega, by omega, by omega⟩
                  refine KW.seq ?_
                  refine KW.regionQ (by kernel_rfl) (by kernel_rfl) ?_
                  refine QW.val rfl rfl (fun _ => EX.move rfl) ?_
                  refine QW.val rfl rfl (fun _ => EX.move rfl) ?_
                  refine QW.val rfl rfl (fun _ => EX.sliceFH Tryd.underlying9 rfl rfl (by omega)) ?_
                  refine QW.val rfl rfl (fun _ => EX.move rfl) ?_
                  refine QW.val rfl rfl (fun _ => EX.move rfl) ?_
                  refine QW.val rfl rfl (fun _ => by first | exact EX.addN (b := 1) (m := 9223372036854775807) rfl rfl rfl (by omega) | exact EX.addZ (m := 9223372036854775807) rfl rfl rfl rfl (by omega)) ?_
                  refine QW.val rfl rfl (fun _ => EX.sliceLE Tryd.underlying9 rfl rfl (by omega)) ?_
                  refine QW.val rfl rfl (fun _ => EX.assign rfl) ?_
                  refine QW.val rfl rfl (fun _ => EX.assign rfl) ?_
                  refine QW.val rfl rfl (fun _ => EX.assign rfl) ?_
                  refine QW.nil (fun nq => ?_)
                  refine KW.ret (ret3 rfl rfl rfl rfl ?_)
                  exact ⟨(p.take i, p.drop (i + 1), true), rfl, .inr (.inl ⟨by omega, i, hg, hn, rfl⟩), Ext.drewN _ _⟩
                · refine KW.skip (KW.leave (KW.region ?_))
                  refine OW.val rfl rfl (EX.move rfl) ?_
                  refine OW.val rfl rfl (by first | exact EX.addN (b := 1) (m := 9223372036854775807) rfl rfl rfl (by omega) | exact EX.addZ (m := 9223372036854775807) rfl rfl rfl rfl (by omega)) ?_
                  refine OW.val rfl rfl (EX.assign rfl) ?_
                  refine OW.nil ?_
                  refine KW.back1 (i + 1) ⟨rfl, rfl, trivial⟩ rfl ?_ (by omega)
                  exact ⟨by omega, step (fun h => by have := (hga.1 h).2; omega)⟩
              · refine OW.pass rfl rfl ?_
                refine OW.pass rfl rfl ?_
                refine OW.val rfl rfl (EX.pickF rfl rfl) ?_
                refine OW.nil ?_
                refine KW.condF rfl (KW.skip (KW.leave (KW.region ?_)))
                refine OW.val rfl rfl (EX.move rfl) ?_
                refine OW.val rfl rfl (by first | exact EX.addN (b := 1) (m := 9223372036854775807) rfl rfl rfl (by omega) | exact EX.addZ (m := 9223372036854775807) rfl rfl rfl rfl (by omega)) ?_
                refine OW.val rfl rfl (EX.assign rfl) ?_
                refine OW.nil ?_
                refine KW.back1 (i + 1) ⟨rfl, rfl, trivial⟩ rfl ?_ (by omega)
                exact ⟨by omega, step (fun h => by have := (hga.1 h).2; omega)⟩
            · refine OW.pass rfl rfl ?_
              refine OW.pass rfl rfl ?_
              refine OW.val rfl rfl (EX.pickF rfl rfl) ?_
              refine OW.val rfl rfl (EX.move rfl) ?_
              refine OW.pass rfl rfl ?_
              refine OW.pass rfl rfl ?_
              refine OW.val rfl rfl (EX.pickF rfl rfl) ?_
              refine OW.nil ?_
              refine KW.condF rfl (KW.skip (KW.leave (KW.region ?_)))
              refine OW.val rfl rfl (EX.move rfl) ?_
              refine OW.val rfl rfl (by first | exact EX.addN (b := 1) (m := 9223372036854775807) rfl rfl rfl (by omega) | exact EX.addZ (m := 9223372036854775807) rfl rfl rfl rfl (by omega)) ?_
              refine OW.val rfl rfl (EX.assign rfl) ?_
              refine OW.nil ?_
              refine KW.back1 (i + 1) ⟨rfl, rfl, trivial⟩ rfl ?_ (by omega)
              exact ⟨by omega, step (fun h => by have := (hga.1 h).2; omega)⟩
          · refine OW.pass rfl rfl ?_
            refine OW.pass rfl rfl ?_
            refine OW.val rfl rfl (EX.pickF rfl rfl) ?_
            refine OW.val rfl rfl (EX.move rfl) ?_
            refine OW.pass rfl rfl ?_
            refine OW.pass rfl rfl ?_
            refine OW.val rfl rfl (EX.pickF rfl rfl) ?_
            refine OW.val rfl rfl (EX.move rfl) ?_
            refine OW.pass rfl rfl ?_
            refine OW.pass rfl rfl ?_
            refine OW.val rfl rfl (EX.pickF rfl rfl) ?_
            refine OW.nil ?_
            refine KW.condF rfl (KW.skip (KW.leave (KW.region ?_)))
            refine OW.val rfl rfl (EX.move rfl) ?_
            refine OW.val rfl rfl (by first | exact EX.addN (b := 1) (m := 9223372036854775807) rfl rfl rfl (by omega) | exact EX.addZ (m := 9223372036854775807) rfl rfl rfl rfl (by omega)) ?_
            refine OW.val rfl rfl (EX.assign rfl) ?_
            refine OW.nil ?_
            refine KW.back1 (i + 1) ⟨rfl, rfl, trivial⟩ rfl ?_ (by omega)
            exact ⟨by omega, step (fun h => by have := (hga.1 h).2; omega)⟩
        · refine OW.pass rfl rfl ?_
          refine OW.pass rfl rfl ?_
          refine OW.val rfl rfl (EX.pickF rfl rfl) ?_
          refine OW.val rfl rfl (EX.move rfl) ?_
          refine OW.pass rfl rfl ?_
          refine OW.pass rfl rfl ?_
          refine OW.val rfl rfl (EX.pickF rfl rfl) ?_
          refine OW.val rfl rfl (EX.move rfl) ?_
          refine OW.pass rfl rfl ?_
          refine OW.pass rfl rfl ?_
          refine OW.val rfl rfl (EX.pickF rfl rfl) ?_
          refine OW.val rfl rfl (EX.move rfl) ?_
          refine OW.pass rfl rfl ?_
          refine OW.pass rfl rfl ?_
          refine OW.val rfl rfl (EX.pickF rfl rfl) ?_
          refine OW.nil ?_
          refine KW.condF rfl (KW.skip (KW.leave (KW.region ?_)))
          refine OW.val rfl rfl (EX.move rfl) ?_
          refine OW.val rfl rfl (by first | exact EX.addN (b := 1) (m := 9223372036854775807) rfl rfl rfl (by omega) | exact EX.addZ (m := 9223372036854775807) rfl rfl rfl rfl (by omega)) ?_
          refine OW.val rfl rfl (EX.assign rfl) ?_
          refine OW.nil ?_
          refine KW.back1 (i + 1) ⟨rfl, rfl, trivial⟩ rfl ?_ (by omega)
          exact ⟨by omega, step (fun h => d1 (hga.1 h).1)⟩
      · obtain rfl : i = p.length := by omega
        refine KW.exit rfl (KW.seq (KW.region ?_))
        refine OW.val rfl rfl (EX.assign rfl) ?_
        refine OW.val rfl rfl (EX.assign rfl) ?_
        refine OW.val rfl rfl (EX.assign rfl) ?_
        refine OW.nil ?_
        refine KW.ret (ret3 rfl rfl rfl rfl ?_)
        exact ⟨([], [], false), rfl, .inr (.inr ⟨by omega, fun j hg => by have := hg.2.2; exact hn j (by omega) hg, rfl⟩), Ext.refl _⟩
end Go.Proofs.YtifnlmpnkjhlnaaDoor
