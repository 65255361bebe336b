/-
  The engine's laws once more, for bodies of ranges over functions, for what follows them, and for iterators: in a round's frame, or with marks among the deferred calls. No program is spoken of. (Written by kw/mkr.py.)
-/
import Derived.Test.YtifnlmpnkjhlnaaDoorKc
import Derived.RangeFuncFrom
import Derived.RangeFuncLeaves
import Derived.RangeFuncCalls
import Derived.RangeFuncBound
namespace Go.Proofs.YtifnlmpnkjhlnaaDoor
open Go.RowKit
set_option linter.unusedSimpArgs false
set_option linter.unusedVariables false
/-- where a walk stands: the round, how deep calls may go, the marks, what is owed at a way out -/
structure RP where
  round : Option Nat
  m : Nat
  ds : List Deferred
  post : Exit → Act → World → Prop
def RP.F (R : RP) : Fence := { Fence.wide with round := R.round }
structure FrD (R : RP) (n : Nat) (σ : Sig) (a : Act) : Prop where
  fr : Fr n σ { a with defers := [] }
  df : a.defers = R.ds
section
variable {R : RP} {n : Nat} {σ σ' : Sig} {a : Act}
theorem FrD.ev (h : FrD R n σ a) {x : Operand} {v : Value} (hx : ev σ x = some v) : a.eval x = v := by
  have := h.fr.ev hx
  cases x <;> exact this
theorem FrD.sub (h : FrD R n σ a) (hs : Subs σ' σ) : FrD R n σ' a := ⟨h.fr.sub hs, h.df⟩
theorem FrD.put (h : FrD R n σ a) {d : Nat} (hd : Nat.blt d n = true) (v : Value) : FrD R n ((d, v) :: σ) (a.put (some d) v) := ⟨h.fr.put hd v, h.df⟩
end
def psr (P : Program) (R : RP) : List KI → Exit → Act → World → Prop
  | [], e => R.post e
  | .code c :: k, e => match e with | .normal => fun a w => c.wpIn R.F R.m P (psr P R k) a w | e => psr P R k e
  | .blk id :: k, e => match e with | .exit i => fun a w => if i = id then psr P R k .normal a w else psr P R k (.exit i) a w | e => psr P R k e
  | .asr I :: k, e => match e with | .normal => I | e => psr P R k e
def KR (P : Program) (R : RP) (k : List KI) (n : Nat) (σ : Sig) (w : World) : Prop := ∀ a, FrD R n σ a → psr P R k .normal a w
section
variable {P : Program} {R : RP} {k : List KI} {n : Nat} {σ : Sig} {w : World}
theorem psr_then (c : Code) (k : List KI) : psr P R (.code c :: k) = Exit.then (fun a w => c.wpIn R.F R.m P (psr P R k) a w) (psr P R k) := by
  funext e a w
  cases e <;> simp [psr, Exit.then]
theorem psr_blk (id : Nat) (k : List KI) : psr P R (.blk id :: k) = Exit.inBlock id (psr P R k) := by
  funext e a w
  cases e <;> simp [psr, Exit.inBlock]
theorem psr_exit {id : Nat} : ∀ {k k' : List KI}, popTo id k = some k' → ∀ a w, psr P R k (.exit id) a w = psr P R k' .normal a w
  | [], _, h, _, _ => by simp [popTo] at h
  | .code c :: k, k', h, a, w => by simp only [popTo] at h; simp only [psr]; exact psr_exit h a w
  | .asr I :: k, k', h, a, w => by simp only [popTo] at h; simp only [psr]; exact psr_exit h a w
  | .blk i :: k, k', h, a, w => by
    simp only [popTo] at h
    simp only [psr]
    by_cases e : id = i
    · subst e
      have : Nat.beq id id = true := by simp
      rw [this] at h
      injection h with h
      subst h
      simp
    · have : Nat.beq id i = false := by
        cases hb : Nat.beq id i with
        | false => rfl
        | true => exact absurd (Nat.eq_of_beq_eq_true hb) e
      rw [this] at h
      rw [if_neg e]
      exact psr_exit h a w
theorem psr_ret : ∀ (k : List KI) (a : Act) (w : World), psr P R k .ret a w = R.post .ret a w
  | [], _, _ => rfl
  | .code _ :: k, a, w => psr_ret k a w
  | .blk _ :: k, a, w => psr_ret k a w
  | .asr _ :: k, a, w => psr_ret k a w

theorem KR.seq {x y : Code} (h : KR P R (.code x :: .code y :: k) n σ w) : KR P R (.code (.seq x y) :: k) n σ w := fun a ha => by
  have := h a ha
  simp only [psr] at this ⊢
  refine wpIn_seq ?_
  rw [← psr_then]
  exact this
theorem KR.block {id : Nat} {c : Code} (h : KR P R (.code c :: .blk id :: k) n σ w) : KR P R (.code (.block id c) :: k) n σ w := fun a ha => by
  have := h a ha
  simp only [psr] at this ⊢
  refine wpIn_block ?_
  rw [← psr_blk]
  exact this
theorem KR.leave {id : Nat} (h : KR P R k n σ w) : KR P R (.blk id :: k) n σ w := fun a ha => h a ha
theorem KR.skip (h : KR P R k n σ w) : KR P R (.code .skip :: k) n σ w := fun a ha => wpIn_skip (h a ha)
theorem KR.label {l : Nat} (h : KR P R k n σ w) : KR P R (.code (.label l) :: k) n σ w := fun a ha => wpIn_label (h a ha)
theorem KR.exit {id : Nat} {k' : List KI} (hk : popTo id k = some k') (h : KR P R k' n σ w) : KR P R (.code (.exit id) :: k) n σ w := fun a ha =>
  wpIn_exit (by rw [psr_exit hk]; exact h a ha)
theorem KR.ret (h : ∀ a, FrD R n σ a → R.post .ret a w) : KR P R (.code .ret :: k) n σ w := fun a ha => wpIn_ret (by rw [psr_ret]; exact h a ha)
theorem KR.done (h : ∀ a, FrD R n σ a → R.post .normal a w) : KR P R [] n σ w := h
theorem KR.sub {σ' : Sig} (hs : Subs σ' σ) (h : KR P R k n σ' w) : KR P R k n σ w := fun a ha => h a (ha.sub hs)
theorem KR.cond {c : Operand} {x y : Code} {b : Bool} (hc : ev σ c = some (.bool b)) (ht : b = true → KR P R (.code x :: k) n σ w) (hf : b = false → KR P R (.code y :: k) n σ w) :
    KR P R (.code (.cond c x y) :: k) n σ w := fun a ha =>
  wpIn_cond_split (ha.ev hc) (fun e => ht e a ha) (fun e => hf e a ha)
theorem KR.condD {c : Operand} {x y : Code} {p : Prop} [Decidable p] (hc : ev σ c = some (.bool (decide p))) (ht : p → KR P R (.code x :: k) n σ w) (hf : ¬ p → KR P R (.code y :: k) n σ w) :
    KR P R (.code (.cond c x y) :: k) n σ w :=
  KR.cond hc (fun e => ht (of_decide_eq_true e)) (fun e => hf (of_decide_eq_false e))
theorem KR.condT {c : Operand} {x y : Code} (hc : ev σ c = some (.bool true)) (h : KR P R (.code x :: k) n σ w) : KR P R (.code (.cond c x y) :: k) n σ w :=
  KR.cond hc (fun _ => h) (fun e => by cases e)
theorem KR.condF {c : Operand} {x y : Code} (hc : ev σ c = some (.bool false)) (h : KR P R (.code y :: k) n σ w) : KR P R (.code (.cond c x y) :: k) n σ w :=
  KR.cond hc (fun e => by cases e) (fun _ => h)

/-- what holds where the ways meet, or at a loop's head -/
def MetR {ι : Type} (R : RP) (n : Nat) (I : ι → Prop) (S : ι → Sig) (W : ι → World) (a : Act) (w : World) : Prop := ∃ i, I i ∧ FrD R n (S i) a ∧ w = W i
theorem KR.cut {ι : Type} (I : ι → Prop) (S : ι → Sig) (W : ι → World) {c : Code} (h : KR P R (.code c :: .asr (MetR R n I S W) :: k) n σ w) (h2 : ∀ i, I i → KR P R k n (S i) (W i)) :
    KR P R (.code c :: k) n σ w := fun a ha => by
  have h1 := h a ha
  simp only [psr] at h1 ⊢
  refine Code.wpIn_mono (fun e a' w' q => ?_) h1
  cases e with
  | normal => obtain ⟨i, hi, hf, rfl⟩ := q; exact h2 i hi a' hf
  | _ => exact q
theorem KR.meet {ι : Type} {I : ι → Prop} {S : ι → Sig} {W : ι → World} (i : ι) (hs : Subs (S i) σ) (hw : w = W i) (hi : I i) : KR P R (.asr (MetR R n I S W) :: k) n σ w :=
  fun _ ha => ⟨i, hi, ha.sub hs, hw⟩
/-- a loop's round ends -/
def BackR {ι : Type} (R : RP) (n : Nat) (I : ι → Prop) (S : ι → Sig) (W : ι → World) (μ : ι → Nat) (i : ι) (a : Act) (w : World) : Prop := ∃ j, I j ∧ μ j < μ i ∧ FrD R n (S j) a ∧ w = W j
theorem KR.back {ι : Type} {I : ι → Prop} {S : ι → Sig} {W : ι → World} {μ : ι → Nat} {i : ι} (j : ι) (hs : Subs (S j) σ) (hw : w = W j) (hi : I j) (hm : μ j < μ i) :
    KR P R (.asr (BackR R n I S W μ i) :: k) n σ w := fun _ ha => ⟨j, hi, hm, ha.sub hs, hw⟩
theorem KR.loop {ι : Type} (I : ι → Prop) (S : ι → Sig) (W : ι → World) (μ : ι → Nat) {c : Code} (i : ι) (hs : Subs (S i) σ) (hw : w = W i) (hi : I i)
    (round : ∀ i, I i → KR P R (.code c :: .asr (BackR R n I S W μ i) :: k) n (S i) (W i)) : KR P R (.code (.loop c) :: k) n σ w := fun a ha => by
  let M (a : Act) (w : World) (m : Nat) : Prop := ∃ i, I i ∧ FrD R n (S i) a ∧ w = W i ∧ μ i = m
  have hex : ∀ a w, (∃ m, M a w m) → ∃ m, M a w m ∧ ∀ m', M a w m' → m ≤ m' := fun a w ⟨m, hm⟩ => least_nat _ m hm
  let ν (a : Act) (w : World) : Nat := Classical.epsilon fun m => M a w m ∧ ∀ m', M a w m' → m ≤ m'
  have hν : ∀ a w, (∃ m, M a w m) → M a w (ν a w) ∧ ∀ m', M a w m' → ν a w ≤ m' := fun a w h => Classical.epsilon_spec (hex a w h)
  simp only [psr]
  refine wpIn_loop (fun a w => ∃ m, M a w m) ν ⟨μ i, i, hi, ha.sub hs, hw, rfl⟩ fun a' w' hm => ?_
  obtain ⟨⟨j, hj, hf, hw', hmu⟩, _⟩ := hν a' w' hm
  have h := round j hj a' hf
  simp only [psr] at h
  subst hw'
  refine Code.wpIn_mono (fun e a'' w'' q => ?_) h
  cases e with
  | normal =>
    obtain ⟨j', h1, h2, h3, h4⟩ := q
    refine ⟨⟨μ j', j', h1, h3, h4, rfl⟩, ?_⟩
    have := (hν a'' w'' ⟨μ j', j', h1, h3, h4, rfl⟩).2 (μ j') ⟨j', h1, h3, h4, rfl⟩
    omega
  | _ => exact q
end

section
variable {P : Program} {R : RP} {k : List KI} {n : Nat} {σ : Sig} {w : World}
def BackR1 {α : Type} (R : RP) (n : Nat) (I : α → Prop) (S : α → Sig) (W : α → World) (μ : α → Nat) (x0 : α) : Act → World → Prop :=
  BackR R n (fun p : α => I p) (fun p => S p) (fun p => W p) (fun p => μ p) x0
def MetR1 {α : Type} (R : RP) (n : Nat) (I : α → Prop) (S : α → Sig) (W : α → World) : Act → World → Prop :=
  MetR R n (fun p : α => I p) (fun p => S p) (fun p => W p)
theorem KR.loop1 {α : Type} (I : α → Prop) (S : α → Sig) (W : α → World) (μ : α → Nat) {c : Code} (x0 : α) (hs : Subs (S x0) σ) (hw : w = W x0) (hi : I x0)
    (round : ∀ x0, I x0 → KR P R (.code c :: .asr (BackR1 R n I S W μ x0) :: k) n (S x0) (W x0)) : KR P R (.code (.loop c) :: k) n σ w :=
  KR.loop (fun p : α => I p) (fun p => S p) (fun p => W p) (fun p => μ p) x0 hs hw hi fun p hp => round p hp
theorem KR.back1 {α : Type} {I : α → Prop} {S : α → Sig} {W : α → World} {μ : α → Nat} {y0 : α} (x0 : α) (hs : Subs (S x0) σ) (hw : w = W x0) (hi : I x0) (hm : μ x0 < μ y0) :
    KR P R (.asr (BackR1 R n I S W μ y0) :: k) n σ w :=
  KR.back (I := fun p : α => I p) (S := fun p => S p) (W := fun p => W p) (μ := fun p => μ p) x0 hs hw hi hm
theorem KR.cut1 {α : Type} (I : α → Prop) (S : α → Sig) (W : α → World) {c : Code} (h : KR P R (.code c :: .asr (MetR1 R n I S W) :: k) n σ w)
    (h2 : ∀ x0, I x0 → KR P R k n (S x0) (W x0)) : KR P R (.code c :: k) n σ w :=
  KR.cut (fun p : α => I p) (fun p => S p) (fun p => W p) h fun p hp => h2 p hp
theorem KR.meet1 {α : Type} {I : α → Prop} {S : α → Sig} {W : α → World} (x0 : α) (hs : Subs (S x0) σ) (hw : w = W x0) (hi : I x0) :
    KR P R (.asr (MetR1 R n I S W) :: k) n σ w :=
  KR.meet (I := fun p : α => I p) (S := fun p => S p) (W := fun p => W p) x0 hs hw hi
def BackR2 {α β : Type} (R : RP) (n : Nat) (I : α → β → Prop) (S : α → β → Sig) (W : α → β → World) (μ : α → β → Nat) (x0 : α) (x1 : β) : Act → World → Prop :=
  BackR R n (fun p : α × β => I p.1 p.2) (fun p => S p.1 p.2) (fun p => W p.1 p.2) (fun p => μ p.1 p.2) (x0, x1)
def MetR2 {α β : Type} (R : RP) (n : Nat) (I : α → β → Prop) (S : α → β → Sig) (W : α → β → World) : Act → World → Prop :=
  MetR R n (fun p : α × β => I p.1 p.2) (fun p => S p.1 p.2) (fun p => W p.1 p.2)
theorem KR.loop2 {α β : Type} (I : α → β → Prop) (S : α → β → Sig) (W : α → β → World) (μ : α → β → Nat) {c : Code} (x0 : α) (x1 : β) (hs : Subs (S x0 x1) σ) (hw : w = W x0 x1) (hi : I x0 x1)
    (round : ∀ x0 x1, I x0 x1 → KR P R (.code c :: .asr (BackR2 R n I S W μ x0 x1) :: k) n (S x0 x1) (W x0 x1)) : KR P R (.code (.loop c) :: k) n σ w :=
  KR.loop (fun p : α × β => I p.1 p.2) (fun p => S p.1 p.2) (fun p => W p.1 p.2) (fun p => μ p.1 p.2) (x0, x1) hs hw hi fun p hp => round p.1 p.2 hp
theorem KR.back2 {α β : Type} {I : α → β → Prop} {S : α → β → Sig} {W : α → β → World} {μ : α → β → Nat} {y0 : α} {y1 : β} (x0 : α) (x1 : β) (hs : Subs (S x0 x1) σ) (hw : w = W x0 x1) (hi : I x0 x1) (hm : μ x0 x1 < μ y0 y1) :
    KR P R (.asr (BackR2 R n I S W μ y0 y1) :: k) n σ w :=
  KR.back (I := fun p : α × β => I p.1 p.2) (S := fun p => S p.1 p.2) (W := fun p => W p.1 p.2) (μ := fun p => μ p.1 p.2) (x0, x1) hs hw hi hm
theorem KR.cut2 {α β : Type} (I : α → β → Prop) (S : α → β → Sig) (W : α → β → World) {c : Code} (h : KR P R (.code c :: .asr (MetR2 R n I S W) :: k) n σ w)
    (h2 : ∀ x0 x1, I x0 x1 → KR P R k n (S x0 x1) (W x0 x1)) : KR P R (.code c :: k) n σ w :=
  KR.cut (fun p : α × β => I p.1 p.2) (fun p => S p.1 p.2) (fun p => W p.1 p.2) h fun p hp => h2 p.1 p.2 hp
theorem KR.meet2 {α β : Type} {I : α → β → Prop} {S : α → β → Sig} {W : α → β → World} (x0 : α) (x1 : β) (hs : Subs (S x0 x1) σ) (hw : w = W x0 x1) (hi : I x0 x1) :
    KR P R (.asr (MetR2 R n I S W) :: k) n σ w :=
  KR.meet (I := fun p : α × β => I p.1 p.2) (S := fun p => S p.1 p.2) (W := fun p => W p.1 p.2) (x0, x1) hs hw hi
def BackR3 {α β γ : Type} (R : RP) (n : Nat) (I : α → β → γ → Prop) (S : α → β → γ → Sig) (W : α → β → γ → World) (μ : α → β → γ → Nat) (x0 : α) (x1 : β) (x2 : γ) : Act → World → Prop :=
  BackR R n (fun p : α × β × γ => I p.1 p.2.1 p.2.2) (fun p => S p.1 p.2.1 p.2.2) (fun p => W p.1 p.2.1 p.2.2) (fun p => μ p.1 p.2.1 p.2.2) (x0, x1, x2)
def MetR3 {α β γ : Type} (R : RP) (n : Nat) (I : α → β → γ → Prop) (S : α → β → γ → Sig) (W : α → β → γ → World) : Act → World → Prop :=
  MetR R n (fun p : α × β × γ => I p.1 p.2.1 p.2.2) (fun p => S p.1 p.2.1 p.2.2) (fun p => W p.1 p.2.1 p.2.2)
theorem KR.loop3 {α β γ : Type} (I : α → β → γ → Prop) (S : α → β → γ → Sig) (W : α → β → γ → World) (μ : α → β → γ → Nat) {c : Code} (x0 : α) (x1 : β) (x2 : γ) (hs : Subs (S x0 x1 x2) σ) (hw : w = W x0 x1 x2) (hi : I x0 x1 x2)
    (round : ∀ x0 x1 x2, I x0 x1 x2 → KR P R (.code c :: .asr (BackR3 R n I S W μ x0 x1 x2) :: k) n (S x0 x1 x2) (W x0 x1 x2)) : KR P R (.code (.loop c) :: k) n σ w :=
  KR.loop (fun p : α × β × γ => I p.1 p.2.1 p.2.2) (fun p => S p.1 p.2.1 p.2.2) (fun p => W p.1 p.2.1 p.2.2) (fun p => μ p.1 p.2.1 p.2.2) (x0, x1, x2) hs hw hi fun p hp => round p.1 p.2.1 p.2.2 hp
theorem KR.back3 {α β γ : Type} {I : α → β → γ → Prop} {S : α → β → γ → Sig} {W : α → β → γ → World} {μ : α → β → γ → Nat} {y0 : α} {y1 : β} {y2 : γ} (x0 : α) (x1 : β) (x2 : γ) (hs : Subs (S x0 x1 x2) σ) (hw : w = W x0 x1 x2) (hi : I x0 x1 x2) (hm : μ x0 x1 x2 < μ y0 y1 y2) :
    KR P R (.asr (BackR3 R n I S W μ y0 y1 y2) :: k) n σ w :=
  KR.back (I := fun p : α × β × γ => I p.1 p.2.1 p.2.2) (S := fun p => S p.1 p.2.1 p.2.2) (W := fun p => W p.1 p.2.1 p.2.2) (μ := fun p => μ p.1 p.2.1 p.2.2) (x0, x1, x2) hs hw hi hm
theorem KR.cut3 {α β γ : Type} (I : α → β → γ → Prop) (S : α → β → γ → Sig) (W : α → β → γ → World) {c : Code} (h : KR P R (.code c :: .asr (MetR3 R n I S W) :: k) n σ w)
    (h2 : ∀ x0 x1 x2, I x0 x1 x2 → KR P R k n (S x0 x1 x2) (W x0 x1 x2)) : KR P R (.code c :: k) n σ w :=
  KR.cut (fun p : α × β × γ => I p.1 p.2.1 p.2.2) (fun p => S p.1 p.2.1 p.2.2) (fun p => W p.1 p.2.1 p.2.2) h fun p hp => h2 p.1 p.2.1 p.2.2 hp
theorem KR.meet3 {α β γ : Type} {I : α → β → γ → Prop} {S : α → β → γ → Sig} {W : α → β → γ → World} (x0 : α) (x1 : β) (x2 : γ) (hs : Subs (S x0 x1 x2) σ) (hw : w = W x0 x1 x2) (hi : I x0 x1 x2) :
    KR P R (.asr (MetR3 R n I S W) :: k) n σ w :=
  KR.meet (I := fun p : α × β × γ => I p.1 p.2.1 p.2.2) (S := fun p => S p.1 p.2.1 p.2.2) (W := fun p => W p.1 p.2.1 p.2.2) (x0, x1, x2) hs hw hi
def BackR4 {α β γ δ : Type} (R : RP) (n : Nat) (I : α → β → γ → δ → Prop) (S : α → β → γ → δ → Sig) (W : α → β → γ → δ → World) (μ : α → β → γ → δ → Nat) (x0 : α) (x1 : β) (x2 : γ) (x3 : δ) : Act → World → Prop :=
  BackR R n (fun p : α × β × γ × δ => I p.1 p.2.1 p.2.2.1 p.2.2.2) (fun p => S p.1 p.2.1 p.2.2.1 p.2.2.2) (fun p => W p.1 p.2.1 p.2.2.1 p.2.2.2) (fun p => μ p.1 p.2.1 p.2.2.1 p.2.2.2) (x0, x1, x2, x3)
def MetR4 {α β γ δ : Type} (R : RP) (n : Nat) (I : α → β → γ → δ → Prop) (S : α → β → γ → δ → Sig) (W : α → β → γ → δ → World) : Act → World → Prop :=
  MetR R n (fun p : α × β × γ × δ => I p.1 p.2.1 p.2.2.1 p.2.2.2) (fun p => S p.1 p.2.1 p.2.2.1 p.2.2.2) (fun p => W p.1 p.2.1 p.2.2.1 p.2.2.2)
theorem KR.loop4 {α β γ δ : Type} (I : α → β → γ → δ → Prop) (S : α → β → γ → δ → Sig) (W : α → β → γ → δ → World) (μ : α → β → γ → δ → Nat) {c : Code} (x0 : α) (x1 : β) (x2 : γ) (x3 : δ) (hs : Subs (S x0 x1 x2 x3) σ) (hw : w = W x0 x1 x2 x3) (hi : I x0 x1 x2 x3)
    (round : ∀ x0 x1 x2 x3, I x0 x1 x2 x3 → KR P R (.code c :: .asr (BackR4 R n I S W μ x0 x1 x2 x3) :: k) n (S x0 x1 x2 x3) (W x0 x1 x2 x3)) : KR P R (.code (.loop c) :: k) n σ w :=
  KR.loop (fun p : α × β × γ × δ => I p.1 p.2.1 p.2.2.1 p.2.2.2) (fun p => S p.1 p.2.1 p.2.2.1 p.2.2.2) (fun p => W p.1 p.2.1 p.2.2.1 p.2.2.2) (fun p => μ p.1 p.2.1 p.2.2.1 p.2.2.2) (x0, x1, x2, x3) hs hw hi fun p hp => round p.1 p.2.1 p.2.2.1 p.2.2.2 hp
theorem KR.back4 {α β γ δ : Type} {I : α → β → γ → δ → Prop} {S : α → β → γ → δ → Sig} {W : α → β → γ → δ → World} {μ : α → β → γ → δ → Nat} {y0 : α} {y1 : β} {y2 : γ} {y3 : δ} (x0 : α) (x1 : β) (x2 : γ) (x3 : δ) (hs : Subs (S x0 x1 x2 x3) σ) (hw : w = W x0 x1 x2 x3) (hi : I x0 x1 x2 x3) (hm : μ x0 x1 x2 x3 < μ y0 y1 y2 y3) :
    KR P R (.asr (BackR4 R n I S W μ y0 y1 y2 y3) :: k) n σ w :=
  KR.back (I := fun p : α × β × γ × δ => I p.1 p.2.1 p.2.2.1 p.2.2.2) (S := fun p => S p.1 p.2.1 p.2.2.1 p.2.2.2) (W := fun p => W p.1 p.2.1 p.2.2.1 p.2.2.2) (μ := fun p => μ p.1 p.2.1 p.2.2.1 p.2.2.2) (x0, x1, x2, x3) hs hw hi hm
theorem KR.cut4 {α β γ δ : Type} (I : α → β → γ → δ → Prop) (S : α → β → γ → δ → Sig) (W : α → β → γ → δ → World) {c : Code} (h : KR P R (.code c :: .asr (MetR4 R n I S W) :: k) n σ w)
    (h2 : ∀ x0 x1 x2 x3, I x0 x1 x2 x3 → KR P R k n (S x0 x1 x2 x3) (W x0 x1 x2 x3)) : KR P R (.code c :: k) n σ w :=
  KR.cut (fun p : α × β × γ × δ => I p.1 p.2.1 p.2.2.1 p.2.2.2) (fun p => S p.1 p.2.1 p.2.2.1 p.2.2.2) (fun p => W p.1 p.2.1 p.2.2.1 p.2.2.2) h fun p hp => h2 p.1 p.2.1 p.2.2.1 p.2.2.2 hp
theorem KR.meet4 {α β γ δ : Type} {I : α → β → γ → δ → Prop} {S : α → β → γ → δ → Sig} {W : α → β → γ → δ → World} (x0 : α) (x1 : β) (x2 : γ) (x3 : δ) (hs : Subs (S x0 x1 x2 x3) σ) (hw : w = W x0 x1 x2 x3) (hi : I x0 x1 x2 x3) :
    KR P R (.asr (MetR4 R n I S W) :: k) n σ w :=
  KR.meet (I := fun p : α × β × γ × δ => I p.1 p.2.1 p.2.2.1 p.2.2.2) (S := fun p => S p.1 p.2.1 p.2.2.1 p.2.2.2) (W := fun p => W p.1 p.2.1 p.2.2.1 p.2.2.2) (x0, x1, x2, x3) hs hw hi
def BackR5 {α β γ δ ε : Type} (R : RP) (n : Nat) (I : α → β → γ → δ → ε → Prop) (S : α → β → γ → δ → ε → Sig) (W : α → β → γ → δ → ε → World) (μ : α → β → γ → δ → ε → Nat) (x0 : α) (x1 : β) (x2 : γ) (x3 : δ) (x4 : ε) : Act → World → Prop :=
  BackR R n (fun p : α × β × γ × δ × ε => I p.1 p.2.1 p.2.2.1 p.2.2.2.1 p.2.2.2.2) (fun p => S p.1 p.2.1 p.2.2.1 p.2.2.2.1 p.2.2.2.2) (fun p => W p.1 p.2.1 p.2.2.1 p.2.2.2.1 p.2.2.2.2) (fun p => μ p.1 p.2.1 p.2.2.1 p.2.2.2.1 p.2.2.2.2) (x0, x1, x2, x3, x4)
def MetR5 {α β γ δ ε : Type} (R : RP) (n : Nat) (I : α → β → γ → δ → ε → Prop) (S : α → β → γ → δ → ε → Sig) (W : α → β → γ → δ → ε → World) : Act → World → Prop :=
  MetR R n (fun p : α × β × γ × δ × ε => I p.1 p.2.1 p.2.2.1 p.2.2.2.1 p.2.2.2.2) (fun p => S p.1 p.2.1 p.2.2.1 p.2.2.2.1 p.2.2.2.2) (fun p => W p.1 p.2.1 p.2.2.1 p.2.2.2.1 p.2.2.2.2)
theorem KR.loop5 {α β γ δ ε : Type} (I : α → β → γ → δ → ε → Prop) (S : α → β → γ → δ → ε → Sig) (W : α → β → γ → δ → ε → World) (μ : α → β → γ → δ → ε → Nat) {c : Code} (x0 : α) (x1 : β) (x2 : γ) (x3 : δ) (x4 : ε) (hs : Subs (S x0 x1 x2 x3 x4) σ) (hw : w = W x0 x1 x2 x3 x4) (hi : I x0 x1 x2 x3 x4)
    (round : ∀ x0 x1 x2 x3 x4, I x0 x1 x2 x3 x4 → KR P R (.code c :: .asr (BackR5 R n I S W μ x0 x1 x2 x3 x4) :: k) n (S x0 x1 x2 x3 x4) (W x0 x1 x2 x3 x4)) : KR P R (.code (.loop c) :: k) n σ w :=
  KR.loop (fun p : α × β × γ × δ × ε => I p.1 p.2.1 p.2.2.1 p.2.2.2.1 p.2.2.2.2) (fun p => S p.1 p.2.1 p.2.2.1 p.2.2.2.1 p.2.2.2.2) (fun p => W p.1 p.2.1 p.2.2.1 p.2.2.2.1 p.2.2.2.2) (fun p => μ p.1 p.2.1 p.2.2.1 p.2.2.2.1 p.2.2.2.2) (x0, x1, x2, x3, x4) hs hw hi fun p hp => round p.1 p.2.1 p.2.2.1 p.2.2.2.1 p.2.2.2.2 hp
theorem KR.back5 {α β γ δ ε : Type} {I : α → β → γ → δ → ε → Prop} {S : α → β → γ → δ → ε → Sig} {W : α → β → γ → δ → ε → World} {μ : α → β → γ → δ → ε → Nat} {y0 : α} {y1 : β} {y2 : γ} {y3 : δ} {y4 : ε} (x0 : α) (x1 : β) (x2 : γ) (x3 : δ) (x4 : ε) (hs : Subs (S x0 x1 x2 x3 x4) σ) (hw : w = W x0 x1 x2 x3 x4) (hi : I x0 x1 x2 x3 x4) (hm : μ x0 x1 x2 x3 x4 < μ y0 y1 y2 y3 y4) :
    KR P R (.asr (BackR5 R n I S W μ y0 y1 y2 y3 y4) :: k) n σ w :=
  KR.back (I := fun p : α × β × γ × δ × ε => I p.1 p.2.1 p.2.2.1 p.2.2.2.1 p.2.2.2.2) (S := fun p => S p.1 p.2.1 p.2.2.1 p.2.2.2.1 p.2.2.2.2) (W := fun p => W p.1 p.2.1 p.2.2.1 p.2.2.2.1 p.2.2.2.2) (μ := fun p => μ p.1 p.2.1 p.2.2.1 p.2.2.2.1 p.2.2.2.2) (x0, x1, x2, x3, x4) hs hw hi hm
theorem KR.cut5 {α β γ δ ε : Type} (I : α → β → γ → δ → ε → Prop) (S : α → β → γ → δ → ε → Sig) (W : α → β → γ → δ → ε → World) {c : Code} (h : KR P R (.code c :: .asr (MetR5 R n I S W) :: k) n σ w)
    (h2 : ∀ x0 x1 x2 x3 x4, I x0 x1 x2 x3 x4 → KR P R k n (S x0 x1 x2 x3 x4) (W x0 x1 x2 x3 x4)) : KR P R (.code c :: k) n σ w :=
  KR.cut (fun p : α × β × γ × δ × ε => I p.1 p.2.1 p.2.2.1 p.2.2.2.1 p.2.2.2.2) (fun p => S p.1 p.2.1 p.2.2.1 p.2.2.2.1 p.2.2.2.2) (fun p => W p.1 p.2.1 p.2.2.1 p.2.2.2.1 p.2.2.2.2) h fun p hp => h2 p.1 p.2.1 p.2.2.1 p.2.2.2.1 p.2.2.2.2 hp
theorem KR.meet5 {α β γ δ ε : Type} {I : α → β → γ → δ → ε → Prop} {S : α → β → γ → δ → ε → Sig} {W : α → β → γ → δ → ε → World} (x0 : α) (x1 : β) (x2 : γ) (x3 : δ) (x4 : ε) (hs : Subs (S x0 x1 x2 x3 x4) σ) (hw : w = W x0 x1 x2 x3 x4) (hi : I x0 x1 x2 x3 x4) :
    KR P R (.asr (MetR5 R n I S W) :: k) n σ w :=
  KR.meet (I := fun p : α × β × γ × δ × ε => I p.1 p.2.1 p.2.2.1 p.2.2.2.1 p.2.2.2.2) (S := fun p => S p.1 p.2.1 p.2.2.1 p.2.2.2.1 p.2.2.2.2) (W := fun p => W p.1 p.2.1 p.2.2.1 p.2.2.2.1 p.2.2.2.2) (x0, x1, x2, x3, x4) hs hw hi
def BackR6 {α β γ δ ε ζ : Type} (R : RP) (n : Nat) (I : α → β → γ → δ → ε → ζ → Prop) (S : α → β → γ → δ → ε → ζ → Sig) (W : α → β → γ → δ → ε → ζ → World) (μ : α → β → γ → δ → ε → ζ → Nat) (x0 : α) (x1 : β) (x2 : γ) (x3 : δ) (x4 : ε) (x5 : ζ) : Act → World → Prop :=
  BackR R n (fun p : α × β × γ × δ × ε × ζ => I p.1 p.2.1 p.2.2.1 p.2.2.2.1 p.2.2.2.2.1 p.2.2.2.2.2) (fun p => S p.1 p.2.1 p.2.2.1 p.2.2.2.1 p.2.2.2.2.1 p.2.2.2.2.2) (fun p => W p.1 p.2.1 p.2.2.1 p.2.2.2.1 p.2.2.2.2.1 p.2.2.2.2.2) (fun p => μ p.1 p.2.1 p.2.2.1 p.2.2.2.1 p.2.2.2.2.1 p.2.2.2.2.2) (x0, x1, x2, x3, x4, x5)
def MetR6 {α β γ δ ε ζ : Type} (R : RP) (n : Nat) (I : α → β → γ → δ → ε → ζ → Prop) (S : α → β → γ → δ → ε → ζ → Sig) (W : α → β → γ → δ → ε → ζ → World) : Act → World → Prop :=
  MetR R n (fun p : α × β × γ × δ × ε × ζ => I p.1 p.2.1 p.2.2.1 p.2.2.2.1 p.2.2.2.2.1 p.2.2.2.2.2) (fun p => S p.1 p.2.1 p.2.2.1 p.2.2.2.1 p.2.2.2.2.1 p.2.2.2.2.2) (fun p => W p.1 p.2.1 p.2.2.1 p.2.2.2.1 p.2.2.2.2.1 p.2.2.2.2.2)
theorem KR.loop6 {α β γ δ ε ζ : Type} (I : α → β → γ → δ → ε → ζ → Prop) (S : α → β → γ → δ → ε → ζ → Sig) (W : α → β → γ → δ → ε → ζ → World) (μ : α → β → γ → δ → ε → ζ → Nat) {c : Code} (x0 : α) (x1 : β) (x2 : γ) (x3 : δ) (x4 : ε) (x5 : ζ) (hs : Subs (S x0 x1 x2 x3 x4 x5) σ) (hw : w = W x0 x1 x2 x3 x4 x5) (hi : I x0 x1 x2 x3 x4 x5)
    (round : ∀ x0 x1 x2 x3 x4 x5, I x0 x1 x2 x3 x4 x5 → KR P R (.code c :: .asr (BackR6 R n I S W μ x0 x1 x2 x3 x4 x5) :: k) n (S x0 x1 x2 x3 x4 x5) (W x0 x1 x2 x3 x4 x5)) : KR P R (.code (.loop c) :: k) n σ w :=
  KR.loop (fun p : α × β × γ × δ × ε × ζ => I p.1 p.2.1 p.2.2.1 p.2.2.2.1 p.2.2.2.2.1 p.2.2.2.2.2) (fun p => S p.1 p.2.1 p.2.2.1 p.2.2.2.1 p.2.2.2.2.1 p.2.2.2.2.2) (fun p => W p.1 p.2.1 p.2.2.1 p.2.2.2.1 p.2.2.2.2.1 p.2.2.2.2.2) (fun p => μ p.1 p.2.1 p.2.2.1 p.2.2.2.1 p.2.2.2.2.1 p.2.2.2.2.2) (x0, x1, x2, x3, x4, x5) hs hw hi fun p hp => round p.1 p.2.1 p.2.2.1 p.2.2.2.1 p.2.2.2.2.1 p.2.2.2.2.2 hp
theorem KR.back6 {α β γ δ ε ζ : Type} {I : α → β → γ → δ → ε → ζ → Prop} {S : α → β → γ → δ → ε → ζ → Sig} {W : α → β → γ → δ → ε → ζ → World} {μ : α → β → γ → δ → ε → ζ → Nat} {y0 : α} {y1 : β} {y2 : γ} {y3 : δ} {y4 : ε} {y5 : ζ} (x0 : α) (x1 : β) (x2 : γ) (x3 : δ) (x4 : ε) (x5 : ζ) (hs : Subs (S x0 x1 x2 x3 x4 x5) σ) (hw : w = W x0 x1 x2 x3 x4 x5) (hi : I x0 x1 x2 x3 x4 x5) (hm : μ x0 x1 x2 x3 x4 x5 < μ y0 y1 y2 y3 y4 y5) :
    KR P R (.asr (BackR6 R n I S W μ y0 y1 y2 y3 y4 y5) :: k) n σ w :=
  KR.back (I := fun p : α × β × γ × δ × ε × ζ => I p.1 p.2.1 p.2.2.1 p.2.2.2.1 p.2.2.2.2.1 p.2.2.2.2.2) (S := fun p => S p.1 p.2.1 p.2.2.1 p.2.2.2.1 p.2.2.2.2.1 p.2.2.2.2.2) (W := fun p => W p.1 p.2.1 p.2.2.1 p.2.2.2.1 p.2.2.2.2.1 p.2.2.2.2.2) (μ := fun p => μ p.1 p.2.1 p.2.2.1 p.2.2.2.1 p.2.2.2.2.1 p.2.2.2.2.2) (x0, x1, x2, x3, x4, x5) hs hw hi hm
theorem KR.cut6 {α β γ δ ε ζ : Type} (I : α → β → γ → δ → ε → ζ → Prop) (S : α → β → γ → δ → ε → ζ → Sig) (W : α → β → γ → δ → ε → ζ → World) {c : Code} (h : KR P R (.code c :: .asr (MetR6 R n I S W) :: k) n σ w)
    (h2 : ∀ x0 x1 x2 x3 x4 x5, I x0 x1 x2 x3 x4 x5 → KR P R k n (S x0 x1 x2 x3 x4 x5) (W x0 x1 x2 x3 x4 x5)) : KR P R (.code c :: k) n σ w :=
  KR.cut (fun p : α × β × γ × δ × ε × ζ => I p.1 p.2.1 p.2.2.1 p.2.2.2.1 p.2.2.2.2.1 p.2.2.2.2.2) (fun p => S p.1 p.2.1 p.2.2.1 p.2.2.2.1 p.2.2.2.2.1 p.2.2.2.2.2) (fun p => W p.1 p.2.1 p.2.2.1 p.2.2.2.1 p.2.2.2.2.1 p.2.2.2.2.2) h fun p hp => h2 p.1 p.2.1 p.2.2.1 p.2.2.2.1 p.2.2.2.2.1 p.2.2.2.2.2 hp
theorem KR.meet6 {α β γ δ ε ζ : Type} {I : α → β → γ → δ → ε → ζ → Prop} {S : α → β → γ → δ → ε → ζ → Sig} {W : α → β → γ → δ → ε → ζ → World} (x0 : α) (x1 : β) (x2 : γ) (x3 : δ) (x4 : ε) (x5 : ζ) (hs : Subs (S x0 x1 x2 x3 x4 x5) σ) (hw : w = W x0 x1 x2 x3 x4 x5) (hi : I x0 x1 x2 x3 x4 x5) :
    KR P R (.asr (MetR6 R n I S W) :: k) n σ w :=
  KR.meet (I := fun p : α × β × γ × δ × ε × ζ => I p.1 p.2.1 p.2.2.1 p.2.2.2.1 p.2.2.2.2.1 p.2.2.2.2.2) (S := fun p => S p.1 p.2.1 p.2.2.1 p.2.2.2.1 p.2.2.2.2.1 p.2.2.2.2.2) (W := fun p => W p.1 p.2.1 p.2.2.1 p.2.2.2.1 p.2.2.2.2.1 p.2.2.2.2.2) (x0, x1, x2, x3, x4, x5) hs hw hi
def BackR7 {α β γ δ ε ζ η : Type} (R : RP) (n : Nat) (I : α → β → γ → δ → ε → ζ → η → Prop) (S : α → β → γ → δ → ε → ζ → η → Sig) (W : α → β → γ → δ → ε → ζ → η → World) (μ : α → β → γ → δ → ε → ζ → η → Nat) (x0 : α) (x1 : β) (x2 : γ) (x3 : δ) (x4 : ε) (x5 : ζ) (x6 : η) : Act → World → Prop :=
  BackR R n (fun p : α × β × γ × δ × ε × ζ × η => I p.1 p.2.1 p.2.2.1 p.2.2.2.1 p.2.2.2.2.1 p.2.2.2.2.2.1 p.2.2.2.2.2.2) (fun p => S p.1 p.2.1 p.2.2.1 p.2.2.2.1 p.2.2.2.2.1 p.2.2.2.2.2.1 p.2.2.2.2.2.2) (fun p => W p.1 p.2.1 p.2.2.1 p.2.2.2.1 p.2.2.2.2.1 p.2.2.2.2.2.1 p.2.2.2.2.2.2) (fun p => μ p.1 p.2.1 p.2.2.1 p.2.2.2.1 p.2.2.2.2.1 p.2.2.2.2.2.1 p.2.2.2.2.2.2) (x0, x1, x2, x3, x4, x5, x6)
def MetR7 {α β γ δ ε ζ η : Type} (R : RP) (n : Nat) (I : α → β → γ → δ → ε → ζ → η → Prop) (S : α → β → γ → δ → ε → ζ → η → Sig) (W : α → β → γ → δ → ε → ζ → η → World) : Act → World → Prop :=
  MetR R n (fun p : α × β × γ × δ × ε × ζ × η => I p.1 p.2.1 p.2.2.1 p.2.2.2.1 p.2.2.2.2.1 p.2.2.2.2.2.1 p.2.2.2.2.2.2) (fun p => S p.1 p.2.1 p.2.2.1 p.2.2.2.1 p.2.2.2.2.1 p.2.2.2.2.2.1 p.2.2.2.2.2.2) (fun p => W p.1 p.2.1 p.2.2.1 p.2.2.2.1 p.2.2.2.2.1 p.2.2.2.2.2.1 p.2.2.2.2.2.2)
theorem KR.loop7 {α β γ δ ε ζ η : Type} (I : α → β → γ → δ → ε → ζ → η → Prop) (S : α → β → γ → δ → ε → ζ → η → Sig) (W : α → β → γ → δ → ε → ζ → η → World) (μ : α → β → γ → δ → ε → ζ → η → Nat) {c : Code} (x0 : α) (x1 : β) (x2 : γ) (x3 : δ) (x4 : ε) (x5 : ζ) (x6 : η) (hs : Subs (S x0 x1 x2 x3 x4 x5 x6) σ) (hw : w = W x0 x1 x2 x3 x4 x5 x6) (hi : I x0 x1 x2 x3 x4 x5 x6)
    (round : ∀ x0 x1 x2 x3 x4 x5 x6, I x0 x1 x2 x3 x4 x5 x6 → KR P R (.code c :: .asr (BackR7 R n I S W μ x0 x1 x2 x3 x4 x5 x6) :: k) n (S x0 x1 x2 x3 x4 x5 x6) (W x0 x1 x2 x3 x4 x5 x6)) : KR P R (.code (.loop c) :: k) n σ w :=
  KR.loop (fun p : α × β × γ × δ × ε × ζ × η => I p.1 p.2.1 p.2.2.1 p.2.2.2.1 p.2.2.2.2.1 p.2.2.2.2.2.1 p.2.2.2.2.2.2) (fun p => S p.1 p.2.1 p.2.2.1 p.2.2.2.1 p.2.2.2.2.1 p.2.2.2.2.2.1 p.2.2.2.2.2.2) (fun p => W p.1 p.2.1 p.2.2.1 p.2.2.2.1 p.2.2.2.2.1 p.2.2.2.2.2.1 p.2.2.2.2.2.2) (fun p => μ p.1 p.2.1 p.2.2.1 p.2.2.2.1 p.2.2.2.2.1 p.2.2.2.2.2.1 p.2.2.2.2.2.2) (x0, x1, x2, x3, x4, x5, x6) hs hw hi fun p hp => round p.1 p.2.1 p.2.2.1 p.2.2.2.1 p.2.2.2.2.1 p.2.2.2.2.2.1 p.2.2.2.2.2.2 hp
theorem KR.back7 {α β γ δ ε ζ η : Type} {I : α → β → γ → δ → ε → ζ → η → Prop} {S : α → β → γ → δ → ε → ζ → η → Sig} {W : α → β → γ → δ → ε → ζ → η → World} {μ : α → β → γ → δ → ε → ζ → η → Nat} {y0 : α} {y1 : β} {y2 : γ} {y3 : δ} {y4 : ε} {y5 : ζ} {y6 : η} (x0 : α) (x1 : β) (x2 : γ) (x3 : δ) (x4 : ε) (x5 : ζ) (x6 : η) (hs : Subs (S x0 x1 x2 x3 x4 x5 x6) σ) (hw : w = W x0 x1 x2 x3 x4 x5 x6) (hi : I x0 x1 x2 x3 x4 x5 x6) (hm : μ x0 x1 x2 x3 x4 x5 x6 < μ y0 y1 y2 y3 y4 y5 y6) :
    KR P R (.asr (BackR7 R n I S W μ y0 y1 y2 y3 y4 y5 y6) :: k) n σ w :=
  KR.back (I := fun p : α × β × γ × δ × ε × ζ × η => I p.1 p.2.1 p.2.2.1 p.2.2.2.1 p.2.2.2.2.1 p.2.2.2.2.2.1 p.2.2.2.2.2.2) (S := fun p => S p.1 p.2.1 p.2.2.1 p.2.2.2.1 p.2.2.2.2.1 p.2.2.2.2.2.1 p.2.2.2.2.2.2) (W := fun p => W p.1 p.2.1 p.2.2.1 p.2.2.2.1 p.2.2.2.2.1 p.2.2.2.2.2.1 p.2.2.2.2.2.2) (μ := fun p => μ p.1 p.2.1 p.2.2.1 p.2.2.2.1 p.2.2.2.2.1 p.2.2.2.2.2.1 p.2.2.2.2.2.2) (x0, x1, x2, x3, x4, x5, x6) hs hw hi hm
theorem KR.cut7 {α β γ δ ε ζ η : Type} (I : α → β → γ → δ → ε → ζ → η → Prop) (S : α → β → γ → δ → ε → ζ → η → Sig) (W : α → β → γ → δ → ε → ζ → η → World) {c : Code} (h : KR P R (.code c :: .asr (MetR7 R n I S W) :: k) n σ w)
    (h2 : ∀ x0 x1 x2 x3 x4 x5 x6, I x0 x1 x2 x3 x4 x5 x6 → KR P R k n (S x0 x1 x2 x3 x4 x5 x6) (W x0 x1 x2 x3 x4 x5 x6)) : KR P R (.code c :: k) n σ w :=
  KR.cut (fun p : α × β × γ × δ × ε × ζ × η => I p.1 p.2.1 p.2.2.1 p.2.2.2.1 p.2.2.2.2.1 p.2.2.2.2.2.1 p.2.2.2.2.2.2) (fun p => S p.1 p.2.1 p.2.2.1 p.2.2.2.1 p.2.2.2.2.1 p.2.2.2.2.2.1 p.2.2.2.2.2.2) (fun p => W p.1 p.2.1 p.2.2.1 p.2.2.2.1 p.2.2.2.2.1 p.2.2.2.2.2.1 p.2.2.2.2.2.2) h fun p hp => h2 p.1 p.2.1 p.2.2.1 p.2.2.2.1 p.2.2.2.2.1 p.2.2.2.2.2.1 p.2.2.2.2.2.2 hp
theorem KR.meet7 {α β γ δ ε ζ η : Type} {I : α → β → γ → δ → ε → ζ → η → Prop} {S : α → β → γ → δ → ε → ζ → η → Sig} {W : α → β → γ → δ → ε → ζ → η → World} (x0 : α) (x1 : β) (x2 : γ) (x3 : δ) (x4 : ε) (x5 : ζ) (x6 : η) (hs : Subs (S x0 x1 x2 x3 x4 x5 x6) σ) (hw : w = W x0 x1 x2 x3 x4 x5 x6) (hi : I x0 x1 x2 x3 x4 x5 x6) :
    KR P R (.asr (MetR7 R n I S W) :: k) n σ w :=
  KR.meet (I := fun p : α × β × γ × δ × ε × ζ × η => I p.1 p.2.1 p.2.2.1 p.2.2.2.1 p.2.2.2.2.1 p.2.2.2.2.2.1 p.2.2.2.2.2.2) (S := fun p => S p.1 p.2.1 p.2.2.1 p.2.2.2.1 p.2.2.2.2.1 p.2.2.2.2.2.1 p.2.2.2.2.2.2) (W := fun p => W p.1 p.2.1 p.2.2.1 p.2.2.2.1 p.2.2.2.2.1 p.2.2.2.2.2.1 p.2.2.2.2.2.2) (x0, x1, x2, x3, x4, x5, x6) hs hw hi
end


/-! ### A region -/
def OR (P : Program) (R : RP) (ops : Array Oper) (l : List Oper) (k : List KI) (n : Nat) (σ : Sig) (w : World) : Prop := ∀ a, FrD R n σ a → wpListIn R.F R.m P ops (psr P R k) l a w
section
variable {P : Program} {R : RP} {ops : Array Oper} {l rest : List Oper} {k : List KI} {n : Nat} {σ : Sig} {w w' : World}
theorem KR.region {id : Nat} (h : OR P R l.toArray l k n σ w) : KR P R (.code (.region id l.toArray false) :: k) n σ w := fun a ha => wpIn_region_lit (h a ha)
theorem OR.nil (h : KR P R k n σ w) : OR P R ops [] k n σ w := h
theorem OR.sub {σ' : Sig} (hs : Subs σ' σ) (h : OR P R ops l k n σ' w) : OR P R ops l k n σ w := fun a ha => h a (ha.sub hs)
theorem FrD.as {a : Act} (t : Nat) (v' : Value) {v : Value} (ht : lk σ t = some v) (e : v = v') (ha : FrD R n σ a) : FrD R n ((t, v') :: σ) a :=
  ⟨⟨ha.fr.size, fun i u hu => by
    rw [lk_cons] at hu
    by_cases e' : t = i
    · subst e'
      simp at hu
      subst hu
      rw [← e]
      exact ha.fr.val t _ ht
    · simp [e'] at hu
      exact ha.fr.val i u hu, ha.fr.df⟩, ha.df⟩
theorem OR.as (t : Nat) (v' : Value) {v : Value} (ht : lk σ t = some v) (e : v = v') (h : OR P R ops l k n ((t, v') :: σ) w) : OR P R ops l k n σ w := fun a ha => h a (ha.as t v' ht e)
theorem KR.as (t : Nat) (v' : Value) {v : Value} (ht : lk σ t = some v) (e : v = v') (h : KR P R k n ((t, v') :: σ) w) : KR P R k n σ w := fun a ha => h a (ha.as t v' ht e)
theorem OR.split (t : Nat) {b : Bool} (ht : lk σ t = some (.bool b)) (h1 : b = true → OR P R ops l k n ((t, .bool true) :: σ) w) (h2 : b = false → OR P R ops l k n ((t, .bool false) :: σ) w) : OR P R ops l k n σ w := by
  cases b with
  | true => exact OR.as t _ ht rfl (h1 rfl)
  | false => exact OR.as t _ ht rfl (h2 rfl)
theorem OR.splitD (t : Nat) {p : Prop} [Decidable p] (ht : lk σ t = some (.bool (decide p))) (h1 : p → OR P R ops l k n ((t, .bool true) :: σ) w) (h2 : ¬ p → OR P R ops l k n ((t, .bool false) :: σ) w) : OR P R ops l k n σ w :=
  OR.split t ht (fun e => h1 (of_decide_eq_true e)) (fun e => h2 (of_decide_eq_false e))
theorem wantD {a : Act} (ha : FrD R n σ a) {o : Oper} {b : Bool} (h : wantS ops σ o.guard = some b) : Region.wanted o (yielded ops a.tmps) = b := wantS_spec ha.fr h
theorem RP.semAt (R : RP) {ρ : Operand → Value} {o : Oper} {r : Result Next} {w : World} (h : (execOp ρ o).run P w = r) (hd : ∀ c, o.op ≠ .defer c) : (o.semAt R.F.round ρ).run P w = r := by rw [Oper.semAt_eq _ _ _ hd]; exact h
theorem EX.noDefer {op : Op} {ty : TypeId} {v : Value} (he : EX P n σ op ty w v w') {a : Act} (ha : Fr n σ a) : ∀ c, op ≠ .defer c := fun c e => by
  subst e
  have h := he a ha none "" #[] none
  unfold execOp at h
  simp only [Sem.run_bind] at h
  unfold Result.andThen at h
  split at h <;> simp at h
theorem EU.noDefer {op : Op} {ty : TypeId} (he : EU P n σ op ty w w') {a : Act} (ha : Fr n σ a) : ∀ c, op ≠ .defer c := fun c e => by
  subst e
  have h := he a ha none "" #[] none
  unfold execOp at h
  simp only [Sem.run_bind] at h
  unfold Result.andThen at h
  split at h <;> simp at h
theorem EC.noDefer {op : Op} {ty : TypeId} {f : FuncId} {args : Array Value} (he : EC P n σ op ty w f args) {a : Act} (ha : Fr n σ a) : ∀ c, op ≠ .defer c := fun c e => by
  subst e
  have h := he a ha none "" #[] none
  unfold execOp at h
  simp only [Sem.run_bind] at h
  unfold Result.andThen at h
  split at h <;> simp at h
theorem evalD (a : Act) : ({ a with defers := [] } : Act).eval = a.eval := by funext x; cases x <;> rfl
theorem OR.val {d : Nat} {op : Op} {ty : TypeId} {pos : String} {after : Array Edge} {g : Option (Nat × Bool)} {v : Value} (hg : wantS ops σ g = some true) (hd : Nat.blt d n = true) (he : EX P n σ op ty w v w')
    (h : OR P R ops rest k n ((d, v) :: σ) w') : OR P R ops (⟨some d, op, ty, pos, after, g⟩ :: rest) k n σ w := fun a ha => by
  have h1 := he _ ha.fr (some d) pos after g
  rw [evalD] at h1
  unfold wpListIn
  rw [if_pos (wantD ha (o := ⟨some d, op, ty, pos, after, g⟩) hg)]
  refine ⟨fun _ _ => trivial, ?_⟩
  rw [R.semAt h1 (he.noDefer ha.fr)]
  exact h _ (ha.put hd v)
theorem OR.eff {op : Op} {ty : TypeId} {pos : String} {after : Array Edge} {g : Option (Nat × Bool)} (hg : wantS ops σ g = some true) (he : EU P n σ op ty w w')
    (h : OR P R ops rest k n σ w') : OR P R ops (⟨none, op, ty, pos, after, g⟩ :: rest) k n σ w := fun a ha => by
  have h1 := he _ ha.fr none pos after g
  rw [evalD] at h1
  unfold wpListIn
  rw [if_pos (wantD ha (o := ⟨none, op, ty, pos, after, g⟩) hg)]
  refine ⟨fun _ _ => trivial, ?_⟩
  rw [R.semAt h1 (he.noDefer ha.fr)]
  exact h _ ha
theorem OR.pass {d : Nat} {op : Op} {ty : TypeId} {pos : String} {after : Array Edge} {g : Option (Nat × Bool)} (hg : wantS ops σ g = some false) (hd : Nat.blt d n = true)
    (h : OR P R ops rest k n ((d, undef) :: σ) w) : OR P R ops (⟨some d, op, ty, pos, after, g⟩ :: rest) k n σ w := fun a ha => by
  unfold wpListIn
  rw [if_neg (by rw [wantD ha (o := ⟨some d, op, ty, pos, after, g⟩) hg]; simp)]
  exact ⟨fun _ _ => trivial, h _ (ha.put hd undef)⟩
theorem OR.passU {op : Op} {ty : TypeId} {pos : String} {after : Array Edge} {g : Option (Nat × Bool)} (hg : wantS ops σ g = some false)
    (h : OR P R ops rest k n σ w) : OR P R ops (⟨none, op, ty, pos, after, g⟩ :: rest) k n σ w := fun a ha => by
  unfold wpListIn
  rw [if_neg (by rw [wantD ha (o := ⟨none, op, ty, pos, after, g⟩) hg]; simp)]
  exact ⟨fun _ _ => trivial, h _ ha⟩
theorem callsIn_round {r : Option Nat} {m : Nat} {f : FuncId} {args : Array Value} {Q : Ending → World → Prop} (h : Calls P f args w Q) : CallsIn { Fence.wide with round := r } m P f args w Q := by
  have h1 : CallsIn Fence.wide m P f args w Q := callsIn_wide.2 h
  exact h1
theorem OR.callE {d : Nat} {op : Op} {ty : TypeId} {pos : String} {after : Array Edge} {g : Option (Nat × Bool)} {f : FuncId} {args : List Value} {Q : Value → World → Prop} (hg : wantS ops σ g = some true) (hd : Nat.blt d n = true)
    (he : EC P n σ op ty w f args.toArray) (hc : Ret P f args w Q) (h : ∀ v w', Q v w' → OR P R ops rest k n ((d, v) :: σ) w') : OR P R ops (⟨some d, op, ty, pos, after, g⟩ :: rest) k n σ w := fun a ha => by
  have h1 := he _ ha.fr (some d) pos after g
  rw [evalD] at h1
  unfold wpListIn
  rw [if_pos (wantD ha (o := ⟨some d, op, ty, pos, after, g⟩) hg)]
  refine ⟨fun _ _ => trivial, ?_⟩
  rw [R.semAt h1 (he.noDefer ha.fr)]
  refine ⟨fun q => (by cases q), ?_⟩
  refine callsIn_round (hc.2.mono fun e w'' ⟨v, he, q⟩ => ?_)
  subst he
  exact h v w'' q _ (ha.put hd v)
theorem OR.call {d : Nat} {f : FuncId} {xs : List Operand} {ats : Array TypeId} {ty : TypeId} {pos : String} {after : Array Edge} {g : Option (Nat × Bool)} {vs : List Value} {Q : Value → World → Prop}
    (hg : wantS ops σ g = some true) (hd : Nat.blt d n = true) (hx : evs σ xs = some vs) (hc : Ret P f vs w Q) (h : ∀ v w', Q v w' → OR P R ops rest k n ((d, v) :: σ) w') :
    OR P R ops (⟨some d, .call { callee := .value (.func f), args := xs.toArray, argTypes := ats }, ty, pos, after, g⟩ :: rest) k n σ w := by
  obtain ⟨⟨fn, h1, h2⟩, _⟩ := id hc
  exact OR.callE hg hd (EC.go h1 h2 hx) hc h
/-- a call of yield: the round's word -/
def YieldR (P : Program) (m l : Nat) (args : List Value) (W : World) (Q : Value → World → Prop) : Prop := YieldAt Fence.wide m P l args.toArray W fun e W' => ∃ v, e = .returned v ∧ Q v W'
theorem OR.yield {d : Nat} {x t : Operand} {ats : Array TypeId} {ty : TypeId} {pos : String} {after : Array Edge} {g : Option (Nat × Bool)} {lr : Nat} {v : Value} {Q : Value → World → Prop} (hr : R.round = none)
    (hg : wantS ops σ g = some true) (hd : Nat.blt d n = true) (ht : ev σ t = some (.func (.yield lr) #[] #[])) (hx : ev σ x = some v) (hc : YieldR P (R.m - 1) lr [v] w Q)
    (h : ∀ u w', Q u w' → OR P R ops rest k n ((d, u) :: σ) w') :
    OR P R ops (⟨some d, .call { callee := .value t, args := #[x], argTypes := ats }, ty, pos, after, g⟩ :: rest) k n σ w := fun a ha => by
  obtain ⟨ro, m, ds, post⟩ := R
  simp only at hr
  subst hr
  obtain ⟨fn, tmps, assign, body, hy, hR⟩ := hc
  have et : a.eval t = .func (.yield lr) #[] #[] := by have := ha.fr.ev ht; rwa [evalD] at this
  have ex : a.eval x = v := by have := ha.fr.ev hx; rwa [evalD] at this
  unfold wpListIn
  rw [if_pos (wantD ha (o := ⟨some d, .call { callee := .value t, args := #[x], argTypes := ats }, ty, pos, after, g⟩) hg)]
  refine ⟨fun _ _ => trivial, ?_⟩
  have h1 : (execOp a.eval ⟨some d, .call { callee := .value t, args := #[x], argTypes := ats }, ty, pos, after, g⟩).run P w = .ok (.round lr fn tmps assign body) w := by
    simp only [execOp, resolve, Deferred.ofValue, et, Sem.run_bind, Sem.run_pure, Result.andThen_ok, invoke]
    simpa [ex] using hy
  rw [RP.semAt _ h1 (by simp)]
  refine ⟨fun q => (by cases q), ?_⟩
  have hR' : RoundIn (RP.F ⟨none, m, ds, post⟩) (m - 1) P lr fn tmps assign body w _ := hR
  refine hR'.mono fun e w'' ⟨u, he, q⟩ => ?_
  subst he
  exact h u w'' q _ (ha.put hd u)
end
section
variable {P : Program} {R : RP} {ops : Array Oper} {rest : List Oper} {k : List KI} {n : Nat} {σ : Sig} {w : World} {x y t : Operand} {T T' e ty : TypeId} {pos : String} {after : Array Edge} {gd : Option (Nat × Bool)} {d : Nat} {v z : Value} {s bs : Nat} {l : List Value}
theorem OR.boxB (hg : wantS ops σ gd = some true) (hd : Nat.blt d n = true) (hx : ev σ x = some v) (h1 : v.oneCell' = true)
    (h : ∀ b w', w.heap.size ≤ b → Bk w' b T [v] → Ext w w' → OR P R ops rest k n ((d, .pointer (some ⟨b, 0, none⟩)) :: σ) w') :
    OR P R ops (⟨some d, .box T x, ty, pos, after, gd⟩ :: rest) k n σ w :=
  OR.val hg hd (EX.box1 hx h1) (h _ _ (Nat.le_refl _) (Bk.new w T [v]) (Ext.alloc w _))
theorem OR.allocB (hg : wantS ops σ gd = some true) (hd : Nat.blt d n = true) (hi : TI P T z s bs) (hl : z.cells.toList = l)
    (h : ∀ b w', w.heap.size ≤ b → Bk w' b T l → Ext w w' → OR P R ops rest k n ((d, .pointer (some ⟨b, 0, none⟩)) :: σ) w') :
    OR P R ops (⟨some d, .alloc T, ty, pos, after, gd⟩ :: rest) k n σ w :=
  OR.val hg hd (EX.alloc hi hl) (h _ _ (Nat.le_refl _) (Bk.new w T l) (Ext.alloc w _))
theorem OR.storeB {b i : Nat} (hg : wantS ops σ gd = some true) (hi : TI P T z 1 bs) (hx : ev σ x = some (.pointer (some ⟨b, i, none⟩))) (hy : ev σ y = some v) (h1 : v.oneCell' = true) (hb : Bk w b T' l) (hlt : i < l.length)
    (h : ∀ w', Bk w' b T' (l.set i v) → Mo w w' [b] → OR P R ops rest k n σ w') :
    OR P R ops (⟨none, .store T x y, ty, pos, after, gd⟩ :: rest) k n σ w :=
  OR.eff hg (EU.storeBk hi hx hy h1 hb hlt) (h _ (hb.set i v) (Mo.set w b i v))
theorem OR.buildB {parts : Array (Nat × Operand)} {vs : List Value} (len : Nat) (hg : wantS ops σ gd = some true) (hd : Nat.blt d n = true) (ht : P.underlying T = some (.slice e)) (hi : TI P e z 1 bs) (hz1 : z.oneCell' = true)
    (hv : evs σ (parts.toList.map (·.2)) = some vs) (hp : parts.toList.map (·.1) = List.range' 0 parts.toList.length) (hl : vs.length = len) (h1 : vs.all (·.oneCell') = true) (hlen : len ≤ 16777216)
    (h : ∀ b w', w.heap.size ≤ b → Bk w' b e vs → Ext w w' → OR P R ops rest k n ((d, .slice (some ⟨b, 0, none⟩) len len) :: σ) w') :
    OR P R ops (⟨some d, .buildSlice T len parts, ty, pos, after, gd⟩ :: rest) k n σ w :=
  OR.val hg hd (EX.buildSlice len ht hi hz1 hv hp hl h1 hlen) (h _ _ (Nat.le_refl _) (Bk.new w e vs) (Ext.alloc w _))
theorem OR.callV {f : FuncId} {xs : List Operand} {ats : Array TypeId} {vs fv cv args : List Value} {Q : Value → World → Prop}
    (hg : wantS ops σ gd = some true) (hd : Nat.blt d n = true) (ht : ev σ t = some (.func (.func f) fv.toArray cv.toArray)) (hx : evs σ xs = some vs) (he : fv ++ vs ++ cv = args) (hc : Ret P f args w Q)
    (h : ∀ v w', Q v w' → OR P R ops rest k n ((d, v) :: σ) w') :
    OR P R ops (⟨some d, .call { callee := .value t, args := xs.toArray, argTypes := ats }, ty, pos, after, gd⟩ :: rest) k n σ w := by
  obtain ⟨⟨fn, h1, h2⟩, _⟩ := id hc
  exact OR.callE hg hd (EC.val h1 h2 ht hx he) hc h
end
section
variable {P : Program} {R : RP} {ops : Array Oper} {rest : List Oper} {k : List KI} {n : Nat} {σ : Sig} {w : World} {x y : Operand} {t t' e ty : TypeId} {pos : String} {after : Array Edge} {gd : Option (Nat × Bool)} {d : Nat}
theorem OR.append (B : Nat) {z : Value} {s bs : Nat} (hg : wantS ops σ gd = some true) (hd : Nat.blt d n = true) (ht : P.underlying t = some (.slice e)) (hi : TI P e z s bs) (hzs : z.cells.size = s) (hs0 : 0 < s)
    {v xv : Value} {m l : Nat} {xs news : List Value} (hx : ev σ x = some v) (hy : ev σ y = some xv) (hown : Own w B e s v l xs) (hsrc : Src P s t' xv m news w)
    (h63 : l + m ≤ maxLen) (hbytes : (l + m) * bs ≤ 140737488355328) (hB : B ≤ w.heap.size)
    (h : ∀ v' w', Own w' B e s v' (l + m) (xs ++ news) → w.grownBy w' v.ownBlock → (v'.ownBlock = v.ownBlock ∨ v'.ownBlock = some w.heap.size) → OR P R ops rest k n ((d, v') :: σ) w') :
    OR P R ops (⟨some d, .call { callee := .builtin .append, args := #[x, y], argTypes := #[t, t'] }, ty, pos, after, gd⟩ :: rest) k n σ w := by
  obtain ⟨v', w', hr, h2, h3, h4⟩ := run_append (P := P) B t t' ty e ht hi hzs hs0 hown hsrc h63 hbytes hB
  refine OR.val hg hd (v := v') (w' := w') ?_ (h v' w' h2 h3 h4)
  intro A ha dst pos after g
  simp only [execOp, resolve, invoke, builtin, Sem.run_bind, Sem.run_pure, Result.andThen_ok, List.map_toArray, List.map_cons, List.map_nil, ha.ev hx, ha.ev hy, hr]
end
section
variable {P : Program} {R : RP} {ops : Array Oper} {rest : List Oper} {k : List KI} {n : Nat} {σ : Sig} {w w0 : World} {x y : Operand} {t t' e ty ty1 : TypeId} {pos pos1 : String} {after after1 : Array Edge} {gd gd1 : Option (Nat × Bool)} {d d1 : Nat}
theorem OR.appendX {z : Value} {s bs : Nat} (hg : wantS ops σ gd = some true) (hd : Nat.blt d n = true) (ht : P.underlying t = some (.slice e)) (hi : TI P e z s bs) (hzs : z.cells.size = s) (hs0 : 0 < s)
    {v xv : Value} {m l : Nat} {xs news : List Value} (hx : ev σ x = some v) (hy : ev σ y = some xv) (hext : Ext w0 w) (hown : Own w w0.heap.size e s v l xs) (hsrc : Src P s t' xv m news w)
    (h63 : l + m ≤ maxLen) (hbytes : (l + m) * bs ≤ 140737488355328)
    (h : ∀ v' w', Own w' w0.heap.size e s v' (l + m) (xs ++ news) → Ext w0 w' → w.grownBy w' v.ownBlock → (v'.ownBlock = v.ownBlock ∨ v'.ownBlock = some w.heap.size) → OR P R ops rest k n ((d, v') :: σ) w') :
    OR P R ops (⟨some d, .call { callee := .builtin .append, args := #[x, y], argTypes := #[t, t'] }, ty, pos, after, gd⟩ :: rest) k n σ w :=
  OR.append w0.heap.size hg hd ht hi hzs hs0 hx hy hown hsrc h63 hbytes hext.size fun v' w' h1 h2 h3 => h v' w' h1 (hext.grown h2 fun g hg => (hown.lt g hg).1) h2 h3
theorem OR.push {z : Value} {bs : Nat} (hg1 : wantS ops σ gd1 = some true) (hd1 : Nat.blt d1 n = true) (hg : ∀ u, wantS ops ((d1, u) :: σ) gd = some true) (hd : Nat.blt d n = true) (ht : P.underlying t = some (.slice e)) (hi : TI P e z 1 bs) (hz1 : z.oneCell' = true)
    {v u : Value} {l : Nat} {xs : List Value} (hy : ev σ y = some u) (hx : ∀ q, ev ((d1, q) :: σ) x = some v) (hu : u.oneCell' = true) (hext : Ext w0 w) (hown : Own w w0.heap.size e 1 v l xs)
    (h63 : l + 1 ≤ maxLen) (hbytes : (l + 1) * bs ≤ 140737488355328)
    (h : ∀ q v' w', Own w' w0.heap.size e 1 v' (l + 1) (xs ++ [u]) → Ext w0 w' → w.grownBy w' v.ownBlock → (v'.ownBlock = v.ownBlock ∨ ∃ g, v'.ownBlock = some g ∧ w.heap.size ≤ g) → OR P R ops rest k n ((d, v') :: (d1, q) :: σ) w') :
    OR P R ops (⟨some d1, .buildSlice t 1 #[(0, y)], ty1, pos1, after1, gd1⟩ :: ⟨some d, .call { callee := .builtin .append, args := #[x, .tmp d1], argTypes := #[t, t] }, ty, pos, after, gd⟩ :: rest) k n σ w := by
  refine OR.val hg1 hd1 (EX.buildSlice (vs := [u]) 1 ht hi hz1 (by simp [evs, hy]) rfl rfl (by simp [hu]) (by decide)) ?_
  have hx1 : Ext w0 (w.alloc (.cells [u].toArray e)) := hext.trans (Ext.alloc w _)
  have hb := Bk.new w e [u]
  refine OR.appendX (hg _) hd ht hi (by rw [oneCell_cells hz1]; rfl) (by decide) (hx _) (lk_cons_same _ _ _) hx1 (hown.alloc _) (Src.of_sl ht (Sl.of_bk hb hb.lt) rfl (by simpa using hu) (by decide)) h63 hbytes ?_
  intro v' w' h1 h2 h3 h4
  refine h _ v' w' h1 h2 ⟨h3.os, h3.tape, h3.output, by have := h3.size; simp at this; omega, fun j hj hne => ?_⟩ ?_
  · rw [h3.block j (by simp; omega) hne]
    exact Below.heap_alloc w _ j hj
  · rcases h4 with h4 | h4
    · exact .inl h4
    · exact .inr ⟨_, h4, by simp⟩
end
/-! ### The statement; a function's beginning and its end -/
def RP.mark (R : RP) (D : Nat) : RP := { R with ds := { target := .collected D, args := #[] } :: R.ds }
theorem psr_mark {P : Program} {R : RP} {D : Nat} : ∀ (k : List KI) (e : Exit), psr P (R.mark D) k e = psr P R k e
  | [], e => rfl
  | .code c :: k, e => by
    have ih : psr P (R.mark D) k = psr P R k := funext (psr_mark k)
    cases e <;> (simp only [psr, ih]; try rfl)
  | .blk id :: k, e => by
    have ih : psr P (R.mark D) k = psr P R k := funext (psr_mark k)
    cases e <;> simp only [psr, ih]
  | .asr I :: k, e => by
    have ih : psr P (R.mark D) k = psr P R k := funext (psr_mark k)
    cases e <;> simp only [psr, ih]
section
variable {P : Program} {R : RP} {k : List KI} {n : Nat} {σ : Sig} {w : World}
theorem stepR_scope {b : Frame} {a : Act} {c : Code} {k : List Item} {cs : List Frame} : step P (lone (b.atR a (.code (.scope c) :: k)) cs w) = .next (lone (b.atR a (.code c :: .inScope c :: k)) cs w) :=
  step_lone_go (by simp [stepG, stepG.exec, Frame.atR])
theorem stepR_inScope {b : Frame} {a : Act} {c : Code} {k : List Item} {cs : List Frame} : step P (lone (b.atR a (.inScope c :: k)) cs w) = .next (lone (b.atR a k) cs w) :=
  step_lone_go (by simp [stepG, stepG.exec, Frame.atR])
theorem wpIn_scope {F : Fence} {n : Nat} {a : Act} {Q : Exit → Act → World → Prop} {c : Code} (h : c.wpIn F n P Q a w) (hg : ∀ l a w, Q (.goto l) a w → False) : (Code.scope c).wpIn F n P Q a w := by
  intro b k cs hro hb hr
  have h0 : (lone (b.atR a (.code (.scope c) :: k)) cs w).fenced P F := fenced_calm hb hr rfl
  obtain ⟨e, a₁, w₁, hq, harr⟩ := h b (.inScope c :: k) cs hro hb hr
  cases e with
  | normal => exact ⟨.normal, a₁, w₁, hq, .head h0 stepR_scope (StepsIn.trans harr (.one (fenced_calm hb hr rfl) stepR_inScope))⟩
  | exit id =>
    have hx : exitTo id (.inScope c :: k) = exitTo id k := by simp [exitTo]
    exact ⟨_, a₁, w₁, hq, fun k' hk => .head h0 stepR_scope (harr.1 k' (by rw [hx]; exact hk)),
      fun hr' hk => let ⟨k₁, h1, h2⟩ := harr.2 hr' (by rw [hx]; exact hk); ⟨k₁, h1, .head h0 stepR_scope h2⟩⟩
  | goto l => exact (hg _ _ _ hq).elim
  | ret => exact ⟨_, a₁, w₁, hq, .of_steps (.one h0 stepR_scope) harr⟩
  | panic ch => exact ⟨_, a₁, w₁, hq, .of_steps (.one h0 stepR_scope) harr⟩
  | outgrown => exact ⟨_, a₁, w₁, hq, .of_steps (.one h0 stepR_scope) harr⟩
theorem psr_goto {l : Nat} : ∀ (k : List KI) (a : Act) (w : World), psr P R k (.goto l) a w = R.post (.goto l) a w
  | [], _, _ => rfl
  | .code _ :: k, a, w => psr_goto k a w
  | .blk _ :: k, a, w => psr_goto k a w
  | .asr _ :: k, a, w => psr_goto k a w
theorem KR.scope {c : Code} (hg : ∀ l a w, R.post (.goto l) a w → False) (h : KR P R (.code c :: k) n σ w) : KR P R (.code (.scope c) :: k) n σ w := fun a ha =>
  wpIn_scope (h a ha) (fun l a w q => hg l a w (by rw [psr_goto] at q; exact q))
/-- out of all that is ahead -/
theorem KR.exitOut {id : Nat} (hk : popTo id k = none) (h : ∀ a, FrD R n σ a → R.post (.exit id) a w) : KR P R (.code (.exit id) :: k) n σ w := fun a ha => by
  refine wpIn_exit ?_
  have key : ∀ k, popTo id k = none → psr P R k (.exit id) a w = R.post (.exit id) a w := by
    intro k
    induction k with
    | nil => intro _; rfl
    | cons x k ih =>
      intro hk
      cases x with
      | code c => exact ih hk
      | asr I => exact ih hk
      | blk i =>
        simp only [popTo] at hk
        by_cases e : id = i
        · subst e
          have : Nat.beq id id = true := by simp
          rw [this] at hk
          cases hk
        · have : Nat.beq id i = false := by
            cases hb : Nat.beq id i with
            | false => rfl
            | true => exact absurd (Nat.eq_of_beq_eq_true hb) e
          rw [this] at hk
          simp only [psr]
          rw [if_neg e]
          exact ih hk
  rw [key k hk]
  exact h a ha
theorem KR.rangeF {α : Type} (hr : R.round = none) (hm : 1 ≤ R.m) {g : Operand} {p d id : Nat} {op : Op} {ty : TypeId} {pos : String} {after : Array Edge} {body : Code} {gf : Nat} {lb : List Value} {fn : Func}
    (hf : P.funcs[gf]? = some fn) (hn : (!(fn.name == "runtime.NumGoroutine") && fn.body.isSome) = true)
    (hg : ev σ g = some (.func (.func gf) #[] lb.toArray)) (hp : Nat.blt p n = true) (hd : Nat.blt d n = true)
    (hop : ∀ (a : Act) (W : World), (execOp a.eval ⟨some d, op, ty, pos, after, none⟩).run P W = .ok (.value (a.eval (.tmp p))) W) (hopd : ∀ c, op ≠ .defer c)
    {enc : α → Value} {Kp : World → World → Prop} {S Sp : List α → Prop} {N : Nat} (hseq : SeqStopsK Fence.wide (R.m - 1) P gf lb.toArray (fun x => #[enc x]) Kp S Sp N w)
    (hKt : ∀ {A B C : World}, Kp A B → Kp B C → Kp A C) (hKb : ∀ (W : World) (l : Nat) (o o' : Obj), w.heap.size ≤ l → W.heap[l]? = some o → o.isCells = false → o.isWalk = false → Kp W (W.putObj l o'))
    (I : List α → World → Prop) (Ix : Code → List α → World → Prop) (hI : OwnFrom w.heap.size I) (hIx : ∀ c, OwnFrom w.heap.size (Ix c)) (h0 : I [] w)
    (hbody : ∀ (l : Nat) (pre : List α) (x : α) (W : World), I pre W → pre.length < N → KR P ⟨some l, R.m - 1 - 1, [], ownPostK Kp I Ix (pre ++ [x]) W⟩ [.code body] n ((d, enc x) :: (p, enc x) :: σ) W)
    (hdone : ∀ (D : Nat) (xs : List α) (W : World), w.heap.size ≤ D → S xs → I xs W → W.heap[D]? = some (.deferred (some [])) → KR P (R.mark D) k n σ W)
    (hstop : ∀ (D : Nat) (c : Code) (pre : List α) (W : World), w.heap.size ≤ D → Sp pre → Ix c pre W → W.heap[D]? = some (.deferred (some [])) → KR P (R.mark D) (.code c :: k) n σ W) :
    KR P R (.code (.rangeFunc g #[p] (.region id #[⟨some d, op, ty, pos, after, none⟩] false) body) :: k) n σ w := fun a ha => by
  obtain ⟨ro, m, ds, post⟩ := R
  simp only at hr
  subst hr
  have hge : a.eval g = .func (.func gf) #[] lb.toArray := ha.ev hg
  have hps : p < a.tmps.size := by have := ha.fr.size; simp only at this; rw [this]; simpa [Nat.blt_eq] using hp
  show Code.wpIn Fence.wide m P _ (psr P _ k) a w
  refine wpIn_rangeFunc_ownF (F := Fence.wide) (n := m) rfl hm (lb := lb.toArray) hge trivial (fun args w => run_callFunc hf hn args) hseq hKt hKb (Below.refl _ _) (fun _ => rfl) I Ix hI hIx h0
    (fun x => { tmps := (a.tmps.setIfInBounds p (enc x)).setIfInBounds d (enc x), defers := [] }) ?_ ?_ ?_ ?_
  · intro l x W K hK
    refine wpIn_region_lit (l := [⟨some d, op, ty, pos, after, none⟩]) ?_
    have ez : ∀ f : Array Value → Tmp × Value → Array Value, ((#[p] : Array Tmp).zip #[enc x]).foldl f a.tmps = f a.tmps (p, enc x) := fun f => by simp
    rw [ez]
    unfold wpListIn
    rw [if_pos (by rfl)]
    refine ⟨fun _ _ => trivial, ?_⟩
    rw [Oper.semAt_eq _ _ _ hopd, hop]
    have e : (({ tmps := a.tmps.setIfInBounds p (enc x), defers := [] } : Act).eval (.tmp p)) = enc x := by simp [Act.eval, hps]
    show K (Act.put { tmps := a.tmps.setIfInBounds p (enc x), defers := [] } (some d) (Act.eval { tmps := a.tmps.setIfInBounds p (enc x), defers := [] } (.tmp p))) W
    rw [e]
    exact hK
  · intro l pre x W hi hl
    exact hbody l pre x W hi hl _ ⟨(ha.fr.put hp (enc x)).put hd (enc x), rfl⟩
  · intro D xs W hD hS hi hK
    have h := hdone D xs W hD hS hi hK { a with defers := { target := .collected D, args := #[] } :: a.defers } ⟨ha.fr, by show _ :: a.defers = _ :: ds; rw [ha.df]⟩
    rw [psr_mark] at h
    exact h
  · intro D c pre W hD hS hi hK
    have h := hstop D c pre W hD hS hi hK { a with defers := { target := .collected D, args := #[] } :: a.defers } ⟨ha.fr, by show _ :: a.defers = _ :: ds; rw [ha.df]⟩
    rw [psr_mark] at h
    exact h
end
theorem Ret.enterR {P : Program} {f : FuncId} {fn : Func} {c : Code} {args : List Value} {w : World} {Q : Value → World → Prop} {n : Nat} (m : Nat) (hf : P.funcs[f]? = some fn) (hb : fn.body = some c) (hnt : fn.ntmps = n)
    (hn : (!(fn.name == "runtime.NumGoroutine") && fn.body.isSome) = true) (hl : args.length + (n - args.length) = n)
    (h : KR P ⟨none, m, [], bodyPostM Fence.wide m P fn (fun e w' => ∃ v, e = .returned v ∧ Q v w')⟩ [.code c] n (argSig 0 args) w) : Ret P f args w Q := by
  refine ⟨⟨fn, hf, hn⟩, (callsIn_wide (n := m)).1 (callsIn_of_wp_marks hf hb trivial ?_)⟩
  have hfr : Fr n (argSig 0 args) { tmps := args.toArray ++ Array.replicate (fn.ntmps - args.toArray.size) undef, defers := [] } := by
    have := Fr.start args (n - args.length)
    rw [hl] at this
    simpa [hnt] using this
  exact h _ ⟨hfr, rfl⟩
section
variable {P : Program} {fn : Func} {Q : Value → World → Prop} {n m D : Nat} {σ : Sig} {w : World} {R : RP}
theorem retR_of {v : Value} {e : Exit} (he : e = .normal ∨ e = .ret) (hds : R.ds = []) (hp : R.post = bodyPostM Fence.wide m P fn (fun e w' => ∃ v, e = .returned v ∧ Q v w')) (hr : ∀ a, FrD R n σ a → (results fn a.tmps).run P w = .ok v w) (hq : Q v w) :
    ∀ a, FrD R n σ a → R.post e a w := fun a ha => by
  rw [hp]
  have h1 : LeavesInM Fence.wide m P fn a.tmps (fun e w' => ∃ v, e = .returned v ∧ Q v w') a.defers .returning w := by
    rw [ha.df, hds]
    exact ⟨v, hr a ha, v, rfl, hq⟩
  rcases he with rfl | rfl <;> exact h1
theorem retM_of {v : Value} {e : Exit} (he : e = .normal ∨ e = .ret) (hds : R.ds = [{ target := .collected D, args := #[] }]) (hp : R.post = bodyPostM Fence.wide m P fn (fun e w' => ∃ v, e = .returned v ∧ Q v w')) (hK : w.heap[D]? = some (.deferred (some [])))
    (hr : ∀ a w, FrD R n σ a → (results fn a.tmps).run P w = .ok v w) (hq : Q v (w.putObj D (.deferred none))) :
    ∀ a, FrD R n σ a → R.post e a w := fun a ha => by
  rw [hp]
  have h1 : LeavesInM Fence.wide m P fn a.tmps (fun e w' => ∃ v, e = .returned v ∧ Q v w') a.defers .returning w := by
    rw [ha.df, hds]
    exact ⟨by simp, .inl ⟨D, _, rfl, run_takeDeferred hK, v, hr a _ ha, v, rfl, hq⟩⟩
  rcases he with rfl | rfl <;> exact h1
theorem retR0 {e : Exit} (he : e = .normal ∨ e = .ret) (hds : R.ds = []) (hp : R.post = bodyPostM Fence.wide m P fn (fun e w' => ∃ v, e = .returned v ∧ Q v w')) (hs : fn.results = #[]) (hq : Q (.tuple #[]) w) : ∀ a, FrD R n σ a → R.post e a w :=
  retR_of he hds hp (fun _ _ => results_none hs _ _ _) hq
theorem retR2 {e : Exit} (he : e = .normal ∨ e = .ret) {t u : Nat} {v x : Value} (hds : R.ds = []) (hp : R.post = bodyPostM Fence.wide m P fn (fun e w' => ∃ v, e = .returned v ∧ Q v w')) (hs : fn.results = #[.tmp t, .tmp u]) (hv : lk σ t = some v) (hx : lk σ u = some x) (hq : Q (.tuple #[v, x]) w) :
    ∀ a, FrD R n σ a → R.post e a w :=
  retR_of he hds hp (fun a ha => by rw [results_tmp2 hs]; have h1 := ha.fr.val t v hv; have h2 := ha.fr.val u x hx; simp only at h1 h2; simp [h1, h2]) hq
theorem retM2 {e : Exit} (he : e = .normal ∨ e = .ret) {t u : Nat} {v x : Value} (hds : R.ds = [{ target := .collected D, args := #[] }]) (hp : R.post = bodyPostM Fence.wide m P fn (fun e w' => ∃ v, e = .returned v ∧ Q v w')) (hK : w.heap[D]? = some (.deferred (some []))) (hs : fn.results = #[.tmp t, .tmp u]) (hv : lk σ t = some v) (hx : lk σ u = some x) (hq : Q (.tuple #[v, x]) (w.putObj D (.deferred none))) :
    ∀ a, FrD R n σ a → R.post e a w :=
  retM_of he hds hp hK (fun a w ha => by rw [results_tmp2 hs]; have h1 := ha.fr.val t v hv; have h2 := ha.fr.val u x hx; simp only at h1 h2; simp [h1, h2]) hq
end
theorem Ext.putObj {w W : World} (h : Ext w W) {D : Nat} (hD : w.heap.size ≤ D) (o : Obj) : Ext w (W.putObj D o) :=
  ⟨h.os, h.tape, h.output, by simpa using h.size, fun k hk => (World.putObj_heap_other (by omega)).trans (h.block k hk)⟩
theorem Bk.putObj {w : World} {b D : Nat} {T : TypeId} {l : List Value} (h : Bk w b T l) (hD : b ≠ D) (o : Obj) : Bk (w.putObj D o) b T l := h.of_block (World.putObj_heap_other hD)
end Go.Proofs.YtifnlmpnkjhlnaaDoor
