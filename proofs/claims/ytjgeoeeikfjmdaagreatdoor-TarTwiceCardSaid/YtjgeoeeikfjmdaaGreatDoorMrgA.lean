/-
  What the statements rest on, part 1 of 7: many small texts, one behind the other.
-/
import Derived.WalkKit
import Derived.WalkSpells
import Derived.WalkLawsBesides
import Derived.Lib.Hide
import Derived.Deep.Draws
import Derived.Deep.Quiet
import Derived.StillTail
import Derived.Deep.AppendSrc
import Derived.Lib.SlBytesConst
import Derived.Lib.AppendZerosOnto
import Derived.Lib.ItoaNum
import Derived.Lib.Bytealg
import Derived.Lib.IndexMore
import Derived.Lib.Join
/- A small engine for walks: the frame as a list of the slots that are known, the code ahead as a list, one law a step. No program is spoken of. -/
namespace Go.Proofs.YtjgeoeeikfjmdaaGreatDoor
set_option linter.unnecessarySimpa false
set_option linter.unusedVariables false
set_option linter.unusedSimpArgs false
open Go.RowKit

/-! ### The frame -/
abbrev Sig := List (Nat × Value)
def lk : Sig → Nat → Option Value
  | [], _ => none
  | (i, v) :: r, t => match Nat.beq i t with | true => some v | false => lk r t
def ev (σ : Sig) : Operand → Option Value
  | .tmp t => lk σ t
  | .const v => some v
  | .global g => some (.pointer (some ⟨g, 0, none⟩))
  | .func f => some (.func (.func f) #[] #[])
def evs (σ : Sig) : List Operand → Option (List Value)
  | [] => some []
  | x :: r => match ev σ x with
    | some v => match evs σ r with
      | some vs => some (v :: vs)
      | none => none
    | none => none
structure Fr (n : Nat) (σ : Sig) (a : Act) : Prop where
  size : a.tmps.size = n
  val : ∀ t v, lk σ t = some v → a.tmps[t]? = some v
  df : a.defers = []
theorem Fr.ev {n : Nat} {σ : Sig} {a : Act} (h : Fr n σ a) {x : Operand} {v : Value} (hx : ev σ x = some v) : a.eval x = v := by
  cases x with
  | tmp t =>
    have := h.val t v hx
    simp [Act.eval, this]
  | const u => simpa [Go.Proofs.YtjgeoeeikfjmdaaGreatDoor.ev, Act.eval] using hx
  | global g => simpa [Go.Proofs.YtjgeoeeikfjmdaaGreatDoor.ev, Act.eval] using hx
  | func f => simpa [Go.Proofs.YtjgeoeeikfjmdaaGreatDoor.ev, Act.eval] using hx
theorem Fr.evs {n : Nat} {σ : Sig} {a : Act} (h : Fr n σ a) : ∀ {xs : List Operand} {vs : List Value}, evs σ xs = some vs → xs.map a.eval = vs
  | [], vs, hx => by simpa [Go.Proofs.YtjgeoeeikfjmdaaGreatDoor.evs] using hx
  | x :: xs, vs, hx => by
    unfold Go.Proofs.YtjgeoeeikfjmdaaGreatDoor.evs at hx
    split at hx
    · rename_i v hv
      split at hx
      · rename_i us hus
        injection hx with hx
        subst hx
        simp [h.ev hv, h.evs hus]
      · cases hx
    · cases hx
theorem lk_cons_same (σ : Sig) (d : Nat) (v : Value) : lk ((d, v) :: σ) d = some v := by simp [lk]
theorem lk_cons (σ : Sig) (d t : Nat) (v : Value) : lk ((d, v) :: σ) t = if d = t then some v else lk σ t := by
  by_cases h : d = t
  · subst h; simp [lk_cons_same]
  · have : Nat.beq d t = false := by
      cases hb : Nat.beq d t with
      | false => rfl
      | true => exact absurd (Nat.eq_of_beq_eq_true hb) h
    simp [lk, this, h]
theorem Fr.put {n : Nat} {σ : Sig} {a : Act} (h : Fr n σ a) {d : Nat} (hd : Nat.blt d n = true) (v : Value) : Fr n ((d, v) :: σ) (a.put (some d) v) := by
  have hd' : d < n := by simpa [Nat.blt_eq] using hd
  refine ⟨by simpa [Act.put] using h.size, fun t u ht => ?_, h.df⟩
  rw [lk_cons] at ht
  by_cases e : d = t
  · subst e
    simp at ht
    subst ht
    simp [Act.put, h.size, hd']
  · simp [e] at ht
    simp only [Act.put]
    rw [Array.getElem?_setIfInBounds_ne e]
    exact h.val t u ht
def Subs : Sig → Sig → Prop
  | [], _ => True
  | (t, v) :: r, σ => lk σ t = some v ∧ Subs r σ
theorem Subs.lk {σ : Sig} : ∀ {σ' : Sig}, Subs σ' σ → ∀ {t : Nat} {v : Value}, lk σ' t = some v → lk σ t = some v
  | [], _, _, _, h => by simp [Go.Proofs.YtjgeoeeikfjmdaaGreatDoor.lk] at h
  | (i, u) :: r, hs, t, v, h => by
    rw [lk_cons] at h
    by_cases e : i = t
    · subst e
      simp at h
      subst h
      exact hs.1
    · simp [e] at h
      exact hs.2.lk h
theorem Fr.sub {n : Nat} {σ σ' : Sig} {a : Act} (h : Fr n σ a) (hs : Subs σ' σ) : Fr n σ' a := ⟨h.size, fun t v ht => h.val t v (hs.lk ht), h.df⟩

/-! ### The code ahead -/
inductive KI where
  | code (c : Code)
  | blk (id : Nat)
  | asr (I : Act → World → Prop)
def pst (P : Program) (R : Act → World → Prop) : List KI → Exit → Act → World → Prop
  | [], .normal => R
  | [], .ret => R
  | [], _ => fun _ _ => False
  | .code c :: k, e => match e with | .normal => fun a w => c.wp P (pst P R k) a w | e => pst P R k e
  | .blk id :: k, e => match e with | .exit i => fun a w => if i = id then pst P R k .normal a w else pst P R k (.exit i) a w | e => pst P R k e
  | .asr I :: k, e => match e with | .normal => I | e => pst P R k e
def popTo (id : Nat) : List KI → Option (List KI)
  | [] => none
  | .blk i :: k => match Nat.beq id i with | true => some k | false => popTo id k
  | .code _ :: k => popTo id k
  | .asr _ :: k => popTo id k
def KW (P : Program) (R : Act → World → Prop) (k : List KI) (n : Nat) (σ : Sig) (w : World) : Prop := ∀ a, Fr n σ a → pst P R k .normal a w
section
variable {P : Program} {R : Act → World → Prop} {k : List KI} {n : Nat} {σ : Sig} {w : World}
theorem pst_then (c : Code) (k : List KI) : pst P R (.code c :: k) = Exit.then (fun a w => c.wp P (pst P R k) a w) (pst P R k) := by
  funext e a w
  cases e <;> simp [pst, Exit.then]
theorem pst_blk (id : Nat) (k : List KI) : pst P R (.blk id :: k) = Exit.inBlock id (pst P R k) := by
  funext e a w
  cases e <;> simp [pst, Exit.inBlock]
theorem pst_exit {id : Nat} : ∀ {k k' : List KI}, popTo id k = some k' → ∀ a w, pst P R k (.exit id) a w = pst P R k' .normal a w
  | [], _, h, _, _ => by simp [popTo] at h
  | .code c :: k, k', h, a, w => by simp only [popTo] at h; simp only [pst]; exact pst_exit h a w
  | .asr I :: k, k', h, a, w => by simp only [popTo] at h; simp only [pst]; exact pst_exit h a w
  | .blk i :: k, k', h, a, w => by
    simp only [popTo] at h
    simp only [pst]
    by_cases e : id = i
    · subst e
      have : Nat.beq id id = true := by simp
      rw [this] at h
      injection h with h
      subst h
      simp
    · have : Nat.beq id i = false := by
        cases hb : Nat.beq id i with
        | false => rfl
        | true => exact absurd (Nat.eq_of_beq_eq_true hb) e
      rw [this] at h
      rw [if_neg e]
      exact pst_exit h a w
theorem pst_ret : ∀ (k : List KI) (a : Act) (w : World), pst P R k .ret a w = R a w
  | [], _, _ => rfl
  | .code _ :: k, a, w => pst_ret k a w
  | .blk _ :: k, a, w => pst_ret k a w
  | .asr _ :: k, a, w => pst_ret k a w

theorem KW.seq {x y : Code} (h : KW P R (.code x :: .code y :: k) n σ w) : KW P R (.code (.seq x y) :: k) n σ w := fun a ha => by
  have := h a ha
  simp only [pst] at this ⊢
  refine wp_seq ?_
  rw [← pst_then]
  exact this
theorem KW.block {id : Nat} {c : Code} (h : KW P R (.code c :: .blk id :: k) n σ w) : KW P R (.code (.block id c) :: k) n σ w := fun a ha => by
  have := h a ha
  simp only [pst] at this ⊢
  refine wp_block ?_
  rw [← pst_blk]
  exact this
theorem KW.leave {id : Nat} (h : KW P R k n σ w) : KW P R (.blk id :: k) n σ w := fun a ha => h a ha
theorem KW.skip (h : KW P R k n σ w) : KW P R (.code .skip :: k) n σ w := fun a ha => wp_skip (h a ha)
theorem KW.label {l : Nat} (h : KW P R k n σ w) : KW P R (.code (.label l) :: k) n σ w := fun a ha => wp_label (h a ha)
theorem KW.exit {id : Nat} {k' : List KI} (hk : popTo id k = some k') (h : KW P R k' n σ w) : KW P R (.code (.exit id) :: k) n σ w := fun a ha =>
  wp_exit (by rw [pst_exit hk]; exact h a ha)
theorem KW.ret (h : ∀ a, Fr n σ a → R a w) : KW P R (.code .ret :: k) n σ w := fun a ha => wp_ret (by rw [pst_ret]; exact h a ha)
theorem KW.done (h : ∀ a, Fr n σ a → R a w) : KW P R [] n σ w := h
theorem KW.sub {σ' : Sig} (hs : Subs σ' σ) (h : KW P R k n σ' w) : KW P R k n σ w := fun a ha => h a (ha.sub hs)
theorem KW.cond {c : Operand} {x y : Code} {b : Bool} (hc : ev σ c = some (.bool b)) (ht : b = true → KW P R (.code x :: k) n σ w) (hf : b = false → KW P R (.code y :: k) n σ w) :
    KW P R (.code (.cond c x y) :: k) n σ w := fun a ha =>
  wp_cond_split (ha.ev hc) (fun e => ht e a ha) (fun e => hf e a ha)
theorem KW.condD {c : Operand} {x y : Code} {p : Prop} [Decidable p] (hc : ev σ c = some (.bool (decide p))) (ht : p → KW P R (.code x :: k) n σ w) (hf : ¬ p → KW P R (.code y :: k) n σ w) :
    KW P R (.code (.cond c x y) :: k) n σ w :=
  KW.cond hc (fun e => ht (of_decide_eq_true e)) (fun e => hf (of_decide_eq_false e))
theorem KW.condT {c : Operand} {x y : Code} (hc : ev σ c = some (.bool true)) (h : KW P R (.code x :: k) n σ w) : KW P R (.code (.cond c x y) :: k) n σ w :=
  KW.cond hc (fun _ => h) (fun e => by cases e)
theorem KW.condF {c : Operand} {x y : Code} (hc : ev σ c = some (.bool false)) (h : KW P R (.code y :: k) n σ w) : KW P R (.code (.cond c x y) :: k) n σ w :=
  KW.cond hc (fun e => by cases e) (fun _ => h)

/-- what holds where the ways meet, or at a loop's head -/
def Met {ι : Type} (n : Nat) (I : ι → Prop) (S : ι → Sig) (W : ι → World) (a : Act) (w : World) : Prop := ∃ i, I i ∧ Fr n (S i) a ∧ w = W i
theorem KW.cut {ι : Type} (I : ι → Prop) (S : ι → Sig) (W : ι → World) {c : Code} (h : KW P R (.code c :: .asr (Met n I S W) :: k) n σ w) (h2 : ∀ i, I i → KW P R k n (S i) (W i)) :
    KW P R (.code c :: k) n σ w := fun a ha => by
  have h1 := h a ha
  simp only [pst] at h1 ⊢
  refine Code.wp_mono (fun e a' w' q => ?_) h1
  cases e with
  | normal => obtain ⟨i, hi, hf, rfl⟩ := q; exact h2 i hi a' hf
  | _ => exact q
theorem KW.meet {ι : Type} {I : ι → Prop} {S : ι → Sig} {W : ι → World} (i : ι) (hs : Subs (S i) σ) (hw : w = W i) (hi : I i) : KW P R (.asr (Met n I S W) :: k) n σ w :=
  fun _ ha => ⟨i, hi, ha.sub hs, hw⟩
/-- a loop's round ends -/
def Back {ι : Type} (n : Nat) (I : ι → Prop) (S : ι → Sig) (W : ι → World) (μ : ι → Nat) (i : ι) (a : Act) (w : World) : Prop := ∃ j, I j ∧ μ j < μ i ∧ Fr n (S j) a ∧ w = W j
theorem KW.back {ι : Type} {I : ι → Prop} {S : ι → Sig} {W : ι → World} {μ : ι → Nat} {i : ι} (j : ι) (hs : Subs (S j) σ) (hw : w = W j) (hi : I j) (hm : μ j < μ i) :
    KW P R (.asr (Back n I S W μ i) :: k) n σ w := fun _ ha => ⟨j, hi, hm, ha.sub hs, hw⟩
theorem least_nat (M : Nat → Prop) : ∀ m, M m → ∃ m, M m ∧ ∀ m', M m' → m ≤ m' := by
  intro m
  induction m using Nat.strongRecOn with
  | _ m ih =>
    intro hm
    by_cases h : ∃ m', M m' ∧ m' < m
    · obtain ⟨m', h1, h2⟩ := h
      exact ih m' h2 h1
    · exact ⟨m, hm, fun m' h' => by
        rcases Nat.lt_or_ge m' m with hlt | hge
        · exact absurd ⟨m', h', hlt⟩ h
        · exact hge⟩
theorem KW.loop {ι : Type} (I : ι → Prop) (S : ι → Sig) (W : ι → World) (μ : ι → Nat) {c : Code} (i : ι) (hs : Subs (S i) σ) (hw : w = W i) (hi : I i)
    (round : ∀ i, I i → KW P R (.code c :: .asr (Back n I S W μ i) :: k) n (S i) (W i)) : KW P R (.code (.loop c) :: k) n σ w := fun a ha => by
  let M (a : Act) (w : World) (m : Nat) : Prop := ∃ i, I i ∧ Fr n (S i) a ∧ w = W i ∧ μ i = m
  have hex : ∀ a w, (∃ m, M a w m) → ∃ m, M a w m ∧ ∀ m', M a w m' → m ≤ m' := fun a w ⟨m, hm⟩ => least_nat _ m hm
  let ν (a : Act) (w : World) : Nat := Classical.epsilon fun m => M a w m ∧ ∀ m', M a w m' → m ≤ m'
  have hν : ∀ a w, (∃ m, M a w m) → M a w (ν a w) ∧ ∀ m', M a w m' → ν a w ≤ m' := fun a w h => Classical.epsilon_spec (hex a w h)
  simp only [pst]
  refine wp_loop (fun a w => ∃ m, M a w m) ν ⟨μ i, i, hi, ha.sub hs, hw, rfl⟩ fun a' w' hm => ?_
  obtain ⟨⟨j, hj, hf, hw', hmu⟩, _⟩ := hν a' w' hm
  have h := round j hj a' hf
  simp only [pst] at h
  subst hw'
  refine Code.wp_mono (fun e a'' w'' q => ?_) h
  cases e with
  | normal =>
    obtain ⟨j', h1, h2, h3, h4⟩ := q
    refine ⟨⟨μ j', j', h1, h3, h4, rfl⟩, ?_⟩
    have := (hν a'' w'' ⟨μ j', j', h1, h3, h4, rfl⟩).2 (μ j') ⟨j', h1, h3, h4, rfl⟩
    omega
  | _ => exact q
end

section
variable {P : Program} {R : Act → World → Prop} {k : List KI} {n : Nat} {σ : Sig} {w : World}
def Back1 {α : Type} (n : Nat) (I : α → Prop) (S : α → Sig) (W : α → World) (μ : α → Nat) (x0 : α) : Act → World → Prop :=
  Back n (fun p : α => I p) (fun p => S p) (fun p => W p) (fun p => μ p) x0
def Met1 {α : Type} (n : Nat) (I : α → Prop) (S : α → Sig) (W : α → World) : Act → World → Prop :=
  Met n (fun p : α => I p) (fun p => S p) (fun p => W p)
theorem KW.loop1 {α : Type} (I : α → Prop) (S : α → Sig) (W : α → World) (μ : α → Nat) {c : Code} (x0 : α) (hs : Subs (S x0) σ) (hw : w = W x0) (hi : I x0)
    (round : ∀ x0, I x0 → KW P R (.code c :: .asr (Back1 n I S W μ x0) :: k) n (S x0) (W x0)) : KW P R (.code (.loop c) :: k) n σ w :=
  KW.loop (fun p : α => I p) (fun p => S p) (fun p => W p) (fun p => μ p) x0 hs hw hi fun p hp => round p hp
theorem KW.back1 {α : Type} {I : α → Prop} {S : α → Sig} {W : α → World} {μ : α → Nat} {y0 : α} (x0 : α) (hs : Subs (S x0) σ) (hw : w = W x0) (hi : I x0) (hm : μ x0 < μ y0) :
    KW P R (.asr (Back1 n I S W μ y0) :: k) n σ w :=
  KW.back (I := fun p : α => I p) (S := fun p => S p) (W := fun p => W p) (μ := fun p => μ p) x0 hs hw hi hm
theorem KW.cut1 {α : Type} (I : α → Prop) (S : α → Sig) (W : α → World) {c : Code} (h : KW P R (.code c :: .asr (Met1 n I S W) :: k) n σ w)
    (h2 : ∀ x0, I x0 → KW P R k n (S x0) (W x0)) : KW P R (.code c :: k) n σ w :=
  KW.cut (fun p : α => I p) (fun p => S p) (fun p => W p) h fun p hp => h2 p hp
theorem KW.meet1 {α : Type} {I : α → Prop} {S : α → Sig} {W : α → World} (x0 : α) (hs : Subs (S x0) σ) (hw : w = W x0) (hi : I x0) :
    KW P R (.asr (Met1 n I S W) :: k) n σ w :=
  KW.meet (I := fun p : α => I p) (S := fun p => S p) (W := fun p => W p) x0 hs hw hi
def Back2 {α β : Type} (n : Nat) (I : α → β → Prop) (S : α → β → Sig) (W : α → β → World) (μ : α → β → Nat) (x0 : α) (x1 : β) : Act → World → Prop :=
  Back n (fun p : α × β => I p.1 p.2) (fun p => S p.1 p.2) (fun p => W p.1 p.2) (fun p => μ p.1 p.2) (x0, x1)
def Met2 {α β : Type} (n : Nat) (I : α → β → Prop) (S : α → β → Sig) (W : α → β → World) : Act → World → Prop :=
  Met n (fun p : α × β => I p.1 p.2) (fun p => S p.1 p.2) (fun p => W p.1 p.2)
theorem KW.loop2 {α β : Type} (I : α → β → Prop) (S : α → β → Sig) (W : α → β → World) (μ : α → β → Nat) {c : Code} (x0 : α) (x1 : β) (hs : Subs (S x0 x1) σ) (hw : w = W x0 x1) (hi : I x0 x1)
    (round : ∀ x0 x1, I x0 x1 → KW P R (.code c :: .asr (Back2 n I S W μ x0 x1) :: k) n (S x0 x1) (W x0 x1)) : KW P R (.code (.loop c) :: k) n σ w :=
  KW.loop (fun p : α × β => I p.1 p.2) (fun p => S p.1 p.2) (fun p => W p.1 p.2) (fun p => μ p.1 p.2) (x0, x1) hs hw hi fun p hp => round p.1 p.2 hp
theorem KW.back2 {α β : Type} {I : α → β → Prop} {S : α → β → Sig} {W : α → β → World} {μ : α → β → Nat} {y0 : α} {y1 : β} (x0 : α) (x1 : β) (hs : Subs (S x0 x1) σ) (hw : w = W x0 x1) (hi : I x0 x1) (hm : μ x0 x1 < μ y0 y1) :
    KW P R (.asr (Back2 n I S W μ y0 y1) :: k) n σ w :=
  KW.back (I := fun p : α × β => I p.1 p.2) (S := fun p => S p.1 p.2) (W := fun p => W p.1 p.2) (μ := fun p => μ p.1 p.2) (x0, x1) hs hw hi hm
theorem KW.cut2 {α β : Type} (I : α → β → Prop) (S : α → β → Sig) (W : α → β → World) {c : Code} (h : KW P R (.code c :: .asr (Met2 n I S W) :: k) n σ w)
    (h2 : ∀ x0 x1, I x0 x1 → KW P R k n (S x0 x1) (W x0 x1)) : KW P R (.code c :: k) n σ w :=
  KW.cut (fun p : α × β => I p.1 p.2) (fun p => S p.1 p.2) (fun p => W p.1 p.2) h fun p hp => h2 p.1 p.2 hp
theorem KW.meet2 {α β : Type} {I : α → β → Prop} {S : α → β → Sig} {W : α → β → World} (x0 : α) (x1 : β) (hs : Subs (S x0 x1) σ) (hw : w = W x0 x1) (hi : I x0 x1) :
    KW P R (.asr (Met2 n I S W) :: k) n σ w :=
  KW.meet (I := fun p : α × β => I p.1 p.2) (S := fun p => S p.1 p.2) (W := fun p => W p.1 p.2) (x0, x1) hs hw hi
def Back3 {α β γ : Type} (n : Nat) (I : α → β → γ → Prop) (S : α → β → γ → Sig) (W : α → β → γ → World) (μ : α → β → γ → Nat) (x0 : α) (x1 : β) (x2 : γ) : Act → World → Prop :=
  Back n (fun p : α × β × γ => I p.1 p.2.1 p.2.2) (fun p => S p.1 p.2.1 p.2.2) (fun p => W p.1 p.2.1 p.2.2) (fun p => μ p.1 p.2.1 p.2.2) (x0, x1, x2)
def Met3 {α β γ : Type} (n : Nat) (I : α → β → γ → Prop) (S : α → β → γ → Sig) (W : α → β → γ → World) : Act → World → Prop :=
  Met n (fun p : α × β × γ => I p.1 p.2.1 p.2.2) (fun p => S p.1 p.2.1 p.2.2) (fun p => W p.1 p.2.1 p.2.2)
theorem KW.loop3 {α β γ : Type} (I : α → β → γ → Prop) (S : α → β → γ → Sig) (W : α → β → γ → World) (μ : α → β → γ → Nat) {c : Code} (x0 : α) (x1 : β) (x2 : γ) (hs : Subs (S x0 x1 x2) σ) (hw : w = W x0 x1 x2) (hi : I x0 x1 x2)
    (round : ∀ x0 x1 x2, I x0 x1 x2 → KW P R (.code c :: .asr (Back3 n I S W μ x0 x1 x2) :: k) n (S x0 x1 x2) (W x0 x1 x2)) : KW P R (.code (.loop c) :: k) n σ w :=
  KW.loop (fun p : α × β × γ => I p.1 p.2.1 p.2.2) (fun p => S p.1 p.2.1 p.2.2) (fun p => W p.1 p.2.1 p.2.2) (fun p => μ p.1 p.2.1 p.2.2) (x0, x1, x2) hs hw hi fun p hp => round p.1 p.2.1 p.2.2 hp
theorem KW.back3 {α β γ : Type} {I : α → β → γ → Prop} {S : α → β → γ → Sig} {W : α → β → γ → World} {μ : α → β → γ → Nat} {y0 : α} {y1 : β} {y2 : γ} (x0 : α) (x1 : β) (x2 : γ) (hs : Subs (S x0 x1 x2) σ) (hw : w = W x0 x1 x2) (hi : I x0 x1 x2) (hm : μ x0 x1 x2 < μ y0 y1 y2) :
    KW P R (.asr (Back3 n I S W μ y0 y1 y2) :: k) n σ w :=
  KW.back (I := fun p : α × β × γ => I p.1 p.2.1 p.2.2) (S := fun p => S p.1 p.2.1 p.2.2) (W := fun p => W p.1 p.2.1 p.2.2) (μ := fun p => μ p.1 p.2.1 p.2.2) (x0, x1, x2) hs hw hi hm
theorem KW.cut3 {α β γ : Type} (I : α → β → γ → Prop) (S : α → β → γ → Sig) (W : α → β → γ → World) {c : Code} (h : KW P R (.code c :: .asr (Met3 n I S W) :: k) n σ w)
    (h2 : ∀ x0 x1 x2, I x0 x1 x2 → KW P R k n (S x0 x1 x2) (W x0 x1 x2)) : KW P R (.code c :: k) n σ w :=
  KW.cut (fun p : α × β × γ => I p.1 p.2.1 p.2.2) (fun p => S p.1 p.2.1 p.2.2) (fun p => W p.1 p.2.1 p.2.2) h fun p hp => h2 p.1 p.2.1 p.2.2 hp
theorem KW.meet3 {α β γ : Type} {I : α → β → γ → Prop} {S : α → β → γ → Sig} {W : α → β → γ → World} (x0 : α) (x1 : β) (x2 : γ) (hs : Subs (S x0 x1 x2) σ) (hw : w = W x0 x1 x2) (hi : I x0 x1 x2) :
    KW P R (.asr (Met3 n I S W) :: k) n σ w :=
  KW.meet (I := fun p : α × β × γ => I p.1 p.2.1 p.2.2) (S := fun p => S p.1 p.2.1 p.2.2) (W := fun p => W p.1 p.2.1 p.2.2) (x0, x1, x2) hs hw hi
def Back4 {α β γ δ : Type} (n : Nat) (I : α → β → γ → δ → Prop) (S : α → β → γ → δ → Sig) (W : α → β → γ → δ → World) (μ : α → β → γ → δ → Nat) (x0 : α) (x1 : β) (x2 : γ) (x3 : δ) : Act → World → Prop :=
  Back n (fun p : α × β × γ × δ => I p.1 p.2.1 p.2.2.1 p.2.2.2) (fun p => S p.1 p.2.1 p.2.2.1 p.2.2.2) (fun p => W p.1 p.2.1 p.2.2.1 p.2.2.2) (fun p => μ p.1 p.2.1 p.2.2.1 p.2.2.2) (x0, x1, x2, x3)
def Met4 {α β γ δ : Type} (n : Nat) (I : α → β → γ → δ → Prop) (S : α → β → γ → δ → Sig) (W : α → β → γ → δ → World) : Act → World → Prop :=
  Met n (fun p : α × β × γ × δ => I p.1 p.2.1 p.2.2.1 p.2.2.2) (fun p => S p.1 p.2.1 p.2.2.1 p.2.2.2) (fun p => W p.1 p.2.1 p.2.2.1 p.2.2.2)
theorem KW.loop4 {α β γ δ : Type} (I : α → β → γ → δ → Prop) (S : α → β → γ → δ → Sig) (W : α → β → γ → δ → World) (μ : α → β → γ → δ → Nat) {c : Code} (x0 : α) (x1 : β) (x2 : γ) (x3 : δ) (hs : Subs (S x0 x1 x2 x3) σ) (hw : w = W x0 x1 x2 x3) (hi : I x0 x1 x2 x3)
    (round : ∀ x0 x1 x2 x3, I x0 x1 x2 x3 → KW P R (.code c :: .asr (Back4 n I S W μ x0 x1 x2 x3) :: k) n (S x0 x1 x2 x3) (W x0 x1 x2 x3)) : KW P R (.code (.loop c) :: k) n σ w :=
  KW.loop (fun p : α × β × γ × δ => I p.1 p.2.1 p.2.2.1 p.2.2.2) (fun p => S p.1 p.2.1 p.2.2.1 p.2.2.2) (fun p => W p.1 p.2.1 p.2.2.1 p.2.2.2) (fun p => μ p.1 p.2.1 p.2.2.1 p.2.2.2) (x0, x1, x2, x3) hs hw hi fun p hp => round p.1 p.2.1 p.2.2.1 p.2.2.2 hp
theorem KW.back4 {α β γ δ : Type} {I : α → β → γ → δ → Prop} {S : α → β → γ → δ → Sig} {W : α → β → γ → δ → World} {μ : α → β → γ → δ → Nat} {y0 : α} {y1 : β} {y2 : γ} {y3 : δ} (x0 : α) (x1 : β) (x2 : γ) (x3 : δ) (hs : Subs (S x0 x1 x2 x3) σ) (hw : w = W x0 x1 x2 x3) (hi : I x0 x1 x2 x3) (hm : μ x0 x1 x2 x3 < μ y0 y1 y2 y3) :
    KW P R (.asr (Back4 n I S W μ y0 y1 y2 y3) :: k) n σ w :=
  KW.back (I := fun p : α × β × γ × δ => I p.1 p.2.1 p.2.2.1 p.2.2.2) (S := fun p => S p.1 p.2.1 p.2.2.1 p.2.2.2) (W := fun p => W p.1 p.2.1 p.2.2.1 p.2.2.2) (μ := fun p => μ p.1 p.2.1 p.2.2.1 p.2.2.2) (x0, x1, x2, x3) hs hw hi hm
theorem KW.cut4 {α β γ δ : Type} (I : α → β → γ → δ → Prop) (S : α → β → γ → δ → Sig) (W : α → β → γ → δ → World) {c : Code} (h : KW P R (.code c :: .asr (Met4 n I S W) :: k) n σ w)
    (h2 : ∀ x0 x1 x2 x3, I x0 x1 x2 x3 → KW P R k n (S x0 x1 x2 x3) (W x0 x1 x2 x3)) : KW P R (.code c :: k) n σ w :=
  KW.cut (fun p : α × β × γ × δ => I p.1 p.2.1 p.2.2.1 p.2.2.2) (fun p => S p.1 p.2.1 p.2.2.1 p.2.2.2) (fun p => W p.1 p.2.1 p.2.2.1 p.2.2.2) h fun p hp => h2 p.1 p.2.1 p.2.2.1 p.2.2.2 hp
theorem KW.meet4 {α β γ δ : Type} {I : α → β → γ → δ → Prop} {S : α → β → γ → δ → Sig} {W : α → β → γ → δ → World} (x0 : α) (x1 : β) (x2 : γ) (x3 : δ) (hs : Subs (S x0 x1 x2 x3) σ) (hw : w = W x0 x1 x2 x3) (hi : I x0 x1 x2 x3) :
    KW P R (.asr (Met4 n I S W) :: k) n σ w :=
  KW.meet (I := fun p : α × β × γ × δ => I p.1 p.2.1 p.2.2.1 p.2.2.2) (S := fun p => S p.1 p.2.1 p.2.2.1 p.2.2.2) (W := fun p => W p.1 p.2.1 p.2.2.1 p.2.2.2) (x0, x1, x2, x3) hs hw hi
def Back5 {α β γ δ ε : Type} (n : Nat) (I : α → β → γ → δ → ε → Prop) (S : α → β → γ → δ → ε → Sig) (W : α → β → γ → δ → ε → World) (μ : α → β → γ → δ → ε → Nat) (x0 : α) (x1 : β) (x2 : γ) (x3 : δ) (x4 : ε) : Act → World → Prop :=
  Back n (fun p : α × β × γ × δ × ε => I p.1 p.2.1 p.2.2.1 p.2.2.2.1 p.2.2.2.2) (fun p => S p.1 p.2.1 p.2.2.1 p.2.2.2.1 p.2.2.2.2) (fun p => W p.1 p.2.1 p.2.2.1 p.2.2.2.1 p.2.2.2.2) (fun p => μ p.1 p.2.1 p.2.2.1 p.2.2.2.1 p.2.2.2.2) (x0, x1, x2, x3, x4)
def Met5 {α β γ δ ε : Type} (n : Nat) (I : α → β → γ → δ → ε → Prop) (S : α → β → γ → δ → ε → Sig) (W : α → β → γ → δ → ε → World) : Act → World → Prop :=
  Met n (fun p : α × β × γ × δ × ε => I p.1 p.2.1 p.2.2.1 p.2.2.2.1 p.2.2.2.2) (fun p => S p.1 p.2.1 p.2.2.1 p.2.2.2.1 p.2.2.2.2) (fun p => W p.1 p.2.1 p.2.2.1 p.2.2.2.1 p.2.2.2.2)
theorem KW.loop5 {α β γ δ ε : Type} (I : α → β → γ → δ → ε → Prop) (S : α → β → γ → δ → ε → Sig) (W : α → β → γ → δ → ε → World) (μ : α → β → γ → δ → ε → Nat) {c : Code} (x0 : α) (x1 : β) (x2 : γ) (x3 : δ) (x4 : ε) (hs : Subs (S x0 x1 x2 x3 x4) σ) (hw : w = W x0 x1 x2 x3 x4) (hi : I x0 x1 x2 x3 x4)
    (round : ∀ x0 x1 x2 x3 x4, I x0 x1 x2 x3 x4 → KW P R (.code c :: .asr (Back5 n I S W μ x0 x1 x2 x3 x4) :: k) n (S x0 x1 x2 x3 x4) (W x0 x1 x2 x3 x4)) : KW P R (.code (.loop c) :: k) n σ w :=
  KW.loop (fun p : α × β × γ × δ × ε => I p.1 p.2.1 p.2.2.1 p.2.2.2.1 p.2.2.2.2) (fun p => S p.1 p.2.1 p.2.2.1 p.2.2.2.1 p.2.2.2.2) (fun p => W p.1 p.2.1 p.2.2.1 p.2.2.2.1 p.2.2.2.2) (fun p => μ p.1 p.2.1 p.2.2.1 p.2.2.2.1 p.2.2.2.2) (x0, x1, x2, x3, x4) hs hw hi fun p hp => round p.1 p.2.1 p.2.2.1 p.2.2.2.1 p.2.2.2.2 hp
theorem KW.back5 {α β γ δ ε : Type} {I : α → β → γ → δ → ε → Prop} {S : α → β → γ → δ → ε → Sig} {W : α → β → γ → δ → ε → World} {μ : α → β → γ → δ → ε → Nat} {y0 : α} {y1 : β} {y2 : γ} {y3 : δ} {y4 : ε} (x0 : α) (x1 : β) (x2 : γ) (x3 : δ) (x4 : ε) (hs : Subs (S x0 x1 x2 x3 x4) σ) (hw : w = W x0 x1 x2 x3 x4) (hi : I x0 x1 x2 x3 x4) (hm : μ x0 x1 x2 x3 x4 < μ y0 y1 y2 y3 y4) :
    KW P R (.asr (Back5 n I S W μ y0 y1 y2 y3 y4) :: k) n σ w :=
  KW.back (I := fun p : α × β × γ × δ × ε => I p.1 p.2.1 p.2.2.1 p.2.2.2.1 p.2.2.2.2) (S := fun p => S p.1 p.2.1 p.2.2.1 p.2.2.2.1 p.2.2.2.2) (W := fun p => W p.1 p.2.1 p.2.2.1 p.2.2.2.1 p.2.2.2.2) (μ := fun p => μ p.1 p.2.1 p.2.2.1 p.2.2.2.1 p.2.2.2.2) (x0, x1, x2, x3, x4) hs hw hi hm
theorem KW.cut5 {α β γ δ ε : Type} (I : α → β → γ → δ → ε → Prop) (S : α → β → γ → δ → ε → Sig) (W : α → β → γ → δ → ε → World) {c : Code} (h : KW P R (.code c :: .asr (Met5 n I S W) :: k) n σ w)
    (h2 : ∀ x0 x1 x2 x3 x4, I x0 x1 x2 x3 x4 → KW P R k n (S x0 x1 x2 x3 x4) (W x0 x1 x2 x3 x4)) : KW P R (.code c :: k) n σ w :=
  KW.cut (fun p : α × β × γ × δ × ε => I p.1 p.2.1 p.2.2.1 p.2.2.2.1 p.2.2.2.2) (fun p => S p.1 p.2.1 p.2.2.1 p.2.2.2.1 p.2.2.2.2) (fun p => W p.1 p.2.1 p.2.2.1 p.2.2.2.1 p.2.2.2.2) h fun p hp => h2 p.1 p.2.1 p.2.2.1 p.2.2.2.1 p.2.2.2.2 hp
theorem KW.meet5 {α β γ δ ε : Type} {I : α → β → γ → δ → ε → Prop} {S : α → β → γ → δ → ε → Sig} {W : α → β → γ → δ → ε → World} (x0 : α) (x1 : β) (x2 : γ) (x3 : δ) (x4 : ε) (hs : Subs (S x0 x1 x2 x3 x4) σ) (hw : w = W x0 x1 x2 x3 x4) (hi : I x0 x1 x2 x3 x4) :
    KW P R (.asr (Met5 n I S W) :: k) n σ w :=
  KW.meet (I := fun p : α × β × γ × δ × ε => I p.1 p.2.1 p.2.2.1 p.2.2.2.1 p.2.2.2.2) (S := fun p => S p.1 p.2.1 p.2.2.1 p.2.2.2.1 p.2.2.2.2) (W := fun p => W p.1 p.2.1 p.2.2.1 p.2.2.2.1 p.2.2.2.2) (x0, x1, x2, x3, x4) hs hw hi
def Back6 {α β γ δ ε ζ : Type} (n : Nat) (I : α → β → γ → δ → ε → ζ → Prop) (S : α → β → γ → δ → ε → ζ → Sig) (W : α → β → γ → δ → ε → ζ → World) (μ : α → β → γ → δ → ε → ζ → Nat) (x0 : α) (x1 : β) (x2 : γ) (x3 : δ) (x4 : ε) (x5 : ζ) : Act → World → Prop :=
  Back n (fun p : α × β × γ × δ × ε × ζ => I p.1 p.2.1 p.2.2.1 p.2.2.2.1 p.2.2.2.2.1 p.2.2.2.2.2) (fun p => S p.1 p.2.1 p.2.2.1 p.2.2.2.1 p.2.2.2.2.1 p.2.2.2.2.2) (fun p => W p.1 p.2.1 p.2.2.1 p.2.2.2.1 p.2.2.2.2.1 p.2.2.2.2.2) (fun p => μ p.1 p.2.1 p.2.2.1 p.2.2.2.1 p.2.2.2.2.1 p.2.2.2.2.2) (x0, x1, x2, x3, x4, x5)
def Met6 {α β γ δ ε ζ : Type} (n : Nat) (I : α → β → γ → δ → ε → ζ → Prop) (S : α → β → γ → δ → ε → ζ → Sig) (W : α → β → γ → δ → ε → ζ → World) : Act → World → Prop :=
  Met n (fun p : α × β × γ × δ × ε × ζ => I p.1 p.2.1 p.2.2.1 p.2.2.2.1 p.2.2.2.2.1 p.2.2.2.2.2) (fun p => S p.1 p.2.1 p.2.2.1 p.2.2.2.1 p.2.2.2.2.1 p.2.2.2.2.2) (fun p => W p.1 p.2.1 p.2.2.1 p.2.2.2.1 p.2.2.2.2.1 p.2.2.2.2.2)
theorem KW.loop6 {α β γ δ ε ζ : Type} (I : α → β → γ → δ → ε → ζ → Prop) (S : α → β → γ → δ → ε → ζ → Sig) (W : α → β → γ → δ → ε → ζ → World) (μ : α → β → γ → δ → ε → ζ → Nat) {c : Code} (x0 : α) (x1 : β) (x2 : γ) (x3 : δ) (x4 : ε) (x5 : ζ) (hs : Subs (S x0 x1 x2 x3 x4 x5) σ) (hw : w = W x0 x1 x2 x3 x4 x5) (hi : I x0 x1 x2 x3 x4 x5)
    (round : ∀ x0 x1 x2 x3 x4 x5, I x0 x1 x2 x3 x4 x5 → KW P R (.code c :: .asr (Back6 n I S W μ x0 x1 x2 x3 x4 x5) :: k) n (S x0 x1 x2 x3 x4 x5) (W x0 x1 x2 x3 x4 x5)) : KW P R (.code (.loop c) :: k) n σ w :=
  KW.loop (fun p : α × β × γ × δ × ε × ζ => I p.1 p.2.1 p.2.2.1 p.2.2.2.1 p.2.2.2.2.1 p.2.2.2.2.2) (fun p => S p.1 p.2.1 p.2.2.1 p.2.2.2.1 p.2.2.2.2.1 p.2.2.2.2.2) (fun p => W p.1 p.2.1 p.2.2.1 p.2.2.2.1 p.2.2.2.2.1 p.2.2.2.2.2) (fun p => μ p.1 p.2.1 p.2.2.1 p.2.2.2.1 p.2.2.2.2.1 p.2.2.2.2.2) (x0, x1, x2, x3, x4, x5) hs hw hi fun p hp => round p.1 p.2.1 p.2.2.1 p.2.2.2.1 p.2.2.2.2.1 p.2.2.2.2.2 hp
theorem KW.back6 {α β γ δ ε ζ : Type} {I : α → β → γ → δ → ε → ζ → Prop} {S : α → β → γ → δ → ε → ζ → Sig} {W : α → β → γ → δ → ε → ζ → World} {μ : α → β → γ → δ → ε → ζ → Nat} {y0 : α} {y1 : β} {y2 : γ} {y3 : δ} {y4 : ε} {y5 : ζ} (x0 : α) (x1 : β) (x2 : γ) (x3 : δ) (x4 : ε) (x5 : ζ) (hs : Subs (S x0 x1 x2 x3 x4 x5) σ) (hw : w = W x0 x1 x2 x3 x4 x5) (hi : I x0 x1 x2 x3 x4 x5) (hm : μ x0 x1 x2 x3 x4 x5 < μ y0 y1 y2 y3 y4 y5) :
    KW P R (.asr (Back6 n I S W μ y0 y1 y2 y3 y4 y5) :: k) n σ w :=
  KW.back (I := fun p : α × β × γ × δ × ε × ζ => I p.1 p.2.1 p.2.2.1 p.2.2.2.1 p.2.2.2.2.1 p.2.2.2.2.2) (S := fun p => S p.1 p.2.1 p.2.2.1 p.2.2.2.1 p.2.2.2.2.1 p.2.2.2.2.2) (W := fun p => W p.1 p.2.1 p.2.2.1 p.2.2.2.1 p.2.2.2.2.1 p.2.2.2.2.2) (μ := fun p => μ p.1 p.2.1 p.2.2.1 p.2.2.2.1 p.2.2.2.2.1 p.2.2.2.2.2) (x0, x1, x2, x3, x4, x5) hs hw hi hm
theorem KW.cut6 {α β γ δ ε ζ : Type} (I : α → β → γ → δ → ε → ζ → Prop) (S : α → β → γ → δ → ε → ζ → Sig) (W : α → β → γ → δ → ε → ζ → World) {c : Code} (h : KW P R (.code c :: .asr (Met6 n I S W) :: k) n σ w)
    (h2 : ∀ x0 x1 x2 x3 x4 x5, I x0 x1 x2 x3 x4 x5 → KW P R k n (S x0 x1 x2 x3 x4 x5) (W x0 x1 x2 x3 x4 x5)) : KW P R (.code c :: k) n σ w :=
  KW.cut (fun p : α × β × γ × δ × ε × ζ => I p.1 p.2.1 p.2.2.1 p.2.2.2.1 p.2.2.2.2.1 p.2.2.2.2.2) (fun p => S p.1 p.2.1 p.2.2.1 p.2.2.2.1 p.2.2.2.2.1 p.2.2.2.2.2) (fun p => W p.1 p.2.1 p.2.2.1 p.2.2.2.1 p.2.2.2.2.1 p.2.2.2.2.2) h fun p hp => h2 p.1 p.2.1 p.2.2.1 p.2.2.2.1 p.2.2.2.2.1 p.2.2.2.2.2 hp
theorem KW.meet6 {α β γ δ ε ζ : Type} {I : α → β → γ → δ → ε → ζ → Prop} {S : α → β → γ → δ → ε → ζ → Sig} {W : α → β → γ → δ → ε → ζ → World} (x0 : α) (x1 : β) (x2 : γ) (x3 : δ) (x4 : ε) (x5 : ζ) (hs : Subs (S x0 x1 x2 x3 x4 x5) σ) (hw : w = W x0 x1 x2 x3 x4 x5) (hi : I x0 x1 x2 x3 x4 x5) :
    KW P R (.asr (Met6 n I S W) :: k) n σ w :=
  KW.meet (I := fun p : α × β × γ × δ × ε × ζ => I p.1 p.2.1 p.2.2.1 p.2.2.2.1 p.2.2.2.2.1 p.2.2.2.2.2) (S := fun p => S p.1 p.2.1 p.2.2.1 p.2.2.2.1 p.2.2.2.2.1 p.2.2.2.2.2) (W := fun p => W p.1 p.2.1 p.2.2.1 p.2.2.2.1 p.2.2.2.2.1 p.2.2.2.2.2) (x0, x1, x2, x3, x4, x5) hs hw hi
def Back7 {α β γ δ ε ζ η : Type} (n : Nat) (I : α → β → γ → δ → ε → ζ → η → Prop) (S : α → β → γ → δ → ε → ζ → η → Sig) (W : α → β → γ → δ → ε → ζ → η → World) (μ : α → β → γ → δ → ε → ζ → η → Nat) (x0 : α) (x1 : β) (x2 : γ) (x3 : δ) (x4 : ε) (x5 : ζ) (x6 : η) : Act → World → Prop :=
  Back n (fun p : α × β × γ × δ × ε × ζ × η => I p.1 p.2.1 p.2.2.1 p.2.2.2.1 p.2.2.2.2.1 p.2.2.2.2.2.1 p.2.2.2.2.2.2) (fun p => S p.1 p.2.1 p.2.2.1 p.2.2.2.1 p.2.2.2.2.1 p.2.2.2.2.2.1 p.2.2.2.2.2.2) (fun p => W p.1 p.2.1 p.2.2.1 p.2.2.2.1 p.2.2.2.2.1 p.2.2.2.2.2.1 p.2.2.2.2.2.2) (fun p => μ p.1 p.2.1 p.2.2.1 p.2.2.2.1 p.2.2.2.2.1 p.2.2.2.2.2.1 p.2.2.2.2.2.2) (x0, x1, x2, x3, x4, x5, x6)
def Met7 {α β γ δ ε ζ η : Type} (n : Nat) (I : α → β → γ → δ → ε → ζ → η → Prop) (S : α → β → γ → δ → ε → ζ → η → Sig) (W : α → β → γ → δ → ε → ζ → η → World) : Act → World → Prop :=
  Met n (fun p : α × β × γ × δ × ε × ζ × η => I p.1 p.2.1 p.2.2.1 p.2.2.2.1 p.2.2.2.2.1 p.2.2.2.2.2.1 p.2.2.2.2.2.2) (fun p => S p.1 p.2.1 p.2.2.1 p.2.2.2.1 p.2.2.2.2.1 p.2.2.2.2.2.1 p.2.2.2.2.2.2) (fun p => W p.1 p.2.1 p.2.2.1 p.2.2.2.1 p.2.2.2.2.1 p.2.2.2.2.2.1 p.2.2.2.2.2.2)
theorem KW.loop7 {α β γ δ ε ζ η : Type} (I : α → β → γ → δ → ε → ζ → η → Prop) (S : α → β → γ → δ → ε → ζ → η → Sig) (W : α → β → γ → δ → ε → ζ → η → World) (μ : α → β → γ → δ → ε → ζ → η → Nat) {c : Code} (x0 : α) (x1 : β) (x2 : γ) (x3 : δ) (x4 : ε) (x5 : ζ) (x6 : η) (hs : Subs (S x0 x1 x2 x3 x4 x5 x6) σ) (hw : w = W x0 x1 x2 x3 x4 x5 x6) (hi : I x0 x1 x2 x3 x4 x5 x6)
    (round : ∀ x0 x1 x2 x3 x4 x5 x6, I x0 x1 x2 x3 x4 x5 x6 → KW P R (.code c :: .asr (Back7 n I S W μ x0 x1 x2 x3 x4 x5 x6) :: k) n (S x0 x1 x2 x3 x4 x5 x6) (W x0 x1 x2 x3 x4 x5 x6)) : KW P R (.code (.loop c) :: k) n σ w :=
  KW.loop (fun p : α × β × γ × δ × ε × ζ × η => I p.1 p.2.1 p.2.2.1 p.2.2.2.1 p.2.2.2.2.1 p.2.2.2.2.2.1 p.2.2.2.2.2.2) (fun p => S p.1 p.2.1 p.2.2.1 p.2.2.2.1 p.2.2.2.2.1 p.2.2.2.2.2.1 p.2.2.2.2.2.2) (fun p => W p.1 p.2.1 p.2.2.1 p.2.2.2.1 p.2.2.2.2.1 p.2.2.2.2.2.1 p.2.2.2.2.2.2) (fun p => μ p.1 p.2.1 p.2.2.1 p.2.2.2.1 p.2.2.2.2.1 p.2.2.2.2.2.1 p.2.2.2.2.2.2) (x0, x1, x2, x3, x4, x5, x6) hs hw hi fun p hp => round p.1 p.2.1 p.2.2.1 p.2.2.2.1 p.2.2.2.2.1 p.2.2.2.2.2.1 p.2.2.2.2.2.2 hp
theorem KW.back7 {α β γ δ ε ζ η : Type} {I : α → β → γ → δ → ε → ζ → η → Prop} {S : α → β → γ → δ → ε → ζ → η → Sig} {W : α → β → γ → δ → ε → ζ → η → World} {μ : α → β → γ → δ → ε → ζ → η → Nat} {y0 : α} {y1 : β} {y2 : γ} {y3 : δ} {y4 : ε} {y5 : ζ} {y6 : η} (x0 : α) (x1 : β) (x2 : γ) (x3 : δ) (x4 : ε) (x5 : ζ) (x6 : η) (hs : Subs (S x0 x1 x2 x3 x4 x5 x6) σ) (hw : w = W x0 x1 x2 x3 x4 x5 x6) (hi : I x0 x1 x2 x3 x4 x5 x6) (hm : μ x0 x1 x2 x3 x4 x5 x6 < μ y0 y1 y2 y3 y4 y5 y6) :
    KW P R (.asr (Back7 n I S W μ y0 y1 y2 y3 y4 y5 y6) :: k) n σ w :=
  KW.back (I := fun p : α × β × γ × δ × ε × ζ × η => I p.1 p.2.1 p.2.2.1 p.2.2.2.1 p.2.2.2.2.1 p.2.2.2.2.2.1 p.2.2.2.2.2.2) (S := fun p => S p.1 p.2.1 p.2.2.1 p.2.2.2.1 p.2.2.2.2.1 p.2.2.2.2.2.1 p.2.2.2.2.2.2) (W := fun p => W p.1 p.2.1 p.2.2.1 p.2.2.2.1 p.2.2.2.2.1 p.2.2.2.2.2.1 p.2.2.2.2.2.2) (μ := fun p => μ p.1 p.2.1 p.2.2.1 p.2.2.2.1 p.2.2.2.2.1 p.2.2.2.2.2.1 p.2.2.2.2.2.2) (x0, x1, x2, x3, x4, x5, x6) hs hw hi hm
theorem KW.cut7 {α β γ δ ε ζ η : Type} (I : α → β → γ → δ → ε → ζ → η → Prop) (S : α → β → γ → δ → ε → ζ → η → Sig) (W : α → β → γ → δ → ε → ζ → η → World) {c : Code} (h : KW P R (.code c :: .asr (Met7 n I S W) :: k) n σ w)
    (h2 : ∀ x0 x1 x2 x3 x4 x5 x6, I x0 x1 x2 x3 x4 x5 x6 → KW P R k n (S x0 x1 x2 x3 x4 x5 x6) (W x0 x1 x2 x3 x4 x5 x6)) : KW P R (.code c :: k) n σ w :=
  KW.cut (fun p : α × β × γ × δ × ε × ζ × η => I p.1 p.2.1 p.2.2.1 p.2.2.2.1 p.2.2.2.2.1 p.2.2.2.2.2.1 p.2.2.2.2.2.2) (fun p => S p.1 p.2.1 p.2.2.1 p.2.2.2.1 p.2.2.2.2.1 p.2.2.2.2.2.1 p.2.2.2.2.2.2) (fun p => W p.1 p.2.1 p.2.2.1 p.2.2.2.1 p.2.2.2.2.1 p.2.2.2.2.2.1 p.2.2.2.2.2.2) h fun p hp => h2 p.1 p.2.1 p.2.2.1 p.2.2.2.1 p.2.2.2.2.1 p.2.2.2.2.2.1 p.2.2.2.2.2.2 hp
theorem KW.meet7 {α β γ δ ε ζ η : Type} {I : α → β → γ → δ → ε → ζ → η → Prop} {S : α → β → γ → δ → ε → ζ → η → Sig} {W : α → β → γ → δ → ε → ζ → η → World} (x0 : α) (x1 : β) (x2 : γ) (x3 : δ) (x4 : ε) (x5 : ζ) (x6 : η) (hs : Subs (S x0 x1 x2 x3 x4 x5 x6) σ) (hw : w = W x0 x1 x2 x3 x4 x5 x6) (hi : I x0 x1 x2 x3 x4 x5 x6) :
    KW P R (.asr (Met7 n I S W) :: k) n σ w :=
  KW.meet (I := fun p : α × β × γ × δ × ε × ζ × η => I p.1 p.2.1 p.2.2.1 p.2.2.2.1 p.2.2.2.2.1 p.2.2.2.2.2.1 p.2.2.2.2.2.2) (S := fun p => S p.1 p.2.1 p.2.2.1 p.2.2.2.1 p.2.2.2.2.1 p.2.2.2.2.2.1 p.2.2.2.2.2.2) (W := fun p => W p.1 p.2.1 p.2.2.1 p.2.2.2.1 p.2.2.2.2.1 p.2.2.2.2.2.1 p.2.2.2.2.2.2) (x0, x1, x2, x3, x4, x5, x6) hs hw hi
end

/-! ### A region -/
def OW (P : Program) (R : Act → World → Prop) (ops : Array Oper) (l : List Oper) (k : List KI) (n : Nat) (σ : Sig) (w : World) : Prop := ∀ a, Fr n σ a → wpList P ops (pst P R k) l a w
def wantS (ops : Array Oper) (σ : Sig) : Option (Nat × Bool) → Option Bool
  | none => some true
  | some (j, want) => match (ops[j]?).bind (·.dst) with
    | some t => match lk σ t with
      | some (.bool b) => some (b == want)
      | some (.tuple _) => some false
      | _ => none
    | none => none
theorem wantS_spec {ops : Array Oper} {σ : Sig} {n : Nat} {a : Act} (ha : Fr n σ a) {o : Oper} {b : Bool} (h : wantS ops σ o.guard = some b) : Region.wanted o (yielded ops a.tmps) = b := by
  unfold Region.wanted
  cases hg : o.guard with
  | none => rw [hg] at h; simpa [wantS] using h
  | some jw =>
    obtain ⟨j, want⟩ := jw
    rw [hg] at h
    simp only [wantS] at h
    split at h
    · rename_i t ht
      split at h
      · rename_i u hu
        injection h with h
        subst h
        have := ha.val t _ hu
        simp only [yielded, ht, Option.bind_some, this]
        cases u <;> cases want <;> rfl
      · rename_i u hu
        injection h with h
        subst h
        have := ha.val t _ hu
        simp only [yielded, ht, Option.bind_some, this]
        rfl
      · cases h
    · cases h
section
variable {P : Program} {R : Act → World → Prop} {ops : Array Oper} {l rest : List Oper} {k : List KI} {n : Nat} {σ : Sig} {w w' : World}
theorem KW.region {id : Nat} (h : OW P R l.toArray l k n σ w) : KW P R (.code (.region id l.toArray false) :: k) n σ w := fun a ha => wp_region_lit (h a ha)
theorem OW.nil (h : KW P R k n σ w) : OW P R ops [] k n σ w := h
theorem OW.sub {σ' : Sig} (hs : Subs σ' σ) (h : OW P R ops l k n σ' w) : OW P R ops l k n σ w := fun a ha => h a (ha.sub hs)
/-- a slot's value is spelled otherwise -/
theorem OW.as (t : Nat) (v' : Value) {v : Value} (ht : lk σ t = some v) (e : v = v') (h : OW P R ops l k n ((t, v') :: σ) w) : OW P R ops l k n σ w := fun a ha =>
  h a ⟨ha.size, fun i u hu => by
    rw [lk_cons] at hu
    by_cases e' : t = i
    · subst e'
      simp at hu
      subst hu
      rw [← e]
      exact ha.val t _ ht
    · simp [e'] at hu
      exact ha.val i u hu, ha.df⟩
theorem KW.as (t : Nat) (v' : Value) {v : Value} (ht : lk σ t = some v) (e : v = v') (h : KW P R k n ((t, v') :: σ) w) : KW P R k n σ w := fun a ha =>
  OW.as (P := P) (R := R) (ops := #[]) (l := []) t v' ht e h a ha
theorem OW.split (t : Nat) {b : Bool} (ht : lk σ t = some (.bool b)) (h1 : b = true → OW P R ops l k n ((t, .bool true) :: σ) w) (h2 : b = false → OW P R ops l k n ((t, .bool false) :: σ) w) : OW P R ops l k n σ w := by
  cases b with
  | true => exact OW.as t _ ht rfl (h1 rfl)
  | false => exact OW.as t _ ht rfl (h2 rfl)
theorem OW.splitD (t : Nat) {p : Prop} [Decidable p] (ht : lk σ t = some (.bool (decide p))) (h1 : p → OW P R ops l k n ((t, .bool true) :: σ) w) (h2 : ¬ p → OW P R ops l k n ((t, .bool false) :: σ) w) : OW P R ops l k n σ w :=
  OW.split t ht (fun e => h1 (of_decide_eq_true e)) (fun e => h2 (of_decide_eq_false e))
/-- an operation that yields a value -/
def EX (P : Program) (n : Nat) (σ : Sig) (op : Op) (ty : TypeId) (w : World) (v : Value) (w' : World) : Prop :=
  ∀ (a : Act), Fr n σ a → ∀ (dst : Option Tmp) (pos : String) (after : Array Edge) (g : Option (Nat × Bool)), (execOp a.eval ⟨dst, op, ty, pos, after, g⟩).run P w = .ok (.value v) w'
/-- .. that yields nothing -/
def EU (P : Program) (n : Nat) (σ : Sig) (op : Op) (ty : TypeId) (w w' : World) : Prop :=
  ∀ (a : Act), Fr n σ a → ∀ (dst : Option Tmp) (pos : String) (after : Array Edge) (g : Option (Nat × Bool)), (execOp a.eval ⟨dst, op, ty, pos, after, g⟩).run P w = .ok .skip w'
/-- .. that enters a function -/
def EC (P : Program) (n : Nat) (σ : Sig) (op : Op) (ty : TypeId) (w : World) (f : FuncId) (args : Array Value) : Prop :=
  ∀ (a : Act), Fr n σ a → ∀ (dst : Option Tmp) (pos : String) (after : Array Edge) (g : Option (Nat × Bool)), (execOp a.eval ⟨dst, op, ty, pos, after, g⟩).run P w = .ok (.enter f args) w
theorem OW.val {d : Nat} {op : Op} {ty : TypeId} {pos : String} {after : Array Edge} {g : Option (Nat × Bool)} {v : Value} (hg : wantS ops σ g = some true) (hd : Nat.blt d n = true) (he : EX P n σ op ty w v w')
    (h : OW P R ops rest k n ((d, v) :: σ) w') : OW P R ops (⟨some d, op, ty, pos, after, g⟩ :: rest) k n σ w := fun a ha => by
  have h1 := he a ha (some d) pos after g
  unfold wpList
  rw [if_pos (wantS_spec ha (o := ⟨some d, op, ty, pos, after, g⟩) hg)]
  refine .inl ?_
  unfold Oper.wp
  rw [h1]
  exact h _ (ha.put hd v)
theorem OW.eff {op : Op} {ty : TypeId} {pos : String} {after : Array Edge} {g : Option (Nat × Bool)} (hg : wantS ops σ g = some true) (he : EU P n σ op ty w w')
    (h : OW P R ops rest k n σ w') : OW P R ops (⟨none, op, ty, pos, after, g⟩ :: rest) k n σ w := fun a ha => by
  have h1 := he a ha none pos after g
  unfold wpList
  rw [if_pos (wantS_spec ha (o := ⟨none, op, ty, pos, after, g⟩) hg)]
  refine .inl ?_
  unfold Oper.wp
  rw [h1]
  exact h _ ha
theorem OW.pass {d : Nat} {op : Op} {ty : TypeId} {pos : String} {after : Array Edge} {g : Option (Nat × Bool)} (hg : wantS ops σ g = some false) (hd : Nat.blt d n = true)
    (h : OW P R ops rest k n ((d, undef) :: σ) w) : OW P R ops (⟨some d, op, ty, pos, after, g⟩ :: rest) k n σ w := fun a ha => by
  unfold wpList
  rw [if_neg (by rw [wantS_spec ha (o := ⟨some d, op, ty, pos, after, g⟩) hg]; simp)]
  exact h _ (ha.put hd undef)
theorem OW.passU {op : Op} {ty : TypeId} {pos : String} {after : Array Edge} {g : Option (Nat × Bool)} (hg : wantS ops σ g = some false)
    (h : OW P R ops rest k n σ w) : OW P R ops (⟨none, op, ty, pos, after, g⟩ :: rest) k n σ w := fun a ha => by
  unfold wpList
  rw [if_neg (by rw [wantS_spec ha (o := ⟨none, op, ty, pos, after, g⟩) hg]; simp)]
  exact h _ ha
/-- a callee's contract: it can be called, and it returns -/
def Ret (P : Program) (f : FuncId) (args : List Value) (w : World) (Q : Value → World → Prop) : Prop :=
  (∃ fn, P.funcs[f]? = some fn ∧ (!(fn.name == "runtime.NumGoroutine") && fn.body.isSome) = true) ∧ Calls P f args.toArray w fun e w' => ∃ v, e = .returned v ∧ Q v w'
theorem Ret.mono {f : FuncId} {args : List Value} {Q Q' : Value → World → Prop} (h : Ret P f args w Q) (hq : ∀ v w', Q v w' → Q' v w') : Ret P f args w Q' :=
  ⟨h.1, h.2.mono fun _ _ ⟨v, e, q⟩ => ⟨v, e, hq _ _ q⟩⟩
theorem run_callFunc {f : FuncId} {fn : Func} (hf : P.funcs[f]? = some fn) (hn : (!(fn.name == "runtime.NumGoroutine") && fn.body.isSome) = true) (args : Array Value) :
    (callFunc f args).run P w = .ok (.enter f args) w := by
  simp only [Bool.and_eq_true, Bool.not_eq_true', beq_eq_false_iff_ne] at hn
  have h2 : fn.body ≠ none := by intro e; rw [e] at hn; exact absurd hn.2 (by simp)
  unfold callFunc
  simp [program, Sem.run_bind, Sem.run, hf, hn.1, h2]
theorem OW.callE {d : Nat} {op : Op} {ty : TypeId} {pos : String} {after : Array Edge} {g : Option (Nat × Bool)} {f : FuncId} {args : List Value} {Q : Value → World → Prop} (hg : wantS ops σ g = some true) (hd : Nat.blt d n = true)
    (he : EC P n σ op ty w f args.toArray) (hc : Ret P f args w Q) (h : ∀ v w', Q v w' → OW P R ops rest k n ((d, v) :: σ) w') : OW P R ops (⟨some d, op, ty, pos, after, g⟩ :: rest) k n σ w := fun a ha => by
  have h1 := he a ha (some d) pos after g
  unfold wpList
  rw [if_pos (wantS_spec ha (o := ⟨some d, op, ty, pos, after, g⟩) hg)]
  refine .inl ?_
  unfold Oper.wp
  rw [h1]
  refine hc.2.mono fun e w'' ⟨v, he, q⟩ => ?_
  subst he
  exact h v w'' q _ (ha.put hd v)
theorem EC.go {f : FuncId} {xs : List Operand} {vs : List Value} {ats : Array TypeId} {ty : TypeId} {fn : Func} (hf : P.funcs[f]? = some fn) (hn : (!(fn.name == "runtime.NumGoroutine") && fn.body.isSome) = true) (hx : evs σ xs = some vs) :
    EC P n σ (.call { callee := .value (.func f), args := xs.toArray, argTypes := ats }) ty w f vs.toArray := fun a ha dst pos after g => by
  rw [execOp_call_go]
  have : #[] ++ xs.toArray.map a.eval ++ #[] = vs.toArray := by simp [ha.evs hx]
  rw [this]
  exact run_callFunc hf hn _
/-- a call of a function that the text names -/
theorem OW.call {d : Nat} {f : FuncId} {xs : List Operand} {ats : Array TypeId} {ty : TypeId} {pos : String} {after : Array Edge} {g : Option (Nat × Bool)} {vs : List Value} {Q : Value → World → Prop}
    (hg : wantS ops σ g = some true) (hd : Nat.blt d n = true) (hx : evs σ xs = some vs) (hc : Ret P f vs w Q) (h : ∀ v w', Q v w' → OW P R ops rest k n ((d, v) :: σ) w') :
    OW P R ops (⟨some d, .call { callee := .value (.func f), args := xs.toArray, argTypes := ats }, ty, pos, after, g⟩ :: rest) k n σ w := by
  obtain ⟨⟨fn, h1, h2⟩, _⟩ := id hc
  exact OW.callE hg hd (EC.go h1 h2 hx) hc h
end

/-! ### A region that draws its order: all its operations read alone -/
def QW (P : Program) (R : Act → World → Prop) (ops : Array Oper) (l : List Oper) (k : List KI) (n : Nat) (σ : Sig) (w : World) : Prop := ∀ a, Fr n σ a →
  wpQuiet P ops (fun w' => ∃ m, w' = w.drewN m) (fun a' => ∀ w', (∃ m, w' = w.drewN m) → pst P R k .normal a' w') l a
section
variable {P : Program} {R : Act → World → Prop} {ops : Array Oper} {l rest : List Oper} {k : List KI} {n : Nat} {σ : Sig} {w : World}
theorem KW.regionQ {id : Nat} (hm : P.follows .mixedOrders = true) (hB : Region.lexB .any l.toArray = true) (h : QW P R l.toArray l k n σ w) : KW P R (.code (.region id l.toArray true) :: k) n σ w := fun a ha =>
  wp_region_quiet_lit hm hB (h a ha)
theorem QW.nil (h : ∀ m, KW P R k n σ (w.drewN m)) : QW P R ops [] k n σ w := fun a ha => wpQuiet_nil (by rintro w' ⟨m, rfl⟩; exact h m a ha)
theorem QW.val {d : Nat} {op : Op} {ty : TypeId} {pos : String} {after : Array Edge} {g : Option (Nat × Bool)} {v : Value} (hg : wantS ops σ g = some true) (hd : Nat.blt d n = true) (he : ∀ m, EX P n σ op ty (w.drewN m) v (w.drewN m))
    (h : QW P R ops rest k n ((d, v) :: σ) w) : QW P R ops (⟨some d, op, ty, pos, after, g⟩ :: rest) k n σ w := fun a ha => by
  unfold wpQuiet
  rw [if_pos (wantS_spec ha (o := ⟨some d, op, ty, pos, after, g⟩) hg)]
  refine ⟨v, ?_, h _ (ha.put hd v)⟩
  rintro w' ⟨m, rfl⟩
  unfold Oper.quietAt
  rw [he m a ha (some d) pos after g]
  exact ⟨rfl, rfl⟩
theorem QW.pass {d : Nat} {op : Op} {ty : TypeId} {pos : String} {after : Array Edge} {g : Option (Nat × Bool)} (hg : wantS ops σ g = some false) (hd : Nat.blt d n = true)
    (h : QW P R ops rest k n ((d, undef) :: σ) w) : QW P R ops (⟨some d, op, ty, pos, after, g⟩ :: rest) k n σ w := fun a ha => by
  unfold wpQuiet
  rw [if_neg (by rw [wantS_spec ha (o := ⟨some d, op, ty, pos, after, g⟩) hg]; simp)]
  exact h _ (ha.put hd undef)
theorem QW.as (t : Nat) (v' : Value) {v : Value} (ht : lk σ t = some v) (e : v = v') (h : QW P R ops l k n ((t, v') :: σ) w) : QW P R ops l k n σ w := fun a ha =>
  h a ⟨ha.size, fun i u hu => by
    rw [lk_cons] at hu
    by_cases e' : t = i
    · subst e'
      simp at hu
      subst hu
      rw [← e]
      exact ha.val t _ ht
    · simp [e'] at hu
      exact ha.val i u hu, ha.df⟩
theorem QW.splitD (t : Nat) {p : Prop} [Decidable p] (ht : lk σ t = some (.bool (decide p))) (h1 : p → QW P R ops l k n ((t, .bool true) :: σ) w) (h2 : ¬ p → QW P R ops l k n ((t, .bool false) :: σ) w) : QW P R ops l k n σ w := by
  by_cases hp : p
  · exact QW.as t _ ht (by rw [decide_eq_true hp]) (h1 hp)
  · exact QW.as t _ ht (by rw [decide_eq_false hp]) (h2 hp)
/-- a callee that only reads and draws, whatever has been drawn -/
def RetQ (P : Program) (f : FuncId) (args : List Value) (w : World) (v : Value) : Prop := Ret P f args w fun v' w' => v' = v ∧ ∃ m, w' = w.drewN m
theorem QW.call {d : Nat} {f : FuncId} {xs : List Operand} {ats : Array TypeId} {ty : TypeId} {pos : String} {after : Array Edge} {g : Option (Nat × Bool)} {vs : List Value} {v : Value}
    (hg : wantS ops σ g = some true) (hd : Nat.blt d n = true) (hx : evs σ xs = some vs) (hc : ∀ m, RetQ P f vs (w.drewN m) v) (h : QW P R ops rest k n ((d, v) :: σ) w) :
    QW P R ops (⟨some d, .call { callee := .value (.func f), args := xs.toArray, argTypes := ats }, ty, pos, after, g⟩ :: rest) k n σ w := fun a ha => by
  unfold wpQuiet
  rw [if_pos (wantS_spec ha (o := ⟨some d, .call { callee := .value (.func f), args := xs.toArray, argTypes := ats }, ty, pos, after, g⟩) hg)]
  refine ⟨v, ?_, h _ (ha.put hd v)⟩
  rintro w' ⟨m, rfl⟩
  unfold Oper.quietAt
  obtain ⟨⟨fn, h1, h2⟩, hcc⟩ := hc m
  rw [EC.go (n := n) h1 h2 hx a ha (some d) pos after g]
  refine ⟨rfl, hcc.mono ?_⟩
  rintro e w'' ⟨v', rfl, rfl, m', rfl⟩
  exact ⟨rfl, m + m', by rw [World.drewN_drewN]⟩
end

/-! ### A region that draws its order: its first operations leave the world alone, the others come in order -/
def HW (P : Program) (R : Act → World → Prop) (ops : Array Oper) (l : List Oper) (N : Nat) (k : List KI) (n : Nat) (σ : Sig) (w : World) : Prop := ∀ a, Fr n σ a →
  wpStill P ops w (fun a' => wpList P ops (pst P R k) (l.drop N) a' w) (l.take N) a
section
variable {P : Program} {R : Act → World → Prop} {ops : Array Oper} {l rest : List Oper} {N : Nat} {k : List KI} {n : Nat} {σ : Sig} {w : World}
theorem KW.regionH {id : Nat} (N : Nat) (hm : P.follows .mixedOrders = true) (hB : Region.lexTailB .any l.toArray N = true) (h : HW P R l.toArray l N k n σ w.drew) : KW P R (.code (.region id l.toArray true) :: k) n σ w := fun a ha =>
  wp_region_still_tail N hm hB (h a ha)
theorem HW.tail (h : OW P R ops l k n σ w) : HW P R ops l 0 k n σ w := fun a ha => wpStill_nil (h a ha)
theorem HW.val {d : Nat} {op : Op} {ty : TypeId} {pos : String} {after : Array Edge} {g : Option (Nat × Bool)} {v : Value} (hg : wantS ops σ g = some true) (hd : Nat.blt d n = true) (he : EX P n σ op ty w v w)
    (h : HW P R ops rest N k n ((d, v) :: σ) w) : HW P R ops (⟨some d, op, ty, pos, after, g⟩ :: rest) (N + 1) k n σ w := fun a ha => by
  show wpStill P ops w _ (_ :: rest.take N) a
  unfold wpStill
  rw [if_pos (wantS_spec ha (o := ⟨some d, op, ty, pos, after, g⟩) hg)]
  unfold Oper.still
  rw [he a ha (some d) pos after g]
  exact ⟨rfl, h _ (ha.put hd v)⟩
theorem HW.pass {d : Nat} {op : Op} {ty : TypeId} {pos : String} {after : Array Edge} {g : Option (Nat × Bool)} (hg : wantS ops σ g = some false) (hd : Nat.blt d n = true)
    (h : HW P R ops rest N k n ((d, undef) :: σ) w) : HW P R ops (⟨some d, op, ty, pos, after, g⟩ :: rest) (N + 1) k n σ w := fun a ha => by
  show wpStill P ops w _ (_ :: rest.take N) a
  unfold wpStill
  rw [if_neg (by rw [wantS_spec ha (o := ⟨some d, op, ty, pos, after, g⟩) hg]; simp)]
  exact h _ (ha.put hd undef)
theorem HW.as (t : Nat) (v' : Value) {v : Value} (ht : lk σ t = some v) (e : v = v') (h : HW P R ops l N k n ((t, v') :: σ) w) : HW P R ops l N k n σ w := fun a ha =>
  h a ⟨ha.size, fun i u hu => by
    rw [lk_cons] at hu
    by_cases e' : t = i
    · subst e'
      simp at hu
      subst hu
      rw [← e]
      exact ha.val t _ ht
    · simp [e'] at hu
      exact ha.val i u hu, ha.df⟩
theorem HW.splitD (t : Nat) {p : Prop} [Decidable p] (ht : lk σ t = some (.bool (decide p))) (h1 : p → HW P R ops l N k n ((t, .bool true) :: σ) w) (h2 : ¬ p → HW P R ops l N k n ((t, .bool false) :: σ) w) : HW P R ops l N k n σ w := by
  by_cases hp : p
  · exact HW.as t _ ht (by rw [decide_eq_true hp]) (h1 hp)
  · exact HW.as t _ ht (by rw [decide_eq_false hp]) (h2 hp)
theorem HW.call {d : Nat} {f : FuncId} {xs : List Operand} {ats : Array TypeId} {ty : TypeId} {pos : String} {after : Array Edge} {g : Option (Nat × Bool)} {vs : List Value} {v : Value}
    (hg : wantS ops σ g = some true) (hd : Nat.blt d n = true) (hx : evs σ xs = some vs) (hc : Ret P f vs w fun v' w' => v' = v ∧ w' = w) (h : HW P R ops rest N k n ((d, v) :: σ) w) :
    HW P R ops (⟨some d, .call { callee := .value (.func f), args := xs.toArray, argTypes := ats }, ty, pos, after, g⟩ :: rest) (N + 1) k n σ w := fun a ha => by
  show wpStill P ops w _ (_ :: rest.take N) a
  unfold wpStill
  rw [if_pos (wantS_spec ha (o := ⟨some d, .call { callee := .value (.func f), args := xs.toArray, argTypes := ats }, ty, pos, after, g⟩) hg)]
  unfold Oper.still
  obtain ⟨⟨fn, h1, h2⟩, hcc⟩ := hc
  rw [EC.go (n := n) h1 h2 hx a ha (some d) pos after g]
  refine ⟨rfl, v, hcc.mono ?_, h _ (ha.put hd v)⟩
  rintro e w'' ⟨v', rfl, rfl, rfl⟩
  exact ⟨rfl, rfl⟩
end

/-! ### A function -/
def argSig : Nat → List Value → Sig
  | _, [] => []
  | i, v :: r => (i, v) :: argSig (i + 1) r
theorem argSig_lk : ∀ (l : List Value) (i t : Nat) (v : Value), lk (argSig i l) t = some v → i ≤ t ∧ l[t - i]? = some v
  | [], _, _, _, h => by simp [argSig, lk] at h
  | u :: r, i, t, v, h => by
    simp only [argSig] at h
    rw [lk_cons] at h
    by_cases e : i = t
    · subst e
      simp at h
      subst h
      simp
    · simp [e] at h
      obtain ⟨h1, h2⟩ := argSig_lk r (i + 1) t v h
      refine ⟨by omega, ?_⟩
      rw [show t - i = (t - (i + 1)) + 1 by omega]
      simpa using h2
theorem Fr.start (args : List Value) (m : Nat) : Fr (args.length + m) (argSig 0 args) { tmps := args.toArray ++ Array.replicate m undef, defers := [] } :=
  ⟨by simp, fun t v h => by
    obtain ⟨_, h2⟩ := argSig_lk args 0 t v h
    have hlt : t < args.length := by
      rcases Nat.lt_or_ge t args.length with h' | h'
      · exact h'
      · simp [List.getElem?_eq_none h'] at h2
    rw [Array.getElem?_append_left (by simpa using hlt)]
    simpa using h2, rfl⟩
/-- enter a function -/
theorem Ret.enter {P : Program} {f : FuncId} {fn : Func} {c : Code} {args : List Value} {w : World} {Q : Value → World → Prop} {n : Nat} (hf : P.funcs[f]? = some fn) (hb : fn.body = some c) (hnt : fn.ntmps = n)
    (hn : (!(fn.name == "runtime.NumGoroutine") && fn.body.isSome) = true) (hl : args.length + (n - args.length) = n)
    (h : KW P (fun a w' => bodyPost P fn (fun e w' => ∃ v, e = .returned v ∧ Q v w') .ret a w') [.code c] n (argSig 0 args) w) : Ret P f args w Q := by
  refine ⟨⟨fn, hf, hn⟩, calls_of_wp hf hb ?_⟩
  have hfr : Fr n (argSig 0 args) { tmps := args.toArray ++ Array.replicate (fn.ntmps - args.toArray.size) undef, defers := [] } := by
    have := Fr.start args (n - args.length)
    rw [hl] at this
    simpa [hnt] using this
  have h1 := h _ hfr
  simp only [pst] at h1
  refine Code.wp_mono (fun e a' w' q => ?_) h1
  cases e with
  | normal => exact q
  | ret => exact q
  | _ => exact q.elim
section
variable {P : Program} {fn : Func} {Q : Value → World → Prop} {n : Nat} {σ : Sig} {w : World} {k : List KI}
theorem ret_of {v : Value} (hr : ∀ a, Fr n σ a → (results fn a.tmps).run P w = .ok v w) (hq : Q v w) : ∀ a, Fr n σ a → bodyPost P fn (fun e w' => ∃ v, e = .returned v ∧ Q v w') .ret a w :=
  fun a ha => ⟨ha.df, v, hr a ha, v, rfl, hq⟩
theorem ret1 {t : Nat} {v : Value} (hs : fn.results = #[.tmp t]) (hv : lk σ t = some v) (hq : Q v w) : ∀ a, Fr n σ a → bodyPost P fn (fun e w' => ∃ v, e = .returned v ∧ Q v w') .ret a w :=
  ret_of (fun a ha => by rw [results_tmp hs]; simp [ha.val t v hv]) hq
theorem ret0 (hs : fn.results = #[]) (hq : Q (.tuple #[]) w) : ∀ a, Fr n σ a → bodyPost P fn (fun e w' => ∃ v, e = .returned v ∧ Q v w') .ret a w :=
  ret_of (fun _ _ => results_none hs _ _ _) hq
theorem ret2 {t u : Nat} {v x : Value} (hs : fn.results = #[.tmp t, .tmp u]) (hv : lk σ t = some v) (hx : lk σ u = some x) (hq : Q (.tuple #[v, x]) w) : ∀ a, Fr n σ a → bodyPost P fn (fun e w' => ∃ v, e = .returned v ∧ Q v w') .ret a w :=
  ret_of (fun a ha => by rw [results_tmp2 hs]; simp [ha.val t v hv, ha.val u x hx]) hq
theorem ret3 {t u s : Nat} {v x y : Value} (hs : fn.results = #[.tmp t, .tmp u, .tmp s]) (hv : lk σ t = some v) (hx : lk σ u = some x) (hy : lk σ s = some y) (hq : Q (.tuple #[v, x, y]) w) :
    ∀ a, Fr n σ a → bodyPost P fn (fun e w' => ∃ v, e = .returned v ∧ Q v w') .ret a w :=
  ret_of (fun a ha => by rw [results_tmp3 hs]; simp [ha.val t v hv, ha.val u x hx, ha.val s y hy]) hq
end
end Go.Proofs.YtjgeoeeikfjmdaaGreatDoor
/- The engine's laws, operation by operation: numbers, bools, strings. -/
namespace Go.Proofs.YtjgeoeeikfjmdaaGreatDoor
set_option linter.unnecessarySimpa false
open Go.RowKit
set_option linter.unusedSimpArgs false
set_option linter.unusedVariables false

def maxN : IntKind → Nat
  | .i8 => 127 | .i16 => 32767 | .i32 => 2147483647 | .i64 => 9223372036854775807
  | .u8 => 255 | .u16 => 65535 | .u32 => 4294967295 | .u64 => 18446744073709551615
/-- the modulus of an unsigned kind -/
def modN : IntKind → Nat
  | .u8 => 256 | .u16 => 65536 | .u32 => 4294967296 | .u64 => 18446744073709551616 | _ => 0
theorem wrap_fit {k : IntKind} {m a : Nat} (hm : maxN k = m) (h : a ≤ m) : k.wrap (a : Int) = a := by
  subst hm
  cases k <;> simp only [maxN] at h <;> first
    | exact IntWalk.i8_in _ (by omega) | exact IntWalk.i16_in _ (by omega) | exact IntWalk.i32_in _ (by omega) | exact IntWalk.i64_in _ (by omega)
    | exact IntWalk.u8_in _ (by omega) | exact IntWalk.u16_in _ (by omega) | exact IntWalk.u32_in _ (by omega) | exact IntWalk.u64_in _ (by omega)
theorem wrap_mod {k : IntKind} {m a : Nat} (hm : modN k = m) (hp : 0 < m) : k.wrap (a : Int) = ((a % m : Nat) : Int) := by
  subst hm
  cases k <;> simp [modN] at hp <;> simp [modN, IntKind.wrap, IntKind.bits, IntKind.signed]
theorem wrap_fitZ {k : IntKind} {m : Nat} {a : Int} (hs : k.signed = true) (hm : maxN k = m) (h : -((m : Int) + 1) ≤ a ∧ a ≤ m) : k.wrap a = a := by
  subst hm
  cases k <;> simp [IntKind.signed] at hs <;> simp only [maxN] at h <;> first
    | exact IntWalk.i8_in _ (by omega) | exact IntWalk.i16_in _ (by omega) | exact IntWalk.i32_in _ (by omega) | exact IntWalk.i64_in _ (by omega)
theorem maxN_lt (k : IntKind) : maxN k < 2 ^ k.bits := by cases k <;> decide

/-- a text -/
abbrev str (l : List UInt8) : Value := .string ⟨⟨l⟩⟩

section
variable {P : Program} {n : Nat} {σ : Sig} {w : World} {t t' : TypeId} {ty : TypeId} {x y : Operand} {k : IntKind} {a b m : Nat} {c d : Int}
theorem EX.move {v : Value} (hx : ev σ x = some v) : EX P n σ (.move x) ty w v w := fun a ha dst pos after g => by
  simp only [execOp, ha.ev hx]; rfl
theorem EX.assign {v : Value} (hx : ev σ x = some v) : EX P n σ (.assign x) ty w v w := fun a ha dst pos after g => by
  simp only [execOp, ha.ev hx]; rfl
theorem EX.pickT {z : Operand} {v : Value} (hx : ev σ x = some (.bool true)) (hy : ev σ y = some v) : EX P n σ (.pick x y z) ty w v w := fun a ha dst pos after g => by
  simp only [execOp, ha.ev hx, ha.ev hy]; rfl
theorem EX.pickF {z : Operand} {v : Value} (hx : ev σ x = some (.bool false)) (hz : ev σ z = some v) : EX P n σ (.pick x y z) ty w v w := fun a ha dst pos after g => by
  simp only [execOp, ha.ev hx, ha.ev hz]; rfl
theorem EX.bin {op : BinOp} {u v r : Value} (hx : ev σ x = some u) (hy : ev σ y = some v) (hg : (eqGuard op t x y u v).run P w = .ok () w) (hr : (binOp op t u v).run P w = .ok r w) : EX P n σ (.binOp op t x y t') ty w r w := fun a ha dst pos after g => by
  simp only [execOp, ha.ev hx, ha.ev hy, Sem.run_bind, hg, hr, Result.andThen_ok]; rfl
theorem guard_int (op : BinOp) (i j : Int) : (eqGuard op t x y (.int k i) (.int k j)).run P w = .ok () w := by
  unfold eqGuard; cases op <;> rfl
theorem guard_bool (op : BinOp) (i j : Bool) : (eqGuard op t x y (.bool i) (.bool j)).run P w = .ok () w := by
  unfold eqGuard; cases op <;> rfl
theorem guard_str (op : BinOp) (i j : ByteArray) : (eqGuard op t x y (.string i) (.string j)).run P w = .ok () w := by
  unfold eqGuard; cases op <;> rfl
theorem EX.binI {op : BinOp} {i j : Int} {r : Value} (hx : ev σ x = some (.int k i)) (hy : ev σ y = some (.int k j)) (hr : (binOp op t (.int k i) (.int k j)).run P w = .ok r w) : EX P n σ (.binOp op t x y t') ty w r w :=
  EX.bin hx hy (guard_int op i j) hr
theorem EX.addN (hx : ev σ x = some (.int k (a : Int))) (hy : ev σ y = some (.int k (b : Int))) (hm : maxN k = m) (h : a + b ≤ m) : EX P n σ (.binOp .add t x y t') ty w (.int k ((a + b : Nat) : Int)) w :=
  EX.binI hx hy (by
    have := wrap_fit hm h
    simp only [Int.natCast_add] at this ⊢
    simp [binOp, Op.intArith, this])
theorem EX.subN (hx : ev σ x = some (.int k (a : Int))) (hy : ev σ y = some (.int k (b : Int))) (hm : maxN k = m) (h : b ≤ a ∧ a ≤ m) : EX P n σ (.binOp .sub t x y t') ty w (.int k ((a - b : Nat) : Int)) w :=
  EX.binI hx hy (by
    have := wrap_fit hm (show a - b ≤ m by omega)
    rw [Int.natCast_sub h.1] at this ⊢
    simp [binOp, Op.intArith, this])
theorem EX.mulN (hx : ev σ x = some (.int k (a : Int))) (hy : ev σ y = some (.int k (b : Int))) (hm : maxN k = m) (h : a * b ≤ m) : EX P n σ (.binOp .mul t x y t') ty w (.int k ((a * b : Nat) : Int)) w :=
  EX.binI hx hy (by
    have := wrap_fit hm h
    simp only [Int.natCast_mul] at this ⊢
    simp [binOp, Op.intArith, this])
theorem EX.addW (hx : ev σ x = some (.int k (a : Int))) (hy : ev σ y = some (.int k (b : Int))) (hm : modN k = m) (hp : 0 < m) : EX P n σ (.binOp .add t x y t') ty w (.int k (((a + b) % m : Nat) : Int)) w :=
  EX.binI hx hy (by
    have := wrap_mod (a := a + b) hm hp
    rw [← this]
    simp [binOp, Op.intArith])
theorem EX.mulW (hx : ev σ x = some (.int k (a : Int))) (hy : ev σ y = some (.int k (b : Int))) (hm : modN k = m) (hp : 0 < m) : EX P n σ (.binOp .mul t x y t') ty w (.int k (((a * b) % m : Nat) : Int)) w :=
  EX.binI hx hy (by
    have := wrap_mod (a := a * b) hm hp
    rw [← this]
    simp [binOp, Op.intArith])
theorem EX.quoN (hx : ev σ x = some (.int k (a : Int))) (hy : ev σ y = some (.int k (b : Int))) (hm : maxN k = m) (h : 0 < b ∧ a ≤ m) : EX P n σ (.binOp .quo t x y t') ty w (.int k ((a / b : Nat) : Int)) w :=
  EX.binI hx hy (by
    have hle : a / b ≤ a := Nat.div_le_self _ _
    have := wrap_fit hm (show a / b ≤ m by omega)
    have hb : ¬ (b : Int) = 0 := by omega
    have hq : (a : Int).tdiv b = ((a / b : Nat) : Int) := rfl
    unfold binOp
    simp only [ne_eq, not_true_eq_false, if_false, Op.intDiv, if_neg hb, hq, this]
    rfl)
theorem EX.remN (hx : ev σ x = some (.int k (a : Int))) (hy : ev σ y = some (.int k (b : Int))) (h : 0 < b) : EX P n σ (.binOp .rem t x y t') ty w (.int k ((a % b : Nat) : Int)) w :=
  EX.binI hx hy (by
    have hb : ¬ (b : Int) = 0 := by omega
    have hq : (a : Int).tmod b = ((a % b : Nat) : Int) := rfl
    unfold binOp
    simp only [ne_eq, not_true_eq_false, if_false, Op.intDiv, if_neg hb, hq]
    rfl)
theorem ofInt_fit {k : IntKind} {a : Nat} (h : a ≤ maxN k) : (BitVec.ofInt k.bits (a : Int)).toNat = a := by
  rw [BitVec.ofInt_natCast, BitVec.toNat_ofNat]
  exact Nat.mod_eq_of_lt (Nat.lt_of_le_of_lt h (maxN_lt k))
theorem mod_fit {k : IntKind} {a : Nat} (h : a ≤ maxN k) : a % 2 ^ k.bits = a := Nat.mod_eq_of_lt (Nat.lt_of_le_of_lt h (maxN_lt k))
theorem bits_le (k : IntKind) : ∃ j, maxN k + 1 = 2 ^ j := by cases k <;> first | exact ⟨7, rfl⟩ | exact ⟨15, rfl⟩ | exact ⟨31, rfl⟩ | exact ⟨63, rfl⟩ | exact ⟨8, rfl⟩ | exact ⟨16, rfl⟩ | exact ⟨32, rfl⟩ | exact ⟨64, rfl⟩
theorem EX.andN (hx : ev σ x = some (.int k (a : Int))) (hy : ev σ y = some (.int k (b : Int))) (hm : maxN k = m) (h : a ≤ m ∧ b ≤ m) : EX P n σ (.binOp .and t x y t') ty w (.int k ((a &&& b : Nat) : Int)) w :=
  EX.binI hx hy (by
    subst hm
    have hle : a &&& b ≤ a := Nat.and_le_left
    have := wrap_fit rfl (show a &&& b ≤ maxN k by omega)
    simp [binOp, Op.intBits, mod_fit h.1, mod_fit h.2, this])
theorem EX.orN (hx : ev σ x = some (.int k (a : Int))) (hy : ev σ y = some (.int k (b : Int))) (hm : maxN k = m) (h : a ≤ m ∧ b ≤ m) : EX P n σ (.binOp .or t x y t') ty w (.int k ((a ||| b : Nat) : Int)) w :=
  EX.binI hx hy (by
    subst hm
    obtain ⟨j, hj⟩ := bits_le k
    have hlt : a ||| b < 2 ^ j := Nat.or_lt_two_pow (by omega) (by omega)
    have := wrap_fit rfl (show a ||| b ≤ maxN k by omega)
    simp [binOp, Op.intBits, mod_fit h.1, mod_fit h.2, this])
theorem EX.xorN (hx : ev σ x = some (.int k (a : Int))) (hy : ev σ y = some (.int k (b : Int))) (hm : maxN k = m) (h : a ≤ m ∧ b ≤ m) : EX P n σ (.binOp .xor t x y t') ty w (.int k ((a ^^^ b : Nat) : Int)) w :=
  EX.binI hx hy (by
    subst hm
    obtain ⟨j, hj⟩ := bits_le k
    have hlt : a ^^^ b < 2 ^ j := Nat.xor_lt_two_pow (by omega) (by omega)
    have := wrap_fit rfl (show a ^^^ b ≤ maxN k by omega)
    simp [binOp, Op.intBits, mod_fit h.1, mod_fit h.2, this])
/-- the lowest j bits -/
theorem EX.maskN {j p : Nat} (hx : ev σ x = some (.int k (a : Int))) (hy : ev σ y = some (.int k (b : Int))) (hp : 2 ^ j = p) (hb : b + 1 = p) (hm : maxN k = m) (h : a ≤ m ∧ b ≤ m) : EX P n σ (.binOp .and t x y t') ty w (.int k ((a % p : Nat) : Int)) w := by
  have h1 := EX.andN (P := P) (n := n) (w := w) (t := t) (t' := t') (ty := ty) hx hy hm h
  have : a &&& b = a % p := by
    rw [show b = p - 1 by omega, ← hp]
    exact Nat.and_two_pow_sub_one_eq_mod a j
  rwa [this] at h1
theorem EX.maskN' {j p : Nat} (hx : ev σ x = some (.int k (a : Int))) (hy : ev σ y = some (.int k (b : Int))) (hp : 2 ^ j = p) (hb : a + 1 = p) (hm : maxN k = m) (h : a ≤ m ∧ b ≤ m) : EX P n σ (.binOp .and t x y t') ty w (.int k ((b % p : Nat) : Int)) w := by
  have h1 := EX.andN (P := P) (n := n) (w := w) (t := t) (t' := t') (ty := ty) hx hy hm h
  have : a &&& b = b % p := by
    rw [Nat.and_comm, show a = p - 1 by omega, ← hp]
    exact Nat.and_two_pow_sub_one_eq_mod b j
  rwa [this] at h1
/-- a shift by a constant below the kind's bits -/
theorem EX.shlN {s p : Nat} {k' : IntKind} (hx : ev σ x = some (.int k (a : Int))) (hy : ev σ y = some (.int k' (s : Int))) (hp : 2 ^ s = p) (hs : s ≤ k.bits) (hm : maxN k = m) (h : a * p ≤ m) :
    EX P n σ (.binOp .shl t x y t') ty w (.int k ((a * p : Nat) : Int)) w :=
  EX.bin hx hy (by unfold eqGuard; rfl) (by
    subst hp
    have := wrap_fit hm h
    have hn : ¬ (s : Int) < 0 := by omega
    simp only [Int.natCast_mul, Int.natCast_pow, Int.cast_ofNat_Int] at this ⊢
    simp [binOp, Op.shift, hn, Nat.min_eq_left hs, this])
theorem EX.shlW {s p : Nat} {k' : IntKind} (hx : ev σ x = some (.int k (a : Int))) (hy : ev σ y = some (.int k' (s : Int))) (hp : 2 ^ s = p) (hs : s ≤ k.bits) (hm : modN k = m) (h : 0 < m) :
    EX P n σ (.binOp .shl t x y t') ty w (.int k (((a * p) % m : Nat) : Int)) w :=
  EX.bin hx hy (by unfold eqGuard; rfl) (by
    subst hp
    have := wrap_mod (a := a * 2 ^ s) hm h
    have hn : ¬ (s : Int) < 0 := by omega
    rw [← this]
    simp only [Int.natCast_mul, Int.natCast_pow, Int.cast_ofNat_Int]
    simp [binOp, Op.shift, hn, Nat.min_eq_left hs])
theorem EX.shrN {s p : Nat} {k' : IntKind} (hx : ev σ x = some (.int k (a : Int))) (hy : ev σ y = some (.int k' (s : Int))) (hp : 2 ^ s = p) (hs : s ≤ k.bits) :
    EX P n σ (.binOp .shr t x y t') ty w (.int k ((a / p : Nat) : Int)) w :=
  EX.bin hx hy (by unfold eqGuard; rfl) (by
    subst hp
    have hn : ¬ (s : Int) < 0 := by omega
    have hf : (a : Int).fdiv (2 ^ s) = ((a / 2 ^ s : Nat) : Int) := by
      rw [Int.fdiv_eq_ediv_of_nonneg _ (by exact_mod_cast Nat.zero_le _)]
      simp
    simp [binOp, Op.shift, hn, Nat.min_eq_left hs, hf])
theorem run_cmp {op : BinOp} {i j : Int} {q : Bool} (h : (Op.intCmp op i j).run P w = .ok (.bool q) w) (ho : (match op with | .eql | .neq | .lss | .leq | .gtr | .geq => true | _ => false) = true) : (binOp op t (.int k i) (.int k j)).run P w = .ok (.bool q) w := by
  cases op <;> simp at ho <;> simpa [binOp] using h
theorem EX.lssN (hx : ev σ x = some (.int k (a : Int))) (hy : ev σ y = some (.int k (b : Int))) : EX P n σ (.binOp .lss t x y t') ty w (.bool (decide (a < b))) w :=
  EX.binI hx hy (run_cmp (by simp [Op.intCmp]) rfl)
theorem EX.leqN (hx : ev σ x = some (.int k (a : Int))) (hy : ev σ y = some (.int k (b : Int))) : EX P n σ (.binOp .leq t x y t') ty w (.bool (decide (a ≤ b))) w :=
  EX.binI hx hy (run_cmp (by simp [Op.intCmp]) rfl)
theorem EX.gtrN (hx : ev σ x = some (.int k (a : Int))) (hy : ev σ y = some (.int k (b : Int))) : EX P n σ (.binOp .gtr t x y t') ty w (.bool (decide (b < a))) w :=
  EX.binI hx hy (run_cmp (by simp [Op.intCmp]) rfl)
theorem EX.geqN (hx : ev σ x = some (.int k (a : Int))) (hy : ev σ y = some (.int k (b : Int))) : EX P n σ (.binOp .geq t x y t') ty w (.bool (decide (b ≤ a))) w :=
  EX.binI hx hy (run_cmp (by simp [Op.intCmp]) rfl)
theorem EX.eqlN (hx : ev σ x = some (.int k (a : Int))) (hy : ev σ y = some (.int k (b : Int))) : EX P n σ (.binOp .eql t x y t') ty w (.bool (decide (a = b))) w :=
  EX.binI hx hy (run_cmp (by
    have : ((a : Int) == (b : Int)) = decide (a = b) := by rw [Bool.eq_iff_iff]; simp; omega
    simp only [Op.intCmp, this]; rfl) rfl)
theorem EX.neqN (hx : ev σ x = some (.int k (a : Int))) (hy : ev σ y = some (.int k (b : Int))) : EX P n σ (.binOp .neq t x y t') ty w (.bool (decide (a ≠ b))) w :=
  EX.binI hx hy (run_cmp (by
    have : ((a : Int) != (b : Int)) = decide (a ≠ b) := by rw [Bool.eq_iff_iff]; simp; omega
    simp only [Op.intCmp, this]; rfl) rfl)
theorem EX.lssZ (hx : ev σ x = some (.int k c)) (hy : ev σ y = some (.int k d)) : EX P n σ (.binOp .lss t x y t') ty w (.bool (decide (c < d))) w :=
  EX.binI hx hy (run_cmp (by simp [Op.intCmp]) rfl)
theorem EX.leqZ (hx : ev σ x = some (.int k c)) (hy : ev σ y = some (.int k d)) : EX P n σ (.binOp .leq t x y t') ty w (.bool (decide (c ≤ d))) w :=
  EX.binI hx hy (run_cmp (by simp [Op.intCmp]) rfl)
theorem EX.gtrZ (hx : ev σ x = some (.int k c)) (hy : ev σ y = some (.int k d)) : EX P n σ (.binOp .gtr t x y t') ty w (.bool (decide (d < c))) w :=
  EX.binI hx hy (run_cmp (by simp [Op.intCmp]) rfl)
theorem EX.geqZ (hx : ev σ x = some (.int k c)) (hy : ev σ y = some (.int k d)) : EX P n σ (.binOp .geq t x y t') ty w (.bool (decide (d ≤ c))) w :=
  EX.binI hx hy (run_cmp (by simp [Op.intCmp]) rfl)
theorem EX.eqlZ (hx : ev σ x = some (.int k c)) (hy : ev σ y = some (.int k d)) : EX P n σ (.binOp .eql t x y t') ty w (.bool (decide (c = d))) w :=
  EX.binI hx hy (run_cmp (by simp [Op.intCmp, BEq.beq]) rfl)
theorem EX.neqZ (hx : ev σ x = some (.int k c)) (hy : ev σ y = some (.int k d)) : EX P n σ (.binOp .neq t x y t') ty w (.bool (decide (c ≠ d))) w :=
  EX.binI hx hy (run_cmp (by simp [Op.intCmp, bne, BEq.beq]) rfl)
theorem EX.addZ (hx : ev σ x = some (.int k c)) (hy : ev σ y = some (.int k d)) (hs : k.signed = true) (hm : maxN k = m) (h : -((m : Int) + 1) ≤ c + d ∧ c + d ≤ m) : EX P n σ (.binOp .add t x y t') ty w (.int k (c + d)) w :=
  EX.binI hx hy (by simp [binOp, Op.intArith, wrap_fitZ hs hm h])
theorem EX.subZ (hx : ev σ x = some (.int k c)) (hy : ev σ y = some (.int k d)) (hs : k.signed = true) (hm : maxN k = m) (h : -((m : Int) + 1) ≤ c - d ∧ c - d ≤ m) : EX P n σ (.binOp .sub t x y t') ty w (.int k (c - d)) w :=
  EX.binI hx hy (by simp [binOp, Op.intArith, wrap_fitZ hs hm h])
theorem EX.mulZ (hx : ev σ x = some (.int k c)) (hy : ev σ y = some (.int k d)) (hs : k.signed = true) (hm : maxN k = m) (h : -((m : Int) + 1) ≤ c * d ∧ c * d ≤ m) : EX P n σ (.binOp .mul t x y t') ty w (.int k (c * d)) w :=
  EX.binI hx hy (by simp [binOp, Op.intArith, wrap_fitZ hs hm h])
/-- complement -/
theorem EX.notN (hx : ev σ x = some (.int k (a : Int))) (hs : k.signed = false) (hm : maxN k = m) (h : a ≤ m) : EX P n σ (.unOp .xor t x) ty w (.int k ((m - a : Nat) : Int)) w := fun A ha dst pos after g => by
  subst hm
  have hk : (maxN k : Int) = k.max := by cases k <;> first | rfl | simp [IntKind.signed] at hs
  have h1 : (BitVec.ofInt k.bits k.max ^^^ BitVec.ofInt k.bits (a : Int)).toNat = maxN k - a := by
    have hall : BitVec.ofInt k.bits k.max = BitVec.allOnes k.bits := by cases k <;> first | rfl | simp [IntKind.signed] at hs
    rw [hall, BitVec.allOnes_xor, BitVec.toNat_not, ofInt_fit h]
    have : maxN k + 1 = 2 ^ k.bits := by cases k <;> first | rfl | simp [IntKind.signed] at hs
    omega
  have := wrap_fit rfl (show maxN k - a ≤ maxN k by omega)
  simp only [execOp, ha.ev hx]
  simp only [Op.unary, Op.intBits, hs, Bool.false_eq_true, if_false, h1, this]
  rfl
theorem EX.convN {s e : TypeId} {k' : IntKind} {dd : TypeDesc} (hu : P.underlying s = some dd) (hv : P.underlying e = some (.int k)) (hx : ev σ x = some (.int k' (a : Int))) (hm : maxN k = m) (h : a ≤ m) : EX P n σ (.convert s e x) ty w (.int k (a : Int)) w := fun A ha dst pos after g => by
  have := wrap_fit hm h
  simp only [execOp, ha.ev hx]
  simp [convert, run_underlying hu, run_underlying hv, Sem.run_bind, Conv.intToInt, this]
theorem EX.convW {s e : TypeId} {k' : IntKind} {dd : TypeDesc} (hu : P.underlying s = some dd) (hv : P.underlying e = some (.int k)) (hx : ev σ x = some (.int k' (a : Int))) (hm : modN k = m) (h : 0 < m) : EX P n σ (.convert s e x) ty w (.int k ((a % m : Nat) : Int)) w := fun A ha dst pos after g => by
  have := wrap_mod (a := a) hm h
  simp only [execOp, ha.ev hx]
  simp [convert, run_underlying hu, run_underlying hv, Sem.run_bind, Conv.intToInt, this]
theorem EX.convZ {s e : TypeId} {k' : IntKind} {dd : TypeDesc} (hu : P.underlying s = some dd) (hv : P.underlying e = some (.int k)) (hx : ev σ x = some (.int k' c)) : EX P n σ (.convert s e x) ty w (.int k (k.wrap c)) w := fun A ha dst pos after g => by
  simp only [execOp, ha.ev hx]
  simp [convert, run_underlying hu, run_underlying hv, Sem.run_bind, Conv.intToInt]
theorem EX.extract {i : Nat} {vs : Array Value} {v : Value} (hx : ev σ x = some (.tuple vs)) (hi : vs[i]? = some v) : EX P n σ (.extract x i) ty w v w := fun A ha dst pos after g => by
  simp only [execOp, ha.ev hx]
  simp [Instr.extract, hi]
theorem EX.notB {p : Bool} (hx : ev σ x = some (.bool p)) : EX P n σ (.unOp .not t x) ty w (.bool !p) w := fun A ha dst pos after g => by
  simp only [execOp, ha.ev hx]; rfl
end
section
variable {P : Program} {n : Nat} {σ : Sig} {w : World} {t t' : TypeId} {ty : TypeId} {x y : Operand} {s r : List UInt8}
theorem EX.lenS (ht : P.underlying t = some .string) (hx : ev σ x = some (str s)) : EX P n σ (.call { callee := .builtin .len, args := #[x], argTypes := #[t] }) ty w (.int .i64 (s.length : Int)) w := fun A ha dst pos after g => by
  simp only [execOp, resolve, invoke, builtin, Sem.run_bind, Sem.run_pure, Result.andThen_ok, List.map_toArray, List.map_cons, List.map_nil, ha.ev hx]
  simp [Builtin.len_, run_underlying ht, goInt]
  rfl
theorem EX.lenA {e : TypeId} {A : Option Addr} {l c : Nat} (ht : P.underlying t = some (.slice e)) (hx : ev σ x = some (.slice A l c)) : EX P n σ (.call { callee := .builtin .len, args := #[x], argTypes := #[t] }) ty w (.int .i64 (l : Int)) w := fun A ha dst pos after g => by
  simp only [execOp, resolve, invoke, builtin, Sem.run_bind, Sem.run_pure, Result.andThen_ok, List.map_toArray, List.map_cons, List.map_nil, ha.ev hx]
  simp [Builtin.len_, run_underlying ht, goInt]
theorem EX.indexS {i : Nat} {k : IntKind} {c : UInt8} (ht : P.underlying t = some .string) (hx : ev σ x = some (str s)) (hy : ev σ y = some (.int k (i : Int))) (hi : s[i]? = some c) : EX P n σ (.index t x y) ty w (.int .u8 (c.toNat : Int)) w := fun A ha dst pos after g => by
  obtain ⟨hlt, he⟩ := List.getElem?_eq_some_iff.1 hi
  have h1 : (⟨⟨s⟩⟩ : ByteArray)[i]? = some c := by
    have hsz : i < (⟨⟨s⟩⟩ : ByteArray).size := hlt
    have h2 : (⟨⟨s⟩⟩ : ByteArray)[i] = c := he
    rw [getElem?_pos (⟨⟨s⟩⟩ : ByteArray) i hsz, h2]
  simp only [execOp, ha.ev hx, ha.ev hy]
  simp [Instr.index, asIntOf, run_underlying ht, Sem.run_bind, h1]
theorem EX.eqlS (hx : ev σ x = some (str s)) (hy : ev σ y = some (str r)) : EX P n σ (.binOp .eql t x y t') ty w (.bool (decide (s = r))) w :=
  EX.bin hx hy (guard_str _ _ _) (by
    have : (ByteArray.toList ⟨⟨s⟩⟩ == ByteArray.toList ⟨⟨r⟩⟩) = decide (s = r) := by
      rw [Bool.eq_iff_iff]; simp
    simp only [binOp, Op.stringOp, this]
    rfl)
theorem EX.neqS (hx : ev σ x = some (str s)) (hy : ev σ y = some (str r)) : EX P n σ (.binOp .neq t x y t') ty w (.bool (decide (s ≠ r))) w :=
  EX.bin hx hy (guard_str _ _ _) (by
    have : (!(ByteArray.toList ⟨⟨s⟩⟩ == ByteArray.toList ⟨⟨r⟩⟩)) = decide (s ≠ r) := by
      rw [Bool.eq_iff_iff]; simp
    simp only [binOp, Op.stringOp, this]
    rfl)
/-- a text ahead of another, byte by byte -/
def lessB : List UInt8 → List UInt8 → Bool := Op.bytesLess
theorem EX.lssS (hx : ev σ x = some (str s)) (hy : ev σ y = some (str r)) : EX P n σ (.binOp .lss t x y t') ty w (.bool (lessB s r)) w :=
  EX.bin hx hy (guard_str _ _ _) (by
    have h1 : ByteArray.toList ⟨⟨s⟩⟩ = s := by simp
    have h2 : ByteArray.toList ⟨⟨r⟩⟩ = r := by simp
    simp only [binOp, Op.stringOp, h1, h2]
    rfl)
theorem EX.gtrS (hx : ev σ x = some (str s)) (hy : ev σ y = some (str r)) : EX P n σ (.binOp .gtr t x y t') ty w (.bool !(lessB s r || s == r)) w :=
  EX.bin hx hy (guard_str _ _ _) (by
    have h1 : ByteArray.toList ⟨⟨s⟩⟩ = s := by simp
    have h2 : ByteArray.toList ⟨⟨r⟩⟩ = r := by simp
    simp only [binOp, Op.stringOp, h1, h2]
    rfl)
theorem EX.addS (hx : ev σ x = some (str s)) (hy : ev σ y = some (str r)) (h : s.length + r.length ≤ 9223372036854775807) : EX P n σ (.binOp .add t x y t') ty w (str (s ++ r)) w :=
  EX.bin hx hy (guard_str _ _ _) (by
    have h0 : ¬ (((ByteArray.size ⟨⟨s⟩⟩ + ByteArray.size ⟨⟨r⟩⟩ : Nat) : Int) > IntKind.i64.max) := by
      show ¬ (((s.length + r.length : Nat) : Int) > 9223372036854775807)
      omega
    have h1 : ((⟨⟨s⟩⟩ : ByteArray) ++ ⟨⟨r⟩⟩) = ⟨⟨s ++ r⟩⟩ := by
      apply ByteArray.ext
      rw [ByteArray.data_append]
      simp
    unfold binOp
    simp only [Op.stringOp, if_neg h0, h1]
    rfl)
theorem run_equalB {p q : Bool} (hu : P.underlying t = some .bool) : (Op.equal t (.bool p) (.bool q)).run P w = .ok (p == q) w := by
  have h : ∀ d : Nat, (Op.equalIn (d + 1) t (.bool p) (.bool q)).run P w = .ok (p == q) w := fun d => by
    simp [Op.equalIn, run_underlying hu, Sem.run_bind]
  exact h 9999
theorem EX.eqlB {p q : Bool} (hu : P.underlying t = some .bool) (hx : ev σ x = some (.bool p)) (hy : ev σ y = some (.bool q)) : EX P n σ (.binOp .eql t x y t') ty w (.bool (p == q)) w :=
  EX.bin hx hy (guard_bool _ _ _) (by
    unfold binOp
    simp only [Sem.run_bind, run_equalB hu, Result.andThen_ok]
    rfl)
theorem EX.neqB {p q : Bool} (hu : P.underlying t = some .bool) (hx : ev σ x = some (.bool p)) (hy : ev σ y = some (.bool q)) : EX P n σ (.binOp .neq t x y t') ty w (.bool !(p == q)) w :=
  EX.bin hx hy (guard_bool _ _ _) (by
    unfold binOp
    simp only [Sem.run_bind, run_equalB hu, Result.andThen_ok]
    rfl)
theorem EX.notD {p : Prop} [Decidable p] (hx : ev σ x = some (.bool (decide p))) : EX P n σ (.unOp .not t x) ty w (.bool (decide (¬ p))) w := fun A ha dst pos after g => by
  simp only [execOp, ha.ev hx, decide_not]; rfl
theorem EX.convSS (ht : P.underlying t = some .string) (ht' : P.underlying t' = some .string) (hx : ev σ x = some (str s)) : EX P n σ (.convert t t' x) ty w (str s) w := fun A ha dst pos after g => by
  simp only [execOp, ha.ev hx]
  simp [convert, run_underlying ht, run_underlying ht', Sem.run_bind]
theorem extract_str (s : List UInt8) (i j : Nat) : (⟨⟨s⟩⟩ : ByteArray).extract i j = ⟨⟨(s.drop i).take (j - i)⟩⟩ := by
  apply ByteArray.ext
  rw [ByteArray.data_extract]
  apply Array.ext'
  simp [List.extract_eq_take_drop]
theorem run_sliceBound {k : IntKind} {i : Nat} (y : Nat) (c : BoundsCode) (h : i ≤ y) : (Instr.sliceBound (.int k (i : Int)) y c).run P w = .ok i w := by
  have h1 : (0 : Int) ≤ (i : Int) ∧ (i : Int) ≤ (y : Int) := by omega
  simp [Instr.sliceBound, asIntOf, Sem.run_bind, h]
section
variable {k k' : IntKind} {i j : Nat} {lo hi : Operand}
theorem EX.sliceLH (ht : P.underlying t = some .string) (hx : ev σ x = some (str s)) (hl : ev σ lo = some (.int k (i : Int))) (hh : ev σ hi = some (.int k' (j : Int))) (h : i ≤ j ∧ j ≤ s.length) :
    EX P n σ (.slice t x (some lo) (some hi) none) ty w (str ((s.drop i).take (j - i))) w := fun A ha dst pos after g => by
  have hj : j ≤ ByteArray.size ⟨⟨s⟩⟩ := h.2
  simp only [execOp, ha.ev hx, ha.ev hl, ha.ev hh, Option.map_some, Option.map_none]
  simp [Instr.sliceAt, run_underlying ht, Instr.slice, Instr.sliceBounds, Sem.run_bind, run_sliceBound _ _ hj, run_sliceBound _ _ h.1, extract_str]
theorem EX.sliceLE (ht : P.underlying t = some .string) (hx : ev σ x = some (str s)) (hl : ev σ lo = some (.int k (i : Int))) (h : i ≤ s.length) :
    EX P n σ (.slice t x (some lo) none none) ty w (str (s.drop i)) w := fun A ha dst pos after g => by
  have hj : i ≤ ByteArray.size ⟨⟨s⟩⟩ := h
  have e : (s.drop i).take (ByteArray.size ⟨⟨s⟩⟩ - i) = s.drop i := List.take_of_length_le (by rw [List.length_drop]; exact Nat.le_refl _)
  simp only [execOp, ha.ev hx, ha.ev hl, Option.map_some, Option.map_none]
  simp [Instr.sliceAt, run_underlying ht, Instr.slice, Instr.sliceBounds, Sem.run_bind, run_sliceBound _ _ hj, extract_str, e]
theorem EX.sliceFH (ht : P.underlying t = some .string) (hx : ev σ x = some (str s)) (hh : ev σ hi = some (.int k' (j : Int))) (h : j ≤ s.length) :
    EX P n σ (.slice t x none (some hi) none) ty w (str (s.take j)) w := fun A ha dst pos after g => by
  have hj : j ≤ ByteArray.size ⟨⟨s⟩⟩ := h
  simp only [execOp, ha.ev hx, ha.ev hh, Option.map_some, Option.map_none]
  simp [Instr.sliceAt, run_underlying ht, Instr.slice, Instr.sliceBounds, Sem.run_bind, run_sliceBound _ _ hj, extract_str]
end
theorem EX.minN {k : IntKind} {a b : Nat} {ats : Array TypeId} (hx : ev σ x = some (.int k (a : Int))) (hy : ev σ y = some (.int k (b : Int))) : EX P n σ (.call { callee := .builtin .min, args := #[x, y], argTypes := ats }) ty w (.int k ((min a b : Nat) : Int)) w := fun A ha dst pos after g => by
  simp only [execOp, resolve, invoke, builtin, Sem.run_bind, Sem.run_pure, Result.andThen_ok, List.map_toArray, List.map_cons, List.map_nil, ha.ev hx, ha.ev hy]
  have : (if (b : Int) < a then (b : Int) else a) = ((min a b : Nat) : Int) := by split <;> omega
  simp only [Builtin.min_, Builtin.min2, List.foldlM, Sem.run_bind, Sem.run_pure, Result.andThen_ok, this]
end
end Go.Proofs.YtjgeoeeikfjmdaaGreatDoor
/- The engine's laws for memory: blocks, slices that the call owns, slices that are read. -/
namespace Go.Proofs.YtjgeoeeikfjmdaaGreatDoor
set_option linter.unnecessarySimpa false
open Go.RowKit
set_option linter.unusedSimpArgs false
set_option linter.unusedVariables false

/-! ### Blocks -/
/-- block b holds the cells l, none of them frozen -/
def Bk (w : World) (b : Nat) (T : TypeId) (l : List Value) : Prop := ∃ fr : Nat × Nat, w.heap[b]? = some (.cells l.toArray T fr) ∧ (l.length ≤ fr.1 ∨ fr.2 ≤ fr.1)
/-- all that was there is as it was -/
abbrev Ext (w w' : World) : Prop := Below w.heap.size w w'
section
variable {w w' : World} {b : Nat} {T : TypeId} {l : List Value}
theorem Bk.lt (h : Bk w b T l) : b < w.heap.size := by
  obtain ⟨fr, h, _⟩ := h
  rcases Nat.lt_or_ge b w.heap.size with h' | h'
  · exact h'
  · simp [Array.getElem?_eq_none h'] at h
theorem Bk.cell (h : Bk w b T l) (i : Nat) : w.cell? ⟨b, i, none⟩ = l[i]? := by
  obtain ⟨fr, h, _⟩ := h
  simp [World.cell?, h]
theorem Bk.cell_of (h : Bk w b T l) {i : Nat} {v : Value} (hi : l[i]? = some v) : w.cell? ⟨b, i, none⟩ = some v := (h.cell i).trans hi
theorem Bk.free (h : Bk w b T l) (i : Nat) (hi : i < l.length) : w.frozen? ⟨b, i, none⟩ = false := by
  obtain ⟨⟨lo, hi'⟩, h, hf⟩ := h
  simp only [World.frozen?, h]
  simp only [Bool.and_eq_false_iff, decide_eq_false_iff_not]
  simp only at hf
  omega
theorem Bk.of_block (h : Bk w b T l) (hb : w'.heap[b]? = w.heap[b]?) : Bk w' b T l := by
  obtain ⟨fr, h, hf⟩ := h
  exact ⟨fr, by rw [hb]; exact h, hf⟩
theorem Bk.new (w : World) (T : TypeId) (l : List Value) : Bk (w.alloc (.cells l.toArray T)) w.heap.size T l := ⟨(0, 0), heap_alloc_new w _, .inr (Nat.le_refl _)⟩
theorem Bk.alloc (h : Bk w b T l) (o : Obj) : Bk (w.alloc o) b T l := h.of_block (Below.heap_alloc w o b h.lt)
theorem Bk.drew (h : Bk w b T l) : Bk w.drew b T l := h
theorem Bk.drewN (h : Bk w b T l) (m : Nat) : Bk (w.drewN m) b T l := h
theorem Bk.below {B : Nat} (h : Bk w b T l) (hb : Below B w w') (hlt : b < B) : Bk w' b T l := h.of_block (hb.block b hlt)
theorem Bk.ext (h : Bk w b T l) (hb : Ext w w') : Bk w' b T l := h.below hb h.lt
theorem Bk.far (h : Bk w b T l) {p : Addr} (hp : b ≠ p.block) (u : Value) : Bk (w.setCell p u) b T l := h.of_block (Below.heap_setCell w p u b hp)
theorem Bk.grown {row : Option Nat} (h : Bk w b T l) (hg : w.grownBy w' row) (hne : some b ≠ row) : Bk w' b T l := h.of_block (hg.block b h.lt hne)
theorem Bk.set (h : Bk w b T l) (i : Nat) (u : Value) : Bk (w.setCell ⟨b, i, none⟩ u) b T (l.set i u) := by
  have hlt := h.lt
  obtain ⟨fr, h, hf⟩ := h
  have hv : w.heap[b] = .cells l.toArray T fr := (Array.getElem?_eq_some_iff.1 h).2
  refine ⟨fr, ?_, by simpa using hf⟩
  simp only [World.setCell, Array.getElem?_modify, if_true, h, Option.map_some]
  simp
theorem Bk.ne {b' : Nat} {T' : TypeId} {l' : List Value} (h : Bk w b T l) (h' : Bk w b' T' l') (hne : T ≠ T') : b ≠ b' := by
  rintro rfl
  obtain ⟨fr, h, _⟩ := h
  obtain ⟨fr', h', _⟩ := h'
  rw [h] at h'
  simp at h'
  exact hne h'.2.1
theorem Bk.det {l' : List Value} {T' : TypeId} (h : Bk w b T l) (h' : Bk w b T' l') : T = T' ∧ l = l' := by
  obtain ⟨fr, h, _⟩ := h
  obtain ⟨fr', h', _⟩ := h'
  rw [h] at h'
  simp at h'
  exact ⟨h'.2.1, h'.1⟩
theorem Ext.refl (w : World) : Ext w w := Below.refl _ _
theorem Ext.trans {a b c : World} (h : Ext a b) (k : Ext b c) : Ext a c := Below.trans h (k.mono h.size)
theorem Ext.alloc (w : World) (o : Obj) : Ext w (w.alloc o) := (Below.refl _ _).alloc (Nat.le_refl _) o
theorem Ext.drew (w : World) : Ext w w.drew := (Below.refl _ _).drew
theorem below_drewN {B : Nat} {a w : World} (h : Below B a w) (m : Nat) : Below B a (w.drewN m) := ⟨h.os, h.tape, h.output, h.size, h.block⟩
theorem Ext.drewN (w : World) (m : Nat) : Ext w (w.drewN m) := below_drewN (Below.refl _ _) m
/-- a step from a later world: all below B stays -/
theorem Below.ext {B : Nat} {a w w' : World} (h : Below B a w) (hx : Ext w w') (hB : B ≤ w.heap.size) : Below B a w' := h.trans (hx.mono hB)
/-- stored: block b anew, the others as they were -/
theorem run_storeCells_bk (P : Program) (w : World) (b o : Nat) (T : TypeId) : ∀ (vs : List Value) (i : Nat) (l : List Value) (w : World), Bk w b T l → o + i + vs.length ≤ l.length → (∀ v ∈ vs, v.oneCell' = true) →
    ∃ w', (storeCells ⟨b, o, none⟩ vs i).run P w = .ok () w' ∧ Bk w' b T (l.take (o + i) ++ vs ++ l.drop (o + i + vs.length)) ∧ w.grownBy w' (some b)
  | [], i, l, w, h, _, _ => ⟨w, rfl, by simpa using h, ⟨rfl, rfl, rfl, Nat.le_refl _, fun _ _ _ => rfl⟩⟩
  | v :: vs, i, l, w, h, hl, h1 => by
    simp only [List.length_cons] at hl
    have hlt : o + i < l.length := by omega
    have hc : w.cell? ⟨b, o + i, none⟩ = some l[o + i] := h.cell_of (List.getElem?_eq_getElem hlt)
    have hf := h.free (o + i) hlt
    have hadd : (⟨b, o, none⟩ : Addr).add i = ⟨b, o + i, none⟩ := by unfold Addr.add; split <;> simp_all
    obtain ⟨w', hr, hb, hg⟩ := run_storeCells_bk P w b o T vs (i + 1) (l.set (o + i) v) (w.setCell ⟨b, o + i, none⟩ v) (h.set (o + i) v) (by simp; omega) (fun u hu => h1 u (by simp [hu]))
    have hv1 := h1 v (by simp)
    have hst : (store ⟨b, o + i, none⟩ v).run P w = .ok () (w.setCell ⟨b, o + i, none⟩ v) := by
      cases v <;> simp [Value.oneCell'] at hv1 <;> simp [store, Sem.run, hc, hf]
    refine ⟨w', ?_, ?_, ⟨hg.os, hg.tape, hg.output, by have := hg.size; simpa using this, fun k hk hne => ?_⟩⟩
    · simp only [storeCells, Sem.run_bind, hadd, hst, Result.andThen_ok]
      exact hr
    · have e1 : (l.set (o + i) v).take (o + (i + 1)) = l.take (o + i) ++ [v] := by
        rw [show o + (i + 1) = (o + i) + 1 by omega, List.take_add_one]
        rw [List.take_set_of_le (Nat.le_refl _)]
        simp [hlt]
      have e2 : (l.set (o + i) v).drop (o + (i + 1) + vs.length) = l.drop (o + i + (vs.length + 1)) := by
        rw [List.drop_set_of_lt (by omega)]
        congr 1
        omega
      rw [e1, e2] at hb
      simpa using hb
    · rw [hg.block k (by simpa using hk) hne]
      exact Below.heap_setCell w _ v k (fun e => hne (by rw [e]))
end

/-! ### Types' rows -/
def TI (P : Program) (T : TypeId) (z : Value) (s b : Nat) : Prop := (P.info? T).map (fun i => (i.zero, i.size, i.bytes)) = some (some z, s, b)
theorem TI.at {P : Program} {T : TypeId} {z : Value} {s b : Nat} (h : TI P T z s b) : ∃ i, P.info? T = some i ∧ i.zero = some z ∧ i.size = s ∧ i.bytes = b := by
  unfold TI at h
  cases hq : P.info? T with
  | none => simp [hq] at h
  | some i => exact ⟨i, rfl, by simpa [hq] using h⟩
/-- no struct, no array -/
def flat : TypeDesc → Bool
  | .struct _ | .array _ _ => false
  | _ => true
section
variable {P : Program} {n : Nat} {σ : Sig} {w w' : World} {t t' e : TypeId} {ty : TypeId} {x y : Operand} {b o : Nat} {l : List Value} {T : TypeId} {z v : Value} {s bs : Nat}
theorem run_isAgg {d : TypeDesc} (hu : P.underlying t = some d) : (isAgg t).run P w = .ok (!flat d) w := by
  unfold isAgg
  rw [Sem.run_bind, run_underlying hu w]
  cases d <;> rfl
theorem run_sizeOf (h : TI P t z s bs) : (sizeOf t).run P w = .ok s w := by
  obtain ⟨i, hi, _, rfl, _⟩ := h.at
  simp [sizeOf, typeInfo, hi, Sem.run_bind]
theorem run_zeroValue (h : TI P t z s bs) : (zeroValue t).run P w = .ok z w := by
  obtain ⟨i, hi, hz, _⟩ := h.at
  simp [zeroValue, typeInfo, hi, hz, Sem.run_bind]
theorem EX.alloc (h : TI P t z s bs) (hl : z.cells.toList = l) : EX P n σ (.alloc t) ty w (.pointer (some ⟨w.heap.size, 0, none⟩)) (w.alloc (.cells l.toArray t)) := fun A ha dst pos after g => by
  subst hl
  simp only [execOp, Instr.alloc, Sem.run_bind, run_zeroValue h, Result.andThen_ok]
  simp [newVar, newRow, newObj, Sem.run_bind, Sem.run]
theorem EX.box (hx : ev σ x = some v) (hl : v.cells.toList = l) : EX P n σ (.box t x) ty w (.pointer (some ⟨w.heap.size, 0, none⟩)) (w.alloc (.cells l.toArray t)) := fun A ha dst pos after g => by
  subst hl
  simp only [execOp, Instr.box, ha.ev hx, Sem.run_bind]
  simp [newVar, newRow, newObj, Sem.run_bind, Sem.run]
theorem EX.load {d : TypeDesc} {a : Addr} (hu : P.underlying t = some d) (hd : flat d = true) (hx : ev σ x = some (.pointer (some a))) (hc : w.cell? a = some v) : EX P n σ (.load t x) ty w v w := fun A ha dst pos after g => by
  simp only [execOp, Instr.loadAt, Instr.sureAddr, ha.ev hx, Sem.run_bind, Sem.run_pure, Result.andThen_ok, loadVar, run_isAgg hu, hd]
  simp [load, Sem.run, hc]
/-- a struct or an array, its cells in a row -/
theorem EX.loadA {d : TypeDesc} (hu : P.underlying t = some d) (hd : flat d = false) (h : TI P t z s bs) (hx : ev σ x = some (.pointer (some ⟨b, o, none⟩))) (hs : l.length = s)
    (hc : ∀ j u, l[j]? = some u → w.cell? ⟨b, o + j, none⟩ = some u) : EX P n σ (.load t x) ty w (.agg l.toArray) w := fun A ha dst pos after g => by
  have hl := run_loadCells_list (P := P) w ⟨b, o, none⟩ l (fun j u hj => by
    have hadd : (⟨b, o, none⟩ : Addr).add j = ⟨b, o + j, none⟩ := by unfold Addr.add; split <;> simp_all
    rw [hadd]; exact hc j u hj)
  simp only [execOp, Instr.loadAt, Instr.sureAddr, ha.ev hx, Sem.run_bind, Sem.run_pure, Result.andThen_ok, loadVar, run_isAgg hu, hd, run_sizeOf h]
  rw [hs] at hl
  simp [run_sizeOf h, hl, Sem.run_bind]
theorem EX.loadBk {d : TypeDesc} (hu : P.underlying t = some d) (hd : flat d = false) (h : TI P t z s bs) (hx : ev σ x = some (.pointer (some ⟨b, 0, none⟩))) (hb : Bk w b T l) (hs : l.length = s) : EX P n σ (.load t x) ty w (.agg l.toArray) w :=
  EX.loadA hu hd h hx hs fun j u hj => by rw [Nat.zero_add]; exact hb.cell_of hj
theorem EU.store {a : Addr} {u : Value} (h : TI P t z 1 bs) (hx : ev σ x = some (.pointer (some a))) (hy : ev σ y = some v) (h1 : v.oneCell' = true) (hc : w.cell? a = some u) (hf : w.frozen? a = false) : EU P n σ (.store t x y) ty w (w.setCell a v) := fun A ha dst pos after g => by
  have hst : (Go.store a v).run P w = .ok () (w.setCell a v) := by
    cases v <;> simp [Value.oneCell'] at h1 <;> simp [Go.store, Sem.run, hc, hf]
  have hcs : v.cells = #[v] := by cases v <;> simp [Value.oneCell'] at h1 <;> rfl
  have hadd : a.add 0 = a := by unfold Addr.add; simp
  simp only [execOp, Instr.storeAt, Instr.sureAddr, ha.ev hx, ha.ev hy, Sem.run_bind, Sem.run_pure, Result.andThen_ok, storeVar, run_sizeOf h, hcs]
  simp [storeCells, Sem.run_bind, hadd, hst]
theorem EU.storeBk {i : Nat} (h : TI P t z 1 bs) (hx : ev σ x = some (.pointer (some ⟨b, i, none⟩))) (hy : ev σ y = some v) (h1 : v.oneCell' = true) (hb : Bk w b T l) (hi : i < l.length) : EU P n σ (.store t x y) ty w (w.setCell ⟨b, i, none⟩ v) :=
  EU.store h hx hy h1 (hb.cell_of (List.getElem?_eq_getElem hi)) (hb.free i hi)
theorem oneCell_cells {v : Value} (h : v.oneCell' = true) : v.cells = #[v] := by cases v <;> simp [Value.oneCell'] at h <;> rfl
/-- several cells are stored -/
theorem EU.storeA {vs : List Value} (h : TI P t z s bs) (hx : ev σ x = some (.pointer (some ⟨b, o, none⟩))) (hy : ev σ y = some (.agg vs.toArray)) (hs : vs.length = s) (h1 : vs.all (·.oneCell') = true) (hb : Bk w b T l) (hl : o + vs.length ≤ l.length) :
    ∃ w', EU P n σ (.store t x y) ty w w' ∧ Bk w' b T (l.take o ++ vs ++ l.drop (o + vs.length)) ∧ w.grownBy w' (some b) := by
  obtain ⟨w', hr, hb', hg⟩ := run_storeCells_bk P w b o T vs 0 l w hb (by simpa using hl) (fun v hv => List.all_eq_true.1 h1 v hv)
  refine ⟨w', fun A ha dst pos after g => ?_, by simpa using hb', hg⟩
  simp only [execOp, Instr.storeAt, Instr.sureAddr, ha.ev hx, ha.ev hy, Sem.run_bind, Sem.run_pure, Result.andThen_ok, storeVar, run_sizeOf h, Value.cells]
  simp [hs, hr]
theorem EX.indexAddrA {m : Nat} {k : IntKind} {i : Nat} (hu : P.underlying t = some (.array m e)) (h : TI P e z s bs) (hx : ev σ x = some (.pointer (some ⟨b, o, none⟩))) (hy : ev σ y = some (.int k (i : Int))) (hi : i < m) :
    EX P n σ (.indexAddr t x y) ty w (.pointer (some ⟨b, o + i * s, none⟩)) w := fun A ha dst pos after g => by
  have h1 : (0 : Int) ≤ (i : Int) ∧ (i : Int) < (m : Int) := by omega
  have hadd : (⟨b, o, none⟩ : Addr).add (i * s) = ⟨b, o + i * s, none⟩ := by unfold Addr.add; split <;> simp_all
  simp only [execOp, ha.ev hx, ha.ev hy]
  simp [Instr.indexAt, asIntOf, run_underlying hu, Sem.run_bind, Instr.sureAddr, hi, run_sizeOf h, hadd]
theorem EX.indexAddrS {k : IntKind} {i len cap : Nat} (hu : P.underlying t = some (.slice e)) (h : TI P e z s bs) (hx : ev σ x = some (.slice (some ⟨b, o, none⟩) len cap)) (hy : ev σ y = some (.int k (i : Int))) (hi : i < len) :
    EX P n σ (.indexAddr t x y) ty w (.pointer (some ⟨b, o + i * s, none⟩)) w := fun A ha dst pos after g => by
  have h1 : (0 : Int) ≤ (i : Int) ∧ (i : Int) < (len : Int) := by omega
  have hadd : (⟨b, o, none⟩ : Addr).add (i * s) = ⟨b, o + i * s, none⟩ := by unfold Addr.add; split <;> simp_all
  simp only [execOp, ha.ev hx, ha.ev hy]
  simp [Instr.indexAt, asIntOf, run_underlying hu, Sem.run_bind, Instr.sureAddr, hi, run_sizeOf h, hadd]
theorem EX.indexAddrA1 {m : Nat} {k : IntKind} {i : Nat} (hu : P.underlying t = some (.array m e)) (h : TI P e z 1 bs) (hx : ev σ x = some (.pointer (some ⟨b, o, none⟩))) (hy : ev σ y = some (.int k (i : Int))) (hi : i < m) :
    EX P n σ (.indexAddr t x y) ty w (.pointer (some ⟨b, o + i, none⟩)) w := by simpa using EX.indexAddrA (ty := ty) (w := w) (n := n) hu h hx hy hi
theorem EX.indexAddrS1 {k : IntKind} {i len cap : Nat} (hu : P.underlying t = some (.slice e)) (h : TI P e z 1 bs) (hx : ev σ x = some (.slice (some ⟨b, o, none⟩) len cap)) (hy : ev σ y = some (.int k (i : Int))) (hi : i < len) :
    EX P n σ (.indexAddr t x y) ty w (.pointer (some ⟨b, o + i, none⟩)) w := by simpa using EX.indexAddrS (ty := ty) (w := w) (n := n) hu h hx hy hi
theorem EX.indexAddrA0 {m : Nat} {k : IntKind} {i : Nat} (hu : P.underlying t = some (.array m e)) (h : TI P e z 1 bs) (hx : ev σ x = some (.pointer (some ⟨b, 0, none⟩))) (hy : ev σ y = some (.int k (i : Int))) (hi : i < m) :
    EX P n σ (.indexAddr t x y) ty w (.pointer (some ⟨b, i, none⟩)) w := by simpa using EX.indexAddrA (ty := ty) (w := w) (n := n) hu h hx hy hi
theorem EX.indexAddrS0 {k : IntKind} {i len cap : Nat} (hu : P.underlying t = some (.slice e)) (h : TI P e z 1 bs) (hx : ev σ x = some (.slice (some ⟨b, 0, none⟩) len cap)) (hy : ev σ y = some (.int k (i : Int))) (hi : i < len) :
    EX P n σ (.indexAddr t x y) ty w (.pointer (some ⟨b, i, none⟩)) w := by simpa using EX.indexAddrS (ty := ty) (w := w) (n := n) hu h hx hy hi
theorem EX.nilCheck {a : Addr} (hx : ev σ x = some (.pointer (some a))) : EX P n σ (.nilCheck x) ty w (.pointer (some a)) w := fun A ha dst pos after g => by
  simp only [execOp, ha.ev hx]; rfl
end
end Go.Proofs.YtjgeoeeikfjmdaaGreatDoor
/- The engine's laws for slices: read, owned, made, appended to; bytes and texts. -/
namespace Go.Proofs.YtjgeoeeikfjmdaaGreatDoor
set_option linter.unnecessarySimpa false
open Go.RowKit
set_option linter.unusedSimpArgs false
set_option linter.unusedVariables false

/-- a slice value with address A reads as the cells xs, in a block below B -/
def Sl (w : World) (B : Nat) (A : Option Addr) (xs : List Value) : Prop :=
  xs = [] ∨ ∃ b o, A = some ⟨b, o, none⟩ ∧ b < B ∧ ∀ j u, xs[j]? = some u → w.cell? ⟨b, o + j, none⟩ = some u
/-- a list of numbers as cells -/
def ints (k : IntKind) (l : List Nat) : List Value := l.map fun (x : Nat) => Value.int k (x : Int)
def bytesV (l : List UInt8) : List Value := l.map fun c => Value.int .u8 (c.toNat : Int)
/-- a slice that the call made: n elements of s cells each -/
def Own (w : World) (B : Nat) (T : TypeId) (s : Nat) (v : Value) (n : Nat) (xs : List Value) : Prop :=
  xs.length = n * s ∧ ((v = .slice none 0 0 ∧ n = 0) ∨
    ∃ g cap rest, v = .slice (some ⟨g, 0, none⟩) n cap ∧ B ≤ g ∧ Bk w g T (xs ++ rest) ∧ xs.length + rest.length = cap * s ∧ n ≤ cap ∧ cap ≤ maxLen)
section
variable {w w' : World} {B B' : Nat} {A : Option Addr} {xs : List Value} {T : TypeId} {s n : Nat} {v : Value}
theorem Sl.empty : Sl w B A [] := .inl rfl
theorem Sl.at_ (h : Sl w B A xs) (hx : 0 < xs.length) : ∃ b o, A = some ⟨b, o, none⟩ ∧ b < B ∧ ∀ j u, xs[j]? = some u → w.cell? ⟨b, o + j, none⟩ = some u := by
  rcases h with h | h
  · subst h; simp at hx
  · exact h
theorem Sl.keep (h : Sl w B A xs) (hk : ∀ p : Addr, p.block < B → w'.cell? p = w.cell? p) : Sl w' B A xs := by
  rcases h with h | ⟨b, o, h1, h2, h3⟩
  · exact .inl h
  · exact .inr ⟨b, o, h1, h2, fun j u hu => (hk _ h2).trans (h3 j u hu)⟩
theorem Sl.more (h : Sl w B A xs) (hB : B ≤ B') : Sl w B' A xs := by
  rcases h with h | ⟨b, o, h1, h2, h3⟩
  · exact .inl h
  · exact .inr ⟨b, o, h1, by omega, h3⟩
theorem Sl.below (h : Sl w B A xs) (hb : Below B w w') : Sl w' B A xs := h.keep fun _ hp => hb.cell hp
theorem Sl.ext (h : Sl w B A xs) (hb : Ext w w') : Sl w' B A xs := by
  rcases h with h | ⟨b, o, h1, h2, h3⟩
  · exact .inl h
  · exact .inr ⟨b, o, h1, h2, fun j u hu => (hb.cell (p := ⟨b, o + j, none⟩) (block_lt_of_cell (h3 j u hu))).trans (h3 j u hu)⟩
theorem Sl.drewN (h : Sl w B A xs) (m : Nat) : Sl (w.drewN m) B A xs := h
theorem Sl.pre (h : Sl w B A xs) (m : Nat) : Sl w B A (xs.take m) := by
  rcases h with h | ⟨b, o, h1, h2, h3⟩
  · subst h; left; simp
  · exact .inr ⟨b, o, h1, h2, fun j u hu => h3 j u (by
      rw [List.getElem?_take] at hu
      split at hu
      · exact hu
      · cases hu)⟩
theorem Sl.of_bk {b : Nat} {l : List Value} (h : Bk w b T l) (hB : b < B) : Sl w B (some ⟨b, 0, none⟩) l := .inr ⟨b, 0, rfl, hB, fun j u hu => by rw [Nat.zero_add]; exact h.cell_of hu⟩
theorem Bk.sl {b : Nat} {l : List Value} (h : Bk w b T l) : Sl w w.heap.size (some ⟨b, 0, none⟩) l := Sl.of_bk h h.lt
theorem Bk.slp {b : Nat} {l r : List Value} (h : Bk w b T (l ++ r)) : Sl w w.heap.size (some ⟨b, 0, none⟩) l := by
  have := h.sl.pre l.length
  rwa [List.take_left] at this
theorem Own.nil (w : World) (B : Nat) (T : TypeId) (s : Nat) : Own w B T s (.slice none 0 0) 0 [] := ⟨by simp, .inl ⟨rfl, rfl⟩⟩
theorem Own.lt (h : Own w B T s v n xs) : ∀ k, v.ownBlock = some k → B ≤ k ∧ k < w.heap.size := by
  intro k hk
  rcases h.2 with ⟨rfl, _⟩ | ⟨g, cap, rest, rfl, hb, hg, _⟩
  · simp [Value.ownBlock] at hk
  · simp [Value.ownBlock] at hk
    subst hk
    exact ⟨hb, hg.lt⟩
theorem Own.of_blocks (h : Own w B T s v n xs) (hk : ∀ k, v.ownBlock = some k → w'.heap[k]? = w.heap[k]?) : Own w' B T s v n xs := by
  refine ⟨h.1, ?_⟩
  rcases h.2 with hn | ⟨g, cap, rest, rfl, hb, hg, r⟩
  · exact .inl hn
  · exact .inr ⟨g, cap, rest, rfl, hb, hg.of_block (hk g rfl), r⟩
theorem Own.ext (h : Own w B T s v n xs) (hx : Ext w w') : Own w' B T s v n xs := h.of_blocks fun k hk => hx.block k (h.lt k hk).2
theorem Own.grown {row : Option Nat} (h : Own w B T s v n xs) (hg : w.grownBy w' row) (hne : v.ownBlock = none ∨ v.ownBlock ≠ row) : Own w' B T s v n xs :=
  h.of_blocks fun k hk => hg.block k (h.lt k hk).2 (by rw [← hk]; rcases hne with e | e <;> simp_all)
theorem Own.alloc (h : Own w B T s v n xs) (o : Obj) : Own (w.alloc o) B T s v n xs := h.ext (Ext.alloc w o)
theorem Own.drewN (h : Own w B T s v n xs) (m : Nat) : Own (w.drewN m) B T s v n xs := h.ext (Ext.drewN w m)
theorem Own.far (h : Own w B T s v n xs) {p : Addr} (hp : v.ownBlock ≠ some p.block) (u : Value) : Own (w.setCell p u) B T s v n xs :=
  h.of_blocks fun k hk => Below.heap_setCell w p u k (fun e => hp (by rw [hk, e]))
theorem Own.more (h : Own w B T s v n xs) (hB : B' ≤ B) : Own w B' T s v n xs := by
  refine ⟨h.1, ?_⟩
  rcases h.2 with hn | ⟨g, cap, rest, rfl, hb, r⟩
  · exact .inl hn
  · exact .inr ⟨g, cap, rest, rfl, by omega, r⟩
theorem Own.slice (h : Own w B T s v n xs) : ∃ A c, v = .slice A n c ∧ n ≤ c ∧ Sl w w.heap.size A xs := by
  rcases h.2 with ⟨rfl, rfl⟩ | ⟨g, cap, rest, rfl, hb, hg, hl, hn, _⟩
  · exact ⟨none, 0, rfl, Nat.le_refl _, .inl (List.eq_nil_of_length_eq_zero (by simpa using h.1))⟩
  · refine ⟨_, cap, rfl, hn, .inr ⟨g, 0, rfl, hg.lt, fun j u hu => ?_⟩⟩
    rw [Nat.zero_add]
    refine hg.cell_of ?_
    rw [List.getElem?_append_left]
    · exact hu
    · rcases Nat.lt_or_ge j xs.length with h' | h'
      · exact h'
      · simp [List.getElem?_eq_none h'] at hu
/-- the slice's own block, where there is an element -/
theorem Own.blk (h : Own w B T s v n xs) (hx : 0 < xs.length) : ∃ g cap rest, v = .slice (some ⟨g, 0, none⟩) n cap ∧ B ≤ g ∧ Bk w g T (xs ++ rest) ∧ xs.length + rest.length = cap * s ∧ n ≤ cap ∧ cap ≤ maxLen := by
  rcases h.2 with ⟨rfl, rfl⟩ | h2
  · have := h.1; omega
  · exact h2
theorem Own.of_bk {g cap : Nat} {l : List Value} (hg : Bk w g T l) (hB : B ≤ g) (hl : l.length = cap * s) (hm : cap ≤ maxLen) : Own w B T s (.slice (some ⟨g, 0, none⟩) cap cap) cap l :=
  ⟨hl, .inr ⟨g, cap, [], rfl, hB, by simpa using hg, by simpa using hl, Nat.le_refl _, hm⟩⟩
/-- a cell of it is stored anew -/
theorem Own.set {g cap : Nat} (h : Own w B T s (.slice (some ⟨g, 0, none⟩) n cap) n xs) (i : Nat) (hi : i < xs.length) (u : Value) :
    Own (w.setCell ⟨g, i, none⟩ u) B T s (.slice (some ⟨g, 0, none⟩) n cap) n (xs.set i u) ∧ w.grownBy (w.setCell ⟨g, i, none⟩ u) (some g) := by
  obtain ⟨g', cap', rest, hv, hb, hg, hr⟩ := h.blk (by omega)
  simp only [Value.slice.injEq, Option.some.injEq, Addr.mk.injEq, and_true, true_and] at hv
  obtain ⟨rfl, rfl⟩ := hv
  refine ⟨⟨by simpa using h.1, .inr ⟨g, cap, rest, rfl, hb, ?_, by simpa using hr.1, hr.2⟩⟩, ⟨rfl, rfl, rfl, by simp, fun k _ hk => Below.heap_setCell w _ u k (fun e => hk (by rw [e]))⟩⟩
  have := hg.set i u
  rwa [List.set_append_left _ _ hi] at this
theorem grown_below {B : Nat} {a w w' : World} {row : Option Nat} (h : Below B a w) (hg : w.grownBy w' row) (hB : B ≤ w.heap.size) (hr : ∀ k, row = some k → B ≤ k) : Below B a w' := h.grown hg hB hr
end
section
variable {P : Program} {w : World}
theorem size_zeroCells' (z : Array Value) (n : Nat) : (Builtin.zeroCells z n).size = n * z.size := by simp [Builtin.zeroCells]
/-- append onto what the call owns -/
theorem run_append (B : Nat) (t tx ty e : TypeId) {z : Value} {s bs : Nat} (ht : P.underlying t = some (.slice e)) (hi : TI P e z s bs) (hzs : z.cells.size = s) (hs0 : 0 < s)
    {v : Value} {n : Nat} {xs : List Value} (hown : Own w B e s v n xs) {x : Value} {m : Nat} {news : List Value} (hsrc : Src P s tx x m news w)
    (h63 : n + m ≤ maxLen) (hbytes : (n + m) * bs ≤ 140737488355328) (hB : B ≤ w.heap.size) :
    ∃ v' w', (Builtin.append_ #[t, tx] ty #[v, x]).run P w = .ok v' w' ∧ Own w' B e s v' (n + m) (xs ++ news) ∧ w.grownBy w' v.ownBlock ∧ (v'.ownBlock = v.ownBlock ∨ v'.ownBlock = some w.heap.size) := by
  obtain ⟨i, hq, hz, rfl, rfl⟩ := hi.at
  have hlen : (xs ++ news).length = (n + m) * i.size := by rw [List.length_append, hown.1, hsrc.newsLen, Nat.add_mul]
  have grow : ∀ (A : Option Addr) (cap : Nat), v = .slice A n cap → cap < n + m → (Builtin.firstCells i.size n (.slice A n cap)).run P w.drew = .ok xs.toArray w.drew →
      ∃ v' w', (Builtin.append_ #[t, tx] ty #[v, x]).run P w = .ok v' w' ∧ Own w' B e i.size v' (n + m) (xs ++ news) ∧ w.grownBy w' v.ownBlock ∧ (v'.ownBlock = v.ownBlock ∨ v'.ownBlock = some w.heap.size) := by
    intro A cap hv hc hold
    subst hv
    have hr := run_append_grow_src (P := P) w t tx ty e i z ht hq hz A n cap xs hold x m news hsrc hc (by simp only [maxLen] at h63; omega) (growslice_fits (by omega) hbytes)
    have hge := grownCap_ge w (n + m) cap e
    have hcm : grownCap w (n + m) cap e ≤ maxLen := grownCap_le_maxLen w (n + m) cap e h63
    refine ⟨_, _, hr, ⟨hlen, .inr ⟨w.heap.size, _, (Builtin.zeroCells z.cells (grownCap w (n + m) cap e - (n + m))).toList, rfl, hB, ?_, ?_, hge, hcm⟩⟩, ⟨rfl, rfl, rfl, by simp, fun k hk _ => Below.heap_alloc w.drew _ k hk⟩, .inr rfl⟩
    · have := Bk.new w.drew e ((xs ++ news) ++ (Builtin.zeroCells z.cells (grownCap w (n + m) cap e - (n + m))).toList)
      rw [show ((xs ++ news) ++ (Builtin.zeroCells z.cells (grownCap w (n + m) cap e - (n + m))).toList).toArray = (xs ++ news).toArray ++ Builtin.zeroCells z.cells (grownCap w (n + m) cap e - (n + m)) by simp] at this
      exact this
    · rw [hlen, Array.length_toList, size_zeroCells', hzs, ← Nat.add_mul]
      congr 1
      omega
  rcases hown.2 with ⟨rfl, rfl⟩ | ⟨g, cap, rest, rfl, hb, hg, hl, hn, hcm⟩
  · have hx : xs = [] := List.eq_nil_of_length_eq_zero (by simpa using hown.1)
    subst hx
    by_cases hm : m = 0
    · subst hm
      have hn : news = [] := List.eq_nil_of_length_eq_zero (by simpa using hsrc.newsLen)
      subst hn
      refine ⟨.slice none 0 0, w, ?_, Own.nil _ _ _ _, ⟨rfl, rfl, rfl, Nat.le_refl _, fun _ _ _ => rfl⟩, .inl rfl⟩
      have hc := hsrc.cells
      rcases hsrc.kind with ⟨e', hk⟩ | hk <;> simp [Builtin.append_, run_underlying ht, run_underlying hk, sizeOf, typeInfo, hq, hsrc.len, hc]
    · exact grow none 0 rfl (by omega) (by simp [Builtin.firstCells])
  · by_cases hroom : n + m ≤ cap
    · have hfit : n * i.size + news.length ≤ (xs ++ rest).length := by
        rw [List.length_append, hl, hsrc.newsLen, ← Nat.add_mul]
        exact Nat.mul_le_mul_right _ hroom
      obtain ⟨w', hst, hb', hg'⟩ := run_storeCells_bk P w g (n * i.size) e news 0 (xs ++ rest) w hg (by simpa using hfit) hsrc.one
      refine ⟨.slice (some ⟨g, 0, none⟩) (n + m) cap, w', ?_, ⟨hlen, .inr ⟨g, cap, rest.drop news.length, rfl, hb, ?_, ?_, hroom, hcm⟩⟩, by simpa [Value.ownBlock] using hg', .inl rfl⟩
      · rcases hsrc.kind with ⟨e', hk⟩ | hk <;> simp [Builtin.append_, run_underlying ht, run_underlying hk, sizeOf, typeInfo, hq, hsrc.len, hroom, hsrc.cells, Addr.add_lit, hst]
      · have e1 : (xs ++ rest).take (n * i.size) = xs := by rw [← hown.1]; exact List.take_left
        have e2 : (xs ++ rest).drop (n * i.size + news.length) = rest.drop news.length := by
          rw [← hown.1, ← List.drop_drop, List.drop_left]
        simp only [Nat.add_zero] at hb'
        rw [e1, e2] at hb'
        exact hb'
      · rw [List.length_drop, hlen]
        have h1 : (xs.length + rest.length) = cap * i.size := hl
        rw [hown.1] at h1
        have h2 : (n + m) * i.size ≤ cap * i.size := Nat.mul_le_mul_right _ hroom
        have h3 := hsrc.newsLen
        rw [Nat.add_mul] at h2 ⊢
        omega
    · refine grow _ cap rfl (by omega) ?_
      have : (loadCells ⟨g, 0, none⟩ (n * i.size)).run P w.drew = .ok xs.toArray w.drew := by
        have := run_loadCells_list (P := P) w.drew ⟨g, 0, none⟩ xs (fun j u hj => by
          have hadd : (⟨g, 0, none⟩ : Addr).add j = ⟨g, j, none⟩ := by unfold Addr.add; split <;> simp_all
          rw [hadd]
          refine (hg.drew).cell_of ?_
          rw [List.getElem?_append_left]
          · exact hj
          · rcases Nat.lt_or_ge j xs.length with h' | h'
            · exact h'
            · simp [List.getElem?_eq_none h'] at hj)
        rwa [hown.1] at this
      simpa [Builtin.firstCells] using this
theorem Src.of_sl {tx e' : TypeId} {s : Nat} (hk : P.underlying tx = some (.slice e')) {B : Nat} {A : Option Addr} {m c : Nat} {news : List Value} (h : Sl w B A news) (hl : news.length = m * s) (h1 : ∀ u ∈ news, u.oneCell' = true) (hs0 : 0 < s) : Src P s tx (.slice A m c) m news w := by
  have cells : ∀ w1 : World, (∀ a, w1.cell? a = w.cell? a) → (Builtin.firstCells s m (.slice A m c)).run P w1 = .ok news.toArray w1 := by
    intro w1 hw1
    rcases h with h | ⟨b, o, rfl, _, hc⟩
    · subst h
      have hm : m * s = 0 := by simpa using hl.symm
      cases A with
      | none => simp [Builtin.firstCells]
      | some a => simp [Builtin.firstCells, hm, loadCells, loadCellsFrom]
    · have := run_loadCells_list (P := P) w1 ⟨b, o, none⟩ news (fun j u hj => by
        have hadd : (⟨b, o, none⟩ : Addr).add j = ⟨b, o + j, none⟩ := by unfold Addr.add; split <;> simp_all
        rw [hadd, hw1]
        exact hc j u hj)
      rw [hl] at this
      simpa [Builtin.firstCells] using this
  exact ⟨.inl ⟨e', hk⟩, fun _ => rfl, cells w fun _ => rfl, cells w.drew fun _ => rfl, hl, h1⟩
theorem Src.of_str {tx : TypeId} (hk : P.underlying tx = some .string) (l : List UInt8) : Src P 1 tx (str l) l.length (bytesV l) w := Src.ofString w hk ⟨⟨l⟩⟩
theorem ints_one {k : IntKind} {l : List Nat} : ∀ u ∈ ints k l, u.oneCell' = true := by
  intro u hu
  obtain ⟨_, _, rfl⟩ := List.mem_map.1 hu
  rfl
theorem bytesV_one {l : List UInt8} : ∀ u ∈ bytesV l, u.oneCell' = true := by
  intro u hu
  obtain ⟨_, _, rfl⟩ := List.mem_map.1 hu
  rfl
theorem bytesV_length (l : List UInt8) : (bytesV l).length = l.length := by simp [bytesV]
theorem ints_length (k : IntKind) (l : List Nat) : (ints k l).length = l.length := by simp [ints]
theorem ints_append (k : IntKind) (l m : List Nat) : ints k (l ++ m) = ints k l ++ ints k m := by simp [ints]
theorem bytesV_append (l m : List UInt8) : bytesV (l ++ m) = bytesV l ++ bytesV m := by simp [bytesV]
end
section
variable {P : Program} {R : Act → World → Prop} {ops : Array Oper} {rest : List Oper} {k : List KI} {n : Nat} {σ : Sig} {w : World} {x y : Operand} {t t' e ty : TypeId} {pos : String} {after : Array Edge} {gd : Option (Nat × Bool)} {d : Nat}
/-- append, as a step -/
theorem OW.append (B : Nat) {z : Value} {s bs : Nat} (hg : wantS ops σ gd = some true) (hd : Nat.blt d n = true) (ht : P.underlying t = some (.slice e)) (hi : TI P e z s bs) (hzs : z.cells.size = s) (hs0 : 0 < s)
    {v xv : Value} {m l : Nat} {xs news : List Value} (hx : ev σ x = some v) (hy : ev σ y = some xv) (hown : Own w B e s v l xs) (hsrc : Src P s t' xv m news w)
    (h63 : l + m ≤ maxLen) (hbytes : (l + m) * bs ≤ 140737488355328) (hB : B ≤ w.heap.size)
    (h : ∀ v' w', Own w' B e s v' (l + m) (xs ++ news) → w.grownBy w' v.ownBlock → (v'.ownBlock = v.ownBlock ∨ v'.ownBlock = some w.heap.size) → OW P R ops rest k n ((d, v') :: σ) w') :
    OW P R ops (⟨some d, .call { callee := .builtin .append, args := #[x, y], argTypes := #[t, t'] }, ty, pos, after, gd⟩ :: rest) k n σ w := by
  obtain ⟨v', w', hr, h2, h3, h4⟩ := run_append (P := P) B t t' ty e ht hi hzs hs0 hown hsrc h63 hbytes hB
  refine OW.val hg hd (v := v') (w' := w') ?_ (h v' w' h2 h3 h4)
  intro A ha dst pos after g
  simp only [execOp, resolve, invoke, builtin, Sem.run_bind, Sem.run_pure, Result.andThen_ok, List.map_toArray, List.map_cons, List.map_nil, ha.ev hx, ha.ev hy, hr]
/-- a slice written out, of one cell a part -/
theorem fill_one : ∀ (vs : List Value) (i : Nat) (pre post : List Value), pre.length = i → (∀ v ∈ vs, v.oneCell' = true) → post.length = vs.length →
    Instr.fill (fun i => some (i * 1, 1)) (pre ++ post).toArray ((vs.zipIdx i).map fun (v, j) => (j, v)) = some (pre ++ vs).toArray
  | [], i, pre, post, hp, _, hl => by
    have : post = [] := List.eq_nil_of_length_eq_zero (by simpa using hl)
    subst this
    simp [Instr.fill]
  | v :: vs, i, pre, post, hp, h1, hl => by
    cases post with
    | nil => simp at hl
    | cons p post =>
      have hc := oneCell_cells (h1 v (by simp))
      have ih := fill_one vs (i + 1) (pre ++ [v]) post (by simp [hp]) (fun u hu => h1 u (by simp [hu])) (by simpa using hl)
      have hset : (pre ++ p :: post).toArray.setIfInBounds (i + 0) v = ((pre ++ [v]) ++ post).toArray := by
        simp [← hp]
      simp only [List.zipIdx_cons, List.map_cons, Instr.fill, hc, List.size_toArray, List.length_cons, List.length_nil, Nat.mul_one]
      have hn : ¬ (0 + 1 ≠ 1 ∨ i + (0 + 1) > (pre ++ p :: post).length) := by simp [hp]
      simp only [ne_eq, Bool.or_eq_true, decide_eq_true_eq]
      rw [if_neg (by simpa using hn)]
      have hz : (#[v] : Array Value).zipIdx.foldl (fun cs (x : Value × Nat) => cs.setIfInBounds (i + x.2) x.1) (pre ++ p :: post).toArray = ((pre ++ [v]) ++ post).toArray := by
        rw [← hset]; rfl
      rw [hz]
      simpa using ih
theorem run_buildSlice {z : Value} {bs : Nat} {pv : Array (Nat × Value)} {vs : List Value} (len : Nat) (ht : P.underlying t = some (.slice e)) (hi : TI P e z 1 bs) (hz1 : z.oneCell' = true)
    (hpv : pv.toList = vs.zipIdx.map fun (v, j) => (j, v)) (hl : vs.length = len) (h1 : ∀ v ∈ vs, v.oneCell' = true) (hlen : len ≤ 16777216) :
    (Instr.buildSlice t len pv).run P w = .ok (.slice (some ⟨w.heap.size, 0, none⟩) len len) (w.alloc (.cells vs.toArray e)) := by
  have hf := fill_one vs 0 [] (List.replicate len z) rfl h1 (by simp [hl])
  simp only [List.nil_append] at hf
  have hzc := oneCell_cells hz1
  have hrep : ((Array.range (len * 1)).map fun j => #[z][j % (#[z] : Array Value).size]!) = (List.replicate len z).toArray := by
    apply Array.ext'
    apply List.ext_getElem?
    intro j
    by_cases hj : j < len
    · simp [hj, Nat.mod_one]
    · simp [hj]
  have hn : ¬ (len * 1 > 2 ^ 24) := by omega
  simp only [Instr.buildSlice, Sem.run_bind, run_underlying ht, run_sizeOf hi, Result.andThen_ok, if_neg hn, hpv, Sem.run_pure]
  by_cases h0 : len * 1 = 0
  · have h0' : len = 0 := by omega
    subst h0'
    have : vs = [] := List.eq_nil_of_length_eq_zero hl
    subst this
    simp [Instr.fill, newRow, newObj, Sem.run_bind, Sem.run, Array.range_zero']
  · rw [if_neg h0]
    simp only [Sem.run_bind, run_zeroValue hi, Result.andThen_ok, Sem.run_pure, hzc, hrep, hf]
    simp [newRow, newObj, Sem.run_bind, Sem.run]
theorem EX.buildSlice {z : Value} {bs : Nat} {parts : Array (Nat × Operand)} {vs : List Value} (len : Nat) (ht : P.underlying t = some (.slice e)) (hi : TI P e z 1 bs) (hz1 : z.oneCell' = true)
    (hv : evs σ (parts.toList.map (·.2)) = some vs) (hp : parts.toList.map (·.1) = List.range' 0 parts.toList.length) (hl : vs.length = len) (h1 : vs.all (·.oneCell') = true) (hlen : len ≤ 16777216) :
    EX P n σ (.buildSlice t len parts) ty w (.slice (some ⟨w.heap.size, 0, none⟩) len len) (w.alloc (.cells vs.toArray e)) := fun A ha dst pos after g => by
  have hpv : (parts.map fun (p : Nat × Operand) => (p.1, A.eval p.2)).toList = vs.zipIdx.map fun (v, j) => (j, v) := by
    have h2 := ha.evs hv
    apply List.ext_getElem?
    intro j
    have e1 := congrArg (·[j]?) h2
    have e2 := congrArg (·[j]?) hp
    simp only [List.getElem?_map] at e1 e2
    simp only [Array.toList_map, List.getElem?_map, List.getElem?_zipIdx]
    cases hq : parts.toList[j]? with
    | none => simp [hq] at e1; simp [List.getElem?_eq_none e1]
    | some p =>
      have hlt : j < parts.toList.length := (List.getElem?_eq_some_iff.1 hq).1
      simp [hq] at e1
      rw [hq, List.getElem?_range' hlt] at e2
      simp at e2
      simp [← e1, e2]
  have := run_buildSlice (P := P) (w := w) len ht hi hz1 hpv hl (fun v hv => List.all_eq_true.1 h1 v hv) hlen
  simp only [execOp, Sem.run_bind]
  rw [show (parts.map fun (x : Nat × Operand) => match x with | (i, x) => (i, A.eval x)) = parts.map fun (p : Nat × Operand) => (p.1, A.eval p.2) from rfl, this]
  rfl
/-- make of one-cell elements -/
theorem EX.makeSlice {z : Value} {bs len : Nat} {kl kc : IntKind} (ht : P.underlying t = some (.slice e)) (hi : TI P e z 1 bs) (hz1 : z.oneCell' = true) (hx : ev σ x = some (.int kl (len : Int))) (hy : ev σ y = some (.int kc (len : Int)))
    (hb : bs * len ≤ 281474976710656) (h63 : len ≤ 9223372036854775807) :
    EX P n σ (.makeSlice t x y) ty w (.slice (some ⟨w.heap.size, 0, none⟩) len len) (w.alloc (.cells (List.replicate len z).toArray e)) := fun A ha dst pos after g => by
  obtain ⟨i, hq, hz, hs, rfl⟩ := hi.at
  have hb' : (i.bytes : Int) * (len : Int) ≤ 281474976710656 := by
    have h : ((i.bytes * len : Nat) : Int) ≤ 281474976710656 := by omega
    rwa [Int.natCast_mul] at h
  have hr := run_make (P := P) w t e i z ht hq hz kl kc len len (by omega) (Int.le_refl _) hb' (by omega)
  simp only [Int.toNat_natCast, hs, Nat.mul_one, oneCell_cells hz1] at hr
  have hl : madeCells #[z] len = (List.replicate len z).toArray := by
    apply Array.ext'
    rw [toList_madeCells_one]
  rw [hl] at hr
  simp only [execOp, ha.ev hx, ha.ev hy, Sem.run_bind, hr]
  rfl
/-- a text's bytes, in new memory -/
theorem EX.bytesOf {s : List UInt8} (ht : P.underlying t = some .string) (ht' : P.underlying t' = some (.slice e)) (he : P.underlying e = some (.int .u8)) (hx : ev σ x = some (str s)) (hs : s.length ≤ 9223372036854775807) :
    ∃ v w', EX P n σ (.convert t t' x) ty w v w' ∧ Own w' w.heap.size e 1 v s.length (bytesV s) ∧ v.ownBlock = some w.heap.size ∧ Ext w w' := by
  let cap := Question.cut (.appendCap s.length 0 e) (w.tape w.drawn (.appendCap s.length 0 e))
  have hge : s.length ≤ cap := by simp [cap, Question.cut]
  have hle : cap ≤ maxLen := by
    have hlt := Nat.mod_lt (w.tape w.drawn (.appendCap s.length 0 e)) (show 0 < 2 ^ 63 - s.length by omega)
    simp only [cap, Question.cut, maxLen]
    omega
  let l := bytesV s ++ List.replicate (cap - s.length) (Value.int .u8 0)
  have hll : l.length = cap := by simp [l, bytesV]; omega
  let w1 := w.drew.alloc (.cells l.toArray e)
  let w2 := w1.freeze ⟨w.heap.size, cap, none⟩ 1
  have hrow : (s.toArray.map fun b => Value.int .u8 (b.toNat : Int)) ++ Array.replicate (cap - s.length) (Value.int .u8 0) = l.toArray := by
    apply Array.ext'
    simp [l, bytesV]
  have hb1 : w1.heap[w.heap.size]? = some (.cells l.toArray e (0, 0)) := heap_alloc_new w.drew _
  have hsh : w1.shape? w.heap.size = some (e, cap) := by simp [World.shape?, hb1, hll]
  have hb2 : w2.heap[w.heap.size]? = some (.cells l.toArray e (cap, cap + 1)) := by
    simp only [w2, World.freeze]
    simp [Array.getElem?_modify, hb1]
  have hrun : (Conv.stringToBytes e ⟨⟨s⟩⟩).run P w = .ok (.slice (some ⟨w.heap.size, 0, none⟩) s.length cap) w2 := by
    have hsz : ByteArray.size ⟨⟨s⟩⟩ = s.length := rfl
    have hf : Question.forced (.appendCap s.length 0 e) = false := rfl
    have e2 : (({ w with drawn := w.drawn + 1 } : World).heap.push (.cells l.toArray e)) = w1.heap := rfl
    simp only [Conv.stringToBytes, hsz, Sem.run_bind, choose, Sem.run, hf, Bool.false_eq_true, if_false, Result.andThen_ok, newRow, newObj, Sem.run_pure]
    rw [show ((⟨⟨s⟩⟩ : ByteArray).data.map fun b => Value.int .u8 (b.toNat : Int)) = s.toArray.map fun b => Value.int .u8 (b.toNat : Int) from rfl, hrow]
    have hsh' : World.shape? { w with drawn := w.drawn + 1, heap := w.heap.push (.cells l.toArray e) } w.heap.size = some (e, cap) := hsh
    simp only [markStringish, shape, Sem.run_bind, Sem.run, hsh', Result.andThen_ok, freeze]
    rfl
  refine ⟨.slice (some ⟨w.heap.size, 0, none⟩) s.length cap, w2, fun A ha dst pos after g => ?_, ⟨by simp [bytesV], .inr ⟨w.heap.size, cap, _, rfl, Nat.le_refl _, ⟨(cap, cap + 1), hb2, .inl (by show l.length ≤ cap; omega)⟩, by simpa [l] using hll, hge, hle⟩⟩, rfl, ⟨rfl, rfl, rfl, ?_, fun k hk => ?_⟩⟩
  · simp only [execOp, ha.ev hx, convert, run_underlying ht, run_underlying ht', run_underlying he, Sem.run_bind, Result.andThen_ok, hrun]
    rfl
  · simp [w2, w1, World.freeze]
  · have : w2.heap[k]? = w1.heap[k]? := by
      simp only [w2, World.freeze]
      simp [Array.getElem?_modify, Nat.ne_of_gt hk]
    rw [this]
    exact Below.heap_alloc w.drew _ k hk
theorem strOf_bytes (s : List UInt8) : strOfNums (s.map fun c => (c.toNat : Int)) = ⟨⟨s⟩⟩ := by
  have h : s.map ((fun n : Int => UInt8.ofNat n.toNat) ∘ fun c : UInt8 => (c.toNat : Int)) = s := by
    have h2 : ∀ c ∈ s, ((fun n : Int => UInt8.ofNat n.toNat) ∘ fun c : UInt8 => (c.toNat : Int)) c = id c := fun c _ => by simp
    rw [List.map_congr_left h2, List.map_id]
  simp [strOfNums, h]
/-- bytes as a text -/
theorem EX.strOf {B : Nat} {A : Option Addr} {len cap : Nat} {s : List UInt8} (ht : P.underlying t = some (.slice e)) (he : P.underlying e = some (.int .u8)) (ht' : P.underlying t' = some .string) (hx : ev σ x = some (.slice A len cap)) (h : Sl w B A (bytesV s)) (hl : s.length = len) :
    EX P n σ (.convert t t' x) ty w (str s) w := fun Ac ha dst pos after g => by
  have hr : (convert t t' (.slice A len cap)).run P w = .ok (str s) w := by
    rcases h with h | ⟨b, o, rfl, _, hc⟩
    · have hs0 : s = [] := by
        have := congrArg List.length h
        simp [bytesV] at this
        exact this
      subst hs0
      simp only [List.length_nil] at hl
      subst hl
      cases A with
      | none => exact run_convert_bytes_nil (P := P) w t e ht he 0 cap t' ht'
      | some a =>
        obtain ⟨b, o, sp⟩ := a
        rw [run_convert_bytes_string w t t' e _ 0 cap ht he ht', run_bytesToString w _ 0 cap [] (by simp [loadCells, loadCellsFrom])]
        rfl
    · have := run_convert_bytes_arg (P := P) w t e ht he b o len cap (s.map fun c => (c.toNat : Int)) (by simpa using hl) (fun i hi => by
        have hi' : i < s.length := by omega
        have := hc i (.int .u8 (s[i].toNat : Int)) (by simp [bytesV, hi'])
        rw [this]
        simp [List.getD, hi']) t' ht'
      rw [strOf_bytes] at this
      exact this
  simp only [execOp, ha.ev hx, Sem.run_bind, hr]
  rfl
end
end Go.Proofs.YtjgeoeeikfjmdaaGreatDoor
/- The engine's laws for appending, with what stays told in one word. -/
namespace Go.Proofs.YtjgeoeeikfjmdaaGreatDoor
set_option linter.unnecessarySimpa false
open Go.RowKit
set_option linter.unusedSimpArgs false
set_option linter.unusedVariables false
section
variable {P : Program} {R : Act → World → Prop} {ops : Array Oper} {rest : List Oper} {k : List KI} {n : Nat} {σ : Sig} {w w0 : World} {x y : Operand} {t t' e ty ty1 : TypeId} {pos pos1 : String} {after after1 : Array Edge} {gd gd1 : Option (Nat × Bool)} {d d1 : Nat}
theorem Ext.grown {row : Option Nat} {w' : World} (h : Ext w0 w) (hg : w.grownBy w' row) (hr : ∀ g, row = some g → w0.heap.size ≤ g) : Ext w0 w' := Below.grown h hg h.size hr
/-- append onto what the call made -/
theorem OW.appendX {z : Value} {s bs : Nat} (hg : wantS ops σ gd = some true) (hd : Nat.blt d n = true) (ht : P.underlying t = some (.slice e)) (hi : TI P e z s bs) (hzs : z.cells.size = s) (hs0 : 0 < s)
    {v xv : Value} {m l : Nat} {xs news : List Value} (hx : ev σ x = some v) (hy : ev σ y = some xv) (hext : Ext w0 w) (hown : Own w w0.heap.size e s v l xs) (hsrc : Src P s t' xv m news w)
    (h63 : l + m ≤ maxLen) (hbytes : (l + m) * bs ≤ 140737488355328)
    (h : ∀ v' w', Own w' w0.heap.size e s v' (l + m) (xs ++ news) → Ext w0 w' → w.grownBy w' v.ownBlock → (v'.ownBlock = v.ownBlock ∨ v'.ownBlock = some w.heap.size) → OW P R ops rest k n ((d, v') :: σ) w') :
    OW P R ops (⟨some d, .call { callee := .builtin .append, args := #[x, y], argTypes := #[t, t'] }, ty, pos, after, gd⟩ :: rest) k n σ w :=
  OW.append w0.heap.size hg hd ht hi hzs hs0 hx hy hown hsrc h63 hbytes hext.size fun v' w' h1 h2 h3 => h v' w' h1 (hext.grown h2 fun g hg => (hown.lt g hg).1) h2 h3
/-- append of one element of one cell -/
theorem OW.push {z : Value} {bs : Nat} (hg1 : wantS ops σ gd1 = some true) (hd1 : Nat.blt d1 n = true) (hg : ∀ u, wantS ops ((d1, u) :: σ) gd = some true) (hd : Nat.blt d n = true) (ht : P.underlying t = some (.slice e)) (hi : TI P e z 1 bs) (hz1 : z.oneCell' = true)
    {v u : Value} {l : Nat} {xs : List Value} (hy : ev σ y = some u) (hx : ∀ q, ev ((d1, q) :: σ) x = some v) (hu : u.oneCell' = true) (hext : Ext w0 w) (hown : Own w w0.heap.size e 1 v l xs)
    (h63 : l + 1 ≤ maxLen) (hbytes : (l + 1) * bs ≤ 140737488355328)
    (h : ∀ q v' w', Own w' w0.heap.size e 1 v' (l + 1) (xs ++ [u]) → Ext w0 w' → w.grownBy w' v.ownBlock → (v'.ownBlock = v.ownBlock ∨ ∃ g, v'.ownBlock = some g ∧ w.heap.size ≤ g) → OW P R ops rest k n ((d, v') :: (d1, q) :: σ) w') :
    OW P R ops (⟨some d1, .buildSlice t 1 #[(0, y)], ty1, pos1, after1, gd1⟩ :: ⟨some d, .call { callee := .builtin .append, args := #[x, .tmp d1], argTypes := #[t, t] }, ty, pos, after, gd⟩ :: rest) k n σ w := by
  refine OW.val hg1 hd1 (EX.buildSlice (vs := [u]) 1 ht hi hz1 (by simp [evs, hy]) rfl rfl (by simp [hu]) (by decide)) ?_
  have hx1 : Ext w0 (w.alloc (.cells [u].toArray e)) := hext.trans (Ext.alloc w _)
  have hb := Bk.new w e [u]
  refine OW.appendX (hg _) hd ht hi (by rw [oneCell_cells hz1]; rfl) (by decide) (hx _) (lk_cons_same _ _ _) hx1 (hown.alloc _) (Src.of_sl ht (Sl.of_bk hb hb.lt) rfl (by simpa using hu) (by decide)) h63 hbytes ?_
  intro v' w' h1 h2 h3 h4
  refine h _ v' w' h1 h2 ⟨h3.os, h3.tape, h3.output, by have := h3.size; simp at this; omega, fun j hj hne => ?_⟩ ?_
  · rw [h3.block j (by simp; omega) hne]
    exact Below.heap_alloc w _ j hj
  · rcases h4 with h4 | h4
    · exact .inl h4
    · exact .inr ⟨_, h4, by simp⟩
theorem zeroCells_one {z : Value} (hz1 : z.oneCell' = true) (m : Nat) : (Builtin.zeroCells z.cells m).toList = List.replicate m z := by
  rw [oneCell_cells hz1]
  apply List.ext_getElem?
  intro j
  by_cases hj : j < m
  · simp [Builtin.zeroCells, hj, Nat.mod_one]
  · simp [Builtin.zeroCells, hj]
/-- append(x, make([]T, m)...) -/
theorem run_append_zeros (B : Nat) (tx : TypeId) {kx : IntKind} (hk : P.underlying tx = some (.int kx)) {z : Value} {bs : Nat} (ht : P.underlying t = some (.slice e)) (hi : TI P e z 1 bs) (hz1 : z.oneCell' = true)
    {v : Value} {l : Nat} {xs : List Value} (hown : Own w B e 1 v l xs) {m : Nat} {ki : IntKind} (h63 : l + m ≤ maxLen) (hbytes : (l + m) * bs ≤ 140737488355328) (hB : B ≤ w.heap.size) (hm : 0 < m) :
    ∃ v' w', (Builtin.append_ #[t, tx] ty #[v, .int ki (m : Int)]).run P w = .ok v' w' ∧ Own w' B e 1 v' (l + m) (xs ++ List.replicate m z) ∧ w.grownBy w' v.ownBlock ∧ (v'.ownBlock = v.ownBlock ∨ v'.ownBlock = some w.heap.size) := by
  obtain ⟨i, hq, hz, hs, rfl⟩ := hi.at
  have hzc := zeroCells_one hz1
  have hw : IntKind.i64.wrap (m : Int) = m := by rw [IntKind.wrap_i64]; simp only [maxLen] at h63; omega
  have hn0 : ¬ ((m : Int) < 0) := by omega
  have hnb : ¬ ((m : Int) * (i.bytes : Int) > 2 ^ 48) := by
    have h1 : m * i.bytes ≤ (l + m) * i.bytes := Nat.mul_le_mul_right _ (by omega)
    have h2 : ((m * i.bytes : Nat) : Int) ≤ 140737488355328 := by omega
    rw [Int.natCast_mul] at h2
    omega
  have hm0 : ¬ (m * 1 = 0) := by omega
  have hlen : (xs ++ List.replicate m z).length = (l + m) * 1 := by rw [List.length_append, hown.1, List.length_replicate, Nat.add_mul, Nat.mul_one m]
  have grow : ∀ (A : Option Addr) (cap : Nat), v = .slice A l cap → cap < l + m → (∀ w1 : World, (∀ a, w1.cell? a = w.cell? a) → (Builtin.firstCells 1 l (.slice A l cap)).run P w1 = .ok xs.toArray w1) →
      ∃ v' w', (Builtin.append_ #[t, tx] ty #[v, .int ki (m : Int)]).run P w = .ok v' w' ∧ Own w' B e 1 v' (l + m) (xs ++ List.replicate m z) ∧ w.grownBy w' v.ownBlock ∧ (v'.ownBlock = v.ownBlock ∨ v'.ownBlock = some w.heap.size) := by
    intro A cap hv hc hold
    subst hv
    have hge := grownCap_ge w (l + m) cap e
    have hcm : grownCap w (l + m) cap e ≤ maxLen := grownCap_le_maxLen w (l + m) cap e h63
    have hfits := growslice_fits (bytes := i.bytes) (need := l + m) (old := cap) (by omega) hbytes
    have hmb : m * i.bytes ≤ (l + m) * i.bytes := Nat.mul_le_mul_right _ (by omega)
    have hr := Lib.run_append_grow_zeros (P := P) w t tx ty e i z ki kx ht hk hq hz A l cap xs (by rw [hs]; exact hold w.drew fun _ => rfl) m hm (by omega) hc (by simp only [maxLen] at h63; omega) (by omega) hfits
    refine ⟨_, _, hr, ⟨hlen, .inr ⟨w.heap.size, _, (Builtin.zeroCells z.cells (grownCap w (l + m) cap e - (l + m))).toList, rfl, hB, ?_, ?_, hge, hcm⟩⟩, ⟨rfl, rfl, rfl, by simp, fun k hk _ => Below.heap_alloc w.drew _ k hk⟩, .inr rfl⟩
    · have := Bk.new w.drew e ((xs ++ List.replicate m z) ++ (Builtin.zeroCells z.cells (grownCap w (l + m) cap e - (l + m))).toList)
      rw [show ((xs ++ List.replicate m z) ++ (Builtin.zeroCells z.cells (grownCap w (l + m) cap e - (l + m))).toList).toArray = xs.toArray ++ Builtin.zeroCells z.cells m ++ Builtin.zeroCells z.cells (grownCap w (l + m) cap e - (l + m)) by
        apply Array.ext'; simp [← hzc]] at this
      exact this
    · rw [hlen, hzc, List.length_replicate]
      omega
  rcases hown.2 with ⟨rfl, rfl⟩ | ⟨g, cap, rest, rfl, hb, hg, hl, hn, hcm⟩
  · have hx : xs = [] := List.eq_nil_of_length_eq_zero (by simpa using hown.1)
    subst hx
    exact grow none 0 rfl (by omega) (fun w1 _ => by simp [Builtin.firstCells])
  · by_cases hroom : l + m ≤ cap
    · have hfit : l + (List.replicate m z).length ≤ (xs ++ rest).length := by
        rw [List.length_append, hl, List.length_replicate]; omega
      obtain ⟨w', hst, hb', hg'⟩ := run_storeCells_bk P w g l e (List.replicate m z) 0 (xs ++ rest) w hg (by simpa using hfit) (fun v hv => by rw [(List.mem_replicate.1 hv).2]; exact hz1)
      refine ⟨.slice (some ⟨g, 0, none⟩) (l + m) cap, w', ?_, ⟨hlen, .inr ⟨g, cap, rest.drop m, rfl, hb, ?_, ?_, hroom, hcm⟩⟩, by simpa [Value.ownBlock] using hg', .inl rfl⟩
      · rw [← hzc] at hst
        have h63' : (m : Int) ≤ 9223372036854775807 := by simp only [maxLen] at h63; omega
        have hne : m ≠ 0 := by omega
        simp [Builtin.append_, run_underlying ht, run_underlying hk, sizeOf, typeInfo, zeroValue, hq, hz, hs, asInt, asIntOf, hw, hn0, hne, hroom, Addr.add_lit, hst, show ¬ (281474976710656 < (m : Int) * (i.bytes : Int)) by omega]
      · have hxl : xs.length = l := by have := hown.1; omega
        have e1 : (xs ++ rest).take (l + 0) = xs := by rw [Nat.add_zero, ← hxl]; exact List.take_left
        have e2 : (xs ++ rest).drop (l + 0 + (List.replicate m z).length) = rest.drop m := by
          rw [Nat.add_zero, List.length_replicate, ← hxl, ← List.drop_drop, List.drop_left]
        rw [e1, e2] at hb'
        exact hb'
      · rw [List.length_drop, hlen]
        have := hown.1
        omega
    · refine grow _ cap rfl (by omega) (fun w1 hw1 => ?_)
      have : (loadCells ⟨g, 0, none⟩ (l * 1)).run P w1 = .ok xs.toArray w1 := by
        have := run_loadCells_list (P := P) w1 ⟨g, 0, none⟩ xs (fun j u hj => by
          have hadd : (⟨g, 0, none⟩ : Addr).add j = ⟨g, j, none⟩ := by unfold Addr.add; split <;> simp_all
          rw [hadd, hw1]
          refine hg.cell_of ?_
          rw [List.getElem?_append_left]
          · exact hj
          · rcases Nat.lt_or_ge j xs.length with h' | h'
            · exact h'
            · simp [List.getElem?_eq_none h'] at hj)
        rwa [hown.1] at this
      simpa [Builtin.firstCells] using this
theorem OW.appendZ {z : Value} {bs : Nat} {kx ki : IntKind} (hg : wantS ops σ gd = some true) (hd : Nat.blt d n = true) (ht : P.underlying t = some (.slice e)) (hk : P.underlying t' = some (.int kx)) (hi : TI P e z 1 bs) (hz1 : z.oneCell' = true)
    {v : Value} {m l : Nat} {xs : List Value} (hx : ev σ x = some v) (hy : ev σ y = some (.int ki (m : Int))) (hext : Ext w0 w) (hown : Own w w0.heap.size e 1 v l xs) (hm : 0 < m)
    (h63 : l + m ≤ maxLen) (hbytes : (l + m) * bs ≤ 140737488355328)
    (h : ∀ v' w', Own w' w0.heap.size e 1 v' (l + m) (xs ++ List.replicate m z) → Ext w0 w' → w.grownBy w' v.ownBlock → (v'.ownBlock = v.ownBlock ∨ v'.ownBlock = some w.heap.size) → OW P R ops rest k n ((d, v') :: σ) w') :
    OW P R ops (⟨some d, .call { callee := .builtin .append, args := #[x, y], argTypes := #[t, t'] }, ty, pos, after, gd⟩ :: rest) k n σ w := by
  obtain ⟨v', w', hr, h2, h3, h4⟩ := run_append_zeros (P := P) (ty := ty) w0.heap.size t' hk ht hi hz1 hown (ki := ki) h63 hbytes hext.size hm
  refine OW.val hg hd (v := v') (w' := w') ?_ (h v' w' h2 (hext.grown h3 fun g hg => (hown.lt g hg).1) h3 h4)
  intro A ha dst pos after g
  simp only [execOp, resolve, invoke, builtin, Sem.run_bind, Sem.run_pure, Result.andThen_ok, List.map_toArray, List.map_cons, List.map_nil, ha.ev hx, ha.ev hy, hr]
theorem OW.storeA {z : Value} {s bs b o : Nat} {vs l : List Value} {T : TypeId} (hg : wantS ops σ gd = some true) (h : TI P t z s bs) (hx : ev σ x = some (.pointer (some ⟨b, o, none⟩))) (hy : ev σ y = some (.agg vs.toArray)) (hs : vs.length = s) (h1 : vs.all (·.oneCell') = true) (hb : Bk w b T l) (hl : o + vs.length ≤ l.length)
    (hn : ∀ w', Bk w' b T (l.take o ++ vs ++ l.drop (o + vs.length)) → w.grownBy w' (some b) → OW P R ops rest k n σ w') : OW P R ops (⟨none, .store t x y, ty, pos, after, gd⟩ :: rest) k n σ w := by
  obtain ⟨w', he, h2, h3⟩ := EU.storeA (P := P) (n := n) (ty := ty) h hx hy hs h1 hb hl
  exact OW.eff hg he (hn w' h2 h3)
/-- the whole block is stored anew -/
theorem OW.storeW {z : Value} {s bs b : Nat} {vs l : List Value} {T : TypeId} (hg : wantS ops σ gd = some true) (h : TI P t z s bs) (hx : ev σ x = some (.pointer (some ⟨b, 0, none⟩))) (hy : ev σ y = some (.agg vs.toArray)) (hs : vs.length = s) (h1 : vs.all (·.oneCell') = true) (hb : Bk w b T l) (hl : l.length = s)
    (hn : ∀ w', Bk w' b T vs → w.grownBy w' (some b) → OW P R ops rest k n σ w') : OW P R ops (⟨none, .store t x y, ty, pos, after, gd⟩ :: rest) k n σ w :=
  OW.storeA hg h hx hy hs h1 hb (by omega) fun w' h2 h3 => hn w' (by
    have e : l.take 0 ++ vs ++ l.drop (0 + vs.length) = vs := by rw [List.drop_of_length_le (by omega)]; simp
    rwa [e] at h2) h3
theorem retA {fn : Func} {Q : Value → World → Prop} {p : Nat} {z : Value} {s bs g : Nat} {l : List Value} {T : TypeId} {dd : TypeDesc} (hs : fn.results = #[.cell p t]) (hp : lk σ p = some (.pointer (some ⟨g, 0, none⟩))) (hu : P.underlying t = some dd) (hd : flat dd = false) (h : TI P t z s bs) (hb : Bk w g T l) (hl : l.length = s) (hq : Q (.agg l.toArray) w) :
    ∀ a, Fr n σ a → bodyPost P fn (fun e w' => ∃ v, e = .returned v ∧ Q v w') .ret a w :=
  ret_of (fun a ha => by
    have hp' := ha.val p _ hp
    have hld := run_loadCells_list (P := P) w ⟨g, 0, none⟩ l (fun j u hj => by
      have hadd : (⟨g, 0, none⟩ : Addr).add j = ⟨g, j, none⟩ := by unfold Addr.add; split <;> simp_all
      rw [hadd]; exact hb.cell_of hj)
    rw [hl] at hld
    simp [results, hs, hp', asAddr, loadVar, run_isAgg hu, hd, run_sizeOf h, hld, Sem.run_bind]) hq
theorem run_sliceBoundI {kk : IntKind} {i : Nat} (y : Nat) (c : BoundsCode) (h : i ≤ y) : (Instr.sliceBound (.int kk (i : Int)) y c).run P w = .ok i w := run_sliceBound y c h
/-- a slice of a slice of one-cell elements -/
theorem Sl.cut {B : Nat} {A : Option Addr} {xs : List Value} (h : Sl w B A xs) {i c : Nat} (hc : xs.length ≤ c) : Sl w B (if c = i then A else A.map (·.add (i * 1))) (xs.drop i) := by
  rcases h with h | ⟨b, o, rfl, hb, hcell⟩
  · subst h; left; simp
  · by_cases hi : xs.length ≤ i
    · left; exact List.drop_of_length_le hi
    · rw [if_neg (by omega)]
      refine .inr ⟨b, o + i, by simp [Addr.add_lit, Nat.mul_one], hb, fun j u hu => ?_⟩
      rw [List.getElem?_drop] at hu
      rw [Nat.add_assoc]
      exact hcell (i + j) u hu
theorem EX.sliceALE {z : Value} {bs : Nat} {A : Option Addr} {B len cap i : Nat} {kk : IntKind} {lo : Operand} {xs : List Value} (ht : P.underlying t = some (.slice e)) (hi : TI P e z 1 bs) (hx : ev σ x = some (.slice A len cap)) (hl : ev σ lo = some (.int kk (i : Int))) (h : i ≤ len) (hc : len ≤ cap) (hs : Sl w B A xs) (hln : xs.length = len) :
    ∃ A', EX P n σ (.slice t x (some lo) none none) ty w (.slice A' (len - i) (cap - i)) w ∧ Sl w B A' (xs.drop i) :=
  ⟨if cap = i then A else A.map (·.add (i * 1)), fun Ac ha dst pos after g => by
    simp only [execOp, ha.ev hx, ha.ev hl, Option.map_some, Option.map_none]
    simp [Instr.sliceAt, run_underlying ht, Instr.slice, Instr.sliceBounds, Sem.run_bind, run_sliceBoundI _ _ h, run_sizeOf hi], hs.cut (by omega)⟩
theorem EX.sliceAFH {z : Value} {bs : Nat} {A : Option Addr} {B len cap j : Nat} {kk : IntKind} {hi' : Operand} {xs : List Value} (ht : P.underlying t = some (.slice e)) (hi : TI P e z 1 bs) (hx : ev σ x = some (.slice A len cap)) (hl : ev σ hi' = some (.int kk (j : Int))) (h : j ≤ len) (hc : len ≤ cap) (hs : Sl w B A xs) (hln : xs.length = len) :
    ∃ A', EX P n σ (.slice t x none (some hi') none) ty w (.slice A' j cap) w ∧ Sl w B A' (xs.take j) :=
  ⟨if cap = 0 then A else A.map (·.add (0 * 1)), fun Ac ha dst pos after g => by
    simp only [execOp, ha.ev hx, ha.ev hl, Option.map_some, Option.map_none]
    simp [Instr.sliceAt, run_underlying ht, Instr.slice, Instr.sliceBounds, Sem.run_bind, run_sliceBoundI cap _ (Nat.le_trans h hc), run_sizeOf hi], by
    have h1 := hs.cut (i := 0) (c := cap) (by omega)
    rw [List.drop_zero] at h1
    exact h1.pre j⟩
theorem OW.sliceALE {z : Value} {bs : Nat} {A : Option Addr} {B len cap i : Nat} {kk : IntKind} {lo : Operand} {xs : List Value} (hg : wantS ops σ gd = some true) (hd : Nat.blt d n = true) (ht : P.underlying t = some (.slice e)) (hi : TI P e z 1 bs) (hx : ev σ x = some (.slice A len cap)) (hl : ev σ lo = some (.int kk (i : Int))) (h : i ≤ len) (hc : len ≤ cap) (hs : Sl w B A xs) (hln : xs.length = len)
    (hn : ∀ A', Sl w B A' (xs.drop i) → OW P R ops rest k n ((d, .slice A' (len - i) (cap - i)) :: σ) w) : OW P R ops (⟨some d, .slice t x (some lo) none none, ty, pos, after, gd⟩ :: rest) k n σ w := by
  obtain ⟨A', h1, h2⟩ := EX.sliceALE (P := P) (n := n) (ty := ty) ht hi hx hl h hc hs hln
  exact OW.val hg hd h1 (hn A' h2)
theorem OW.sliceAFH {z : Value} {bs : Nat} {A : Option Addr} {B len cap j : Nat} {kk : IntKind} {hi' : Operand} {xs : List Value} (hg : wantS ops σ gd = some true) (hd : Nat.blt d n = true) (ht : P.underlying t = some (.slice e)) (hi : TI P e z 1 bs) (hx : ev σ x = some (.slice A len cap)) (hl : ev σ hi' = some (.int kk (j : Int))) (h : j ≤ len) (hc : len ≤ cap) (hs : Sl w B A xs) (hln : xs.length = len)
    (hn : ∀ A', Sl w B A' (xs.take j) → OW P R ops rest k n ((d, .slice A' j cap) :: σ) w) : OW P R ops (⟨some d, .slice t x none (some hi') none, ty, pos, after, gd⟩ :: rest) k n σ w := by
  obtain ⟨A', h1, h2⟩ := EX.sliceAFH (P := P) (n := n) (ty := ty) ht hi hx hl h hc hs hln
  exact OW.val hg hd h1 (hn A' h2)
/-- a text's bytes in new memory, as a step -/
theorem OW.bytesOf {s : List UInt8} (hg : wantS ops σ gd = some true) (hd : Nat.blt d n = true) (ht : P.underlying t = some .string) (ht' : P.underlying t' = some (.slice e)) (he : P.underlying e = some (.int .u8)) (hx : ev σ x = some (str s)) (hs : s.length ≤ 9223372036854775807)
    (hn : ∀ cap rs w', Bk w' w.heap.size e (bytesV s ++ rs) → s.length ≤ cap → cap ≤ maxLen → s.length + rs.length = cap → Ext w w' → OW P R ops rest k n ((d, .slice (some ⟨w.heap.size, 0, none⟩) s.length cap) :: σ) w') :
    OW P R ops (⟨some d, .convert t t' x, ty, pos, after, gd⟩ :: rest) k n σ w := by
  obtain ⟨v, w', h1, h2, h3, h4⟩ := EX.bytesOf (P := P) (n := n) (ty := ty) (w := w) ht ht' he hx hs
  rcases h2.2 with ⟨rfl, _⟩ | ⟨g, cap, rs, rfl, _, hb, hl, hc, hm⟩
  · simp [Value.ownBlock] at h3
  · simp [Value.ownBlock] at h3
    subst h3
    exact OW.val hg hd h1 (hn cap rs w' hb hc hm (by rw [bytesV_length] at hl; omega) h4)
theorem EX.min3N {y' : Operand} {kk : IntKind} {a b c : Nat} {ats : Array TypeId} (hx : ev σ x = some (.int kk (a : Int))) (hy : ev σ y = some (.int kk (b : Int))) (hz : ev σ y' = some (.int kk (c : Int))) : EX P n σ (.call { callee := .builtin .min, args := #[x, y, y'], argTypes := ats }) ty w (.int kk ((min (min a b) c : Nat) : Int)) w := fun A ha dst pos after g => by
  simp only [execOp, resolve, invoke, builtin, Sem.run_bind, Sem.run_pure, Result.andThen_ok, List.map_toArray, List.map_cons, List.map_nil, ha.ev hx, ha.ev hy, ha.ev hz]
  have e1 : (if (b : Int) < a then (b : Int) else a) = ((min a b : Nat) : Int) := by split <;> omega
  have e2 : (if (c : Int) < ((min a b : Nat) : Int) then (c : Int) else ((min a b : Nat) : Int)) = ((min (min a b) c : Nat) : Int) := by split <;> omega
  simp only [Builtin.min_, Builtin.min2, List.foldlM, Sem.run_bind, Sem.run_pure, Result.andThen_ok, e1, e2]
end
end Go.Proofs.YtjgeoeeikfjmdaaGreatDoor
/- The engine's laws for boxes, closures, and for what a call changes. No program is spoken of. -/
namespace Go.Proofs.YtjgeoeeikfjmdaaGreatDoor
set_option linter.unnecessarySimpa false
open Go.RowKit
set_option linter.unusedSimpArgs false
set_option linter.unusedVariables false

/-! ### What is changed -/
/-- all blocks that were there are as they were, but for those of S -/
structure Mo (w w' : World) (S : List Nat) : Prop where
  os : w'.os = w.os
  tape : w'.tape = w.tape
  output : w'.output = w.output
  size : w.heap.size ≤ w'.heap.size
  block : ∀ k, k < w.heap.size → k ∉ S → w'.heap[k]? = w.heap[k]?
section
variable {w w' w'' : World} {S S' : List Nat} {b B : Nat} {T : TypeId} {l : List Value}
theorem Mo.refl (w : World) (S : List Nat) : Mo w w S := ⟨rfl, rfl, rfl, Nat.le_refl _, fun _ _ _ => rfl⟩
theorem Mo.trans (h : Mo w w' S) (k : Mo w' w'' S) : Mo w w'' S :=
  ⟨k.os.trans h.os, k.tape.trans h.tape, k.output.trans h.output, Nat.le_trans h.size k.size, fun i hi hS => (k.block i (Nat.lt_of_lt_of_le hi h.size) hS).trans (h.block i hi hS)⟩
theorem Mo.mono (h : Mo w w' S) (hs : ∀ k ∈ S, k ∈ S') : Mo w w' S' := ⟨h.os, h.tape, h.output, h.size, fun i hi hS => h.block i hi fun hk => hS (hs i hk)⟩
/-- blocks that were not there at the beginning need not be named -/
theorem Mo.fresh (h : Mo w w' S) (hs : ∀ k ∈ S, k < w.heap.size → k ∈ S') : Mo w w' S' := ⟨h.os, h.tape, h.output, h.size, fun i hi hS => h.block i hi fun hk => hS (hs i hk hi)⟩
theorem Mo.of_ext (h : Ext w w') (S : List Nat) : Mo w w' S := ⟨h.os, h.tape, h.output, h.size, fun i hi _ => h.block i hi⟩
theorem Mo.ext (h : Mo w w' []) : Ext w w' := ⟨h.os, h.tape, h.output, h.size, fun i hi => h.block i hi (by simp)⟩
theorem Mo.set (w : World) (b i : Nat) (u : Value) : Mo w (w.setCell ⟨b, i, none⟩ u) [b] := ⟨rfl, rfl, rfl, by simp, fun k _ hk => Below.heap_setCell w _ u k (fun e => hk (by simp [e]))⟩
theorem Mo.grown {row : Option Nat} (h : w.grownBy w' row) (hr : ∀ k, row = some k → k ∈ S) : Mo w w' S := ⟨h.os, h.tape, h.output, h.size, fun i hi hS => h.block i hi (fun e => hS (hr i e.symm))⟩
theorem below_mo {a : World} (h : Below B a w) (hm : Mo w w' S) (hB : B ≤ w.heap.size) (hs : ∀ k ∈ S, B ≤ k) : Below B a w' :=
  ⟨hm.os.trans h.os, hm.tape.trans h.tape, hm.output.trans h.output, Nat.le_trans h.size hm.size, fun i hi => (hm.block i (by omega) (fun hk => by have := hs i hk; omega)).trans (h.block i hi)⟩
theorem Bk.mo (h : Bk w b T l) (hm : Mo w w' S) (hb : b ∉ S) : Bk w' b T l := h.of_block (hm.block b h.lt hb)
theorem Own.mo {s n : Nat} {v : Value} {xs : List Value} (h : Own w B T s v n xs) (hm : Mo w w' S) (hb : ∀ k, v.ownBlock = some k → k ∉ S) : Own w' B T s v n xs :=
  h.of_blocks fun k hk => hm.block k (h.lt k hk).2 (hb k hk)
theorem Sl.mo {A : Option Addr} {xs : List Value} (h : Sl w B A xs) (hm : Mo w w' S) (hB : B ≤ w.heap.size) (hb : ∀ k ∈ S, B ≤ k) : Sl w' B A xs := by
  rcases h with h | ⟨b, o, h1, h2, h3⟩
  · exact .inl h
  · refine .inr ⟨b, o, h1, h2, fun j u hu => ?_⟩
    have hc := h3 j u hu
    have hk := hm.block b (by omega) (fun hk => by have := hb b hk; omega)
    unfold World.cell? at hc ⊢
    rwa [hk]
end

/-! ### A meeting behind two pieces of code -/
section
variable {P : Program} {R : Act → World → Prop} {k : List KI} {n : Nat} {σ : Sig} {w : World} {c c' : Code}
theorem KW.cutd {ι : Type} (I : ι → Prop) (S : ι → Sig) (W : ι → World) (h : KW P R (.code c :: .code c' :: .asr (Met n I S W) :: k) n σ w) (h2 : ∀ i, I i → KW P R k n (S i) (W i)) :
    KW P R (.code c :: .code c' :: k) n σ w := fun a ha => by
  have h1 := h a ha
  simp only [pst] at h1 ⊢
  refine Code.wp_mono (fun e a' w' q => ?_) h1
  cases e with
  | normal =>
    simp only [pst] at q ⊢
    refine Code.wp_mono (fun e a' w' q => ?_) q
    cases e with
    | normal => obtain ⟨i, hi, hf, rfl⟩ := q; exact h2 i hi a' hf
    | _ => exact q
  | _ => exact q
/-- the second piece is taken apart -/
theorem KW.seq2 {x y : Code} (h : KW P R (.code c :: .code x :: .code y :: k) n σ w) : KW P R (.code c :: .code (.seq x y) :: k) n σ w := fun a ha => by
  have h1 := h a ha
  simp only [pst] at h1 ⊢
  refine Code.wp_mono (fun e a' w' q => ?_) h1
  cases e with
  | normal =>
    simp only [pst] at q ⊢
    refine wp_seq ?_
    rw [← pst_then]
    exact q
  | _ => exact q
theorem KW.cutd1 {α : Type} (I : α → Prop) (S : α → Sig) (W : α → World) (h : KW P R (.code c :: .code c' :: .asr (Met1 n I S W) :: k) n σ w)
    (h2 : ∀ x0, I x0 → KW P R k n (S x0) (W x0)) : KW P R (.code c :: .code c' :: k) n σ w :=
  KW.cutd (fun p : α => I p) (fun p => S p) (fun p => W p) h fun p hp => h2 p hp
theorem KW.cutd2 {α β : Type} (I : α → β → Prop) (S : α → β → Sig) (W : α → β → World) (h : KW P R (.code c :: .code c' :: .asr (Met2 n I S W) :: k) n σ w)
    (h2 : ∀ x0 x1, I x0 x1 → KW P R k n (S x0 x1) (W x0 x1)) : KW P R (.code c :: .code c' :: k) n σ w :=
  KW.cutd (fun p : α × β => I p.1 p.2) (fun p => S p.1 p.2) (fun p => W p.1 p.2) h fun p hp => h2 p.1 p.2 hp
theorem KW.cutd3 {α β γ : Type} (I : α → β → γ → Prop) (S : α → β → γ → Sig) (W : α → β → γ → World) (h : KW P R (.code c :: .code c' :: .asr (Met3 n I S W) :: k) n σ w)
    (h2 : ∀ x0 x1 x2, I x0 x1 x2 → KW P R k n (S x0 x1 x2) (W x0 x1 x2)) : KW P R (.code c :: .code c' :: k) n σ w :=
  KW.cutd (fun p : α × β × γ => I p.1 p.2.1 p.2.2) (fun p => S p.1 p.2.1 p.2.2) (fun p => W p.1 p.2.1 p.2.2) h fun p hp => h2 p.1 p.2.1 p.2.2 hp
end

/-! ### Boxes -/
section
variable {P : Program} {R : Act → World → Prop} {ops : Array Oper} {rest : List Oper} {k : List KI} {n : Nat} {σ : Sig} {w : World} {x y t : Operand} {T T' e ty : TypeId} {pos : String} {after : Array Edge} {gd : Option (Nat × Bool)} {d : Nat} {v z : Value} {s bs : Nat} {l : List Value}
theorem EX.box1 (hx : ev σ x = some v) (h1 : v.oneCell' = true) : EX P n σ (.box T x) ty w (.pointer (some ⟨w.heap.size, 0, none⟩)) (w.alloc (.cells [v].toArray T)) :=
  EX.box hx (by rw [oneCell_cells h1])
/-- a variable's box -/
theorem OW.boxB (hg : wantS ops σ gd = some true) (hd : Nat.blt d n = true) (hx : ev σ x = some v) (h1 : v.oneCell' = true)
    (h : ∀ b w', w.heap.size ≤ b → Bk w' b T [v] → Ext w w' → OW P R ops rest k n ((d, .pointer (some ⟨b, 0, none⟩)) :: σ) w') :
    OW P R ops (⟨some d, .box T x, ty, pos, after, gd⟩ :: rest) k n σ w :=
  OW.val hg hd (EX.box1 hx h1) (h _ _ (Nat.le_refl _) (Bk.new w T [v]) (Ext.alloc w _))
theorem OW.allocB (hg : wantS ops σ gd = some true) (hd : Nat.blt d n = true) (hi : TI P T z s bs) (hl : z.cells.toList = l)
    (h : ∀ b w', w.heap.size ≤ b → Bk w' b T l → Ext w w' → OW P R ops rest k n ((d, .pointer (some ⟨b, 0, none⟩)) :: σ) w') :
    OW P R ops (⟨some d, .alloc T, ty, pos, after, gd⟩ :: rest) k n σ w :=
  OW.val hg hd (EX.alloc hi hl) (h _ _ (Nat.le_refl _) (Bk.new w T l) (Ext.alloc w _))
theorem OW.storeB {b i : Nat} (hg : wantS ops σ gd = some true) (hi : TI P T z 1 bs) (hx : ev σ x = some (.pointer (some ⟨b, i, none⟩))) (hy : ev σ y = some v) (h1 : v.oneCell' = true) (hb : Bk w b T' l) (hlt : i < l.length)
    (h : ∀ w', Bk w' b T' (l.set i v) → Mo w w' [b] → OW P R ops rest k n σ w') :
    OW P R ops (⟨none, .store T x y, ty, pos, after, gd⟩ :: rest) k n σ w :=
  OW.eff hg (EU.storeBk hi hx hy h1 hb hlt) (h _ (hb.set i v) (Mo.set w b i v))

theorem OW.makeB {len : Nat} {kl kc : IntKind} (hg : wantS ops σ gd = some true) (hd : Nat.blt d n = true) (ht : P.underlying T = some (.slice e)) (hi : TI P e z 1 bs) (hz1 : z.oneCell' = true) (hx : ev σ x = some (.int kl (len : Int))) (hy : ev σ y = some (.int kc (len : Int)))
    (hb : bs * len ≤ 281474976710656) (h63 : len ≤ 9223372036854775807)
    (h : ∀ b w', w.heap.size ≤ b → Bk w' b e (List.replicate len z) → Ext w w' → OW P R ops rest k n ((d, .slice (some ⟨b, 0, none⟩) len len) :: σ) w') :
    OW P R ops (⟨some d, .makeSlice T x y, ty, pos, after, gd⟩ :: rest) k n σ w :=
  OW.val hg hd (EX.makeSlice ht hi hz1 hx hy hb h63) (h _ _ (Nat.le_refl _) (Bk.new w e _) (Ext.alloc w _))
theorem OW.buildB {parts : Array (Nat × Operand)} {vs : List Value} (len : Nat) (hg : wantS ops σ gd = some true) (hd : Nat.blt d n = true) (ht : P.underlying T = some (.slice e)) (hi : TI P e z 1 bs) (hz1 : z.oneCell' = true)
    (hv : evs σ (parts.toList.map (·.2)) = some vs) (hp : parts.toList.map (·.1) = List.range' 0 parts.toList.length) (hl : vs.length = len) (h1 : vs.all (·.oneCell') = true) (hlen : len ≤ 16777216)
    (h : ∀ b w', w.heap.size ≤ b → Bk w' b e vs → Ext w w' → OW P R ops rest k n ((d, .slice (some ⟨b, 0, none⟩) len len) :: σ) w') :
    OW P R ops (⟨some d, .buildSlice T len parts, ty, pos, after, gd⟩ :: rest) k n σ w :=
  OW.val hg hd (EX.buildSlice len ht hi hz1 hv hp hl h1 hlen) (h _ _ (Nat.le_refl _) (Bk.new w e vs) (Ext.alloc w _))

/-- the lowest bits of a number with a sign -/
theorem OW.maskE {c : Int} {b j p : Nat} (hg : wantS ops σ gd = some true) (hd : Nat.blt d n = true) (hx : ev σ x = some (.int .i64 c)) (hy : ev σ y = some (.int .i64 (b : Int))) (hp : 2 ^ j = p) (hb : b + 1 = p) (hpm : p ≤ 9223372036854775807) (hc : c ≤ 9223372036854775807)
    (h : ∀ r : Nat, r < p → (0 ≤ c → (r : Int) = c % (p : Int)) → OW P R ops rest k n ((d, .int .i64 (r : Int)) :: σ) w) :
    OW P R ops (⟨some d, .binOp .and T x y T', ty, pos, after, gd⟩ :: rest) k n σ w := by
  by_cases h0 : 0 ≤ c
  · obtain ⟨a, rfl⟩ := Int.eq_ofNat_of_zero_le h0
    exact OW.val hg hd (EX.maskN hx hy hp hb (m := 9223372036854775807) rfl (by omega)) (h (a % p) (Nat.mod_lt _ (by omega)) (fun _ => by simp))
  · refine OW.val hg hd (v := .int .i64 ((((BitVec.ofInt 64 c).toNat % p : Nat)) : Int)) (w' := w) (EX.binI hx hy ?_) (h _ (Nat.mod_lt _ (by omega)) (fun q => absurd q h0))
    have e : (BitVec.ofInt 64 c).toNat &&& b = (BitVec.ofInt 64 c).toNat % p := by
      rw [show b = p - 1 by omega, ← hp]
      exact Nat.and_two_pow_sub_one_eq_mod _ j
    have hl : (BitVec.ofInt 64 c).toNat % p < p := Nat.mod_lt _ (by omega)
    have hw := wrap_fit (k := .i64) (m := 9223372036854775807) (a := (BitVec.ofInt 64 c).toNat % p) rfl (by omega)
    have hf : (BitVec.ofInt 64 (b : Int)).toNat = b := ofInt_fit (k := .i64) (by simp only [maxN]; omega)
    have e2 : (BitVec.ofInt 64 c &&& BitVec.ofInt 64 (b : Int)).toNat = (BitVec.ofInt 64 c).toNat % p := by rw [BitVec.toNat_and, hf, e]
    have e3 : (binOp .and T (.int .i64 c) (.int .i64 (b : Int))).run P w = .ok (.int .i64 (IntKind.i64.wrap ((BitVec.ofInt 64 c &&& BitVec.ofInt 64 (b : Int)).toNat : Int))) w := rfl
    rw [e3, e2, hw]
theorem EX.shrZ {s p : Nat} {c : Int} {kd k' : IntKind} (hx : ev σ x = some (.int kd c)) (hy : ev σ y = some (.int k' (s : Int))) (hp : 2 ^ s = p) (hs : s ≤ kd.bits) :
    EX P n σ (.binOp .shr T x y T') ty w (.int kd (c / (p : Int))) w :=
  EX.bin hx hy (by unfold eqGuard; rfl) (by
    subst hp
    have hn : ¬ (s : Int) < 0 := by omega
    have hf : c.fdiv (2 ^ s) = c / ((2 ^ s : Nat) : Int) := by
      rw [Int.fdiv_eq_ediv_of_nonneg _ (by exact_mod_cast Nat.zero_le _)]
      simp
    simp [binOp, Op.shift, hn, Nat.min_eq_left hs, hf])

/-! ### Closures -/
theorem EX.makeFunc {f : FuncId} {fs cs : List Operand} {fv cv : List Value} (hf : evs σ fs = some fv) (hc : evs σ cs = some cv) :
    EX P n σ (.makeFunc (.func f) fs.toArray cs.toArray) ty w (.func (.func f) fv.toArray cv.toArray) w := fun A ha dst pos after g => by
  have e1 : fs.toArray.map A.eval = fv.toArray := by simp [ha.evs hf]
  have e2 : cs.toArray.map A.eval = cv.toArray := by simp [ha.evs hc]
  simp only [execOp, e1, e2]
  rfl
theorem EC.val {f : FuncId} {xs : List Operand} {vs fv cv args : List Value} {ats : Array TypeId} {fn : Func} (hf : P.funcs[f]? = some fn) (hn : (!(fn.name == "runtime.NumGoroutine") && fn.body.isSome) = true)
    (ht : ev σ t = some (.func (.func f) fv.toArray cv.toArray)) (hx : evs σ xs = some vs) (he : fv ++ vs ++ cv = args) :
    EC P n σ (.call { callee := .value t, args := xs.toArray, argTypes := ats }) ty w f args.toArray := fun A ha dst pos after g => by
  subst he
  have e1 : xs.toArray.map A.eval = vs.toArray := by simp [ha.evs hx]
  simp only [execOp, resolve, Deferred.ofValue, ha.ev ht, Sem.run_bind, Sem.run_pure, Result.andThen_ok, invoke, e1]
  have := run_callFunc (P := P) (w := w) hf hn (fv ++ vs ++ cv).toArray
  simpa using this
/-- a call of a function value -/
theorem OW.callV {f : FuncId} {xs : List Operand} {ats : Array TypeId} {vs fv cv args : List Value} {Q : Value → World → Prop}
    (hg : wantS ops σ gd = some true) (hd : Nat.blt d n = true) (ht : ev σ t = some (.func (.func f) fv.toArray cv.toArray)) (hx : evs σ xs = some vs) (he : fv ++ vs ++ cv = args) (hc : Ret P f args w Q)
    (h : ∀ v w', Q v w' → OW P R ops rest k n ((d, v) :: σ) w') :
    OW P R ops (⟨some d, .call { callee := .value t, args := xs.toArray, argTypes := ats }, ty, pos, after, gd⟩ :: rest) k n σ w := by
  obtain ⟨⟨fn, h1, h2⟩, _⟩ := id hc
  exact OW.callE hg hd (EC.val h1 h2 ht hx he) hc h
end
/-! ### The library's contracts -/
theorem Ret.of_calls {P : Program} {f : FuncId} {fn : Func} {args : List Value} {w : World} {v : Value} {W : World → Prop} (hf : P.funcs[f]? = some fn) (hn : (!(fn.name == "runtime.NumGoroutine") && fn.body.isSome) = true)
    (h : Calls P f args.toArray w fun e w' => e = .returned v ∧ W w') : Ret P f args w fun v' w' => v' = v ∧ W w' :=
  ⟨⟨fn, hf, hn⟩, h.mono fun e w' ⟨he, hw⟩ => ⟨v, he, rfl, hw⟩⟩
end Go.Proofs.YtjgeoeeikfjmdaaGreatDoor
/- fields, in plain words: octal and decimal numbers, texts with noughts behind, a sector's sum. No program is spoken of. -/
namespace Go.Proofs.YtjgeoeeikfjmdaaGreatDoor.Fld
set_option linter.unnecessarySimpa false
open Go.Proofs.YtjgeoeeikfjmdaaGreatDoor
set_option linter.unusedSimpArgs false
set_option linter.unusedVariables false

def most : Nat := 9007199254740992
/-! ### Reading -/
def oct (c : UInt8) : Bool := decide (48 ≤ c.toNat) && decide (c.toNat ≤ 55)
def dig (c : UInt8) : Bool := decide (48 ≤ c.toNat) && decide (c.toNat ≤ 57)
def one (a b : Nat) (c : UInt8) : Bool := decide (c.toNat = a) || decide (c.toNat = b)
def fold (base : Nat) : Nat → List UInt8 → Nat
  | n, [] => n
  | n, c :: l => fold base (if n ≤ 9007199254740992 then base * n + (c.toNat - 48) else n) l
theorem fold_append (base : Nat) : ∀ (l m : List UInt8) (n : Nat), fold base n (l ++ m) = fold base (fold base n l) m
  | [], _, _ => rfl
  | c :: l, m, n => by simp only [List.cons_append, fold]; exact fold_append base l m _
theorem fold_snoc (base : Nat) (l : List UInt8) (c : UInt8) (n : Nat) : fold base n (l ++ [c]) = if fold base n l ≤ 9007199254740992 then base * fold base n l + (c.toNat - 48) else fold base n l := by
  rw [fold_append]; rfl
theorem fold_le (base : Nat) (hb : base ≤ 10) : ∀ (l : List UInt8) (n : Nat), n ≤ 90071992547409920 + 255 → fold base n l ≤ 90071992547409920 + 255
  | [], n, h => h
  | c :: l, n, h => by
    refine fold_le base hb l _ ?_
    have hc : c.toNat < 256 := c.toNat_lt
    split
    · rename_i hn
      have : base * n ≤ 10 * n := Nat.mul_le_mul_right _ hb
      omega
    · exact h
theorem fold_big (base : Nat) : ∀ (l : List UInt8) (n : Nat), 9007199254740992 < n → fold base n l = n
  | [], _, _ => rfl
  | c :: l, n, h => by
    simp only [fold]
    rw [if_neg (by omega)]
    exact fold_big base l n h
def num (s : List UInt8) : Nat × Nat :=
  let s1 := s.dropWhile (one 32 32)
  if (s1.dropWhile oct).dropWhile (one 32 0) ≠ [] then (0, 150)
  else if 9007199254740992 < fold 8 0 (s1.takeWhile oct) then (0, 3) else (fold 8 0 (s1.takeWhile oct), 0)
def dec (s : List UInt8) : Nat × Nat :=
  if s = [] ∨ (s.head? = some 48 ∧ s ≠ [48]) then (0, 150)
  else if s.all dig then (if 9007199254740992 < fold 10 0 s then (0, 3) else (fold 10 0 s, 0)) else (0, 150)
/-! ### Laying -/
def dgt (d : Nat) : UInt8 := UInt8.ofNat (48 + d)
/-- k digits to the base 8, the lowest last -/
def octs (n : Nat) : Nat → List UInt8
  | 0 => []
  | k + 1 => octs (n / 8) k ++ [dgt (n % 8)]
theorem octs_length : ∀ (k n : Nat), (octs n k).length = k
  | 0, _ => rfl
  | k + 1, n => by simp [octs, octs_length k]
def octal (n width : Int) : List UInt8 × Nat :=
  if width < 2 ∨ 20 < width then ([], 2)
  else if n < 0 ∨ n / 8 ^ (width.toNat - 1) ≠ 0 then ([], 150)
  else (octs n.toNat (width.toNat - 1) ++ [0], 0)
/-- the first digit apart -/
theorem octs_cons : ∀ (k n : Nat), octs n (k + 1) = dgt (n / 8 ^ k % 8) :: octs n k
  | 0, n => by simp [octs]
  | k + 1, n => by
    rw [octs, octs_cons k (n / 8)]
    simp only [octs, List.cons_append, List.cons.injEq, and_true]
    rw [Nat.div_div_eq_div_mul, Nat.pow_succ, Nat.mul_comm 8]
theorem octs_get : ∀ (k n i : Nat) (h : i < (octs n k).length), (octs n k)[i] = dgt (n / 8 ^ (k - 1 - i) % 8)
  | 0, n, i, h => by simp [octs] at h
  | k + 1, n, i, h => by
    simp only [octs_length] at h
    simp only [octs]
    rw [List.getElem_append]
    split
    · rename_i h'
      rw [octs_get k (n / 8) i h']
      simp only [octs_length] at h'
      rw [Nat.div_div_eq_div_mul, Nat.mul_comm 8, ← Nat.pow_succ, show (k - 1 - i).succ = k + 1 - 1 - i by omega]
    · rename_i h'
      simp only [octs_length] at h'
      simp [show k - i = 0 by omega]
theorem div_pow_step (n : Int) (i : Nat) : n / 8 ^ i / 8 = n / 8 ^ (i + 1) := by
  rw [Int.ediv_ediv_of_nonneg (by exact_mod_cast Nat.zero_le _), Int.pow_succ]
def nul (n : Nat) : List UInt8 := List.replicate n 0
def cut (s : List UInt8) : List UInt8 := s.takeWhile (· != 0)
def text (s : List UInt8) (width : Int) : List UInt8 × Nat :=
  if width < 0 ∨ 512 < width then ([], 2)
  else if width < s.length ∨ cut s ≠ s then ([], 150)
  else (s ++ nul (width.toNat - s.length), 0)
theorem indexByte_lt : ∀ (s : List UInt8) (c : UInt8), Lib.indexByte s c = -1 ∧ c ∉ s ∨ ∃ i : Nat, Lib.indexByte s c = i ∧ i < s.length ∧ s.takeWhile (· != c) = s.take i ∧ c ∈ s
  | [], c => .inl ⟨rfl, by simp⟩
  | b :: s, c => by
    unfold Lib.indexByte
    by_cases h : b = c
    · subst h
      refine .inr ⟨0, by simp, by simp, by simp, by simp⟩
    · rcases indexByte_lt s c with ⟨h1, h2⟩ | ⟨i, h1, h2, h3, h4⟩
      · left; simp [h, h1, h2, Ne.symm h]
      · right
        refine ⟨i + 1, ?_, by simp; omega, by simp [h, h3], by simp [h4]⟩
        rw [h1]
        have : ((i : Int) == -1) = false := by simp
        simp [h, this]
theorem cut_eq_iff (s : List UInt8) : cut s = s ↔ (0 : UInt8) ∉ s := by
  unfold cut
  induction s with
  | nil => simp
  | cons b s ih =>
    by_cases h : b = 0
    · subst h; simp
    · simp [h, ih, Ne.symm h]
theorem cut_le (s : List UInt8) : (cut s).length ≤ s.length := by
  unfold cut
  exact (List.takeWhile_prefix _).length_le
theorem cut_none {s : List UInt8} (h : (0 : UInt8) ∉ s) : cut s = s := (cut_eq_iff s).2 h
/-! ### A sum -/
def sumTo (s : List UInt8) : Nat → Nat
  | 0 => 0
  | i + 1 => sumTo s i + if 148 ≤ i ∧ i < 156 then 32 else (s.getD i 0).toNat
def sumOut (s : List UInt8) : Nat → Nat
  | 0 => 256
  | i + 1 => sumOut s i + if 148 ≤ i ∧ i < 156 then 0 else (s.getD i 0).toNat
theorem sumTo_out (s : List UInt8) : ∀ i, sumTo s i + 256 = sumOut s i + 32 * (min i 156 - min i 148)
  | 0 => by simp [sumTo, sumOut]
  | i + 1 => by
    have := sumTo_out s i
    simp only [sumTo, sumOut]
    split <;> omega
theorem sumTo_le (s : List UInt8) : ∀ i, sumTo s i ≤ 255 * i
  | 0 => by simp [sumTo]
  | i + 1 => by
    have := sumTo_le s i
    have hc : (s.getD i 0).toNat < 256 := (s.getD i 0).toNat_lt
    simp only [sumTo]
    split <;> omega
theorem sumOut_le (s : List UInt8) : ∀ i, sumOut s i ≤ 256 + 255 * i
  | 0 => by simp [sumOut]
  | i + 1 => by
    have := sumOut_le s i
    have hc : (s.getD i 0).toNat < 256 := (s.getD i 0).toNat_lt
    simp only [sumOut]
    split <;> omega
def sum (s : List UInt8) : Nat × Nat := if s.length ≠ 512 then (0, 2) else (sumTo s 512, 0)
theorem sumOut_eq (s : List UInt8) : sumOut s 512 = sumTo s 512 := by have := sumTo_out s 512; omega
/-! ### Digits -/
theorem dec_step {x : Nat} (h : ¬ x < 10) : Lib.decDigits x = Lib.decDigits (x / 10) ++ [dgt (x % 10)] := by
  rw [Lib.decDigits, dif_neg h]
  rfl
theorem dec_small {x : Nat} (h : x < 10) : Lib.decDigits x = [dgt x] := by rw [Lib.decDigits, dif_pos h]; rfl
def digits (n : Int) : List UInt8 := if n < 0 then [] else Lib.decDigits n.toNat
theorem take_snoc' (s : List UInt8) (k : Nat) (h : k < s.length) : s.take (k + 1) = s.take k ++ [s[k]] := by
  rw [List.take_add_one, List.getElem?_eq_getElem h]; rfl
theorem drop_cons (s : List UInt8) (k : Nat) (h : k < s.length) : s.drop k = s[k] :: s.drop (k + 1) := List.drop_eq_getElem_cons h
end Go.Proofs.YtjgeoeeikfjmdaaGreatDoor.Fld
/- fields, in plain words: what is read is what was laid. No program is spoken of. -/
namespace Go.Proofs.YtjgeoeeikfjmdaaGreatDoor.Fld
set_option linter.unnecessarySimpa false
open Go.Proofs.YtjgeoeeikfjmdaaGreatDoor
set_option linter.unusedSimpArgs false
set_option linter.unusedVariables false

theorem dgtN {d : Nat} (h : d < 10) : (dgt d).toNat = 48 + d := by simp [dgt]; omega
theorem octs_all : ∀ (k n : Nat) (c : UInt8), c ∈ octs n k → oct c = true
  | 0, n, c, h => by simp [octs] at h
  | k + 1, n, c, h => by
    simp only [octs, List.mem_append, List.mem_singleton] at h
    rcases h with h | rfl
    · exact octs_all k _ c h
    · simp only [oct, Bool.and_eq_true, decide_eq_true_eq]
      rw [dgtN (by omega)]
      omega
theorem fold_octs : ∀ (k n : Nat), n / 8 ^ k = 0 → n ≤ 9007199254740992 → fold 8 0 (octs n k) = n
  | 0, n, h, hn => by simp at h; simp [octs, fold, h]
  | k + 1, n, h, hn => by
    have ih := fold_octs k (n / 8) (by rw [Nat.div_div_eq_div_mul, Nat.mul_comm, ← Nat.pow_succ]; exact h) (by omega)
    rw [octs, fold_snoc, ih, if_pos (by omega), dgtN (by omega)]
    omega
theorem num_octs {k n : Nat} (hk : 1 ≤ k) (h : n / 8 ^ k = 0) (hn : n ≤ 9007199254740992) : num (octs n k ++ [0]) = (n, 0) := by
  obtain ⟨j, rfl⟩ : ∃ j, k = j + 1 := ⟨k - 1, by omega⟩
  have e1 : (octs n (j + 1) ++ [0]).dropWhile (one 32 32) = octs n (j + 1) ++ [0] := by
    rw [octs_cons, List.cons_append, List.dropWhile_cons_of_neg]
    simp only [one, Bool.or_eq_true, decide_eq_true_eq]
    rw [dgtN (by omega)]
    omega
  have e2 : (octs n (j + 1) ++ [0]).takeWhile oct = octs n (j + 1) := by
    rw [List.takeWhile_append_of_pos (fun a ha => octs_all _ _ a ha)]
    simp [oct]
  have e3 : (octs n (j + 1) ++ [0]).dropWhile oct = [0] := by
    rw [List.dropWhile_append_of_pos (fun a ha => octs_all _ _ a ha)]
    decide
  unfold num
  simp only [e1, e2, e3, fold_octs _ _ h hn]
  rw [if_neg (by decide), if_neg (by omega)]
theorem head_app {l m : List UInt8} (h : l ≠ []) : (l ++ m).head? = l.head? := by
  cases l with
  | nil => exact absurd rfl h
  | cons a l => rfl
/-! ### Decimals -/
theorem dec_ne (n : Nat) : Lib.decDigits n ≠ [] := by
  by_cases h : n < 10
  · rw [dec_small h]; simp
  · rw [dec_step h]; simp
theorem dec_all (n : Nat) : ∀ c ∈ Lib.decDigits n, dig c = true := by
  induction n using Nat.strongRecOn with
  | ind n ih =>
    intro c hc
    have hd : ∀ d, d < 10 → dig (dgt d) = true := fun d hd => by
      simp only [dig, Bool.and_eq_true, decide_eq_true_eq]
      rw [dgtN hd]
      omega
    by_cases h : n < 10
    · rw [dec_small h, List.mem_singleton] at hc
      rw [hc]; exact hd n h
    · rw [dec_step h, List.mem_append, List.mem_singleton] at hc
      rcases hc with hc | rfl
      · exact ih _ (by omega) c hc
      · exact hd _ (by omega)
theorem dec_head (n : Nat) (hn : 0 < n) : (Lib.decDigits n).head? ≠ some 48 := by
  induction n using Nat.strongRecOn with
  | ind n ih =>
    by_cases h : n < 10
    · rw [dec_small h]
      simp only [List.head?_cons, ne_eq, Option.some.injEq]
      intro e
      have := dgtN h
      rw [e] at this
      have h48 : (48 : UInt8).toNat = 48 := rfl
      omega
    · rw [dec_step h]
      have hne := dec_ne (n / 10)
      rw [head_app hne]
      exact ih _ (by omega) (by omega)
theorem fold_dec (n : Nat) (hn : n ≤ 9007199254740992) : fold 10 0 (Lib.decDigits n) = n := by
  induction n using Nat.strongRecOn with
  | ind n ih =>
    by_cases h : n < 10
    · rw [dec_small h]
      simp only [fold]
      rw [if_pos (by omega), dgtN h]
      omega
    · rw [dec_step h, fold_snoc, ih _ (by omega) (by omega), if_pos (by omega), dgtN (by omega)]
      omega
theorem dec_dec (n : Nat) (hn : n ≤ 9007199254740992) : dec (Lib.decDigits n) = (n, 0) := by
  unfold dec
  rw [if_neg, if_pos (List.all_eq_true.2 (dec_all n)), fold_dec n hn, if_neg (by omega)]
  rintro (h | ⟨h1, h2⟩)
  · exact dec_ne n h
  · rcases Nat.eq_zero_or_pos n with rfl | hp
    · exact h2 (by rw [dec_small (by decide)]; rfl)
    · exact dec_head n hp h1
theorem dgt_of {c : UInt8} (h : dig c = true) : dgt (c.toNat - 48) = c := by
  simp only [dig, Bool.and_eq_true, decide_eq_true_eq] at h
  apply UInt8.toNat_inj.1
  rw [dgtN (by omega)]
  omega
theorem dec_canon : ∀ (n : Nat) (s : List UInt8), s.length = n → s.all dig = true → ¬ (s = [] ∨ (s.head? = some 48 ∧ s ≠ [48])) → fold 10 0 s ≤ 9007199254740992 → Lib.decDigits (fold 10 0 s) = s
  | 0, s, hl, _, hg, _ => absurd (.inl (List.eq_nil_of_length_eq_zero hl)) hg
  | n + 1, s, hl, ha, hg, hf => by
    have hne : s ≠ [] := fun h => hg (.inl h)
    obtain ⟨l, c, rfl⟩ : ∃ l c, s = l ++ [c] := ⟨s.dropLast, s.getLast hne, (List.dropLast_concat_getLast hne).symm⟩
    rw [List.all_append, Bool.and_eq_true] at ha
    have hc : dig c = true := by simpa using ha.2
    have hcd := hc
    simp only [dig, Bool.and_eq_true, decide_eq_true_eq] at hcd
    rw [fold_snoc] at hf ⊢
    by_cases hl0 : l = []
    · subst hl0
      have hz : (if fold 10 0 [] ≤ 9007199254740992 then 10 * fold 10 0 [] + (c.toNat - 48) else fold 10 0 []) = c.toNat - 48 := by
        rw [if_pos (by decide)]
        show 10 * 0 + _ = _
        omega
      rw [hz, dec_small (by omega), dgt_of hc]
      rfl
    · have hh : l.head? ≠ some 48 := by
        intro h
        refine hg (.inr ⟨by rw [head_app hl0]; exact h, fun e => ?_⟩)
        have := congrArg List.length e
        simp at this
        exact hl0 this
      by_cases hm : fold 10 0 l ≤ 9007199254740992
      · have ih := dec_canon n l (by simpa using hl) ha.1 (by rintro (h | ⟨h, _⟩); exact hl0 h; exact hh h) hm
        rw [if_pos hm] at hf ⊢
        have hpos : 0 < fold 10 0 l := by
          rcases Nat.eq_zero_or_pos (fold 10 0 l) with h | h
          · rw [h, dec_small (by decide)] at ih
            exact absurd (by rw [← ih]; rfl) hh
          · exact h
        rw [dec_step (by omega), show (10 * fold 10 0 l + (c.toNat - 48)) / 10 = fold 10 0 l by omega, show (10 * fold 10 0 l + (c.toNat - 48)) % 10 = c.toNat - 48 by omega, ih, dgt_of hc]
      · rw [if_neg hm] at hf
        omega
theorem digits_dec {s : List UInt8} (h : (dec s).2 = 0) : digits ((dec s).1 : Nat) = s := by
  unfold dec at h ⊢
  split at h
  · simp at h
  · rename_i hg
    rw [if_neg hg]
    split at h
    · rename_i ha
      rw [if_pos ha]
      split at h
      · simp at h
      · rename_i hf
        rw [if_neg hf]
        unfold digits
        rw [if_neg (by omega)]
        exact dec_canon _ s rfl ha hg (by omega)
    · simp at h
theorem cut_nul {s : List UInt8} (h : cut s = s) (k : Nat) : cut (s ++ nul k) = s := by
  have h0 := (cut_eq_iff s).1 h
  unfold cut nul
  rw [List.takeWhile_append_of_pos (by
    intro a ha
    simp only [bne_iff_ne, ne_eq]
    rintro rfl
    exact h0 ha)]
  cases k <;> simp [List.replicate_succ]
/-! ### Another byte -/
theorem sumTo_set (s : List UInt8) (k : Nat) (v : UInt8) (hk : k < s.length) : ∀ i, sumTo (s.set k v) i + (if k < i ∧ ¬ (148 ≤ k ∧ k < 156) then (s.getD k 0).toNat else 0) = sumTo s i + (if k < i ∧ ¬ (148 ≤ k ∧ k < 156) then v.toNat else 0)
  | 0 => by simp [sumTo]
  | i + 1 => by
    have ih := sumTo_set s k v hk i
    have hg : i ≠ k → (s.set k v).getD i 0 = s.getD i 0 := fun h => by
      simp only [List.getD_eq_getElem?_getD]
      rw [List.getElem?_set_ne (Ne.symm h)]
    have hg' : (s.set k v).getD k 0 = v := by simp [List.getD_eq_getElem?_getD, hk]
    simp only [sumTo]
    by_cases hik : i = k
    · subst hik
      rw [hg']
      by_cases h1 : 148 ≤ i ∧ i < 156
      · have e1 : ¬ (i < i + 1 ∧ ¬ (148 ≤ i ∧ i < 156)) := by omega
        have e2 : ¬ (i < i ∧ ¬ (148 ≤ i ∧ i < 156)) := by omega
        simp only [if_neg e2] at ih
        simp only [if_neg e1, if_pos h1]
        omega
      · rw [if_neg (by omega : ¬ (i < i ∧ ¬ (148 ≤ i ∧ i < 156))), if_neg (by omega : ¬ (i < i ∧ ¬ (148 ≤ i ∧ i < 156)))] at ih
        rw [if_neg h1, if_neg h1, if_pos ⟨by omega, h1⟩, if_pos ⟨by omega, h1⟩]
        omega
    · rw [hg hik]
      by_cases h1 : k < i
      · have e : (k < i + 1 ∧ ¬ (148 ≤ k ∧ k < 156)) ↔ (k < i ∧ ¬ (148 ≤ k ∧ k < 156)) := by omega
        simp only [e]
        omega
      · have e1 : ¬ (k < i + 1 ∧ ¬ (148 ≤ k ∧ k < 156)) := by omega
        have e2 : ¬ (k < i ∧ ¬ (148 ≤ k ∧ k < 156)) := by omega
        simp only [if_neg e1, if_neg e2] at ih ⊢
        omega
theorem sum_set {s : List UInt8} (h : s.length = 512) {k : Nat} (hk : k < 512) (v : UInt8) (hv : v.toNat ≠ (s.getD k 0).toNat) : (sumTo s 512 = sumTo (s.set k v) 512) ↔ (148 ≤ k ∧ k < 156) := by
  have := sumTo_set s k v (by omega) 512
  by_cases h1 : 148 ≤ k ∧ k < 156
  · have e : ¬ (k < 512 ∧ ¬ (148 ≤ k ∧ k < 156)) := by omega
    simp only [if_neg e] at this
    omega
  · have e : (k < 512 ∧ ¬ (148 ≤ k ∧ k < 156)) := ⟨hk, h1⟩
    simp only [if_pos e] at this
    omega
end Go.Proofs.YtjgeoeeikfjmdaaGreatDoor.Fld
/- paths, in plain words: how a path is parted for a header. No program is spoken of. -/
namespace Go.Proofs.YtjgeoeeikfjmdaaGreatDoor
set_option linter.unnecessarySimpa false
set_option linter.unusedSimpArgs false
set_option linter.unusedVariables false
def good (p : List UInt8) (i : Nat) : Prop := p[i]? = some 47 ∧ 1 ≤ i ∧ i ≤ 155 ∧ i + 2 ≤ p.length ∧ p.length ≤ i + 101
instance (p : List UInt8) (i : Nat) : Decidable (good p i) := by unfold good; infer_instance
def IsSplit (p : List UInt8) (r : List UInt8 × List UInt8 × Bool) : Prop :=
  (p.length ≤ 100 ∧ r = ([], p, true)) ∨ (100 < p.length ∧ ∃ i, good p i ∧ (∀ j, j < i → ¬ good p j) ∧ r = (p.take i, p.drop (i + 1), true)) ∨ (100 < p.length ∧ (∀ j, ¬ good p j) ∧ r = ([], [], false))
theorem split_one {p : List UInt8} {r r' : List UInt8 × List UInt8 × Bool} (h : IsSplit p r) (h' : IsSplit p r') : r = r' := by
  rcases h with ⟨h1, rfl⟩ | ⟨h1, i, h2, h3, rfl⟩ | ⟨h1, h2, rfl⟩
  · rcases h' with ⟨_, rfl⟩ | ⟨h1', _⟩ | ⟨h1', _⟩
    · rfl
    · omega
    · omega
  · rcases h' with ⟨h1', _⟩ | ⟨_, j, h2', h3', rfl⟩ | ⟨_, h2', _⟩
    · omega
    · have : i = j := by
        rcases Nat.lt_trichotomy i j with h | h | h
        · exact absurd h2 (h3' i h)
        · exact h
        · exact absurd h2' (h3 j h)
      rw [this]
    · exact absurd h2 (h2' i)
  · rcases h' with ⟨h1', _⟩ | ⟨_, j, h2', _⟩ | ⟨_, _, rfl⟩
    · omega
    · exact absurd h2' (h2 j)
    · rfl
theorem good_at {p : List UInt8} {i : Nat} (h : i < p.length) : good p i ↔ p[i].toNat = 47 ∧ 1 ≤ i ∧ i ≤ 155 ∧ i + 2 ≤ p.length ∧ p.length ≤ i + 101 := by
  unfold good
  rw [List.getElem?_eq_getElem h, Option.some.injEq]
  constructor
  · rintro ⟨h1, h2⟩
    exact ⟨by rw [h1]; rfl, h2⟩
  · rintro ⟨h1, h2⟩
    exact ⟨UInt8.toNat_inj.1 h1, h2⟩
def splitP (p : List UInt8) : List UInt8 × List UInt8 × Bool :=
  if p.length ≤ 100 then ([], p, true) else match (List.range p.length).find? (fun i => decide (good p i)) with
    | some i => (p.take i, p.drop (i + 1), true)
    | none => ([], [], false)
theorem splitP_is (p : List UInt8) : IsSplit p (splitP p) := by
  unfold splitP
  split
  · rename_i h
    exact .inl ⟨h, rfl⟩
  · rename_i h
    split
    · rename_i i hi
      refine .inr (.inl ⟨by omega, i, ?_, ?_, rfl⟩)
      · have := List.find?_some hi
        simpa using this
      · intro j hj hg
        rw [List.find?_range_eq_some] at hi
        have := hi.2.2 j hj
        simp [hg] at this
    · rename_i hn
      refine .inr (.inr ⟨by omega, ?_, rfl⟩)
      intro j hg
      rw [List.find?_range_eq_none] at hn
      have := hn j (by have := hg.2.2; omega)
      simp [hg] at this
theorem split_val {p : List UInt8} {r : List UInt8 × List UInt8 × Bool} (h : IsSplit p r) : r = splitP p := split_one h (splitP_is p)
/-- what a parted path's parts are -/
theorem splitP_ok {p : List UInt8} (h : (splitP p).2.2 = true) (hp : p ≠ []) :
    (splitP p).2.1.length ≤ 100 ∧ (splitP p).2.1 ≠ [] ∧ (splitP p).1.length ≤ 155 ∧ (∀ c ∈ (splitP p).1, c ∈ p) ∧ (∀ c ∈ (splitP p).2.1, c ∈ p) ∧ (if (splitP p).1 ≠ [] then (splitP p).1 ++ [47] ++ (splitP p).2.1 else (splitP p).2.1) = p ∧ p.length ≤ 256 := by
  rcases splitP_is p with ⟨h1, e⟩ | ⟨h1, i, h2, h3, e⟩ | ⟨h1, h2, e⟩
  · rw [e]
    exact ⟨h1, hp, by simp, by simp, fun c hc => hc, by simp, by omega⟩
  · rw [e]
    obtain ⟨g1, g2, g3, g4, g5⟩ := h2
    have hlt : i < p.length := by omega
    rw [List.getElem?_eq_getElem hlt, Option.some.injEq] at g1
    have hne : p.take i ≠ [] := fun h0 => by
      have := congrArg List.length h0
      rw [List.length_take, List.length_nil] at this
      omega
    refine ⟨by simp; omega, fun h0 => ?_, by simp; omega, fun c hc => List.mem_of_mem_take hc, fun c hc => List.mem_of_mem_drop hc, ?_, by omega⟩
    · have := congrArg List.length h0
      simp at this
      omega
    · simp only
      rw [if_pos hne]
      have := List.take_append_drop i p
      rw [List.drop_eq_getElem_cons hlt, g1] at this
      rw [List.append_assoc]
      exact this
  · rw [e] at h
    cases h
end Go.Proofs.YtjgeoeeikfjmdaaGreatDoor
/- ustar, in plain words: headers. No program is spoken of. -/
namespace Go.Proofs.YtjgeoeeikfjmdaaGreatDoor.Ust
set_option linter.unnecessarySimpa false
open Fld
set_option linter.unusedSimpArgs false
set_option linter.unusedVariables false
abbrev By := List UInt8
structure Hd where
  path : By
  size : Int
  kind : Nat
  mode : Int
  time : Int
  link : By
  n0 : By
  n1 : By
  i0 : Int
  i1 : Int
  deriving DecidableEq
def hd0 : Hd := ⟨[], 0, 0, 0, 0, [], [], [], 0, 0⟩
def sl (s : By) (k n : Nat) : By := (s.drop k).take n
def lay (s : By) (n : Nat) : By := s ++ nul (n - s.length)
def oc (n : Int) (k : Nat) : By := octs n.toNat k ++ [0]
def magic : By := [117, 115, 116, 97, 114, 0, 48, 48]
theorem nul_len (n : Nat) : (nul n).length = n := by simp [nul]
theorem lay_len {s : By} {n : Nat} (h : s.length ≤ n) : (lay s n).length = n := by unfold lay; rw [List.length_append, nul_len]; omega
theorem oc_len (n : Int) (k : Nat) : (oc n k).length = k + 1 := by unfold oc; rw [List.length_append, octs_length]; rfl
/-- what stands ahead of the sum, the sum's place left out, and what stands behind it -/
def headL (h : Hd) (name : By) : List By := [lay name 100, oc h.mode 7, oc h.i0 7, oc h.i1 7, oc h.size 11, oc h.time 11]
def tailL (h : Hd) (pre : By) : List By := [[UInt8.ofNat h.kind], lay h.link 100, magic, lay h.n0 32, lay h.n1 32, oc 0 7 ++ oc 0 7, lay pre 155, nul 12]
def withS (h : Hd) (pre name s : By) : By := (headL h name).flatten ++ s ++ (tailL h pre).flatten
def hdSum (h : Hd) : Nat := sumTo (withS h (splitP h.path).1 (splitP h.path).2.1 (nul 8)) 512
def sumF (n : Nat) : By := octs n 6 ++ [0, 32]
def hdText (h : Hd) : By := withS h (splitP h.path).1 (splitP h.path).2.1 (sumF (hdSum h))
def mayK (k : Nat) : Prop := k = 48 ∨ k = 53 ∨ k = 120 ∨ k = 103
instance (k : Nat) : Decidable (mayK k) := by unfold mayK; infer_instance
def mayN (n : Int) (m : Int) : Prop := 0 ≤ n ∧ n ≤ m
instance (n m : Int) : Decidable (mayN n m) := by unfold mayN; infer_instance
def mayT (s : By) (m : Nat) : Prop := s.length ≤ m ∧ (0 : UInt8) ∉ s
instance (s : By) (m : Nat) : Decidable (mayT s m) := by unfold mayT; infer_instance
structure May (h : Hd) : Prop where
  kind : mayK h.kind
  path : (0 : UInt8) ∉ h.path
  link : mayT h.link 100
  n0 : mayT h.n0 31
  n1 : mayT h.n1 31
  mode : mayN h.mode 2097151
  i0 : mayN h.i0 2097151
  i1 : mayN h.i1 2097151
  size : mayN h.size 8589934591
  time : mayN h.time 8589934591
theorem may_iff (h : Hd) : May h ↔ mayK h.kind ∧ (0 : UInt8) ∉ h.path ∧ mayT h.link 100 ∧ mayT h.n0 31 ∧ mayT h.n1 31 ∧ mayN h.mode 2097151 ∧ mayN h.i0 2097151 ∧ mayN h.i1 2097151 ∧ mayN h.size 8589934591 ∧ mayN h.time 8589934591 :=
  ⟨fun ⟨a, b, c, d, e, f, g, i, j, k⟩ => ⟨a, b, c, d, e, f, g, i, j, k⟩, fun ⟨a, b, c, d, e, f, g, i, j, k⟩ => ⟨a, b, c, d, e, f, g, i, j, k⟩⟩
instance (h : Hd) : Decidable (May h) := decidable_of_iff _ (may_iff h).symm
def encH (h : Hd) : By × Nat :=
  if (splitP h.path).2.2 = false ∨ h.path = [] then ([], 140) else if May h then (hdText h, 0) else ([], 160)
/-! ### Reading -/
def pathD (s : By) : By := if cut (sl s 345 155) ≠ [] then cut (sl s 345 155) ++ [47] ++ cut (sl s 0 100) else cut (sl s 0 100)
def kindD (s : By) : Nat := if (s.getD 156 0).toNat = 0 then 48 else (s.getD 156 0).toNat
def hdD (s : By) : Hd := ⟨pathD s, (num (sl s 124 12)).1, kindD s, (num (sl s 100 8)).1, (num (sl s 136 12)).1, cut (sl s 157 100), cut (sl s 265 32), cut (sl s 297 32), (num (sl s 108 8)).1, (num (sl s 116 8)).1⟩
structure OkD (s : By) : Prop where
  len : s.length = 512
  magic : sl s 257 8 = magic
  mode : (num (sl s 100 8)).2 = 0
  i0 : (num (sl s 108 8)).2 = 0
  i1 : (num (sl s 116 8)).2 = 0
  size : (num (sl s 124 12)).2 = 0
  time : (num (sl s 136 12)).2 = 0
  sum : (num (sl s 148 8)).2 = 0
  sums : (num (sl s 148 8)).1 = sumTo s 512
  path : pathD s ≠ []
theorem okD_iff (s : By) : OkD s ↔ s.length = 512 ∧ sl s 257 8 = magic ∧ (num (sl s 100 8)).2 = 0 ∧ (num (sl s 108 8)).2 = 0 ∧ (num (sl s 116 8)).2 = 0 ∧ (num (sl s 124 12)).2 = 0 ∧ (num (sl s 136 12)).2 = 0 ∧ (num (sl s 148 8)).2 = 0 ∧ (num (sl s 148 8)).1 = sumTo s 512 ∧ pathD s ≠ [] :=
  ⟨fun ⟨a, b, c, d, e, f, g, i, j, k⟩ => ⟨a, b, c, d, e, f, g, i, j, k⟩, fun ⟨a, b, c, d, e, f, g, i, j, k⟩ => ⟨a, b, c, d, e, f, g, i, j, k⟩⟩
instance (s : By) : Decidable (OkD s) := decidable_of_iff _ (okD_iff s).symm
def decH (s : By) : Hd × Nat := if OkD s then (hdD s, 0) else (hd0, 160)
def zeroH (s : By) : Bool := decide (s.length = 512 ∧ ∀ c ∈ s, c = 0)
/-! ### What is read is what was laid -/
theorem sl_flatten : ∀ (L : List By) (i k n : Nat) (h : i < L.length), ((L.map List.length).take i).sum = k → (L[i]).length = n → sl L.flatten k n = L[i]
  | [], i, k, n, h, _, _ => by simp at h
  | a :: L, 0, k, n, h, hk, hn => by
    simp at hk hn
    subst hk hn
    simp [sl]
  | a :: L, i + 1, k, n, h, hk, hn => by
    simp only [List.map_cons, List.take_succ_cons, List.sum_cons] at hk
    have ih := sl_flatten L i (k - a.length) n (by simpa using h) (by omega) (by simpa using hn)
    have hle : a.length ≤ k := by omega
    simp only [List.getElem_cons_succ]
    rw [← ih]
    unfold sl
    rw [List.flatten_cons, List.drop_append, List.drop_of_length_le hle, List.nil_append]
theorem sumTo_congr {s t : By} : ∀ i, (∀ k, k < i → ¬ (148 ≤ k ∧ k < 156) → s.getD k 0 = t.getD k 0) → sumTo s i = sumTo t i
  | 0, _ => rfl
  | i + 1, h => by
    simp only [sumTo]
    rw [sumTo_congr i (fun k hk => h k (by omega))]
    split
    · rfl
    · rename_i hn
      rw [h i (by omega) hn]
theorem sumTo_mid {a b b' c : By} (ha : a.length = 148) (hb : b.length = 8) (hb' : b'.length = 8) (i : Nat) : sumTo (a ++ b ++ c) i = sumTo (a ++ b' ++ c) i := by
  apply sumTo_congr
  intro k hk hn
  simp only [List.getD_eq_getElem?_getD]
  by_cases h : k < 148
  · rw [List.append_assoc, List.append_assoc, List.getElem?_append_left (by omega), List.getElem?_append_left (by omega)]
  · rw [List.getElem?_append_right (by simp; omega), List.getElem?_append_right (by simp; omega)]
    simp only [List.length_append, ha, hb, hb']
theorem num_sum {n : Nat} (h : n / 8 ^ 6 = 0) : num (sumF n) = (n, 0) := by
  have e1 : (octs n 6 ++ [0, 32]).dropWhile (one 32 32) = octs n 6 ++ [0, 32] := by
    rw [octs_cons, List.cons_append, List.dropWhile_cons_of_neg]
    simp only [one, Bool.or_eq_true, decide_eq_true_eq]
    rw [dgtN (by omega)]
    omega
  have e2 : (octs n 6 ++ [0, 32]).takeWhile oct = octs n 6 := by
    rw [List.takeWhile_append_of_pos (fun a ha => octs_all _ _ a ha)]
    simp [oct]
  have e3 : (octs n 6 ++ [0, 32]).dropWhile oct = [0, 32] := by
    rw [List.dropWhile_append_of_pos (fun a ha => octs_all _ _ a ha)]
    decide
  unfold num sumF
  have hn : n ≤ 9007199254740992 := by
    have := Nat.div_eq_zero_iff.1 h
    omega
  simp only [e1, e2, e3, fold_octs _ _ h hn]
  rw [if_neg (by decide), if_neg (by omega)]
theorem num_oc {n : Int} {k : Nat} (hk : 1 ≤ k) (h0 : 0 ≤ n) (h : n.toNat / 8 ^ k = 0) (hn : n ≤ 9007199254740992) : num (oc n k) = (n.toNat, 0) := num_octs hk h (by omega)
theorem head_len (h : Hd) {name : By} (hn : name.length ≤ 100) : (headL h name).map List.length = [100, 8, 8, 8, 12, 12] := by
  simp only [headL, List.map_cons, List.map_nil, lay_len hn, oc_len]
theorem tail_len (h : Hd) {pre : By} (hp : pre.length ≤ 155) (h1 : h.link.length ≤ 100) (h2 : h.n0.length ≤ 32) (h3 : h.n1.length ≤ 32) : (tailL h pre).map List.length = [1, 100, 8, 32, 32, 16, 155, 12] := by
  simp only [tailL, List.map_cons, List.map_nil, lay_len hp, lay_len h1, lay_len h2, lay_len h3, List.length_append, oc_len, nul_len]
  rfl
theorem withS_flat (h : Hd) (pre name s : By) : withS h pre name s = (headL h name ++ [s] ++ tailL h pre).flatten := by simp [withS]
theorem cut_lay {s : By} (h : (0 : UInt8) ∉ s) (n : Nat) : cut (lay s n) = s := cut_nul (cut_none h) _
theorem sumTo_small (s : By) : sumTo s 512 / 8 ^ 6 = 0 := by
  have := sumTo_le s 512
  omega
theorem sumF_len (n : Nat) : (sumF n).length = 8 := by unfold sumF; rw [List.length_append, octs_length]; rfl
/-- a header's fields -/
theorem fields_of {h : Hd} {pre name s : By} (hm : May h) (hn : name.length ≤ 100) (hp : pre.length ≤ 155) (hs : s.length = 8) :
    (withS h pre name s).length = 512 ∧ ∀ (i k n : Nat), i < 15 → (([100, 8, 8, 8, 12, 12, 8, 1, 100, 8, 32, 32, 16, 155, 12] : List Nat).take i).sum = k → ([100, 8, 8, 8, 12, 12, 8, 1, 100, 8, 32, 32, 16, 155, 12] : List Nat)[i]? = some n → ∃ x, (headL h name ++ [s] ++ tailL h pre)[i]? = some x ∧ sl (withS h pre name s) k n = x := by
  have h1 := hm.link.1
  have h2 := hm.n0.1
  have h3 := hm.n1.1
  have hl : (headL h name ++ [s] ++ tailL h pre).map List.length = [100, 8, 8, 8, 12, 12, 8, 1, 100, 8, 32, 32, 16, 155, 12] := by
    rw [List.map_append, List.map_append, head_len h hn, tail_len h hp h1 (by omega) (by omega)]
    simp [hs]
  refine ⟨?_, fun i k n hi hk hx => ?_⟩
  · rw [withS_flat, List.length_flatten, hl]
    rfl
  · have hlen : (headL h name ++ [s] ++ tailL h pre).length = 15 := by simp [headL, tailL]
    have hi' : i < (headL h name ++ [s] ++ tailL h pre).length := by omega
    refine ⟨_, List.getElem?_eq_getElem hi', ?_⟩
    rw [withS_flat]
    refine sl_flatten _ i k n hi' (by rw [hl]; exact hk) ?_
    rw [← hl, List.getElem?_map, List.getElem?_eq_getElem hi'] at hx
    simpa using hx
theorem div_zero {n : Int} {k : Nat} {m : Int} (h : mayN n m) (hm : m < ((8 ^ k : Nat) : Int)) : n.toNat / 8 ^ k = 0 := Nat.div_eq_zero_iff.2 (.inr (by have := h.1; have := h.2; omega))
theorem getD_sl {s : By} {k : Nat} {x : UInt8} (h : sl s k 1 = [x]) : s.getD k 0 = x := by
  unfold sl at h
  rw [List.getD_eq_getElem?_getD]
  by_cases hk : k < s.length
  · rw [List.drop_eq_getElem_cons hk, List.take_succ_cons, List.take_zero] at h
    rw [List.getElem?_eq_getElem hk]
    simpa using h
  · rw [List.drop_of_length_le (by omega)] at h
    simp at h
theorem hdText_len {h : Hd} (hm : May h) (hs : (splitP h.path).2.2 = true) (hp : h.path ≠ []) : (hdText h).length = 512 := by
  obtain ⟨s1, s2, s3, s4, s5, s6, s7⟩ := splitP_ok hs hp
  exact (fields_of hm s1 s3 (sumF_len _)).1
theorem dec_enc {h : Hd} (hm : May h) (hs : (splitP h.path).2.2 = true) (hp : h.path ≠ []) : decH (hdText h) = (h, 0) := by
  obtain ⟨s1, s2, s3, s4, s5, s6, s7⟩ := splitP_ok hs hp
  obtain ⟨hlen, hf⟩ := fields_of (s := sumF (hdSum h)) hm s1 s3 (sumF_len _)
  have f0 := hf 0 0 100 (by decide) rfl rfl
  have f1 := hf 1 100 8 (by decide) rfl rfl
  have f2 := hf 2 108 8 (by decide) rfl rfl
  have f3 := hf 3 116 8 (by decide) rfl rfl
  have f4 := hf 4 124 12 (by decide) rfl rfl
  have f5 := hf 5 136 12 (by decide) rfl rfl
  have f6 := hf 6 148 8 (by decide) rfl rfl
  have f7 := hf 7 156 1 (by decide) rfl rfl
  have f8 := hf 8 157 100 (by decide) rfl rfl
  have f9 := hf 9 257 8 (by decide) rfl rfl
  have f10 := hf 10 265 32 (by decide) rfl rfl
  have f11 := hf 11 297 32 (by decide) rfl rfl
  have f13 := hf 13 345 155 (by decide) rfl rfl
  change ∃ x, some _ = some x ∧ _ at f0 f1 f2 f3 f4 f5 f6 f7 f8 f9 f10 f11 f13
  obtain ⟨_, e, f0⟩ := f0; cases e
  obtain ⟨_, e, f1⟩ := f1; cases e
  obtain ⟨_, e, f2⟩ := f2; cases e
  obtain ⟨_, e, f3⟩ := f3; cases e
  obtain ⟨_, e, f4⟩ := f4; cases e
  obtain ⟨_, e, f5⟩ := f5; cases e
  obtain ⟨_, e, f6⟩ := f6; cases e
  obtain ⟨_, e, f7⟩ := f7; cases e
  obtain ⟨_, e, f8⟩ := f8; cases e
  obtain ⟨_, e, f9⟩ := f9; cases e
  obtain ⟨_, e, f10⟩ := f10; cases e
  obtain ⟨_, e, f11⟩ := f11; cases e
  obtain ⟨_, e, f13⟩ := f13; cases e
  change sl (hdText h) _ _ = _ at f0 f1 f2 f3 f4 f5 f6 f7 f8 f9 f10 f11 f13
  change (hdText h).length = 512 at hlen
  have z1 : (0 : UInt8) ∉ (splitP h.path).2.1 := fun q => hm.path (s5 _ q)
  have z2 : (0 : UInt8) ∉ (splitP h.path).1 := fun q => hm.path (s4 _ q)
  have m1 := hm.mode
  have m2 := hm.i0
  have m3 := hm.i1
  have m4 := hm.size
  have m5 := hm.time
  have n1 : num (sl (hdText h) 100 8) = (h.mode.toNat, 0) := by rw [f1]; exact num_oc (by decide) m1.1 (div_zero m1 (by decide)) (by have := m1.2; omega)
  have n2 : num (sl (hdText h) 108 8) = (h.i0.toNat, 0) := by rw [f2]; exact num_oc (by decide) m2.1 (div_zero m2 (by decide)) (by have := m2.2; omega)
  have n3 : num (sl (hdText h) 116 8) = (h.i1.toNat, 0) := by rw [f3]; exact num_oc (by decide) m3.1 (div_zero m3 (by decide)) (by have := m3.2; omega)
  have n4 : num (sl (hdText h) 124 12) = (h.size.toNat, 0) := by rw [f4]; exact num_oc (by decide) m4.1 (div_zero m4 (by decide)) (by have := m4.2; omega)
  have n5 : num (sl (hdText h) 136 12) = (h.time.toNat, 0) := by rw [f5]; exact num_oc (by decide) m5.1 (div_zero m5 (by decide)) (by have := m5.2; omega)
  have n6 : num (sl (hdText h) 148 8) = (hdSum h, 0) := by rw [f6]; exact num_sum (sumTo_small _)
  have hsum : sumTo (hdText h) 512 = hdSum h := by
    unfold hdText hdSum withS
    refine sumTo_mid ?_ (sumF_len _) (nul_len 8) _
    rw [List.length_flatten, head_len h s1]
    rfl
  have hk : kindD (hdText h) = h.kind := by
    unfold kindD
    rw [getD_sl f7]
    have := hm.kind
    unfold mayK at this
    rcases this with e | e | e | e <;> rw [e] <;> rfl
  have hpa : pathD (hdText h) = h.path := by
    unfold pathD
    rw [f0, f13, cut_lay z1, cut_lay z2]
    exact s6
  have hok : OkD (hdText h) := ⟨hlen, f9, by rw [n1], by rw [n2], by rw [n3], by rw [n4], by rw [n5], by rw [n6], by rw [n6, hsum], by rw [hpa]; exact hp⟩
  unfold decH
  rw [if_pos hok]
  unfold hdD
  rw [hpa, hk, n1, n2, n3, n4, n5, f8, f10, f11, cut_lay hm.link.2, cut_lay hm.n0.2, cut_lay hm.n1.2]
  simp only [Int.toNat_of_nonneg m1.1, Int.toNat_of_nonneg m2.1, Int.toNat_of_nonneg m3.1, Int.toNat_of_nonneg m4.1, Int.toNat_of_nonneg m5.1]
theorem enc_ok {h : Hd} (he : (encH h).2 = 0) : (splitP h.path).2.2 = true ∧ h.path ≠ [] ∧ May h ∧ encH h = (hdText h, 0) := by
  unfold encH at he ⊢
  split at he
  · exact absurd he (by decide)
  · rename_i h1
    rw [if_neg h1]
    split at he
    · rename_i h2
      rw [if_pos h2]
      rw [not_or] at h1
      exact ⟨by simpa using h1.1, h1.2, h2, rfl⟩
    · exact absurd he (by decide)
theorem enc_no {h : Hd} (he : (encH h).2 ≠ 0) : (encH h).1 = [] := by
  unfold encH at he ⊢
  split
  · rfl
  · split
    · rename_i h1 h2
      rw [if_neg h1, if_pos h2] at he
      exact absurd rfl he
    · rfl
theorem sl_set {s : By} {k at_ n : Nat} {v : UInt8} (h : at_ < k ∨ k + n ≤ at_) : sl (s.set at_ v) k n = sl s k n := by
  unfold sl
  apply List.ext_getElem?
  intro i
  by_cases hi : i < n
  · rw [List.getElem?_take_of_lt hi, List.getElem?_take_of_lt hi, List.getElem?_drop, List.getElem?_drop, List.getElem?_set_ne (by omega)]
  · rw [List.getElem?_eq_none (by simp; omega), List.getElem?_eq_none (by simp; omega)]
/-- a byte that is not in the sum's place is turned -/
theorem dec_turned {h : Hd} (hm : May h) (hs : (splitP h.path).2.2 = true) (hp : h.path ≠ []) {k : Nat} (hk : k < 512) (hn : ¬ (148 ≤ k ∧ k < 156)) {v : UInt8} (hv : v.toNat ≠ ((hdText h).getD k 0).toNat) : decH ((hdText h).set k v) = (hd0, 160) := by
  have hd := dec_enc hm hs hp
  have hok : OkD (hdText h) := by
    unfold decH at hd
    split at hd
    · assumption
    · exact absurd (congrArg Prod.snd hd) (show ¬ (160 : Nat) = 0 by decide)
  unfold decH
  rw [if_neg]
  intro ho
  have h1 := ho.sums
  rw [sl_set (by omega), hok.sums, sum_set hok.len hk v hv] at h1
  exact hn h1
theorem not_zero {h : Hd} (hm : May h) (hs : (splitP h.path).2.2 = true) (hp : h.path ≠ []) : zeroH (hdText h) = false := by
  have hd := dec_enc hm hs hp
  have hok : OkD (hdText h) := by
    unfold decH at hd
    split at hd
    · assumption
    · exact absurd (congrArg Prod.snd hd) (show ¬ (160 : Nat) = 0 by decide)
  refine decide_eq_false fun hz => ?_
  have hmem : (117 : UInt8) ∈ sl (hdText h) 257 8 := by rw [hok.magic]; simp [magic]
  have := hz.2 _ (List.mem_of_mem_drop (List.mem_of_mem_take hmem))
  exact absurd this (by decide)
theorem names {a b : Hd} (ha : (encH a).2 = 0) (hb : (encH b).2 = 0) : (encH a).1 = (encH b).1 ↔ a = b := by
  obtain ⟨a1, a2, a3, a4⟩ := enc_ok ha
  obtain ⟨b1, b2, b3, b4⟩ := enc_ok hb
  rw [a4, b4]
  constructor
  · intro h
    have h' : hdText a = hdText b := h
    have := dec_enc a3 a1 a2
    rw [h', dec_enc b3 b1 b2] at this
    exact (Prod.mk.inj this).1.symm
  · rintro rfl; rfl
end Go.Proofs.YtjgeoeeikfjmdaaGreatDoor.Ust
/- pax, in plain words: records. No program is spoken of. -/
namespace Go.Proofs.YtjgeoeeikfjmdaaGreatDoor.Pax
set_option linter.unnecessarySimpa false
open Fld
set_option linter.unusedSimpArgs false
set_option linter.unusedVariables false
abbrev By := List UInt8
structure Pr where
  key : By
  val : By
  deriving DecidableEq
/-! ### Where a text is cut -/
def cutAt (s : By) (c : UInt8) : By × By × Bool := if c ∈ s then (s.takeWhile (· != c), (s.dropWhile (· != c)).drop 1, true) else (s, [], false)
theorem cutAt_app {s : By} {c : UInt8} (h : c ∈ s) (t : By) : (cutAt (s ++ t) c).1 = (cutAt s c).1 ∧ (cutAt (s ++ t) c).2.2 = true := by
  have h2 : c ∈ s ++ t := List.mem_append_left _ h
  unfold cutAt
  rw [if_pos h, if_pos h2]
  refine ⟨?_, rfl⟩
  simp only
  induction s with
  | nil => simp at h
  | cons a s ih =>
    by_cases e : a = c
    · subst e; simp
    · have h3 : c ∈ s := by
        rcases List.mem_cons.1 h with h | h
        · exact absurd h.symm e
        · exact h
      simp [e, ih h3 (List.mem_append_left _ h3)]
theorem cutAt_len (s : By) (c : UInt8) : (cutAt s c).1.length ≤ s.length := by
  unfold cutAt
  split
  · exact (List.takeWhile_prefix _).length_le
  · exact Nat.le_refl _
theorem cutAt_lt {s : By} {c : UInt8} (h : (cutAt s c).2.2 = true) : (cutAt s c).1.length + (cutAt s c).2.1.length + 1 = s.length := by
  unfold cutAt at h ⊢
  split at h
  · rename_i hc
    rw [if_pos hc]
    have e := congrArg List.length (List.takeWhile_append_dropWhile (p := (· != c)) (l := s))
    rw [List.length_append] at e
    have hne : s.dropWhile (· != c) ≠ [] := by
      intro h0
      have e2 := List.takeWhile_append_dropWhile (p := (· != c)) (l := s)
      rw [h0, List.append_nil] at e2
      have e3 : (s.takeWhile (· != c)).all (· != c) = true := List.all_takeWhile
      rw [e2, List.all_eq_true] at e3
      simpa using e3 c hc
    have hp := List.length_pos_iff.2 hne
    simp only [List.length_drop]
    omega
  · cases h
/-! ### Reading -/
/-- one record: its pair, and how many bytes it has -/
def dstep (s : By) : Option (Pr × Nat) :=
  let d := cutAt s 32
  let n := (dec d.1).1
  if d.2.2 = true ∧ (dec d.1).2 = 0 ∧ n ≤ s.length ∧ d.1.length + 2 ≤ n ∧ s.getD (n - 1) 0 = 10 then
    let e := cutAt ((s.drop (d.1.length + 1)).take (n - 1 - (d.1.length + 1))) 61
    if e.2.2 = true ∧ e.1 ≠ [] then some (⟨e.1, e.2.1⟩, n) else none
  else none
def decL : Nat → By → List Pr → List Pr × Nat
  | 0, _, _ => ([], 170)
  | f + 1, s, out => if s = [] then (out, 0) else match dstep s with
    | some (p, n) => decL f (s.drop n) (out ++ [p])
    | none => ([], 170)
def decP (s : By) : List Pr × Nat := if 262144 < s.length then ([], 3) else decL (s.length + 1) s []
theorem dstep_pos {s : By} {p : Pr} {n : Nat} (h : dstep s = some (p, n)) : 2 ≤ n ∧ n ≤ s.length := by
  unfold dstep at h
  simp only at h
  split at h
  · rename_i hc
    split at h
    · cases h
      exact ⟨by omega, hc.2.2.1⟩
    · cases h
  · cases h
theorem dstep_app {s : By} {p : Pr} {n : Nat} (h : dstep s = some (p, n)) (t : By) : dstep (s ++ t) = some (p, n) := by
  unfold dstep at h ⊢
  simp only at h ⊢
  split at h
  · rename_i hc
    obtain ⟨h1, h2, h3, h4, h5⟩ := hc
    have hm : (32 : UInt8) ∈ s := by
      unfold cutAt at h1
      split at h1
      · assumption
      · cases h1
    obtain ⟨e1, e2⟩ := cutAt_app hm t
    rw [e1, e2]
    generalize (cutAt s 32).1 = d at *
    generalize (dec d).1 = m at *
    have hlt : m - 1 < s.length := by omega
    have g1 : (s ++ t).getD (m - 1) 0 = s.getD (m - 1) 0 := by
      simp only [List.getD_eq_getElem?_getD]
      rw [List.getElem?_append_left hlt]
    have g2 : ((s ++ t).drop (d.length + 1)).take (m - 1 - (d.length + 1)) = (s.drop (d.length + 1)).take (m - 1 - (d.length + 1)) := by
      rw [List.drop_append_of_le_length (by omega), List.take_append_of_le_length (by rw [List.length_drop]; omega)]
    rw [if_pos ⟨rfl, h2, by rw [List.length_append]; omega, h4, by rw [g1]; exact h5⟩, g2]
    exact h
  · cases h
/-- more fuel does not hurt -/
theorem decL_out : ∀ (f : Nat) (s : By) (out : List Pr), s.length < f → decL f s out = ((if (decL f s []).2 = 0 then out ++ (decL f s []).1 else []), (decL f s []).2) ∧ ∀ f', s.length < f' → decL f' s out = decL f s out
  | 0, s, out, h => by omega
  | f + 1, s, out, h => by
    by_cases hs : s = []
    · subst hs
      refine ⟨by simp [decL], fun f' h' => ?_⟩
      obtain ⟨g, rfl⟩ : ∃ g, f' = g + 1 := ⟨f' - 1, by simp at h'; omega⟩
      simp [decL]
    · rcases hd : dstep s with _ | ⟨p, n⟩
      · refine ⟨by simp [decL, hs, hd], fun f' h' => ?_⟩
        obtain ⟨g, rfl⟩ : ∃ g, f' = g + 1 := ⟨f' - 1, by omega⟩
        simp [decL, hs, hd]
      · obtain ⟨n2, nl⟩ := dstep_pos hd
        have hl : (s.drop n).length < f := by rw [List.length_drop]; omega
        obtain ⟨i1, _⟩ := decL_out f (s.drop n) (out ++ [p]) hl
        obtain ⟨i2, _⟩ := decL_out f (s.drop n) ([] ++ [p]) hl
        refine ⟨?_, fun f' h' => ?_⟩
        · rw [decL, if_neg hs, hd, decL, if_neg hs, hd]
          simp only
          rw [i1, i2]
          simp only
          split <;> simp_all
        · obtain ⟨g, rfl⟩ : ∃ g, f' = g + 1 := ⟨f' - 1, by omega⟩
          rw [decL, if_neg hs, hd, decL, if_neg hs, hd]
          exact (decL_out f (s.drop n) (out ++ [p]) hl).2 g (by rw [List.length_drop]; omega)
theorem decL_join : ∀ (f : Nat) (s t : By) (a : List Pr), s.length < f → decL f s [] = (a, 0) → ∀ out, decL ((s ++ t).length + 1) (s ++ t) out = decL (t.length + 1) t (out ++ a)
  | 0, s, t, a, h, _, _ => by omega
  | f + 1, s, t, a, h, he, out => by
    rw [decL] at he
    by_cases hs : s = []
    · subst hs
      simp at he
      subst he
      simp
    · rw [if_neg hs] at he
      rcases hd : dstep s with _ | ⟨p, n⟩
      · rw [hd] at he
        cases he
      · rw [hd] at he
        simp only at he
        obtain ⟨n2, nl⟩ := dstep_pos hd
        have hl : (s.drop n).length < f := by rw [List.length_drop]; omega
        have hne : s ++ t ≠ [] := by simp [hs]
        have e1 : (s ++ t).drop n = s.drop n ++ t := List.drop_append_of_le_length nl
        obtain ⟨i1, _⟩ := decL_out f (s.drop n) ([] ++ [p]) hl
        rw [i1] at he
        have h2 : (decL f (s.drop n) []).2 = 0 := congrArg Prod.snd he
        have h1 := congrArg Prod.fst he
        simp only [h2, if_true] at h1
        have ih := decL_join f (s.drop n) t (decL f (s.drop n) []).1 hl (by rw [← h2]) (out ++ [p])
        rw [decL, if_neg hne, dstep_app hd t]
        simp only
        rw [e1]
        obtain ⟨_, k1⟩ := decL_out ((s.drop n ++ t).length + 1) (s.drop n ++ t) (out ++ [p]) (by omega)
        rw [k1 _ (by simp only [List.length_append, List.length_drop]; omega), ih, ← h1]
        simp
theorem decP_join {s t : By} {a b : List Pr} (hl : s.length + t.length ≤ 20000) (ha : decP s = (a, 0)) (hb : decP t = (b, 0)) : decP (s ++ t) = (a ++ b, 0) := by
  unfold decP at ha hb ⊢
  rw [if_neg (by omega)] at ha hb
  rw [if_neg (by rw [List.length_append]; omega), decL_join _ s t a (by omega) ha]
  obtain ⟨i1, _⟩ := decL_out (t.length + 1) t ([] ++ a) (by omega)
  rw [i1, hb]
  simp
/-! ### The last one -/
def lastP (l : List Pr) (key : By) : By × Bool := match l.reverse.find? (fun p => decide (p.key = key)) with
  | some p => (p.val, true)
  | none => ([], false)
theorem lastP_app (a b : List Pr) (key : By) : lastP (a ++ b) key = if (lastP b key).2 = true then lastP b key else lastP a key := by
  unfold lastP
  rw [List.reverse_append, List.find?_append]
  generalize List.find? (fun p => decide (p.key = key)) b.reverse = o
  generalize List.find? (fun p => decide (p.key = key)) a.reverse = o'
  cases o with
  | none => cases o' <;> rfl
  | some p => rfl
theorem lastP_snoc (l : List Pr) (p : Pr) (key : By) : lastP (l ++ [p]) key = if p.key = key then (p.val, true) else lastP l key := by
  rw [lastP_app]
  unfold lastP
  by_cases h : p.key = key <;> simp [h]
/-! ### Laying -/
def dl (n : Nat) : Nat := (Lib.decDigits n).length
def dOf (r : Nat) : Nat := ((List.range 40).find? (fun d => decide (1 ≤ d ∧ dl (d + r) = d))).getD 0
def IsD (r d : Nat) : Prop := 1 ≤ d ∧ d < 40 ∧ dl (d + r) = d ∧ ∀ d', 1 ≤ d' → d' < d → dl (d' + r) ≠ d'
theorem isD_val {r d : Nat} (h : IsD r d) : d = dOf r := by
  obtain ⟨h1, h2, h3, h4⟩ := h
  unfold dOf
  have : (List.range 40).find? (fun d => decide (1 ≤ d ∧ dl (d + r) = d)) = some d := by
    rw [List.find?_range_eq_some]
    refine ⟨by simp [h1, h3], by simpa using h2, fun j hj => ?_⟩
    simp only [Bool.not_eq_true', decide_eq_false_iff_not, not_and]
    exact fun hj1 => h4 j hj1 hj
  rw [this]
  rfl
def rest (p : Pr) : Nat := p.key.length + p.val.length + 3
def sizeP (p : Pr) : Nat := dOf (rest p) + rest p
def recT (p : Pr) : By := Lib.decDigits (sizeP p) ++ [32] ++ p.key ++ [61] ++ p.val ++ [10]
def okK (k : By) : Bool := decide (k ≠ [] ∧ (61 : UInt8) ∉ k)
/-- the texts' total, the bytes written -/
def encL : List Pr → Nat → By → By × Nat
  | [], _, out => (out, 0)
  | p :: l, n, out => if 262144 < n + sizeP p then ([], 3) else encL l (n + sizeP p) (out ++ recT p)
def encP (l : List Pr) : By × Nat := if l.all (fun p => okK p.key) then encL l 0 [] else ([], 170)
theorem dl_mono : ∀ (n m : Nat), n ≤ m → dl n ≤ dl m := by
  intro n
  induction n using Nat.strongRecOn with
  | ind n ih =>
    intro m h
    unfold dl
    by_cases hm : m < 10
    · rw [dec_small hm, dec_small (by omega : n < 10)]
      exact Nat.le_refl _
    · rw [dec_step hm]
      by_cases hn : n < 10
      · rw [dec_small hn]
        simp
      · rw [dec_step hn]
        have := ih (n / 10) (by omega) (m / 10) (by omega)
        unfold dl at this
        simp only [List.length_append, List.length_singleton]
        omega
theorem dl_pos (n : Nat) : 1 ≤ dl n := List.length_pos_iff.2 (dec_ne n)
theorem dl_le : ∀ (k n : Nat), n < 10 ^ k → 1 ≤ k → dl n ≤ k
  | 0, n, _, h => by omega
  | 1, n, h, _ => by
    unfold dl
    rw [dec_small (by simpa using h)]
    exact Nat.le_refl _
  | k + 2, n, h, _ => by
    by_cases hn : n < 10
    · unfold dl
      rw [dec_small hn]
      simp
    · have := dl_le (k + 1) (n / 10) (by rw [Nat.pow_succ] at h; omega) (by omega)
      unfold dl at this ⊢
      rw [dec_step hn]
      simp only [List.length_append, List.length_singleton]
      omega
end Go.Proofs.YtjgeoeeikfjmdaaGreatDoor.Pax
/- paths, in plain words: what stands between slashes, and a path's one form. No program is spoken of. -/
namespace Go.Proofs.YtjgeoeeikfjmdaaGreatDoor.Pth
set_option linter.unnecessarySimpa false
set_option linter.unusedSimpArgs false
set_option linter.unusedVariables false
abbrev Txts := List (List UInt8)
def parts : List UInt8 → Txts
  | [] => [[]]
  | c :: s => if c = 47 then [] :: parts s else match parts s with
    | p :: r => (c :: p) :: r
    | [] => [[c]]
theorem parts_cons (c : UInt8) (s : List UInt8) : parts (c :: s) = if c = 47 then [] :: parts s else match parts s with
    | p :: r => (c :: p) :: r
    | [] => [[c]] := rfl
theorem parts_ne : ∀ s, parts s ≠ []
  | [] => by simp [parts]
  | c :: s => by
    unfold parts
    split
    · simp
    · split <;> simp
theorem parts_slash : ∀ a b : List UInt8, (∀ c ∈ a, c ≠ 47) → parts (a ++ 47 :: b) = a :: parts b
  | [], b, _ => by simp [parts]
  | c :: a, b, h => by
    have hc : c ≠ 47 := h c (by simp)
    rw [List.cons_append, parts_cons, if_neg hc, parts_slash a b (fun x hx => h x (by simp [hx]))]
theorem parts_whole : ∀ a : List UInt8, (∀ c ∈ a, c ≠ 47) → parts a = [a]
  | [], _ => rfl
  | c :: a, h => by
    have hc : c ≠ 47 := h c (by simp)
    rw [parts_cons, if_neg hc, parts_whole a (fun x hx => h x (by simp [hx]))]
/-- what texts take when a byte stands behind each -/
def wt : Txts → Nat
  | [] => 0
  | x :: l => x.length + 1 + wt l
theorem wt_parts : ∀ s, wt (parts s) = s.length + 1
  | [] => rfl
  | c :: s => by
    have ih := wt_parts s
    unfold parts
    split
    · simp [wt, ih]; omega
    · split
      · rename_i p r e
        rw [e] at ih
        simp [wt] at ih ⊢
        omega
      · rename_i e
        exact absurd e (parts_ne s)
theorem wt_len : ∀ l : Txts, l.length ≤ wt l
  | [] => by simp [wt]
  | x :: l => by have := wt_len l; simp [wt]; omega
theorem wt_append : ∀ a b : Txts, wt (a ++ b) = wt a + wt b
  | [], b => by simp [wt]
  | x :: a, b => by simp [wt, wt_append a b]; omega
theorem wt_filter (q : List UInt8 → Bool) : ∀ l : Txts, wt (l.filter q) ≤ wt l
  | [] => by simp [wt]
  | x :: l => by
    have := wt_filter q l
    rw [List.filter_cons]
    split <;> simp [wt] <;> omega
theorem wt_mem : ∀ {l : Txts} {x : List UInt8}, x ∈ l → x.length < wt l
  | y :: l, x, h => by
    simp only [wt]
    rcases List.mem_cons.1 h with rfl | h
    · omega
    · have := wt_mem h; omega
def joinS : Txts → List UInt8
  | [] => []
  | [x] => x
  | x :: y :: l => x ++ 47 :: joinS (y :: l)
theorem joinS_eq : ∀ l : Txts, Go.Lib.join l [47] = joinS l
  | [] => rfl
  | [x] => by simp [Go.Lib.join, List.intercalate, joinS]
  | x :: y :: l => by
    have ih := joinS_eq (y :: l)
    simp only [Go.Lib.join, List.intercalate, joinS] at ih ⊢
    rw [← ih]
    simp [List.intersperse]
theorem joinS_wt : ∀ l : Txts, (joinS l).length ≤ wt l
  | [] => by simp [joinS]
  | [x] => by simp [joinS, wt]
  | x :: y :: l => by
    have := joinS_wt (y :: l)
    simp [joinS, wt] at this ⊢
    omega
theorem joinS_snoc : ∀ (l : Txts) (x : List UInt8), l ≠ [] → joinS (l ++ [x]) = joinS l ++ 47 :: x
  | [y], x, _ => by simp [joinS]
  | y :: z :: l, x, _ => by
    have ih := joinS_snoc (z :: l) x (by simp)
    simp only [List.cons_append, joinS] at ih ⊢
    rw [ih]
    simp
def keepB (x : List UInt8) : Bool := decide (x ≠ [] ∧ x ≠ [46])
def kept (l : Txts) : Txts := l.filter keepB
theorem kept_snoc (l : Txts) (x : List UInt8) : kept (l ++ [x]) = if keepB x = true then kept l ++ [x] else kept l := by
  unfold kept
  rw [List.filter_append, List.filter_cons]
  split <;> simp_all
theorem joinS_nil {l : Txts} (h : ∀ x ∈ l, x ≠ []) : joinS l = [] ↔ l = [] := by
  constructor
  · intro e
    match l, h, e with
    | [], _, _ => rfl
    | [x], h, e => exact absurd e (h x (by simp))
    | x :: y :: l, _, e => simp [joinS] at e
  · rintro rfl; rfl
theorem kept_ne (l : Txts) : ∀ x ∈ kept l, x ≠ [] := by
  intro x hx
  have := (List.mem_filter.1 hx).2
  simp [keepB] at this
  exact this.1
def dd : List UInt8 := [46, 46]
def fits (s : List UInt8) : Prop := ∀ c ∈ s, 32 ≤ c.toNat ∧ c.toNat ≤ 126
instance (s : List UInt8) : Decidable (fits s) := by unfold fits; infer_instance
/-- a path's one form -/
def cleanP (s : List UInt8) : List UInt8 × Nat :=
  if fits s ∧ dd ∉ parts s ∧ joinS (kept (parts s)) ≠ [] ∧ (joinS (kept (parts s))).length ≤ 120 then (joinS (kept (parts s)), 0) else ([], 140)
def checkP (s : List UInt8) : Nat := if cleanP s = (s, 0) then 0 else 140
end Go.Proofs.YtjgeoeeikfjmdaaGreatDoor.Pth
/- tar, in plain words: files, one behind the other, in sectors. No program is spoken of. -/
namespace Go.Proofs.YtjgeoeeikfjmdaaGreatDoor.Tar
set_option linter.unnecessarySimpa false
open Fld Ust Pax Pth
set_option linter.unusedSimpArgs false
set_option linter.unusedVariables false
abbrev By := List UInt8
structure En where
  path : By
  data : By
  deriving DecidableEq
/-! ### Laying -/
def fil (n : Nat) : Nat := (n + 511) / 512 * 512
theorem fil_ge (n : Nat) : n ≤ fil n := by unfold fil; omega
theorem fil_mod (n : Nat) : fil n % 512 = 0 := by unfold fil; omega
theorem fil_le (n : Nat) : fil n ≤ n + 511 := by unfold fil; omega
def hdOf (path : By) (kind n : Nat) : Hd := ⟨path, (n : Int), kind, 420, 0, [], [], [], 0, 0⟩
def sect (path : By) (kind : Nat) (data : By) : By := hdText (hdOf path kind data.length) ++ data ++ nul (fil data.length - data.length)
def pkey : By := [112, 97, 116, 104]
def skey : By := [115, 105, 122, 101]
def pname : By := [112, 97, 120]
def entT (x : En) : By := if (splitP x.path).2.2 = true then sect x.path 48 x.data else sect pname 120 (recT ⟨pkey, x.path⟩) ++ sect (x.path.take 100) 48 x.data
def entE (x : En) : By × Nat := if checkP x.path ≠ 0 then ([], 140) else if 262144 < x.data.length then ([], 3) else (entT x, 0)
theorem check_clean {s : By} (h : checkP s = 0) : cleanP s = (s, 0) ∧ s ≠ [] ∧ s.length ≤ 120 ∧ (0 : UInt8) ∉ s := by
  unfold checkP at h
  split at h
  · rename_i e
    refine ⟨e, ?_⟩
    unfold cleanP at e
    split at e
    · rename_i h2
      simp only [Prod.mk.injEq, and_true] at e
      rw [e] at h2
      refine ⟨h2.2.2.1, h2.2.2.2, fun h0 => ?_⟩
      have := (h2.1 0 h0).1
      exact absurd this (by decide)
    · simp at e
  · simp at h
theorem short_split {p : By} (h : p.length ≤ 100) : (splitP p).2.2 = true := by unfold splitP; rw [if_pos h]
theorem not_split {p : By} (h : ¬ (splitP p).2.2 = true) : 100 < p.length := by
  apply Nat.lt_of_not_le
  intro q
  exact h (short_split q)
theorem hdOf_may {p : By} {k n : Nat} (h0 : (0 : UInt8) ∉ p) (hk : mayK k) (hn : n ≤ 8589934591) : May (hdOf p k n) :=
  ⟨hk, h0, ⟨Nat.zero_le _, by simp [hdOf]⟩, ⟨Nat.zero_le _, by simp [hdOf]⟩, ⟨Nat.zero_le _, by simp [hdOf]⟩, ⟨by show (0 : Int) ≤ 420; decide, by show (420 : Int) ≤ 2097151; decide⟩, ⟨Int.le_refl _, by show (0 : Int) ≤ 2097151; decide⟩, ⟨Int.le_refl _, by show (0 : Int) ≤ 2097151; decide⟩, ⟨by show (0 : Int) ≤ (n : Int); omega, by show (n : Int) ≤ 8589934591; omega⟩, ⟨Int.le_refl _, by show (0 : Int) ≤ 8589934591; decide⟩⟩
/-- a header that can be laid -/
structure Good (p : By) (k n : Nat) : Prop where
  ne : p ≠ []
  zero : (0 : UInt8) ∉ p
  split : (splitP p).2.2 = true
  kind : mayK k
  size : n ≤ 8589934591
theorem Good.enc {p : By} {k n : Nat} (h : Good p k n) : encH (hdOf p k n) = (hdText (hdOf p k n), 0) := by
  unfold encH
  have h1 : ¬ ((splitP (hdOf p k n).path).2.2 = false ∨ (hdOf p k n).path = []) := by
    rintro (q | q)
    · rw [show (hdOf p k n).path = p from rfl, h.split] at q
      cases q
    · exact h.ne q
  rw [if_neg h1, if_pos (hdOf_may h.zero h.kind h.size)]
theorem Good.len {p : By} {k n : Nat} (h : Good p k n) : (hdText (hdOf p k n)).length = 512 := hdText_len (hdOf_may h.zero h.kind h.size) h.split h.ne
theorem Good.dec {p : By} {k n : Nat} (h : Good p k n) : decH (hdText (hdOf p k n)) = (hdOf p k n, 0) := dec_enc (hdOf_may h.zero h.kind h.size) h.split h.ne
theorem Good.nz {p : By} {k n : Nat} (h : Good p k n) : zeroH (hdText (hdOf p k n)) = false := not_zero (hdOf_may h.zero h.kind h.size) h.split h.ne
theorem good_one {x : En} (h : checkP x.path = 0) (hd : x.data.length ≤ 262144) (hs : (splitP x.path).2.2 = true) : Good x.path 48 x.data.length := by
  obtain ⟨_, h1, _, h2⟩ := check_clean h
  exact ⟨h1, h2, hs, .inl rfl, by omega⟩
theorem good_pax {n : Nat} (h : n ≤ 8589934591) : Good pname 120 n := ⟨by simp [pname], by decide, short_split (by decide), .inr (.inr (.inl rfl)), h⟩
theorem good_cut {x : En} (h : checkP x.path = 0) (hd : x.data.length ≤ 262144) : Good (x.path.take 100) 48 x.data.length := by
  obtain ⟨_, h1, _, h2⟩ := check_clean h
  refine ⟨fun q => ?_, fun q => h2 (List.mem_of_mem_take q), short_split (by rw [List.length_take]; omega), .inl rfl, by omega⟩
  rcases List.take_eq_nil_iff.1 q with q | q
  · cases q
  · exact h1 q
/-! ### A record for a path -/
theorem fix_small : ∀ r, r < 200 → dl (dOf r + r) = dOf r ∧ 1 ≤ dOf r ∧ dOf r ≤ 3 := by decide +kernel
theorem cutAt_at {a b : By} {c : UInt8} (h : c ∉ a) : cutAt (a ++ c :: b) c = (a, b, true) := by
  have hm : c ∈ a ++ c :: b := by simp
  have hall : ∀ x ∈ a, (x != c) = true := fun x hx => by simp; exact fun q => h (q ▸ hx)
  unfold cutAt
  rw [if_pos hm, List.takeWhile_append_of_pos hall, List.dropWhile_append_of_pos hall]
  simp
theorem rec_len {p : Pr} (h : rest p < 200) : (recT p).length = sizeP p := by
  have hf := (fix_small (rest p) h).1
  unfold recT
  simp only [List.length_append, List.length_singleton]
  have e : (Lib.decDigits (sizeP p)).length = dOf (rest p) := hf
  rw [e]
  unfold sizeP rest
  omega
theorem rec_dec {p : Pr} (h : rest p < 200) (hk : (61 : UInt8) ∉ p.key) (hne : p.key ≠ []) : decP (recT p) = ([p], 0) := by
  have hf := fix_small (rest p) h
  have hl := rec_len h
  have hsz : sizeP p ≤ 9007199254740992 := by unfold sizeP; omega
  have hD : (Lib.decDigits (sizeP p)).length = dOf (rest p) := hf.1
  have hn32 : (32 : UInt8) ∉ Lib.decDigits (sizeP p) := fun q => by
    have := dec_all _ _ q
    exact absurd this (by decide)
  have hr : recT p = Lib.decDigits (sizeP p) ++ 32 :: (p.key ++ 61 :: (p.val ++ [10])) := by simp [recT]
  have hc := cutAt_at (b := p.key ++ 61 :: (p.val ++ [10])) hn32
  rw [← hr] at hc
  have hdd := dec_dec (sizeP p) hsz
  have hrest : rest p = p.key.length + p.val.length + 3 := rfl
  have hsize : sizeP p = dOf (rest p) + rest p := rfl
  have hlast : (recT p).getD (sizeP p - 1) 0 = 10 := by
    rw [List.getD_eq_getElem?_getD]
    have e : recT p = (Lib.decDigits (sizeP p) ++ [32] ++ p.key ++ [61] ++ p.val) ++ [10] := rfl
    rw [e, List.getElem?_append_right (by simp only [List.length_append, List.length_singleton]; rw [hD]; omega)]
    have : sizeP p - 1 - (Lib.decDigits (sizeP p) ++ [32] ++ p.key ++ [61] ++ p.val).length = 0 := by simp only [List.length_append, List.length_singleton]; rw [hD]; omega
    rw [this]
    rfl
  have hmid : ((recT p).drop ((Lib.decDigits (sizeP p)).length + 1)).take (sizeP p - 1 - ((Lib.decDigits (sizeP p)).length + 1)) = p.key ++ 61 :: p.val := by
    have e : recT p = (Lib.decDigits (sizeP p) ++ [32]) ++ ((p.key ++ 61 :: p.val) ++ [10]) := by simp [recT]
    rw [e, List.drop_left' (by simp), List.take_left' (by rw [hD]; simp; omega)]
  have hc2 := cutAt_at (b := p.val) hk
  have hstep : dstep (recT p) = some (p, sizeP p) := by
    unfold dstep
    rw [hc]
    simp only
    rw [hdd]
    simp only
    rw [if_pos ⟨trivial, trivial, by rw [hl]; exact Nat.le_refl _, by rw [hD]; omega, hlast⟩, hmid, hc2]
    simp only
    rw [if_pos ⟨trivial, hne⟩]
  have hne2 : recT p ≠ [] := fun q => by rw [q] at hl; simp at hl; omega
  have e1 : decL ((recT p).length + 1) (recT p) [] = ([p], 0) := by
    rw [decL, if_neg hne2, hstep]
    simp only
    rw [List.drop_of_length_le (by omega)]
    have : ∃ k, (recT p).length = k + 1 := ⟨(recT p).length - 1, by omega⟩
    obtain ⟨k, hk⟩ := this
    rw [hk, decL, if_pos rfl]
    rfl
  unfold decP
  rw [if_neg (by rw [hl]; omega), e1]
theorem path_rest {s : By} (h : s.length ≤ 120) : rest ⟨pkey, s⟩ < 200 := by unfold rest pkey; simp; omega
theorem path_enc {s : By} (h : s.length ≤ 120) : encP [⟨pkey, s⟩] = (recT ⟨pkey, s⟩, 0) := by
  have hf := fix_small _ (path_rest h)
  have h1 := path_rest h
  have h2 : sizeP ⟨pkey, s⟩ ≤ 262144 := by unfold sizeP; omega
  unfold encP
  rw [if_pos (by simp [okK, pkey]), encL, if_neg (by omega), encL]
  rfl
theorem path_dec {s : By} (h : s.length ≤ 120) : decP (recT ⟨pkey, s⟩) = ([⟨pkey, s⟩], 0) := rec_dec (path_rest h) (show (61 : UInt8) ∉ pkey by decide) (show pkey ≠ [] by decide)
/-! ### Reading -/
def headT (s : By) : Hd × Nat := if s.length < 512 then (hd0, 180) else if (decH (s.take 512)).2 = 0 then ((decH (s.take 512)).1, 0) else (hd0, 180)
def dataT (s : By) (n : Nat) : By × Nat × Bool := if s.length < fil n + 512 then ([], 0, false) else ((s.drop 512).take n, 512 + fil n, true)
def en0 : En := ⟨[], []⟩
def restT (t : By) (used : Nat) (pairs : List Pr) (h : Hd) : En × Nat × Nat :=
  let path := if (lastP pairs pkey).2 then (lastP pairs pkey).1 else h.path
  let size := if (lastP pairs skey).2 then dec (lastP pairs skey).1 else (h.size.toNat, 0)
  if size.2 = 0 ∧ (dataT t size.1).2.2 = true ∧ (cleanP path).2 = 0 then (⟨(cleanP path).1, (dataT t size.1).1⟩, used + (dataT t size.1).2.1, 0) else (en0, 0, 180)
def readT (s : By) : En × Nat × Nat :=
  if (headT s).2 ≠ 0 then (en0, 0, 180)
  else if (headT s).1.kind = 120 then
    let d := dataT s (headT s).1.size.toNat
    if d.2.2 = true ∧ (decP d.1).2 = 0 ∧ (headT (s.drop d.2.1)).2 = 0 ∧ (headT (s.drop d.2.1)).1.kind = 48 then restT (s.drop d.2.1) d.2.1 (decP d.1).1 (headT (s.drop d.2.1)).1 else (en0, 0, 180)
  else if (headT s).1.kind = 48 then restT s 0 [] (headT s).1 else (en0, 0, 180)
theorem sect_len {p : By} {k : Nat} {d : By} (h : Good p k d.length) : (sect p k d).length = 512 + fil d.length := by
  have := fil_ge d.length
  unfold sect
  rw [List.length_append, List.length_append, h.len, nul_len]
  omega
theorem head_sect {p : By} {k : Nat} {d : By} (h : Good p k d.length) (b : By) : headT (sect p k d ++ b) = (hdOf p k d.length, 0) := by
  have e : (sect p k d ++ b).take 512 = hdText (hdOf p k d.length) := by
    unfold sect
    rw [List.append_assoc, List.append_assoc, List.take_left' h.len]
  unfold headT
  rw [if_neg (by rw [List.length_append, sect_len h]; omega), e, h.dec, if_pos rfl]
theorem data_sect {p : By} {k : Nat} {d : By} (h : Good p k d.length) (b : By) : dataT (sect p k d ++ b) d.length = (d, 512 + fil d.length, true) := by
  have e : (sect p k d ++ b).drop 512 = d ++ (nul (fil d.length - d.length) ++ b) := by
    unfold sect
    rw [List.append_assoc, List.append_assoc, List.drop_left' h.len]
  unfold dataT
  rw [if_neg (by rw [List.length_append, sect_len h]; omega), e, List.take_left' rfl]
theorem drop_sect {p : By} {k : Nat} {d : By} (h : Good p k d.length) (b : By) : (sect p k d ++ b).drop (512 + fil d.length) = b := List.drop_left' (sect_len h)
theorem read_ent {x : En} (h : checkP x.path = 0) (hd : x.data.length ≤ 262144) (b : By) : readT (entT x ++ b) = (x, (entT x).length, 0) := by
  obtain ⟨h1, h2, h3, h4⟩ := check_clean h
  unfold entT
  by_cases hs : (splitP x.path).2.2 = true
  · have g := good_one h hd hs
    rw [if_pos hs, sect_len g]
    unfold readT
    rw [head_sect g b]
    simp only
    rw [if_neg (by simp), if_neg (show ¬ (hdOf x.path 48 x.data.length).kind = 120 by show ¬ (48 : Nat) = 120; decide), if_pos (show (hdOf x.path 48 x.data.length).kind = 48 from rfl)]
    unfold restT
    have l1 : lastP [] pkey = ([], false) := rfl
    have l2 : lastP [] skey = ([], false) := rfl
    rw [l1, l2]
    simp only [Bool.false_eq_true, if_false]
    have e1 : (hdOf x.path 48 x.data.length).size.toNat = x.data.length := by show ((x.data.length : Nat) : Int).toNat = _; simp
    have e2 : (hdOf x.path 48 x.data.length).path = x.path := rfl
    rw [e1, e2, data_sect g b, h1]
    simp
  · have g1 := good_pax (n := (recT ⟨pkey, x.path⟩).length) (by have := fix_small _ (path_rest h3); rw [rec_len (path_rest h3)]; unfold sizeP; have := path_rest h3; omega)
    have g2 := good_cut h hd
    rw [if_neg hs, List.length_append, sect_len g1, sect_len g2, List.append_assoc]
    unfold readT
    rw [head_sect g1]
    simp only
    have e1 : (hdOf pname 120 (recT ⟨pkey, x.path⟩).length).size.toNat = (recT ⟨pkey, x.path⟩).length := by show (((recT ⟨pkey, x.path⟩).length : Nat) : Int).toNat = _; simp
    rw [if_neg (by simp), if_pos (show (hdOf pname 120 (recT ⟨pkey, x.path⟩).length).kind = 120 from rfl), e1, data_sect g1]
    simp only
    rw [path_dec h3, drop_sect g1, head_sect g2, if_pos ⟨trivial, rfl, rfl, rfl⟩]
    unfold restT
    have l1 : lastP [⟨pkey, x.path⟩] pkey = (x.path, true) := by unfold lastP; simp
    have l2 : lastP [⟨pkey, x.path⟩] skey = ([], false) := by unfold lastP; simp [pkey, skey]
    rw [l1, l2]
    simp only [Bool.false_eq_true, if_false, if_true]
    have e3 : (hdOf (x.path.take 100) 48 x.data.length).size.toNat = x.data.length := by show ((x.data.length : Nat) : Int).toNat = _; simp
    rw [e3, data_sect g2, h1]
    simp
/-! ### Many files -/
def errT : List En → Nat
  | [] => 0
  | x :: l => if checkP x.path ≠ 0 then 140 else if 262144 < x.data.length then 3 else errT l
def catT (l : List En) : By := l.flatMap entT
def packT (l : List En) : By × Nat := if errT l ≠ 0 then ([], errT l) else (catT l ++ nul 1024, 0)
theorem errT_zero : ∀ {l : List En}, errT l = 0 → ∀ x ∈ l, checkP x.path = 0 ∧ x.data.length ≤ 262144
  | x :: l, h, y, hy => by
    unfold errT at h
    split at h
    · cases h
    · rename_i h1
      split at h
      · cases h
      · rename_i h2
        rcases List.mem_cons.1 hy with rfl | hy
        · exact ⟨by simpa using h1, by omega⟩
        · exact errT_zero h y hy
theorem ent_len {x : En} (h : checkP x.path = 0) (hd : x.data.length ≤ 262144) : (entT x).length % 512 = 0 ∧ 512 ≤ (entT x).length ∧ (entT x).length ≤ x.data.length + 2559 := by
  obtain ⟨h1, h2, h3, h4⟩ := check_clean h
  have hm := fil_mod x.data.length
  have hl := fil_le x.data.length
  unfold entT
  by_cases hs : (splitP x.path).2.2 = true
  · rw [if_pos hs, sect_len (good_one h hd hs)]
    omega
  · have hr := path_rest h3
    have hf := fix_small _ hr
    have hlr := rec_len hr
    have hsz : sizeP ⟨pkey, x.path⟩ = dOf (rest ⟨pkey, x.path⟩) + rest ⟨pkey, x.path⟩ := rfl
    have hm2 := fil_mod (recT ⟨pkey, x.path⟩).length
    have hl2 := fil_le (recT ⟨pkey, x.path⟩).length
    rw [if_neg hs, List.length_append, sect_len (good_pax (by omega)), sect_len (good_cut h hd)]
    omega
theorem cat_mod : ∀ (l : List En), (∀ x ∈ l, checkP x.path = 0 ∧ x.data.length ≤ 262144) → (catT l).length % 512 = 0
  | [], _ => rfl
  | x :: l, h => by
    have h1 := (ent_len (h x (by simp)).1 (h x (by simp)).2).1
    have h2 := cat_mod l (fun y hy => h y (by simp [hy]))
    have e : catT (x :: l) = entT x ++ catT l := rfl
    rw [e, List.length_append]
    omega
/-! ### Unpacking -/
def unpT : Nat → By → List En → List En × Nat
  | 0, _, out => ([], 180)
  | f + 1, s, out =>
    if 512 ≤ s.length ∧ zeroH (s.take 512) = true then (out, 0)
    else if (headT s).2 = 0 ∧ ((headT s).1.kind = 53 ∨ (headT s).1.kind = 103) then
      (if (dataT s (headT s).1.size.toNat).2.2 = true then unpT f (s.drop (dataT s (headT s).1.size.toNat).2.1) out else ([], 180))
    else if (headT s).2 ≠ 0 ∨ (readT s).2.2 ≠ 0 then ([], 180) else unpT f (s.drop (readT s).2.1) (out ++ [(readT s).1])
def unpackT (s : By) : List En × Nat := if 524288 < s.length then ([], 3) else unpT (s.length + 1) s []
theorem head_ent {x : En} (h : checkP x.path = 0) (hd : x.data.length ≤ 262144) (b : By) : (headT (entT x ++ b)).2 = 0 ∧ ¬ ((headT (entT x ++ b)).1.kind = 53 ∨ (headT (entT x ++ b)).1.kind = 103) ∧ zeroH ((entT x ++ b).take 512) = false := by
  obtain ⟨h1, h2, h3, h4⟩ := check_clean h
  have one : ∀ {p : By} {k : Nat} {d : By} (g : Good p k d.length) (b : By), zeroH ((sect p k d ++ b).take 512) = false := fun {p k d} g b => by
    have e : (sect p k d ++ b).take 512 = hdText (hdOf p k d.length) := by
      unfold sect
      rw [List.append_assoc, List.append_assoc, List.take_left' g.len]
    rw [e, g.nz]
  unfold entT
  by_cases hs : (splitP x.path).2.2 = true
  · have g := good_one h hd hs
    rw [if_pos hs, head_sect g b]
    exact ⟨rfl, by show ¬ ((48 : Nat) = 53 ∨ (48 : Nat) = 103); decide, one g b⟩
  · have g1 := good_pax (n := (recT ⟨pkey, x.path⟩).length) (by have := fix_small _ (path_rest h3); rw [rec_len (path_rest h3)]; unfold sizeP; have := path_rest h3; omega)
    rw [if_neg hs, List.append_assoc, head_sect g1]
    exact ⟨rfl, by show ¬ ((120 : Nat) = 53 ∨ (120 : Nat) = 103); decide, one g1 _⟩
theorem unp_step {x : En} (h : checkP x.path = 0) (hd : x.data.length ≤ 262144) (b : By) (f : Nat) (out : List En) : unpT (f + 1) (entT x ++ b) out = unpT f b (out ++ [x]) := by
  obtain ⟨e1, e2, e3⟩ := head_ent h hd b
  have er := read_ent h hd b
  rw [unpT, if_neg (by rw [e3]; simp), if_neg (fun q => e2 q.2), er, if_neg (by simp [e1])]
  simp only
  rw [List.drop_left' rfl]
theorem unp_cat : ∀ (l : List En) (b : By) (f : Nat) (out : List En), (∀ x ∈ l, checkP x.path = 0 ∧ x.data.length ≤ 262144) → unpT (f + l.length) (catT l ++ b) out = unpT f b (out ++ l)
  | [], b, f, out, _ => by simp [catT]
  | x :: l, b, f, out, h => by
    have e : catT (x :: l) ++ b = entT x ++ (catT l ++ b) := by simp [catT]
    rw [e, List.length_cons, ← Nat.add_assoc, unp_step (h x (by simp)).1 (h x (by simp)).2, unp_cat l b f _ (fun y hy => h y (by simp [hy]))]
    simp
theorem zero_nuls {n : Nat} (h : 512 ≤ n) (b : By) : zeroH ((nul n ++ b).take 512) = true := by
  have e : (nul n ++ b).take 512 = nul 512 := by
    unfold nul
    rw [List.take_append_of_le_length (by rw [List.length_replicate]; exact h), List.take_replicate, Nat.min_eq_left h]
  rw [e]
  unfold zeroH
  rw [decide_eq_true_eq]
  exact ⟨nul_len 512, fun c hc => (List.mem_replicate.1 hc).2⟩
theorem unp_end (b : By) (n f : Nat) (out : List En) (h : 512 ≤ n) : unpT (f + 1) (nul n ++ b) out = (out, 0) := by
  rw [unpT, if_pos ⟨by rw [List.length_append, nul_len]; omega, zero_nuls h b⟩]
set_option maxRecDepth 20000 in
theorem cat_len : ∀ (l : List En), (∀ x ∈ l, checkP x.path = 0 ∧ x.data.length ≤ 262144) → l.length * 512 ≤ (catT l).length
  | [], _ => by simp
  | x :: l, h => by
    have h1 := (ent_len (h x (by simp)).1 (h x (by simp)).2).2.1
    have h2 := cat_len l (fun y hy => h y (by simp [hy]))
    have e : (catT (x :: l)).length = (entT x).length + (catT l).length := by rw [show catT (x :: l) = entT x ++ catT l from rfl, List.length_append]
    have e2 : (x :: l).length = l.length + 1 := List.length_cons
    generalize (catT (x :: l)).length = q1 at *
    generalize (x :: l).length = q2 at *
    generalize (catT l).length = q3 at *
    generalize (entT x).length = q4 at *
    omega
/-- what was packed is unpacked, whatever stands behind -/
theorem unpack_back {l : List En} (h : ∀ x ∈ l, checkP x.path = 0 ∧ x.data.length ≤ 262144) {n : Nat} (hn : 512 ≤ n) (b : By) (hs : (catT l ++ (nul n ++ b)).length ≤ 524288) : unpackT (catT l ++ (nul n ++ b)) = (l, 0) := by
  have hl := cat_len l h
  have hlen : (catT l ++ (nul n ++ b)).length = (catT l).length + n + b.length := by rw [List.length_append, List.length_append, nul_len, Nat.add_assoc]
  obtain ⟨k, hk⟩ : ∃ k, (catT l ++ (nul n ++ b)).length + 1 = (k + 1) + l.length := ⟨(catT l).length + n + b.length - l.length, by omega⟩
  unfold unpackT
  rw [if_neg (by omega), hk, unp_cat l _ _ _ h, unp_end b n _ _ hn]
  rfl
/-! ### Cut off -/
theorem head_short {s : By} (h : s.length < 512) : (headT s).2 = 180 := by unfold headT; rw [if_pos h]
theorem cut_sect {p : By} {k : Nat} {d : By} (g : Good p k d.length) {m : Nat} (h1 : 512 ≤ m) (h2 : m < (sect p k d).length) :
    headT ((sect p k d).take m) = (hdOf p k d.length, 0) ∧ (dataT ((sect p k d).take m) d.length).2.2 = false ∧ zeroH (((sect p k d).take m).take 512) = false := by
  have e : ((sect p k d).take m).take 512 = hdText (hdOf p k d.length) := by
    rw [List.take_take, Nat.min_eq_left h1]
    unfold sect
    rw [List.append_assoc, List.take_left' g.len]
  have hl : ((sect p k d).take m).length = m := by rw [List.length_take]; omega
  have hs := sect_len g
  refine ⟨?_, ?_, by rw [e, g.nz]⟩
  · unfold headT
    rw [if_neg (by omega), e, g.dec, if_pos rfl]
  · unfold dataT
    rw [if_pos (by omega)]
theorem rest_fail {t : By} {used : Nat} {pairs : List Pr} {h : Hd} {n : Nat} (h1 : (lastP pairs skey).2 = false) (h2 : h.size.toNat = n) (h3 : (dataT t n).2.2 = false) : (restT t used pairs h).2.2 = 180 := by
  unfold restT
  rw [h1]
  simp only [Bool.false_eq_true, if_false]
  rw [h2, h3]
  simp
theorem read_cut {x : En} (h : checkP x.path = 0) (hd : x.data.length ≤ 262144) {m : Nat} (hm : m < (entT x).length) :
    (headT ((entT x).take m)).2 = 180 ∧ m < 512 ∨ (512 ≤ m ∧ (headT ((entT x).take m)).2 = 0 ∧ ¬ ((headT ((entT x).take m)).1.kind = 53 ∨ (headT ((entT x).take m)).1.kind = 103) ∧ zeroH (((entT x).take m).take 512) = false ∧ (readT ((entT x).take m)).2.2 = 180) := by
  obtain ⟨h1, h2, h3, h4⟩ := check_clean h
  by_cases q : m < 512
  · exact .inl ⟨head_short (by rw [List.length_take]; omega), q⟩
  · right
    have hq : 512 ≤ m := by omega
    refine ⟨hq, ?_⟩
    unfold entT at hm ⊢
    by_cases hs : (splitP x.path).2.2 = true
    · rw [if_pos hs] at hm ⊢
      have g := good_one h hd hs
      obtain ⟨c1, c2, c3⟩ := cut_sect g hq hm
      rw [c1]
      refine ⟨rfl, by show ¬ ((48 : Nat) = 53 ∨ (48 : Nat) = 103); decide, c3, ?_⟩
      unfold readT
      rw [c1]
      simp only
      rw [if_neg (by simp), if_neg (show ¬ (hdOf x.path 48 x.data.length).kind = 120 by show ¬ (48 : Nat) = 120; decide), if_pos (show (hdOf x.path 48 x.data.length).kind = 48 from rfl)]
      exact rest_fail rfl (by show ((x.data.length : Nat) : Int).toNat = _; simp) c2
    · rw [if_neg hs] at hm ⊢
      have hr := path_rest h3
      have hf := fix_small _ hr
      have hlr := rec_len hr
      have hsz : sizeP ⟨pkey, x.path⟩ = dOf (rest ⟨pkey, x.path⟩) + rest ⟨pkey, x.path⟩ := rfl
      have g1 := good_pax (n := (recT ⟨pkey, x.path⟩).length) (by omega)
      have g2 := good_cut h hd
      have e1 : (hdOf pname 120 (recT ⟨pkey, x.path⟩).length).size.toNat = (recT ⟨pkey, x.path⟩).length := by show (((recT ⟨pkey, x.path⟩).length : Nat) : Int).toNat = _; simp
      by_cases q2 : m < (sect pname 120 (recT ⟨pkey, x.path⟩)).length
      · rw [List.take_append_of_le_length (by omega)]
        obtain ⟨c1, c2, c3⟩ := cut_sect g1 hq q2
        rw [c1]
        refine ⟨rfl, by show ¬ ((120 : Nat) = 53 ∨ (120 : Nat) = 103); decide, c3, ?_⟩
        unfold readT
        rw [c1]
        simp only
        rw [if_neg (by simp), if_pos (show (hdOf pname 120 (recT ⟨pkey, x.path⟩).length).kind = 120 from rfl), e1, c2, if_neg (by simp)]
      · have es : (sect pname 120 (recT ⟨pkey, x.path⟩) ++ sect (x.path.take 100) 48 x.data).take m = sect pname 120 (recT ⟨pkey, x.path⟩) ++ (sect (x.path.take 100) 48 x.data).take (m - (sect pname 120 (recT ⟨pkey, x.path⟩)).length) := by
          rw [List.take_append, List.take_of_length_le (by omega)]
        rw [es, head_sect g1]
        have hz : zeroH ((sect pname 120 (recT ⟨pkey, x.path⟩) ++ (sect (x.path.take 100) 48 x.data).take (m - (sect pname 120 (recT ⟨pkey, x.path⟩)).length)).take 512) = false := by
          have e : (sect pname 120 (recT ⟨pkey, x.path⟩) ++ (sect (x.path.take 100) 48 x.data).take (m - (sect pname 120 (recT ⟨pkey, x.path⟩)).length)).take 512 = hdText (hdOf pname 120 (recT ⟨pkey, x.path⟩).length) := by
            unfold sect
            rw [List.append_assoc, List.append_assoc, List.take_left' g1.len]
          rw [e, g1.nz]
        refine ⟨rfl, by show ¬ ((120 : Nat) = 53 ∨ (120 : Nat) = 103); decide, hz, ?_⟩
        unfold readT
        rw [head_sect g1]
        simp only
        rw [if_neg (by simp), if_pos (show (hdOf pname 120 (recT ⟨pkey, x.path⟩).length).kind = 120 from rfl), e1, data_sect g1]
        simp only
        rw [path_dec h3, drop_sect g1]
        rw [List.length_append] at hm
        by_cases q3 : m - (sect pname 120 (recT ⟨pkey, x.path⟩)).length < 512
        · rw [if_neg (fun z => by have := head_short (s := (sect (x.path.take 100) 48 x.data).take (m - (sect pname 120 (recT ⟨pkey, x.path⟩)).length)) (by rw [List.length_take]; omega); rw [this] at z; exact absurd z.2.2.1 (by decide))]
        · obtain ⟨c1, c2, c3⟩ := cut_sect g2 (m := m - (sect pname 120 (recT ⟨pkey, x.path⟩)).length) (by omega) (by omega)
          rw [c1, if_pos ⟨trivial, rfl, rfl, rfl⟩]
          exact rest_fail (by unfold lastP; simp [pkey, skey]) (by show ((x.data.length : Nat) : Int).toNat = _; simp) c2
theorem unp_fail {s : By} {f : Nat} {out : List En} (h : (headT s).2 = 180 ∧ s.length < 512 ∨ ((headT s).2 = 0 ∧ ¬ ((headT s).1.kind = 53 ∨ (headT s).1.kind = 103) ∧ zeroH (s.take 512) = false ∧ (readT s).2.2 = 180)) : unpT (f + 1) s out = ([], 180) := by
  rw [unpT]
  rcases h with ⟨h1, h2⟩ | ⟨h1, h2, h3, h4⟩
  · rw [if_neg (fun q => by omega), if_neg (fun q => by rw [h1] at q; exact absurd q.1 (by decide)), if_pos (.inl (by rw [h1]; decide))]
  · rw [if_neg (fun q => by rw [h3] at q; exact absurd q.2 (by decide)), if_neg (fun q => h2 q.2), if_pos (.inr (by rw [h4]; decide))]
theorem unp_cut : ∀ (l : List En) (a f : Nat) (out : List En), (∀ x ∈ l, checkP x.path = 0 ∧ x.data.length ≤ 262144) → a < (catT l).length + 512 → a < 512 * f → unpT f ((catT l ++ nul 1024).take a) out = ([], 180)
  | [], a, f, out, _, ha, hf => by
    obtain ⟨k, rfl⟩ : ∃ k, f = k + 1 := ⟨f - 1, by omega⟩
    have ha2 : a < 512 := by simpa [catT] using ha
    have hl : ((catT [] ++ nul 1024).take a).length < 512 := by rw [List.length_take]; omega
    exact unp_fail (.inl ⟨head_short hl, hl⟩)
  | x :: l, a, f, out, h, ha, hf => by
    obtain ⟨k, rfl⟩ : ∃ k, f = k + 1 := ⟨f - 1, by omega⟩
    have hx := h x (by simp)
    have e : catT (x :: l) ++ nul 1024 = entT x ++ (catT l ++ nul 1024) := by simp [catT]
    have e2 : (catT (x :: l)).length = (entT x).length + (catT l).length := by rw [show catT (x :: l) = entT x ++ catT l from rfl, List.length_append]
    rw [e]
    by_cases q : a < (entT x).length
    · rw [List.take_append_of_le_length (by omega)]
      refine unp_fail ?_
      rcases read_cut hx.1 hx.2 q with ⟨z1, z2⟩ | ⟨_, z2, z3, z4, z5⟩
      · exact .inl ⟨z1, by rw [List.length_take]; omega⟩
      · exact .inr ⟨z2, z3, z4, z5⟩
    · rw [List.take_append, List.take_of_length_le (by omega), unp_step hx.1 hx.2]
      exact unp_cut l _ _ _ (fun y hy => h y (by simp [hy])) (by omega) (by have := (ent_len hx.1 hx.2).2.1; omega)
/-- packed files that are cut off -/
theorem unpack_cut {l : List En} (h : ∀ x ∈ l, checkP x.path = 0 ∧ x.data.length ≤ 262144) {a : Nat} (ha : a < (catT l).length + 512) (hs : (catT l).length + 1024 ≤ 524288) : unpackT ((catT l ++ nul 1024).take a) = ([], 180) := by
  have hlen : ((catT l ++ nul 1024).take a).length = a := by rw [List.length_take, List.length_append, nul_len]; omega
  unfold unpackT
  rw [if_neg (by omega), hlen]
  exact unp_cut l a (a + 1) [] h ha (by omega)
end Go.Proofs.YtjgeoeeikfjmdaaGreatDoor.Tar
/- The engine's laws for structs: fields, values that are built, addresses that are compared. No program is spoken of. -/
namespace Go.Proofs.YtjgeoeeikfjmdaaGreatDoor
set_option linter.unnecessarySimpa false
open Go.RowKit
set_option linter.unusedSimpArgs false
set_option linter.unusedVariables false
section
variable {P : Program} {n : Nat} {σ : Sig} {w : World} {x y : Operand} {t e ty T T' : TypeId} {b o : Nat} {z v : Value} {s bs : Nat} {l : List Value}
/-- the places of a struct's fields: where each begins, how many cells it has -/
def places (P : Program) (fs : List Field) : Option (List (Nat × Nat)) :=
  match fs with
  | [] => some []
  | f :: r => match P.info? f.type, places P r with
    | some i, some l => some ((f.offset, i.size) :: l)
    | _, _ => none
theorem run_places : ∀ (fs : List Field) (l : List (Nat × Nat)), places P fs = some l → (fs.mapM fun f => (do pure (f.offset, ← sizeOf f.type) : Sem (Nat × Nat))).run P w = .ok l w
  | [], l, h => by
    simp only [places, Option.some.injEq] at h
    subst h
    simp
  | f :: r, l, h => by
    simp only [places] at h
    split at h
    · rename_i i l' hi hl
      injection h with h
      subst h
      have ih := run_places r l' hl
      have hs : (sizeOf f.type).run P w = .ok i.size w := by simp [sizeOf, typeInfo, hi, Sem.run_bind]
      simp only [List.mapM_cons, Sem.run_bind, hs, Result.andThen_ok, Sem.run_pure, ih]
    · cases h
/-- one-cell parts are laid over a row -/
def setAll : List Value → List Nat → List Value → List Value
  | cs, i :: is, v :: vs => setAll (cs.set i v) is vs
  | cs, _, _ => cs
theorem setAll_length : ∀ (is : List Nat) (vs cs : List Value), (setAll cs is vs).length = cs.length
  | [], _, _ => by simp [setAll]
  | i :: is, [], cs => by simp [setAll]
  | i :: is, v :: vs, cs => by simp [setAll, setAll_length is vs]
theorem fill_setAll (pl : List (Nat × Nat)) : ∀ (pv : List (Nat × Value)) (is : List Nat) (cs : List Value), pv.length = is.length → (∀ (j : Nat) (p : Nat × Value) (i : Nat), pv[j]? = some p → is[j]? = some i → pl[p.1]? = some (i, 1) ∧ i < cs.length ∧ p.2.oneCell' = true) →
    Instr.fill (pl.toArray[·]?) cs.toArray pv = some (setAll cs is (pv.map (·.2))).toArray
  | [], is, cs, hl, _ => by
    cases is with
    | nil => simp [Instr.fill, setAll]
    | cons _ _ => simp at hl
  | (k, v) :: pv, is, cs, hl, h => by
    cases is with
    | nil => simp at hl
    | cons i is =>
      obtain ⟨h1, h2, h3⟩ := h 0 (k, v) i rfl rfl
      have hc := oneCell_cells h3
      have ih := fill_setAll pl pv is (cs.set i v) (by simpa using hl) (fun j p i' hp hi' => by
        have := h (j + 1) p i' (by simpa using hp) (by simpa using hi')
        simpa using this)
      simp only [List.map_cons, setAll]
      simp only [Instr.fill]
      have e1 : pl.toArray[k]? = some (i, 1) := by simpa using h1
      rw [e1]
      simp only [hc]
      have hn : ¬ ((#[v] : Array Value).size ≠ 1 ∨ i + (#[v] : Array Value).size > cs.toArray.size) := by simp; omega
      have hz : (#[v] : Array Value).zipIdx.foldl (fun cs (x : Value × Nat) => cs.setIfInBounds (i + x.2) x.1) cs.toArray = (cs.set i v).toArray := by
        have : (#[v] : Array Value).zipIdx.foldl (fun cs (x : Value × Nat) => cs.setIfInBounds (i + x.2) x.1) cs.toArray = cs.toArray.setIfInBounds (i + 0) v := rfl
        rw [this]
        simp
      simp only [ne_eq, Bool.or_eq_true, decide_eq_true_eq]
      rw [if_neg (by simpa using hn), hz]
      exact ih
/-- the parts' numbers and places, checked -/
def placed (pl : List (Nat × Nat)) (m : Nat) : List Nat → List Nat → Bool
  | k :: ks, i :: is => (match pl[k]? with | some (i', 1) => Nat.beq i' i | _ => false) && Nat.blt i m && placed pl m ks is
  | [], [] => true
  | _, _ => false
theorem placed_at {pl : List (Nat × Nat)} {m : Nat} : ∀ {ks is : List Nat}, placed pl m ks is = true → ks.length = is.length ∧ ∀ (j k i : Nat), ks[j]? = some k → is[j]? = some i → pl[k]? = some (i, 1) ∧ i < m
  | [], [], _ => ⟨rfl, fun j k i hk _ => by simp at hk⟩
  | [], i :: is, h => by simp [placed] at h
  | k :: ks, [], h => by simp [placed] at h
  | k :: ks, i :: is, h => by
    simp only [placed, Bool.and_eq_true] at h
    obtain ⟨⟨h1, h2⟩, h3⟩ := h
    obtain ⟨e, f⟩ := placed_at h3
    refine ⟨by simp [e], fun j k' i' hk hi => ?_⟩
    cases j with
    | zero =>
      simp at hk hi
      subst hk; subst hi
      split at h1
      · rename_i i' hp
        rw [hp, Nat.eq_of_beq_eq_true h1]
        refine ⟨rfl, ?_⟩
        have h2' : Nat.ble (i + 1) m = true := h2
        exact Nat.le_of_ble_eq_true h2'
      · cases h1
    | succ j => exact f j k' i' (by simpa using hk) (by simpa using hi)
theorem EX.buildS {fs : Array Field} {parts : Array (Nat × Operand)} {pl : List (Nat × Nat)} {ks is : List Nat} {vs zs : List Value} (hu : P.underlying t = some (.struct fs)) (hi : TI P t (.agg zs.toArray) s bs) (hp : places P fs.toList = some pl)
    (hk : parts.toList.map (·.1) = ks) (hv : evs σ (parts.toList.map (·.2)) = some vs) (hc : placed pl zs.length ks is = true) (h1 : vs.all (·.oneCell') = true) (hl : setAll zs is vs = l) :
    EX P n σ (.build t parts) ty w (.agg l.toArray) w := fun A ha dst pos after g => by
  subst hl
  obtain ⟨i, hq, hz, _, _⟩ := hi.at
  have hev := ha.evs hv
  have hpv : (parts.map fun (p : Nat × Operand) => (p.1, A.eval p.2)).toList = ks.zip vs := by
    rw [← hk, ← hev]
    simp only [Array.toList_map, List.map_map, List.zip_map']
    rfl
  obtain ⟨e1, e2⟩ := placed_at hc
  have hlen : ks.length = vs.length := by rw [← hk, ← hev]; simp
  have hf := fill_setAll pl (ks.zip vs) is zs (by simp [hlen]; omega) (fun j p i' hp' hi' => by
    rw [List.getElem?_zip_eq_some] at hp'
    obtain ⟨h2, h3⟩ := hp'
    obtain ⟨h4, h5⟩ := e2 j p.1 i' h2 hi'
    exact ⟨h4, h5, List.all_eq_true.1 h1 _ (List.mem_of_getElem? h3)⟩)
  have hsnd : (ks.zip vs).map (·.2) = vs := by
    rw [← List.unzip_snd, List.unzip_zip_right]
    omega
  rw [hsnd] at hf
  have hm : (fs.mapM fun f => (do pure (f.offset, ← sizeOf f.type) : Sem (Nat × Nat))).run P w = .ok pl.toArray w := by
    have := run_places (P := P) (w := w) fs.toList pl hp
    obtain ⟨fl⟩ := fs
    rw [List.mapM_toArray, map_eq_pure_bind, Sem.run_bind, this]
    rfl
  simp only [execOp, Instr.build, Sem.run_bind, run_zeroValue hi, Result.andThen_ok, run_underlying hu, hm]
  rw [show (parts.map fun (x : Nat × Operand) => match x with | (i, x) => (i, A.eval x)).toList = ks.zip vs from hpv]
  rw [show ((Value.agg zs.toArray).cells) = zs.toArray from rfl, hf]
  rfl
theorem EX.fieldAddr {fs : Array Field} {fd : Field} {f off : Nat} (hu : P.underlying t = some (.struct fs)) (hf : fs[f]? = some fd) (ho : fd.offset = off) (hi : TI P fd.type z s bs) (hs : Nat.blt 0 s = true) (hx : ev σ x = some (.pointer (some ⟨b, o, none⟩))) :
    EX P n σ (.fieldAddr t x f) ty w (.pointer (some ⟨b, o + off, none⟩)) w := fun A ha dst pos after g => by
  subst ho
  have hs' : s ≠ 0 := by have : 1 ≤ s := Nat.le_of_ble_eq_true hs; omega
  have hadd : (⟨b, o, none⟩ : Addr).add fd.offset = ⟨b, o + fd.offset, none⟩ := by unfold Addr.add; split <;> simp_all
  simp only [execOp, ha.ev hx]
  simp [Instr.fieldAt, run_underlying hu, Sem.run_bind, hf, Instr.sureAddr, fieldPlace, run_sizeOf hi, hs', hadd]
/-- a one-cell field of a struct's value -/
theorem EX.field1 {fs : Array Field} {fd : Field} {f off : Nat} {d : TypeDesc} (hu : P.underlying t = some (.struct fs)) (hf : fs[f]? = some fd) (ho : fd.offset = off) (hd : P.underlying fd.type = some d) (hfl : flat d = true)
    (hx : ev σ x = some (.agg l.toArray)) (hv : l[off]? = some v) : EX P n σ (.field t x f) ty w v w := fun A ha dst pos after g => by
  subst ho
  simp only [execOp, ha.ev hx]
  simp [Instr.field, run_underlying hu, Sem.run_bind, hf, asAgg, part, run_isAgg hd, hfl, hv]
theorem run_eq {u v : Value} {q : Bool} (e : binOp .eql t u v = (do pure (.bool (← Op.equal t u v)))) (h : ∀ d, (Op.equalIn (d + 1) t u v).run P w = .ok q w) : (binOp .eql t u v).run P w = .ok (.bool q) w := by
  have h1 : (Op.equal t u v).run P w = .ok q w := h 9999
  rw [e, Sem.run_bind, h1]
  rfl
theorem run_ne {u v : Value} {q : Bool} (e : binOp .neq t u v = (do pure (.bool !(← Op.equal t u v)))) (h : ∀ d, (Op.equalIn (d + 1) t u v).run P w = .ok (!q) w) : (binOp .neq t u v).run P w = .ok (.bool q) w := by
  have h1 : (Op.equal t u v).run P w = .ok (!q) w := h 9999
  rw [e, Sem.run_bind, h1]
  simp
/-- nil or not -/
theorem guard_ptr (op : BinOp) (i j : Option Addr) : (eqGuard op t x y (.pointer i) (.pointer j)).run P w = .ok () w := by
  unfold eqGuard; cases op <;> rfl
theorem EX.eqlP0 (hu : P.underlying t = some (.pointer e)) (hx : ev σ x = some (.pointer none)) (hy : ev σ y = some (.pointer none)) : EX P n σ (.binOp .eql t x y T) ty w (.bool true) w :=
  EX.bin hx hy (guard_ptr _ _ _) (run_eq rfl (fun d => by simp [Op.equalIn, run_underlying hu, Sem.run_bind]))
theorem EX.eqlP1 {a : Addr} (hu : P.underlying t = some (.pointer e)) (hx : ev σ x = some (.pointer (some a))) (hy : ev σ y = some (.pointer none)) : EX P n σ (.binOp .eql t x y T) ty w (.bool false) w :=
  EX.bin hx hy (guard_ptr _ _ _) (run_eq rfl (fun d => by simp [Op.equalIn, run_underlying hu, Sem.run_bind]))
theorem EX.neqP0 (hu : P.underlying t = some (.pointer e)) (hx : ev σ x = some (.pointer none)) (hy : ev σ y = some (.pointer none)) : EX P n σ (.binOp .neq t x y T) ty w (.bool false) w :=
  EX.bin hx hy (guard_ptr _ _ _) (run_ne rfl (fun d => by simp [Op.equalIn, run_underlying hu, Sem.run_bind]))
theorem EX.neqP1 {a : Addr} (hu : P.underlying t = some (.pointer e)) (hx : ev σ x = some (.pointer (some a))) (hy : ev σ y = some (.pointer none)) : EX P n σ (.binOp .neq t x y T) ty w (.bool true) w :=
  EX.bin hx hy (guard_ptr _ _ _) (run_ne rfl (fun d => by simp [Op.equalIn, run_underlying hu, Sem.run_bind]))
theorem EX.neqF0 {p q : Array TypeId} {vd : Bool} (hu : P.underlying t = some (.func p q vd)) (hx : ev σ x = some .nilFunc) (hy : ev σ y = some .nilFunc) : EX P n σ (.binOp .neq t x y T) ty w (.bool false) w :=
  EX.bin hx hy (by unfold eqGuard; rfl) (run_ne rfl (fun d => by simp [Op.equalIn, run_underlying hu, Sem.run_bind]))
theorem EX.neqF1 {p q : Array TypeId} {vd : Bool} {f : Fn} {fi ca : Array Value} (hu : P.underlying t = some (.func p q vd)) (hx : ev σ x = some (.func f fi ca)) (hy : ev σ y = some .nilFunc) : EX P n σ (.binOp .neq t x y T) ty w (.bool true) w :=
  EX.bin hx hy (by unfold eqGuard; rfl) (run_ne rfl (fun d => by simp [Op.equalIn, run_underlying hu, Sem.run_bind]))
/-- nil or a function -/
theorem EX.neqFb {p q : Array TypeId} {vd r : Bool} (hu : P.underlying t = some (.func p q vd)) (hx : ev σ x = some v) (hy : ev σ y = some .nilFunc) (hq : v = .nilFunc ∧ r = false ∨ ∃ f fi ca, v = .func f fi ca ∧ r = true) : EX P n σ (.binOp .neq t x y T) ty w (.bool r) w := by
  rcases hq with ⟨rfl, rfl⟩ | ⟨f, fi, ca, rfl, rfl⟩
  · exact EX.neqF0 hu hx hy
  · exact EX.neqF1 hu hx hy
end
section
variable {P : Program} {R : Act → World → Prop} {ops : Array Oper} {rest : List Oper} {k : List KI} {n : Nat} {σ : Sig} {w : World} {x y : Operand} {T T' e ty : TypeId} {pos : String} {after : Array Edge} {gd : Option (Nat × Bool)} {d : Nat} {v z : Value} {s bs : Nat} {l : List Value}
/-- a struct in a box of its own -/
theorem OW.boxS (hg : wantS ops σ gd = some true) (hd : Nat.blt d n = true) (hx : ev σ x = some (.agg l.toArray))
    (h : ∀ b w', w.heap.size ≤ b → Bk w' b T l → Ext w w' → OW P R ops rest k n ((d, .pointer (some ⟨b, 0, none⟩)) :: σ) w') :
    OW P R ops (⟨some d, .box T x, ty, pos, after, gd⟩ :: rest) k n σ w :=
  OW.val hg hd (EX.box (l := l) hx (by simp [Value.cells])) (h _ _ (Nat.le_refl _) (Bk.new w T l) (Ext.alloc w _))
/-- several cells are stored over others -/
theorem OW.storeS {b o : Nat} {vs : List Value} (hg : wantS ops σ gd = some true) (hi : TI P T z s bs) (hx : ev σ x = some (.pointer (some ⟨b, o, none⟩))) (hy : ev σ y = some (.agg vs.toArray)) (hs : vs.length = s) (h1 : vs.all (·.oneCell') = true) (hb : Bk w b T' l) (hlt : o + vs.length ≤ l.length)
    (h : ∀ w', Bk w' b T' (l.take o ++ vs ++ l.drop (o + vs.length)) → Mo w w' [b] → OW P R ops rest k n σ w') :
    OW P R ops (⟨none, .store T x y, ty, pos, after, gd⟩ :: rest) k n σ w := by
  obtain ⟨w', he, hb', hg'⟩ := EU.storeA (P := P) (n := n) (ty := ty) hi hx hy hs h1 hb hlt
  exact OW.eff hg he (h w' hb' (Mo.grown hg' (fun k e => by simp at e; simp [e])))
end
end Go.Proofs.YtjgeoeeikfjmdaaGreatDoor
