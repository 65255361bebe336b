/-
  A small engine for walks: the frame as a list of the slots that are known, the code ahead as a list, one law a step. No program is spoken of.
-/
import Derived.WalkKit
import Derived.WalkSpells
import Derived.WalkLawsBesides
import Derived.Lib.Hide
import Derived.Deep.Draws
import Derived.Deep.Quiet
import Derived.StillTail
namespace Go.Proofs.YtieojdkblakchaaDoor
open Go.RowKit

/-! ### The frame -/
abbrev Sig := List (Nat × Value)
def lk : Sig → Nat → Option Value
  | [], _ => none
  | (i, v) :: r, t => match Nat.beq i t with | true => some v | false => lk r t
def ev (σ : Sig) : Operand → Option Value
  | .tmp t => lk σ t
  | .const v => some v
  | .global g => some (.pointer (some ⟨g, 0, none⟩))
  | .func f => some (.func (.func f) #[] #[])
def evs (σ : Sig) : List Operand → Option (List Value)
  | [] => some []
  | x :: r => match ev σ x with
    | some v => match evs σ r with
      | some vs => some (v :: vs)
      | none => none
    | none => none
structure Fr (n : Nat) (σ : Sig) (a : Act) : Prop where
  size : a.tmps.size = n
  val : ∀ t v, lk σ t = some v → a.tmps[t]? = some v
  df : a.defers = []
theorem Fr.ev {n : Nat} {σ : Sig} {a : Act} (h : Fr n σ a) {x : Operand} {v : Value} (hx : ev σ x = some v) : a.eval x = v := by
  cases x with
  | tmp t =>
    have := h.val t v hx
    simp [Act.eval, this]
  | const u => simpa [Go.Proofs.YtieojdkblakchaaDoor.ev, Act.eval] using hx
  | global g => simpa [Go.Proofs.YtieojdkblakchaaDoor.ev, Act.eval] using hx
  | func f => simpa [Go.Proofs.YtieojdkblakchaaDoor.ev, Act.eval] using hx
theorem Fr.evs {n : Nat} {σ : Sig} {a : Act} (h : Fr n σ a) : ∀ {xs : List Operand} {vs : List Value}, evs σ xs = some vs → xs.map a.eval = vs
  | [], vs, hx => by simpa [Go.Proofs.YtieojdkblakchaaDoor.evs] using hx
  | x :: xs, vs, hx => by
    unfold Go.Proofs.YtieojdkblakchaaDoor.evs at hx
    split at hx
    · rename_i v hv
      split at hx
      · rename_i us hus
        injection hx with hx
        subst hx
        simp [h.ev hv, h.evs hus]
      · cases hx
    · cases hx
theorem lk_cons_same (σ : Sig) (d : Nat) (v : Value) : lk ((d, v) :: σ) d = some v := by simp [lk]
theorem lk_cons (σ : Sig) (d t : Nat) (v : Value) : lk ((d, v) :: σ) t = if d = t then some v else lk σ t := by
  by_cases h : d = t
  · subst h; simp [lk_cons_same]
  · have : Nat.beq d t = false := by
      cases hb : Nat.beq d t with
      | false => rfl
      | true => exact absurd (Nat.eq_of_beq_eq_true hb) h
    simp [lk, this, h]
theorem Fr.put {n : Nat} {σ : Sig} {a : Act} (h : Fr n σ a) {d : Nat} (hd : Nat.blt d n = true) (v : Value) : Fr n ((d, v) :: σ) (a.put (some d) v) := by
  have hd' : d < n := by simpa [Nat.blt_eq] using hd
  refine ⟨by simpa [Act.put] using h.size, fun t u ht => ?_, h.df⟩
  rw [lk_cons] at ht
  by_cases e : d = t
  · subst e
    simp at ht
    subst ht
    simp [Act.put, h.size, hd']
  · simp [e] at ht
    simp only [Act.put]
    rw [Array.getElem?_setIfInBounds_ne e]
    exact h.val t u ht
def Subs : Sig → Sig → Prop
  | [], _ => True
  | (t, v) :: r, σ => lk σ t = some v ∧ Subs r σ
theorem Subs.lk {σ : Sig} : ∀ {σ' : Sig}, Subs σ' σ → ∀ {t : Nat} {v : Value}, lk σ' t = some v → lk σ t = some v
  | [], _, _, _, h => by simp [Go.Proofs.YtieojdkblakchaaDoor.lk] at h
  | (i, u) :: r, hs, t, v, h => by
    rw [lk_cons] at h
    by_cases e : i = t
    · subst e
      simp at h
      subst h
      exact hs.1
    · simp [e] at h
      exact hs.2.lk h
theorem Fr.sub {n : Nat} {σ σ' : Sig} {a : Act} (h : Fr n σ a) (hs : Subs σ' σ) : Fr n σ' a := ⟨h.size, fun t v ht => h.val t v (hs.lk ht), h.df⟩

/-! ### The code ahead -/
inductive KI where
  | code (c : Code)
  | blk (id : Nat)
  | asr (I : Act → World → Prop)
def pst (P : Program) (R : Act → World → Prop) : List KI → Exit → Act → World → Prop
  | [], .normal => R
  | [], .ret => R
  | [], _ => fun _ _ => False
  | .code c :: k, e => match e with | .normal => fun a w => c.wp P (pst P R k) a w | e => pst P R k e
  | .blk id :: k, e => match e with | .exit i => fun a w => if i = id then pst P R k .normal a w else pst P R k (.exit i) a w | e => pst P R k e
  | .asr I :: k, e => match e with | .normal => I | e => pst P R k e
def popTo (id : Nat) : List KI → Option (List KI)
  | [] => none
  | .blk i :: k => match Nat.beq id i with | true => some k | false => popTo id k
  | .code _ :: k => popTo id k
  | .asr _ :: k => popTo id k
def KW (P : Program) (R : Act → World → Prop) (k : List KI) (n : Nat) (σ : Sig) (w : World) : Prop := ∀ a, Fr n σ a → pst P R k .normal a w
section
variable {P : Program} {R : Act → World → Prop} {k : List KI} {n : Nat} {σ : Sig} {w : World}
theorem pst_then (c : Code) (k : List KI) : pst P R (.code c :: k) = Exit.then (fun a w => c.wp P (pst P R k) a w) (pst P R k) := by
  funext e a w
  cases e <;> simp [pst, Exit.then]
theorem pst_blk (id : Nat) (k : List KI) : pst P R (.blk id :: k) = Exit.inBlock id (pst P R k) := by
  funext e a w
  cases e <;> simp [pst, Exit.inBlock]
theorem pst_exit {id : Nat} : ∀ {k k' : List KI}, popTo id k = some k' → ∀ a w, pst P R k (.exit id) a w = pst P R k' .normal a w
  | [], _, h, _, _ => by simp [popTo] at h
  | .code c :: k, k', h, a, w => by simp only [popTo] at h; simp only [pst]; exact pst_exit h a w
  | .asr I :: k, k', h, a, w => by simp only [popTo] at h; simp only [pst]; exact pst_exit h a w
  | .blk i :: k, k', h, a, w => by
    simp only [popTo] at h
    simp only [pst]
    by_cases e : id = i
    · subst e
      have : Nat.beq id id = true := by simp
      rw [this] at h
      injection h with h
      subst h
      simp
    · have : Nat.beq id i = false := by
        cases hb : Nat.beq id i with
        | false => rfl
        | true => exact absurd (Nat.eq_of_beq_eq_true hb) e
      rw [this] at h
      rw [if_neg e]
      exact pst_exit h a w
theorem pst_ret : ∀ (k : List KI) (a : Act) (w : World), pst P R k .ret a w = R a w
  | [], _, _ => rfl
  | .code _ :: k, a, w => pst_ret k a w
  | .blk _ :: k, a, w => pst_ret k a w
  | .asr _ :: k, a, w => pst_ret k a w

theorem KW.seq {x y : Code} (h : KW P R (.code x :: .code y :: k) n σ w) : KW P R (.code (.seq x y) :: k) n σ w := fun a ha => by
  have := h a ha
  simp only [pst] at this ⊢
  refine wp_seq ?_
  rw [← pst_then]
  exact this
theorem KW.block {id : Nat} {c : Code} (h : KW P R (.code c :: .blk id :: k) n σ w) : KW P R (.code (.block id c) :: k) n σ w := fun a ha => by
  have := h a ha
  simp only [pst] at this ⊢
  refine wp_block ?_
  rw [← pst_blk]
  exact this
theorem KW.leave {id : Nat} (h : KW P R k n σ w) : KW P R (.blk id :: k) n σ w := fun a ha => h a ha
theorem KW.skip (h : KW P R k n σ w) : KW P R (.code .skip :: k) n σ w := fun a ha => wp_skip (h a ha)
theorem KW.label {l : Nat} (h : KW P R k n σ w) : KW P R (.code (.label l) :: k) n σ w := fun a ha => wp_label (h a ha)
theorem KW.exit {id : Nat} {k' : List KI} (hk : popTo id k = some k') (h : KW P R k' n σ w) : KW P R (.code (.exit id) :: k) n σ w := fun a ha =>
  wp_exit (by rw [pst_exit hk]; exact h a ha)
theorem KW.ret (h : ∀ a, Fr n σ a → R a w) : KW P R (.code .ret :: k) n σ w := fun a ha => wp_ret (by rw [pst_ret]; exact h a ha)
theorem KW.done (h : ∀ a, Fr n σ a → R a w) : KW P R [] n σ w := h
theorem KW.sub {σ' : Sig} (hs : Subs σ' σ) (h : KW P R k n σ' w) : KW P R k n σ w := fun a ha => h a (ha.sub hs)
theorem KW.cond {c : Operand} {x y : Code} {b : Bool} (hc : ev σ c = some (.bool b)) (ht : b = true → KW P R (.code x :: k) n σ w) (hf : b = false → KW P R (.code y :: k) n σ w) :
    KW P R (.code (.cond c x y) :: k) n σ w := fun a ha =>
  wp_cond_split (ha.ev hc) (fun e => ht e a ha) (fun e => hf e a ha)
theorem KW.condD {c : Operand} {x y : Code} {p : Prop} [Decidable p] (hc : ev σ c = some (.bool (decide p))) (ht : p → KW P R (.code x :: k) n σ w) (hf : ¬ p → KW P R (.code y :: k) n σ w) :
    KW P R (.code (.cond c x y) :: k) n σ w :=
  KW.cond hc (fun e => ht (of_decide_eq_true e)) (fun e => hf (of_decide_eq_false e))
theorem KW.condT {c : Operand} {x y : Code} (hc : ev σ c = some (.bool true)) (h : KW P R (.code x :: k) n σ w) : KW P R (.code (.cond c x y) :: k) n σ w :=
  KW.cond hc (fun _ => h) (fun e => by cases e)
theorem KW.condF {c : Operand} {x y : Code} (hc : ev σ c = some (.bool false)) (h : KW P R (.code y :: k) n σ w) : KW P R (.code (.cond c x y) :: k) n σ w :=
  KW.cond hc (fun e => by cases e) (fun _ => h)

/-- what holds where the ways meet, or at a loop's head -/
def Met {ι : Type} (n : Nat) (I : ι → Prop) (S : ι → Sig) (W : ι → World) (a : Act) (w : World) : Prop := ∃ i, I i ∧ Fr n (S i) a ∧ w = W i
theorem KW.cut {ι : Type} (I : ι → Prop) (S : ι → Sig) (W : ι → World) {c : Code} (h : KW P R (.code c :: .asr (Met n I S W) :: k) n σ w) (h2 : ∀ i, I i → KW P R k n (S i) (W i)) :
    KW P R (.code c :: k) n σ w := fun a ha => by
  have h1 := h a ha
  simp only [pst] at h1 ⊢
  refine Code.wp_mono (fun e a' w' q => ?_) h1
  cases e with
  | normal => obtain ⟨i, hi, hf, rfl⟩ := q; exact h2 i hi a' hf
  | _ => exact q
theorem KW.meet {ι : Type} {I : ι → Prop} {S : ι → Sig} {W : ι → World} (i : ι) (hs : Subs (S i) σ) (hw : w = W i) (hi : I i) : KW P R (.asr (Met n I S W) :: k) n σ w :=
  fun _ ha => ⟨i, hi, ha.sub hs, hw⟩
/-- a loop's round ends -/
def Back {ι : Type} (n : Nat) (I : ι → Prop) (S : ι → Sig) (W : ι → World) (μ : ι → Nat) (i : ι) (a : Act) (w : World) : Prop := ∃ j, I j ∧ μ j < μ i ∧ Fr n (S j) a ∧ w = W j
theorem KW.back {ι : Type} {I : ι → Prop} {S : ι → Sig} {W : ι → World} {μ : ι → Nat} {i : ι} (j : ι) (hs : Subs (S j) σ) (hw : w = W j) (hi : I j) (hm : μ j < μ i) :
    KW P R (.asr (Back n I S W μ i) :: k) n σ w := fun _ ha => ⟨j, hi, hm, ha.sub hs, hw⟩
theorem least_nat (M : Nat → Prop) : ∀ m, M m → ∃ m, M m ∧ ∀ m', M m' → m ≤ m' := by
  intro m
  induction m using Nat.strongRecOn with
  | _ m ih =>
    intro hm
    by_cases h : ∃ m', M m' ∧ m' < m
    · obtain ⟨m', h1, h2⟩ := h
      exact ih m' h2 h1
    · exact ⟨m, hm, fun m' h' => by
        rcases Nat.lt_or_ge m' m with hlt | hge
        · exact absurd ⟨m', h', hlt⟩ h
        · exact hge⟩
theorem KW.loop {ι : Type} (I : ι → Prop) (S : ι → Sig) (W : ι → World) (μ : ι → Nat) {c : Code} (i : ι) (hs : Subs (S i) σ) (hw : w = W i) (hi : I i)
    (round : ∀ i, I i → KW P R (.code c :: .asr (Back n I S W μ i) :: k) n (S i) (W i)) : KW P R (.code (.loop c) :: k) n σ w := fun a ha => by
  let M (a : Act) (w : World) (m : Nat) : Prop := ∃ i, I i ∧ Fr n (S i) a ∧ w = W i ∧ μ i = m
  have hex : ∀ a w, (∃ m, M a w m) → ∃ m, M a w m ∧ ∀ m', M a w m' → m ≤ m' := fun a w ⟨m, hm⟩ => least_nat _ m hm
  let ν (a : Act) (w : World) : Nat := Classical.epsilon fun m => M a w m ∧ ∀ m', M a w m' → m ≤ m'
  have hν : ∀ a w, (∃ m, M a w m) → M a w (ν a w) ∧ ∀ m', M a w m' → ν a w ≤ m' := fun a w h => Classical.epsilon_spec (hex a w h)
  simp only [pst]
  refine wp_loop (fun a w => ∃ m, M a w m) ν ⟨μ i, i, hi, ha.sub hs, hw, rfl⟩ fun a' w' hm => ?_
  obtain ⟨⟨j, hj, hf, hw', hmu⟩, _⟩ := hν a' w' hm
  have h := round j hj a' hf
  simp only [pst] at h
  subst hw'
  refine Code.wp_mono (fun e a'' w'' q => ?_) h
  cases e with
  | normal =>
    obtain ⟨j', h1, h2, h3, h4⟩ := q
    refine ⟨⟨μ j', j', h1, h3, h4, rfl⟩, ?_⟩
    have := (hν a'' w'' ⟨μ j', j', h1, h3, h4, rfl⟩).2 (μ j') ⟨j', h1, h3, h4, rfl⟩
    omega
  | _ => exact q
end

section
variable {P : Program} {R : Act → World → Prop} {k : List KI} {n : Nat} {σ : Sig} {w : World}
def Back1 {α : Type} (n : Nat) (I : α → Prop) (S : α → Sig) (W : α → World) (μ : α → Nat) (x0 : α) : Act → World → Prop :=
  Back n (fun p : α => I p) (fun p => S p) (fun p => W p) (fun p => μ p) x0
def Met1 {α : Type} (n : Nat) (I : α → Prop) (S : α → Sig) (W : α → World) : Act → World → Prop :=
  Met n (fun p : α => I p) (fun p => S p) (fun p => W p)
theorem KW.loop1 {α : Type} (I : α → Prop) (S : α → Sig) (W : α → World) (μ : α → Nat) {c : Code} (x0 : α) (hs : Subs (S x0) σ) (hw : w = W x0) (hi : I x0)
    (round : ∀ x0, I x0 → KW P R (.code c :: .asr (Back1 n I S W μ x0) :: k) n (S x0) (W x0)) : KW P R (.code (.loop c) :: k) n σ w :=
  KW.loop (fun p : α => I p) (fun p => S p) (fun p => W p) (fun p => μ p) x0 hs hw hi fun p hp => round p hp
theorem KW.back1 {α : Type} {I : α → Prop} {S : α → Sig} {W : α → World} {μ : α → Nat} {y0 : α} (x0 : α) (hs : Subs (S x0) σ) (hw : w = W x0) (hi : I x0) (hm : μ x0 < μ y0) :
    KW P R (.asr (Back1 n I S W μ y0) :: k) n σ w :=
  KW.back (I := fun p : α => I p) (S := fun p => S p) (W := fun p => W p) (μ := fun p => μ p) x0 hs hw hi hm
theorem KW.cut1 {α : Type} (I : α → Prop) (S : α → Sig) (W : α → World) {c : Code} (h : KW P R (.code c :: .asr (Met1 n I S W) :: k) n σ w)
    (h2 : ∀ x0, I x0 → KW P R k n (S x0) (W x0)) : KW P R (.code c :: k) n σ w :=
  KW.cut (fun p : α => I p) (fun p => S p) (fun p => W p) h fun p hp => h2 p hp
theorem KW.meet1 {α : Type} {I : α → Prop} {S : α → Sig} {W : α → World} (x0 : α) (hs : Subs (S x0) σ) (hw : w = W x0) (hi : I x0) :
    KW P R (.asr (Met1 n I S W) :: k) n σ w :=
  KW.meet (I := fun p : α => I p) (S := fun p => S p) (W := fun p => W p) x0 hs hw hi
def Back2 {α β : Type} (n : Nat) (I : α → β → Prop) (S : α → β → Sig) (W : α → β → World) (μ : α → β → Nat) (x0 : α) (x1 : β) : Act → World → Prop :=
  Back n (fun p : α × β => I p.1 p.2) (fun p => S p.1 p.2) (fun p => W p.1 p.2) (fun p => μ p.1 p.2) (x0, x1)
def Met2 {α β : Type} (n : Nat) (I : α → β → Prop) (S : α → β → Sig) (W : α → β → World) : Act → World → Prop :=
  Met n (fun p : α × β => I p.1 p.2) (fun p => S p.1 p.2) (fun p => W p.1 p.2)
theorem KW.loop2 {α β : Type} (I : α → β → Prop) (S : α → β → Sig) (W : α → β → World) (μ : α → β → Nat) {c : Code} (x0 : α) (x1 : β) (hs : Subs (S x0 x1) σ) (hw : w = W x0 x1) (hi : I x0 x1)
    (round : ∀ x0 x1, I x0 x1 → KW P R (.code c :: .asr (Back2 n I S W μ x0 x1) :: k) n (S x0 x1) (W x0 x1)) : KW P R (.code (.loop c) :: k) n σ w :=
  KW.loop (fun p : α × β => I p.1 p.2) (fun p => S p.1 p.2) (fun p => W p.1 p.2) (fun p => μ p.1 p.2) (x0, x1) hs hw hi fun p hp => round p.1 p.2 hp
theorem KW.back2 {α β : Type} {I : α → β → Prop} {S : α → β → Sig} {W : α → β → World} {μ : α → β → Nat} {y0 : α} {y1 : β} (x0 : α) (x1 : β) (hs : Subs (S x0 x1) σ) (hw : w = W x0 x1) (hi : I x0 x1) (hm : μ x0 x1 < μ y0 y1) :
    KW P R (.asr (Back2 n I S W μ y0 y1) :: k) n σ w :=
  KW.back (I := fun p : α × β => I p.1 p.2) (S := fun p => S p.1 p.2) (W := fun p => W p.1 p.2) (μ := fun p => μ p.1 p.2) (x0, x1) hs hw hi hm
theorem KW.cut2 {α β : Type} (I : α → β → Prop) (S : α → β → Sig) (W : α → β → World) {c : Code} (h : KW P R (.code c :: .asr (Met2 n I S W) :: k) n σ w)
    (h2 : ∀ x0 x1, I x0 x1 → KW P R k n (S x0 x1) (W x0 x1)) : KW P R (.code c :: k) n σ w :=
  KW.cut (fun p : α × β => I p.1 p.2) (fun p => S p.1 p.2) (fun p => W p.1 p.2) h fun p hp => h2 p.1 p.2 hp
theorem KW.meet2 {α β : Type} {I : α → β → Prop} {S : α → β → Sig} {W : α → β → World} (x0 : α) (x1 : β) (hs : Subs (S x0 x1) σ) (hw : w = W x0 x1) (hi : I x0 x1) :
    KW P R (.asr (Met2 n I S W) :: k) n σ w :=
  KW.meet (I := fun p : α × β => I p.1 p.2) (S := fun p => S p.1 p.2) (W := fun p => W p.1 p.2) (x0, x1) hs hw hi
def Back3 {α β γ : Type} (n : Nat) (I : α → β → γ → Prop) (S : α → β → γ → Sig) (W : α → β → γ → World) (μ : α → β → γ → Nat) (x0 : α) (x1 : β) (x2 : γ) : Act → World → Prop :=
  Back n (fun p : α × β × γ => I p.1 p.2.1 p.2.2) (fun p => S p.1 p.2.1 p.2.2) (fun p => W p.1 p.2.1 p.2.2) (fun p => μ p.1 p.2.1 p.2.2) (x0, x1, x2)
def Met3 {α β γ : Type} (n : Nat) (I : α → β → γ → Prop) (S : α → β → γ → Sig) (W : α → β → γ → World) : Act → World → Prop :=
  Met n (fun p : α × β × γ => I p.1 p.2.1 p.2.2) (fun p => S p.1 p.2.1 p.2.2) (fun p => W p.1 p.2.1 p.2.2)
theorem KW.loop3 {α β γ : Type} (I : α → β → γ → Prop) (S : α → β → γ → Sig) (W : α → β → γ → World) (μ : α → β → γ → Nat) {c : Code} (x0 : α) (x1 : β) (x2 : γ) (hs : Subs (S x0 x1 x2) σ) (hw : w = W x0 x1 x2) (hi : I x0 x1 x2)
    (round : ∀ x0 x1 x2, I x0 x1 x2 → KW P R (.code c :: .asr (Back3 n I S W μ x0 x1 x2) :: k) n (S x0 x1 x2) (W x0 x1 x2)) : KW P R (.code (.loop c) :: k) n σ w :=
  KW.loop (fun p : α × β × γ => I p.1 p.2.1 p.2.2) (fun p => S p.1 p.2.1 p.2.2) (fun p => W p.1 p.2.1 p.2.2) (fun p => μ p.1 p.2.1 p.2.2) (x0, x1, x2) hs hw hi fun p hp => round p.1 p.2.1 p.2.2 hp
theorem KW.back3 {α β γ : Type} {I : α → β → γ → Prop} {S : α → β → γ → Sig} {W : α → β → γ → World} {μ : α → β → γ → Nat} {y0 : α} {y1 : β} {y2 : γ} (x0 : α) (x1 : β) (x2 : γ) (hs : Subs (S x0 x1 x2) σ) (hw : w = W x0 x1 x2) (hi : I x0 x1 x2) (hm : μ x0 x1 x2 < μ y0 y1 y2) :
    KW P R (.asr (Back3 n I S W μ y0 y1 y2) :: k) n σ w :=
  KW.back (I := fun p : α × β × γ => I p.1 p.2.1 p.2.2) (S := fun p => S p.1 p.2.1 p.2.2) (W := fun p => W p.1 p.2.1 p.2.2) (μ := fun p => μ p.1 p.2.1 p.2.2) (x0, x1, x2) hs hw hi hm
theorem KW.cut3 {α β γ : Type} (I : α → β → γ → Prop) (S : α → β → γ → Sig) (W : α → β → γ → World) {c : Code} (h : KW P R (.code c :: .asr (Met3 n I S W) :: k) n σ w)
    (h2 : ∀ x0 x1 x2, I x0 x1 x2 → KW P R k n (S x0 x1 x2) (W x0 x1 x2)) : KW P R (.code c :: k) n σ w :=
  KW.cut (fun p : α × β × γ => I p.1 p.2.1 p.2.2) (fun p => S p.1 p.2.1 p.2.2) (fun p => W p.1 p.2.1 p.2.2) h fun p hp => h2 p.1 p.2.1 p.2.2 hp
theorem KW.meet3 {α β γ : Type} {I : α → β → γ → Prop} {S : α → β → γ → Sig} {W : α → β → γ → World} (x0 : α) (x1 : β) (x2 : γ) (hs : Subs (S x0 x1 x2) σ) (hw : w = W x0 x1 x2) (hi : I x0 x1 x2) :
    KW P R (.asr (Met3 n I S W) :: k) n σ w :=
  KW.meet (I := fun p : α × β × γ => I p.1 p.2.1 p.2.2) (S := fun p => S p.1 p.2.1 p.2.2) (W := fun p => W p.1 p.2.1 p.2.2) (x0, x1, x2) hs hw hi
def Back4 {α β γ δ : Type} (n : Nat) (I : α → β → γ → δ → Prop) (S : α → β → γ → δ → Sig) (W : α → β → γ → δ → World) (μ : α → β → γ → δ → Nat) (x0 : α) (x1 : β) (x2 : γ) (x3 : δ) : Act → World → Prop :=
  Back n (fun p : α × β × γ × δ => I p.1 p.2.1 p.2.2.1 p.2.2.2) (fun p => S p.1 p.2.1 p.2.2.1 p.2.2.2) (fun p => W p.1 p.2.1 p.2.2.1 p.2.2.2) (fun p => μ p.1 p.2.1 p.2.2.1 p.2.2.2) (x0, x1, x2, x3)
def Met4 {α β γ δ : Type} (n : Nat) (I : α → β → γ → δ → Prop) (S : α → β → γ → δ → Sig) (W : α → β → γ → δ → World) : Act → World → Prop :=
  Met n (fun p : α × β × γ × δ => I p.1 p.2.1 p.2.2.1 p.2.2.2) (fun p => S p.1 p.2.1 p.2.2.1 p.2.2.2) (fun p => W p.1 p.2.1 p.2.2.1 p.2.2.2)
theorem KW.loop4 {α β γ δ : Type} (I : α → β → γ → δ → Prop) (S : α → β → γ → δ → Sig) (W : α → β → γ → δ → World) (μ : α → β → γ → δ → Nat) {c : Code} (x0 : α) (x1 : β) (x2 : γ) (x3 : δ) (hs : Subs (S x0 x1 x2 x3) σ) (hw : w = W x0 x1 x2 x3) (hi : I x0 x1 x2 x3)
    (round : ∀ x0 x1 x2 x3, I x0 x1 x2 x3 → KW P R (.code c :: .asr (Back4 n I S W μ x0 x1 x2 x3) :: k) n (S x0 x1 x2 x3) (W x0 x1 x2 x3)) : KW P R (.code (.loop c) :: k) n σ w :=
  KW.loop (fun p : α × β × γ × δ => I p.1 p.2.1 p.2.2.1 p.2.2.2) (fun p => S p.1 p.2.1 p.2.2.1 p.2.2.2) (fun p => W p.1 p.2.1 p.2.2.1 p.2.2.2) (fun p => μ p.1 p.2.1 p.2.2.1 p.2.2.2) (x0, x1, x2, x3) hs hw hi fun p hp => round p.1 p.2.1 p.2.2.1 p.2.2.2 hp
theorem KW.back4 {α β γ δ : Type} {I : α → β → γ → δ → Prop} {S : α → β → γ → δ → Sig} {W : α → β → γ → δ → World} {μ : α → β → γ → δ → Nat} {y0 : α} {y1 : β} {y2 : γ} {y3 : δ} (x0 : α) (x1 : β) (x2 : γ) (x3 : δ) (hs : Subs (S x0 x1 x2 x3) σ) (hw : w = W x0 x1 x2 x3) (hi : I x0 x1 x2 x3) (hm : μ x0 x1 x2 x3 < μ y0 y1 y2 y3) :
    KW P R (.asr (Back4 n I S W μ y0 y1 y2 y3) :: k) n σ w :=
  KW.back (I := fun p : α × β × γ × δ => I p.1 p.2.1 p.2.2.1 p.2.2.2) (S := fun p => S p.1 p.2.1 p.2.2.1 p.2.2.2) (W := fun p => W p.1 p.2.1 p.2.2.1 p.2.2.2) (μ := fun p => μ p.1 p.2.1 p.2.2.1 p.2.2.2) (x0, x1, x2, x3) hs hw hi hm
theorem KW.cut4 {α β γ δ : Type} (I : α → β → γ → δ → Prop) (S : α → β → γ → δ → Sig) (W : α → β → γ → δ → World) {c : Code} (h : KW P R (.code c :: .asr (Met4 n I S W) :: k) n σ w)
    (h2 : ∀ x0 x1 x2 x3, I x0 x1 x2 x3 → KW P R k n (S x0 x1 x2 x3) (W x0 x1 x2 x3)) : KW P R (.code c :: k) n σ w :=
  KW.cut (fun p : α × β × γ × δ => I p.1 p.2.1 p.2.2.1 p.2.2.2) (fun p => S p.1 p.2.1 p.2.2.1 p.2.2.2) (fun p => W p.1 p.2.1 p.2.2.1 p.2.2.2) h fun p hp => h2 p.1 p.2.1 p.2.2.1 p.2.2.2 hp
theorem KW.meet4 {α β γ δ : Type} {I : α → β → γ → δ → Prop} {S : α → β → γ → δ → Sig} {W : α → β → γ → δ → World} (x0 : α) (x1 : β) (x2 : γ) (x3 : δ) (hs : Subs (S x0 x1 x2 x3) σ) (hw : w = W x0 x1 x2 x3) (hi : I x0 x1 x2 x3) :
    KW P R (.asr (Met4 n I S W) :: k) n σ w :=
  KW.meet (I := fun p : α × β × γ × δ => I p.1 p.2.1 p.2.2.1 p.2.2.2) (S := fun p => S p.1 p.2.1 p.2.2.1 p.2.2.2) (W := fun p => W p.1 p.2.1 p.2.2.1 p.2.2.2) (x0, x1, x2, x3) hs hw hi
def Back5 {α β γ δ ε : Type} (n : Nat) (I : α → β → γ → δ → ε → Prop) (S : α → β → γ → δ → ε → Sig) (W : α → β → γ → δ → ε → World) (μ : α → β → γ → δ → ε → Nat) (x0 : α) (x1 : β) (x2 : γ) (x3 : δ) (x4 : ε) : Act → World → Prop :=
  Back n (fun p : α × β × γ × δ × ε => I p.1 p.2.1 p.2.2.1 p.2.2.2.1 p.2.2.2.2) (fun p => S p.1 p.2.1 p.2.2.1 p.2.2.2.1 p.2.2.2.2) (fun p => W p.1 p.2.1 p.2.2.1 p.2.2.2.1 p.2.2.2.2) (fun p => μ p.1 p.2.1 p.2.2.1 p.2.2.2.1 p.2.2.2.2) (x0, x1, x2, x3, x4)
def Met5 {α β γ δ ε : Type} (n : Nat) (I : α → β → γ → δ → ε → Prop) (S : α → β → γ → δ → ε → Sig) (W : α → β → γ → δ → ε → World) : Act → World → Prop :=
  Met n (fun p : α × β × γ × δ × ε => I p.1 p.2.1 p.2.2.1 p.2.2.2.1 p.2.2.2.2) (fun p => S p.1 p.2.1 p.2.2.1 p.2.2.2.1 p.2.2.2.2) (fun p => W p.1 p.2.1 p.2.2.1 p.2.2.2.1 p.2.2.2.2)
theorem KW.loop5 {α β γ δ ε : Type} (I : α → β → γ → δ → ε → Prop) (S : α → β → γ → δ → ε → Sig) (W : α → β → γ → δ → ε → World) (μ : α → β → γ → δ → ε → Nat) {c : Code} (x0 : α) (x1 : β) (x2 : γ) (x3 : δ) (x4 : ε) (hs : Subs (S x0 x1 x2 x3 x4) σ) (hw : w = W x0 x1 x2 x3 x4) (hi : I x0 x1 x2 x3 x4)
    (round : ∀ x0 x1 x2 x3 x4, I x0 x1 x2 x3 x4 → KW P R (.code c :: .asr (Back5 n I S W μ x0 x1 x2 x3 x4) :: k) n (S x0 x1 x2 x3 x4) (W x0 x1 x2 x3 x4)) : KW P R (.code (.loop c) :: k) n σ w :=
  KW.loop (fun p : α × β × γ × δ × ε => I p.1 p.2.1 p.2.2.1 p.2.2.2.1 p.2.2.2.2) (fun p => S p.1 p.2.1 p.2.2.1 p.2.2.2.1 p.2.2.2.2) (fun p => W p.1 p.2.1 p.2.2.1 p.2.2.2.1 p.2.2.2.2) (fun p => μ p.1 p.2.1 p.2.2.1 p.2.2.2.1 p.2.2.2.2) (x0, x1, x2, x3, x4) hs hw hi fun p hp => round p.1 p.2.1 p.2.2.1 p.2.2.2.1 p.2.2.2.2 hp
theorem KW.back5 {α β γ δ ε : Type} {I : α → β → γ → δ → ε → Prop} {S : α → β → γ → δ → ε → Sig} {W : α → β → γ → δ → ε → World} {μ : α → β → γ → δ → ε → Nat} {y0 : α} {y1 : β} {y2 : γ} {y3 : δ} {y4 : ε} (x0 : α) (x1 : β) (x2 : γ) (x3 : δ) (x4 : ε) (hs : Subs (S x0 x1 x2 x3 x4) σ) (hw : w = W x0 x1 x2 x3 x4) (hi : I x0 x1 x2 x3 x4) (hm : μ x0 x1 x2 x3 x4 < μ y0 y1 y2 y3 y4) :
    KW P R (.asr (Back5 n I S W μ y0 y1 y2 y3 y4) :: k) n σ w :=
  KW.back (I := fun p : α × β × γ × δ × ε => I p.1 p.2.1 p.2.2.1 p.2.2.2.1 p.2.2.2.2) (S := fun p => S p.1 p.2.1 p.2.2.1 p.2.2.2.1 p.2.2.2.2) (W := fun p => W p.1 p.2.1 p.2.2.1 p.2.2.2.1 p.2.2.2.2) (μ := fun p => μ p.1 p.2.1 p.2.2.1 p.2.2.2.1 p.2.2.2.2) (x0, x1, x2, x3, x4) hs hw hi hm
theorem KW.cut5 {α β γ δ ε : Type} (I : α → β → γ → δ → ε → Prop) (S : α → β → γ → δ → ε → Sig) (W : α → β → γ → δ → ε → World) {c : Code} (h : KW P R (.code c :: .asr (Met5 n I S W) :: k) n σ w)
    (h2 : ∀ x0 x1 x2 x3 x4, I x0 x1 x2 x3 x4 → KW P R k n (S x0 x1 x2 x3 x4) (W x0 x1 x2 x3 x4)) : KW P R (.code c :: k) n σ w :=
  KW.cut (fun p : α × β × γ × δ × ε => I p.1 p.2.1 p.2.2.1 p.2.2.2.1 p.2.2.2.2) (fun p => S p.1 p.2.1 p.2.2.1 p.2.2.2.1 p.2.2.2.2) (fun p => W p.1 p.2.1 p.2.2.1 p.2.2.2.1 p.2.2.2.2) h fun p hp => h2 p.1 p.2.1 p.2.2.1 p.2.2.2.1 p.2.2.2.2 hp
theorem KW.meet5 {α β γ δ ε : Type} {I : α → β → γ → δ → ε → Prop} {S : α → β → γ → δ → ε → Sig} {W : α → β → γ → δ → ε → World} (x0 : α) (x1 : β) (x2 : γ) (x3 : δ) (x4 : ε) (hs : Subs (S x0 x1 x2 x3 x4) σ) (hw : w = W x0 x1 x2 x3 x4) (hi : I x0 x1 x2 x3 x4) :
    KW P R (.asr (Met5 n I S W) :: k) n σ w :=
  KW.meet (I := fun p : α × β × γ × δ × ε => I p.1 p.2.1 p.2.2.1 p.2.2.2.1 p.2.2.2.2) (S := fun p => S p.1 p.2.1 p.2.2.1 p.2.2.2.1 p.2.2.2.2) (W := fun p => W p.1 p.2.1 p.2.2.1 p.2.2.2.1 p.2.2.2.2) (x0, x1, x2, x3, x4) hs hw hi
def Back6 {α β γ δ ε ζ : Type} (n : Nat) (I : α → β → γ → δ → ε → ζ → Prop) (S : α → β → γ → δ → ε → ζ → Sig) (W : α → β → γ → δ → ε → ζ → World) (μ : α → β → γ → δ → ε → ζ → Nat) (x0 : α) (x1 : β) (x2 : γ) (x3 : δ) (x4 : ε) (x5 : ζ) : Act → World → Prop :=
  Back n (fun p : α × β × γ × δ × ε × ζ => I p.1 p.2.1 p.2.2.1 p.2.2.2.1 p.2.2.2.2.1 p.2.2.2.2.2) (fun p => S p.1 p.2.1 p.2.2.1 p.2.2.2.1 p.2.2.2.2.1 p.2.2.2.2.2) (fun p => W p.1 p.2.1 p.2.2.1 p.2.2.2.1 p.2.2.2.2.1 p.2.2.2.2.2) (fun p => μ p.1 p.2.1 p.2.2.1 p.2.2.2.1 p.2.2.2.2.1 p.2.2.2.2.2) (x0, x1, x2, x3, x4, x5)
def Met6 {α β γ δ ε ζ : Type} (n : Nat) (I : α → β → γ → δ → ε → ζ → Prop) (S : α → β → γ → δ → ε → ζ → Sig) (W : α → β → γ → δ → ε → ζ → World) : Act → World → Prop :=
  Met n (fun p : α × β × γ × δ × ε × ζ => I p.1 p.2.1 p.2.2.1 p.2.2.2.1 p.2.2.2.2.1 p.2.2.2.2.2) (fun p => S p.1 p.2.1 p.2.2.1 p.2.2.2.1 p.2.2.2.2.1 p.2.2.2.2.2) (fun p => W p.1 p.2.1 p.2.2.1 p.2.2.2.1 p.2.2.2.2.1 p.2.2.2.2.2)
theorem KW.loop6 {α β γ δ ε ζ : Type} (I : α → β → γ → δ → ε → ζ → Prop) (S : α → β → γ → δ → ε → ζ → Sig) (W : α → β → γ → δ → ε → ζ → World) (μ : α → β → γ → δ → ε → ζ → Nat) {c : Code} (x0 : α) (x1 : β) (x2 : γ) (x3 : δ) (x4 : ε) (x5 : ζ) (hs : Subs (S x0 x1 x2 x3 x4 x5) σ) (hw : w = W x0 x1 x2 x3 x4 x5) (hi : I x0 x1 x2 x3 x4 x5)
    (round : ∀ x0 x1 x2 x3 x4 x5, I x0 x1 x2 x3 x4 x5 → KW P R (.code c :: .asr (Back6 n I S W μ x0 x1 x2 x3 x4 x5) :: k) n (S x0 x1 x2 x3 x4 x5) (W x0 x1 x2 x3 x4 x5)) : KW P R (.code (.loop c) :: k) n σ w :=
  KW.loop (fun p : α × β × γ × δ × ε × ζ => I p.1 p.2.1 p.2.2.1 p.2.2.2.1 p.2.2.2.2.1 p.2.2.2.2.2) (fun p => S p.1 p.2.1 p.2.2.1 p.2.2.2.1 p.2.2.2.2.1 p.2.2.2.2.2) (fun p => W p.1 p.2.1 p.2.2.1 p.2.2.2.1 p.2.2.2.2.1 p.2.2.2.2.2) (fun p => μ p.1 p.2.1 p.2.2.1 p.2.2.2.1 p.2.2.2.2.1 p.2.2.2.2.2) (x0, x1, x2, x3, x4, x5) hs hw hi fun p hp => round p.1 p.2.1 p.2.2.1 p.2.2.2.1 p.2.2.2.2.1 p.2.2.2.2.2 hp
theorem KW.back6 {α β γ δ ε ζ : Type} {I : α → β → γ → δ → ε → ζ → Prop} {S : α → β → γ → δ → ε → ζ → Sig} {W : α → β → γ → δ → ε → ζ → World} {μ : α → β → γ → δ → ε → ζ → Nat} {y0 : α} {y1 : β} {y2 : γ} {y3 : δ} {y4 : ε} {y5 : ζ} (x0 : α) (x1 : β) (x2 : γ) (x3 : δ) (x4 : ε) (x5 : ζ) (hs : Subs (S x0 x1 x2 x3 x4 x5) σ) (hw : w = W x0 x1 x2 x3 x4 x5) (hi : I x0 x1 x2 x3 x4 x5) (hm : μ x0 x1 x2 x3 x4 x5 < μ y0 y1 y2 y3 y4 y5) :
    KW P R (.asr (Back6 n I S W μ y0 y1 y2 y3 y4 y5) :: k) n σ w :=
  KW.back (I := fun p : α × β × γ × δ × ε × ζ => I p.1 p.2.1 p.2.2.1 p.2.2.2.1 p.2.2.2.2.1 p.2.2.2.2.2) (S := fun p => S p.1 p.2.1 p.2.2.1 p.2.2.2.1 p.2.2.2.2.1 p.2.2.2.2.2) (W := fun p => W p.1 p.2.1 p.2.2.1 p.2.2.2.1 p.2.2.2.2.1 p.2.2.2.2.2) (μ := fun p => μ p.1 p.2.1 p.2.2.1 p.2.2.2.1 p.2.2.2.2.1 p.2.2.2.2.2) (x0, x1, x2, x3, x4, x5) hs hw hi hm
theorem KW.cut6 {α β γ δ ε ζ : Type} (I : α → β → γ → δ → ε → ζ → Prop) (S : α → β → γ → δ → ε → ζ → Sig) (W : α → β → γ → δ → ε → ζ → World) {c : Code} (h : KW P R (.code c :: .asr (Met6 n I S W) :: k) n σ w)
    (h2 : ∀ x0 x1 x2 x3 x4 x5, I x0 x1 x2 x3 x4 x5 → KW P R k n (S x0 x1 x2 x3 x4 x5) (W x0 x1 x2 x3 x4 x5)) : KW P R (.code c :: k) n σ w :=
  KW.cut (fun p : α × β × γ × δ × ε × ζ => I p.1 p.2.1 p.2.2.1 p.2.2.2.1 p.2.2.2.2.1 p.2.2.2.2.2) (fun p => S p.1 p.2.1 p.2.2.1 p.2.2.2.1 p.2.2.2.2.1 p.2.2.2.2.2) (fun p => W p.1 p.2.1 p.2.2.1 p.2.2.2.1 p.2.2.2.2.1 p.2.2.2.2.2) h fun p hp => h2 p.1 p.2.1 p.2.2.1 p.2.2.2.1 p.2.2.2.2.1 p.2.2.2.2.2 hp
theorem KW.meet6 {α β γ δ ε ζ : Type} {I : α → β → γ → δ → ε → ζ → Prop} {S : α → β → γ → δ → ε → ζ → Sig} {W : α → β → γ → δ → ε → ζ → World} (x0 : α) (x1 : β) (x2 : γ) (x3 : δ) (x4 : ε) (x5 : ζ) (hs : Subs (S x0 x1 x2 x3 x4 x5) σ) (hw : w = W x0 x1 x2 x3 x4 x5) (hi : I x0 x1 x2 x3 x4 x5) :
    KW P R (.asr (Met6 n I S W) :: k) n σ w :=
  KW.meet (I := fun p : α × β × γ × δ × ε × ζ => I p.1 p.2.1 p.2.2.1 p.2.2.2.1 p.2.2.2.2.1 p.2.2.2.2.2) (S := fun p => S p.1 p.2.1 p.2.2.1 p.2.2.2.1 p.2.2.2.2.1 p.2.2.2.2.2) (W := fun p => W p.1 p.2.1 p.2.2.1 p.2.2.2.1 p.2.2.2.2.1 p.2.2.2.2.2) (x0, x1, x2, x3, x4, x5) hs hw hi
def Back7 {α β γ δ ε ζ η : Type} (n : Nat) (I : α → β → γ → δ → ε → ζ → η → Prop) (S : α → β → γ → δ → ε → ζ → η → Sig) (W : α → β → γ → δ → ε → ζ → η → World) (μ : α → β → γ → δ → ε → ζ → η → Nat) (x0 : α) (x1 : β) (x2 : γ) (x3 : δ) (x4 : ε) (x5 : ζ) (x6 : η) : Act → World → Prop :=
  Back n (fun p : α × β × γ × δ × ε × ζ × η => I p.1 p.2.1 p.2.2.1 p.2.2.2.1 p.2.2.2.2.1 p.2.2.2.2.2.1 p.2.2.2.2.2.2) (fun p => S p.1 p.2.1 p.2.2.1 p.2.2.2.1 p.2.2.2.2.1 p.2.2.2.2.2.1 p.2.2.2.2.2.2) (fun p => W p.1 p.2.1 p.2.2.1 p.2.2.2.1 p.2.2.2.2.1 p.2.2.2.2.2.1 p.2.2.2.2.2.2) (fun p => μ p.1 p.2.1 p.2.2.1 p.2.2.2.1 p.2.2.2.2.1 p.2.2.2.2.2.1 p.2.2.2.2.2.2) (x0, x1, x2, x3, x4, x5, x6)
def Met7 {α β γ δ ε ζ η : Type} (n : Nat) (I : α → β → γ → δ → ε → ζ → η → Prop) (S : α → β → γ → δ → ε → ζ → η → Sig) (W : α → β → γ → δ → ε → ζ → η → World) : Act → World → Prop :=
  Met n (fun p : α × β × γ × δ × ε × ζ × η => I p.1 p.2.1 p.2.2.1 p.2.2.2.1 p.2.2.2.2.1 p.2.2.2.2.2.1 p.2.2.2.2.2.2) (fun p => S p.1 p.2.1 p.2.2.1 p.2.2.2.1 p.2.2.2.2.1 p.2.2.2.2.2.1 p.2.2.2.2.2.2) (fun p => W p.1 p.2.1 p.2.2.1 p.2.2.2.1 p.2.2.2.2.1 p.2.2.2.2.2.1 p.2.2.2.2.2.2)
theorem KW.loop7 {α β γ δ ε ζ η : Type} (I : α → β → γ → δ → ε → ζ → η → Prop) (S : α → β → γ → δ → ε → ζ → η → Sig) (W : α → β → γ → δ → ε → ζ → η → World) (μ : α → β → γ → δ → ε → ζ → η → Nat) {c : Code} (x0 : α) (x1 : β) (x2 : γ) (x3 : δ) (x4 : ε) (x5 : ζ) (x6 : η) (hs : Subs (S x0 x1 x2 x3 x4 x5 x6) σ) (hw : w = W x0 x1 x2 x3 x4 x5 x6) (hi : I x0 x1 x2 x3 x4 x5 x6)
    (round : ∀ x0 x1 x2 x3 x4 x5 x6, I x0 x1 x2 x3 x4 x5 x6 → KW P R (.code c :: .asr (Back7 n I S W μ x0 x1 x2 x3 x4 x5 x6) :: k) n (S x0 x1 x2 x3 x4 x5 x6) (W x0 x1 x2 x3 x4 x5 x6)) : KW P R (.code (.loop c) :: k) n σ w :=
  KW.loop (fun p : α × β × γ × δ × ε × ζ × η => I p.1 p.2.1 p.2.2.1 p.2.2.2.1 p.2.2.2.2.1 p.2.2.2.2.2.1 p.2.2.2.2.2.2) (fun p => S p.1 p.2.1 p.2.2.1 p.2.2.2.1 p.2.2.2.2.1 p.2.2.2.2.2.1 p.2.2.2.2.2.2) (fun p => W p.1 p.2.1 p.2.2.1 p.2.2.2.1 p.2.2.2.2.1 p.2.2.2.2.2.1 p.2.2.2.2.2.2) (fun p => μ p.1 p.2.1 p.2.2.1 p.2.2.2.1 p.2.2.2.2.1 p.2.2.2.2.2.1 p.2.2.2.2.2.2) (x0, x1, x2, x3, x4, x5, x6) hs hw hi fun p hp => round p.1 p.2.1 p.2.2.1 p.2.2.2.1 p.2.2.2.2.1 p.2.2.2.2.2.1 p.2.2.2.2.2.2 hp
theorem KW.back7 {α β γ δ ε ζ η : Type} {I : α → β → γ → δ → ε → ζ → η → Prop} {S : α → β → γ → δ → ε → ζ → η → Sig} {W : α → β → γ → δ → ε → ζ → η → World} {μ : α → β → γ → δ → ε → ζ → η → Nat} {y0 : α} {y1 : β} {y2 : γ} {y3 : δ} {y4 : ε} {y5 : ζ} {y6 : η} (x0 : α) (x1 : β) (x2 : γ) (x3 : δ) (x4 : ε) (x5 : ζ) (x6 : η) (hs : Subs (S x0 x1 x2 x3 x4 x5 x6) σ) (hw : w = W x0 x1 x2 x3 x4 x5 x6) (hi : I x0 x1 x2 x3 x4 x5 x6) (hm : μ x0 x1 x2 x3 x4 x5 x6 < μ y0 y1 y2 y3 y4 y5 y6) :
    KW P R (.asr (Back7 n I S W μ y0 y1 y2 y3 y4 y5 y6) :: k) n σ w :=
  KW.back (I := fun p : α × β × γ × δ × ε × ζ × η => I p.1 p.2.1 p.2.2.1 p.2.2.2.1 p.2.2.2.2.1 p.2.2.2.2.2.1 p.2.2.2.2.2.2) (S := fun p => S p.1 p.2.1 p.2.2.1 p.2.2.2.1 p.2.2.2.2.1 p.2.2.2.2.2.1 p.2.2.2.2.2.2) (W := fun p => W p.1 p.2.1 p.2.2.1 p.2.2.2.1 p.2.2.2.2.1 p.2.2.2.2.2.1 p.2.2.2.2.2.2) (μ := fun p => μ p.1 p.2.1 p.2.2.1 p.2.2.2.1 p.2.2.2.2.1 p.2.2.2.2.2.1 p.2.2.2.2.2.2) (x0, x1, x2, x3, x4, x5, x6) hs hw hi hm
theorem KW.cut7 {α β γ δ ε ζ η : Type} (I : α → β → γ → δ → ε → ζ → η → Prop) (S : α → β → γ → δ → ε → ζ → η → Sig) (W : α → β → γ → δ → ε → ζ → η → World) {c : Code} (h : KW P R (.code c :: .asr (Met7 n I S W) :: k) n σ w)
    (h2 : ∀ x0 x1 x2 x3 x4 x5 x6, I x0 x1 x2 x3 x4 x5 x6 → KW P R k n (S x0 x1 x2 x3 x4 x5 x6) (W x0 x1 x2 x3 x4 x5 x6)) : KW P R (.code c :: k) n σ w :=
  KW.cut (fun p : α × β × γ × δ × ε × ζ × η => I p.1 p.2.1 p.2.2.1 p.2.2.2.1 p.2.2.2.2.1 p.2.2.2.2.2.1 p.2.2.2.2.2.2) (fun p => S p.1 p.2.1 p.2.2.1 p.2.2.2.1 p.2.2.2.2.1 p.2.2.2.2.2.1 p.2.2.2.2.2.2) (fun p => W p.1 p.2.1 p.2.2.1 p.2.2.2.1 p.2.2.2.2.1 p.2.2.2.2.2.1 p.2.2.2.2.2.2) h fun p hp => h2 p.1 p.2.1 p.2.2.1 p.2.2.2.1 p.2.2.2.2.1 p.2.2.2.2.2.1 p.2.2.2.2.2.2 hp
theorem KW.meet7 {α β γ δ ε ζ η : Type} {I : α → β → γ → δ → ε → ζ → η → Prop} {S : α → β → γ → δ → ε → ζ → η → Sig} {W : α → β → γ → δ → ε → ζ → η → World} (x0 : α) (x1 : β) (x2 : γ) (x3 : δ) (x4 : ε) (x5 : ζ) (x6 : η) (hs : Subs (S x0 x1 x2 x3 x4 x5 x6) σ) (hw : w = W x0 x1 x2 x3 x4 x5 x6) (hi : I x0 x1 x2 x3 x4 x5 x6) :
    KW P R (.asr (Met7 n I S W) :: k) n σ w :=
  KW.meet (I := fun p : α × β × γ × δ × ε × ζ × η => I p.1 p.2.1 p.2.2.1 p.2.2.2.1 p.2.2.2.2.1 p.2.2.2.2.2.1 p.2.2.2.2.2.2) (S := fun p => S p.1 p.2.1 p.2.2.1 p.2.2.2.1 p.2.2.2.2.1 p.2.2.2.2.2.1 p.2.2.2.2.2.2) (W := fun p => W p.1 p.2.1 p.2.2.1 p.2.2.2.1 p.2.2.2.2.1 p.2.2.2.2.2.1 p.2.2.2.2.2.2) (x0, x1, x2, x3, x4, x5, x6) hs hw hi
end

/-! ### A region -/
def OW (P : Program) (R : Act → World → Prop) (ops : Array Oper) (l : List Oper) (k : List KI) (n : Nat) (σ : Sig) (w : World) : Prop := ∀ a, Fr n σ a → wpList P ops (pst P R k) l a w
def wantS (ops : Array Oper) (σ : Sig) : Option (Nat × Bool) → Option Bool
  | none => some true
  | some (j, want) => match (ops[j]?).bind (·.dst) with
    | some t => match lk σ t with
      | some (.bool b) => some (b == want)
      | some (.tuple _) => some false
      | _ => none
    | none => none
theorem wantS_spec {ops : Array Oper} {σ : Sig} {n : Nat} {a : Act} (ha : Fr n σ a) {o : Oper} {b : Bool} (h : wantS ops σ o.guard = some b) : Region.wanted o (yielded ops a.tmps) = b := by
  unfold Region.wanted
  cases hg : o.guard with
  | none => rw [hg] at h; simpa [wantS] using h
  | some jw =>
    obtain ⟨j, want⟩ := jw
    rw [hg] at h
    simp only [wantS] at h
    split at h
    · rename_i t ht
      split at h
      · rename_i u hu
        injection h with h
        subst h
        have := ha.val t _ hu
        simp only [yielded, ht, Option.bind_some, this]
        cases u <;> cases want <;> rfl
      · rename_i u hu
        injection h with h
        subst h
        have := ha.val t _ hu
        simp only [yielded, ht, Option.bind_some, this]
        rfl
      · cases h
    · cases h
section
variable {P : Program} {R : Act → World → Prop} {ops : Array Oper} {l rest : List Oper} {k : List KI} {n : Nat} {σ : Sig} {w w' : World}
theorem KW.region {id : Nat} (h : OW P R l.toArray l k n σ w) : KW P R (.code (.region id l.toArray false) :: k) n σ w := fun a ha => wp_region_lit (h a ha)
theorem OW.nil (h : KW P R k n σ w) : OW P R ops [] k n σ w := h
theorem OW.sub {σ' : Sig} (hs : Subs σ' σ) (h : OW P R ops l k n σ' w) : OW P R ops l k n σ w := fun a ha => h a (ha.sub hs)
/-- a slot's value is spelled otherwise -/
theorem OW.as (t : Nat) (v' : Value) {v : Value} (ht : lk σ t = some v) (e : v = v') (h : OW P R ops l k n ((t, v') :: σ) w) : OW P R ops l k n σ w := fun a ha =>
  h a ⟨ha.size, fun i u hu => by
    rw [lk_cons] at hu
    by_cases e' : t = i
    · subst e'
      simp at hu
      subst hu
      rw [← e]
      exact ha.val t _ ht
    · simp [e'] at hu
      exact ha.val i u hu, ha.df⟩
theorem KW.as (t : Nat) (v' : Value) {v : Value} (ht : lk σ t = some v) (e : v = v') (h : KW P R k n ((t, v') :: σ) w) : KW P R k n σ w := fun a ha =>
  OW.as (P := P) (R := R) (ops := #[]) (l := []) t v' ht e h a ha
theorem OW.split (t : Nat) {b : Bool} (ht : lk σ t = some (.bool b)) (h1 : b = true → OW P R ops l k n ((t, .bool true) :: σ) w) (h2 : b = false → OW P R ops l k n ((t, .bool false) :: σ) w) : OW P R ops l k n σ w := by
  cases b with
  | true => exact OW.as t _ ht rfl (h1 rfl)
  | false => exact OW.as t _ ht rfl (h2 rfl)
theorem OW.splitD (t : Nat) {p : Prop} [Decidable p] (ht : lk σ t = some (.bool (decide p))) (h1 : p → OW P R ops l k n ((t, .bool true) :: σ) w) (h2 : ¬ p → OW P R ops l k n ((t, .bool false) :: σ) w) : OW P R ops l k n σ w :=
  OW.split t ht (fun e => h1 (of_decide_eq_true e)) (fun e => h2 (of_decide_eq_false e))
/-- an operation that yields a value -/
def EX (P : Program) (n : Nat) (σ : Sig) (op : Op) (ty : TypeId) (w : World) (v : Value) (w' : World) : Prop :=
  ∀ (a : Act), Fr n σ a → ∀ (dst : Option Tmp) (pos : String) (after : Array Edge) (g : Option (Nat × Bool)), (execOp a.eval ⟨dst, op, ty, pos, after, g⟩).run P w = .ok (.value v) w'
/-- .. that yields nothing -/
def EU (P : Program) (n : Nat) (σ : Sig) (op : Op) (ty : TypeId) (w w' : World) : Prop :=
  ∀ (a : Act), Fr n σ a → ∀ (dst : Option Tmp) (pos : String) (after : Array Edge) (g : Option (Nat × Bool)), (execOp a.eval ⟨dst, op, ty, pos, after, g⟩).run P w = .ok .skip w'
/-- .. that enters a function -/
def EC (P : Program) (n : Nat) (σ : Sig) (op : Op) (ty : TypeId) (w : World) (f : FuncId) (args : Array Value) : Prop :=
  ∀ (a : Act), Fr n σ a → ∀ (dst : Option Tmp) (pos : String) (after : Array Edge) (g : Option (Nat × Bool)), (execOp a.eval ⟨dst, op, ty, pos, after, g⟩).run P w = .ok (.enter f args) w
theorem OW.val {d : Nat} {op : Op} {ty : TypeId} {pos : String} {after : Array Edge} {g : Option (Nat × Bool)} {v : Value} (hg : wantS ops σ g = some true) (hd : Nat.blt d n = true) (he : EX P n σ op ty w v w')
    (h : OW P R ops rest k n ((d, v) :: σ) w') : OW P R ops (⟨some d, op, ty, pos, after, g⟩ :: rest) k n σ w := fun a ha => by
  have h1 := he a ha (some d) pos after g
  unfold wpList
  rw [if_pos (wantS_spec ha (o := ⟨some d, op, ty, pos, after, g⟩) hg)]
  refine .inl ?_
  unfold Oper.wp
  rw [h1]
  exact h _ (ha.put hd v)
theorem OW.eff {op : Op} {ty : TypeId} {pos : String} {after : Array Edge} {g : Option (Nat × Bool)} (hg : wantS ops σ g = some true) (he : EU P n σ op ty w w')
    (h : OW P R ops rest k n σ w') : OW P R ops (⟨none, op, ty, pos, after, g⟩ :: rest) k n σ w := fun a ha => by
  have h1 := he a ha none pos after g
  unfold wpList
  rw [if_pos (wantS_spec ha (o := ⟨none, op, ty, pos, after, g⟩) hg)]
  refine .inl ?_
  unfold Oper.wp
  rw [h1]
  exact h _ ha
theorem OW.pass {d : Nat} {op : Op} {ty : TypeId} {pos : String} {after : Array Edge} {g : Option (Nat × Bool)} (hg : wantS ops σ g = some false) (hd : Nat.blt d n = true)
    (h : OW P R ops rest k n ((d, undef) :: σ) w) : OW P R ops (⟨some d, op, ty, pos, after, g⟩ :: rest) k n σ w := fun a ha => by
  unfold wpList
  rw [if_neg (by rw [wantS_spec ha (o := ⟨some d, op, ty, pos, after, g⟩) hg]; simp)]
  exact h _ (ha.put hd undef)
theorem OW.passU {op : Op} {ty : TypeId} {pos : String} {after : Array Edge} {g : Option (Nat × Bool)} (hg : wantS ops σ g = some false)
    (h : OW P R ops rest k n σ w) : OW P R ops (⟨none, op, ty, pos, after, g⟩ :: rest) k n σ w := fun a ha => by
  unfold wpList
  rw [if_neg (by rw [wantS_spec ha (o := ⟨none, op, ty, pos, after, g⟩) hg]; simp)]
  exact h _ ha
/-- a callee's contract: it can be called, and it returns -/
def Ret (P : Program) (f : FuncId) (args : List Value) (w : World) (Q : Value → World → Prop) : Prop :=
  (∃ fn, P.funcs[f]? = some fn ∧ (!(fn.name == "runtime.NumGoroutine") && fn.body.isSome) = true) ∧ Calls P f args.toArray w fun e w' => ∃ v, e = .returned v ∧ Q v w'
theorem Ret.mono {f : FuncId} {args : List Value} {Q Q' : Value → World → Prop} (h : Ret P f args w Q) (hq : ∀ v w', Q v w' → Q' v w') : Ret P f args w Q' :=
  ⟨h.1, h.2.mono fun _ _ ⟨v, e, q⟩ => ⟨v, e, hq _ _ q⟩⟩
theorem run_callFunc {f : FuncId} {fn : Func} (hf : P.funcs[f]? = some fn) (hn : (!(fn.name == "runtime.NumGoroutine") && fn.body.isSome) = true) (args : Array Value) :
    (callFunc f args).run P w = .ok (.enter f args) w := by
  simp only [Bool.and_eq_true, Bool.not_eq_true', beq_eq_false_iff_ne] at hn
  have h2 : fn.body ≠ none := by intro e; rw [e] at hn; exact absurd hn.2 (by simp)
  unfold callFunc
  simp [program, Sem.run_bind, Sem.run, hf, hn.1, h2]
theorem OW.callE {d : Nat} {op : Op} {ty : TypeId} {pos : String} {after : Array Edge} {g : Option (Nat × Bool)} {f : FuncId} {args : List Value} {Q : Value → World → Prop} (hg : wantS ops σ g = some true) (hd : Nat.blt d n = true)
    (he : EC P n σ op ty w f args.toArray) (hc : Ret P f args w Q) (h : ∀ v w', Q v w' → OW P R ops rest k n ((d, v) :: σ) w') : OW P R ops (⟨some d, op, ty, pos, after, g⟩ :: rest) k n σ w := fun a ha => by
  have h1 := he a ha (some d) pos after g
  unfold wpList
  rw [if_pos (wantS_spec ha (o := ⟨some d, op, ty, pos, after, g⟩) hg)]
  refine .inl ?_
  unfold Oper.wp
  rw [h1]
  refine hc.2.mono fun e w'' ⟨v, he, q⟩ => ?_
  subst he
  exact h v w'' q _ (ha.put hd v)
theorem EC.go {f : FuncId} {xs : List Operand} {vs : List Value} {ats : Array TypeId} {ty : TypeId} {fn : Func} (hf : P.funcs[f]? = some fn) (hn : (!(fn.name == "runtime.NumGoroutine") && fn.body.isSome) = true) (hx : evs σ xs = some vs) :
    EC P n σ (.call { callee := .value (.func f), args := xs.toArray, argTypes := ats }) ty w f vs.toArray := fun a ha dst pos after g => by
  rw [execOp_call_go]
  have : #[] ++ xs.toArray.map a.eval ++ #[] = vs.toArray := by simp [ha.evs hx]
  rw [this]
  exact run_callFunc hf hn _
/-- a call of a function that the text names -/
theorem OW.call {d : Nat} {f : FuncId} {xs : List Operand} {ats : Array TypeId} {ty : TypeId} {pos : String} {after : Array Edge} {g : Option (Nat × Bool)} {vs : List Value} {Q : Value → World → Prop}
    (hg : wantS ops σ g = some true) (hd : Nat.blt d n = true) (hx : evs σ xs = some vs) (hc : Ret P f vs w Q) (h : ∀ v w', Q v w' → OW P R ops rest k n ((d, v) :: σ) w') :
    OW P R ops (⟨some d, .call { callee := .value (.func f), args := xs.toArray, argTypes := ats }, ty, pos, after, g⟩ :: rest) k n σ w := by
  obtain ⟨⟨fn, h1, h2⟩, _⟩ := id hc
  exact OW.callE hg hd (EC.go h1 h2 hx) hc h
end

/-! ### A region that draws its order: all its operations read alone -/
def QW (P : Program) (R : Act → World → Prop) (ops : Array Oper) (l : List Oper) (k : List KI) (n : Nat) (σ : Sig) (w : World) : Prop := ∀ a, Fr n σ a →
  wpQuiet P ops (fun w' => ∃ m, w' = w.drewN m) (fun a' => ∀ w', (∃ m, w' = w.drewN m) → pst P R k .normal a' w') l a
section
variable {P : Program} {R : Act → World → Prop} {ops : Array Oper} {l rest : List Oper} {k : List KI} {n : Nat} {σ : Sig} {w : World}
theorem KW.regionQ {id : Nat} (hm : P.follows .mixedOrders = true) (hB : Region.lexB .any l.toArray = true) (h : QW P R l.toArray l k n σ w) : KW P R (.code (.region id l.toArray true) :: k) n σ w := fun a ha =>
  wp_region_quiet_lit hm hB (h a ha)
theorem QW.nil (h : ∀ m, KW P R k n σ (w.drewN m)) : QW P R ops [] k n σ w := fun a ha => wpQuiet_nil (by rintro w' ⟨m, rfl⟩; exact h m a ha)
theorem QW.val {d : Nat} {op : Op} {ty : TypeId} {pos : String} {after : Array Edge} {g : Option (Nat × Bool)} {v : Value} (hg : wantS ops σ g = some true) (hd : Nat.blt d n = true) (he : ∀ m, EX P n σ op ty (w.drewN m) v (w.drewN m))
    (h : QW P R ops rest k n ((d, v) :: σ) w) : QW P R ops (⟨some d, op, ty, pos, after, g⟩ :: rest) k n σ w := fun a ha => by
  unfold wpQuiet
  rw [if_pos (wantS_spec ha (o := ⟨some d, op, ty, pos, after, g⟩) hg)]
  refine ⟨v, ?_, h _ (ha.put hd v)⟩
  rintro w' ⟨m, rfl⟩
  unfold Oper.quietAt
  rw [he m a ha (some d) pos after g]
  exact ⟨rfl, rfl⟩
theorem QW.pass {d : Nat} {op : Op} {ty : TypeId} {pos : String} {after : Array Edge} {g : Option (Nat × Bool)} (hg : wantS ops σ g = some false) (hd : Nat.blt d n = true)
    (h : QW P R ops rest k n ((d, undef) :: σ) w) : QW P R ops (⟨some d, op, ty, pos, after, g⟩ :: rest) k n σ w := fun a ha => by
  unfold wpQuiet
  rw [if_neg (by rw [wantS_spec ha (o := ⟨some d, op, ty, pos, after, g⟩) hg]; simp)]
  exact h _ (ha.put hd undef)
theorem QW.as (t : Nat) (v' : Value) {v : Value} (ht : lk σ t = some v) (e : v = v') (h : QW P R ops l k n ((t, v') :: σ) w) : QW P R ops l k n σ w := fun a ha =>
  h a ⟨ha.size, fun i u hu => by
    rw [lk_cons] at hu
    by_cases e' : t = i
    · subst e'
      simp at hu
      subst hu
      rw [← e]
      exact ha.val t _ ht
    · simp [e'] at hu
      exact ha.val i u hu, ha.df⟩
theorem QW.splitD (t : Nat) {p : Prop} [Decidable p] (ht : lk σ t = some (.bool (decide p))) (h1 : p → QW P R ops l k n ((t, .bool true) :: σ) w) (h2 : ¬ p → QW P R ops l k n ((t, .bool false) :: σ) w) : QW P R ops l k n σ w := by
  by_cases hp : p
  · exact QW.as t _ ht (by rw [decide_eq_true hp]) (h1 hp)
  · exact QW.as t _ ht (by rw [decide_eq_false hp]) (h2 hp)
/-- a callee that only reads and draws, whatever has been drawn -/
def RetQ (P : Program) (f : FuncId) (args : List Value) (w : World) (v : Value) : Prop := Ret P f args w fun v' w' => v' = v ∧ ∃ m, w' = w.drewN m
theorem QW.call {d : Nat} {f : FuncId} {xs : List Operand} {ats : Array TypeId} {ty : TypeId} {pos : String} {after : Array Edge} {g : Option (Nat × Bool)} {vs : List Value} {v : Value}
    (hg : wantS ops σ g = some true) (hd : Nat.blt d n = true) (hx : evs σ xs = some vs) (hc : ∀ m, RetQ P f vs (w.drewN m) v) (h : QW P R ops rest k n ((d, v) :: σ) w) :
    QW P R ops (⟨some d, .call { callee := .value (.func f), args := xs.toArray, argTypes := ats }, ty, pos, after, g⟩ :: rest) k n σ w := fun a ha => by
  unfold wpQuiet
  rw [if_pos (wantS_spec ha (o := ⟨some d, .call { callee := .value (.func f), args := xs.toArray, argTypes := ats }, ty, pos, after, g⟩) hg)]
  refine ⟨v, ?_, h _ (ha.put hd v)⟩
  rintro w' ⟨m, rfl⟩
  unfold Oper.quietAt
  obtain ⟨⟨fn, h1, h2⟩, hcc⟩ := hc m
  rw [EC.go (n := n) h1 h2 hx a ha (some d) pos after g]
  refine ⟨rfl, hcc.mono ?_⟩
  rintro e w'' ⟨v', rfl, rfl, m', rfl⟩
  exact ⟨rfl, m + m', by rw [World.drewN_drewN]⟩
end

/-! ### A region that draws its order: its first operations leave the world alone, the others come in order -/
def HW (P : Program) (R : Act → World → Prop) (ops : Array Oper) (l : List Oper) (N : Nat) (k : List KI) (n : Nat) (σ : Sig) (w : World) : Prop := ∀ a, Fr n σ a →
  wpStill P ops w (fun a' => wpList P ops (pst P R k) (l.drop N) a' w) (l.take N) a
section
variable {P : Program} {R : Act → World → Prop} {ops : Array Oper} {l rest : List Oper} {N : Nat} {k : List KI} {n : Nat} {σ : Sig} {w : World}
theorem KW.regionH {id : Nat} (N : Nat) (hm : P.follows .mixedOrders = true) (hB : Region.lexTailB .any l.toArray N = true) (h : HW P R l.toArray l N k n σ w.drew) : KW P R (.code (.region id l.toArray true) :: k) n σ w := fun a ha =>
  wp_region_still_tail N hm hB (h a ha)
theorem HW.tail (h : OW P R ops l k n σ w) : HW P R ops l 0 k n σ w := fun a ha => wpStill_nil (h a ha)
theorem HW.val {d : Nat} {op : Op} {ty : TypeId} {pos : String} {after : Array Edge} {g : Option (Nat × Bool)} {v : Value} (hg : wantS ops σ g = some true) (hd : Nat.blt d n = true) (he : EX P n σ op ty w v w)
    (h : HW P R ops rest N k n ((d, v) :: σ) w) : HW P R ops (⟨some d, op, ty, pos, after, g⟩ :: rest) (N + 1) k n σ w := fun a ha => by
  show wpStill P ops w _ (_ :: rest.take N) a
  unfold wpStill
  rw [if_pos (wantS_spec ha (o := ⟨some d, op, ty, pos, after, g⟩) hg)]
  unfold Oper.still
  rw [he a ha (some d) pos after g]
  exact ⟨rfl, h _ (ha.put hd v)⟩
theorem HW.pass {d : Nat} {op : Op} {ty : TypeId} {pos : String} {after : Array Edge} {g : Option (Nat × Bool)} (hg : wantS ops σ g = some false) (hd : Nat.blt d n = true)
    (h : HW P R ops rest N k n ((d, undef) :: σ) w) : HW P R ops (⟨some d, op, ty, pos, after, g⟩ :: rest) (N + 1) k n σ w := fun a ha => by
  show wpStill P ops w _ (_ :: rest.take N) a
  unfold wpStill
  rw [if_neg (by rw [wantS_spec ha (o := ⟨some d, op, ty, pos, after, g⟩) hg]; simp)]
  exact h _ (ha.put hd undef)
theorem HW.as (t : Nat) (v' : Value) {v : Value} (ht : lk σ t = some v) (e : v = v') (h : HW P R ops l N k n ((t, v') :: σ) w) : HW P R ops l N k n σ w := fun a ha =>
  h a ⟨ha.size, fun i u hu => by
    rw [lk_cons] at hu
    by_cases e' : t = i
    · subst e'
      simp at hu
      subst hu
      rw [← e]
      exact ha.val t _ ht
    · simp [e'] at hu
      exact ha.val i u hu, ha.df⟩
theorem HW.splitD (t : Nat) {p : Prop} [Decidable p] (ht : lk σ t = some (.bool (decide p))) (h1 : p → HW P R ops l N k n ((t, .bool true) :: σ) w) (h2 : ¬ p → HW P R ops l N k n ((t, .bool false) :: σ) w) : HW P R ops l N k n σ w := by
  by_cases hp : p
  · exact HW.as t _ ht (by rw [decide_eq_true hp]) (h1 hp)
  · exact HW.as t _ ht (by rw [decide_eq_false hp]) (h2 hp)
theorem HW.call {d : Nat} {f : FuncId} {xs : List Operand} {ats : Array TypeId} {ty : TypeId} {pos : String} {after : Array Edge} {g : Option (Nat × Bool)} {vs : List Value} {v : Value}
    (hg : wantS ops σ g = some true) (hd : Nat.blt d n = true) (hx : evs σ xs = some vs) (hc : Ret P f vs w fun v' w' => v' = v ∧ w' = w) (h : HW P R ops rest N k n ((d, v) :: σ) w) :
    HW P R ops (⟨some d, .call { callee := .value (.func f), args := xs.toArray, argTypes := ats }, ty, pos, after, g⟩ :: rest) (N + 1) k n σ w := fun a ha => by
  show wpStill P ops w _ (_ :: rest.take N) a
  unfold wpStill
  rw [if_pos (wantS_spec ha (o := ⟨some d, .call { callee := .value (.func f), args := xs.toArray, argTypes := ats }, ty, pos, after, g⟩) hg)]
  unfold Oper.still
  obtain ⟨⟨fn, h1, h2⟩, hcc⟩ := hc
  rw [EC.go (n := n) h1 h2 hx a ha (some d) pos after g]
  refine ⟨rfl, v, hcc.mono ?_, h _ (ha.put hd v)⟩
  rintro e w'' ⟨v', rfl, rfl, rfl⟩
  exact ⟨rfl, rfl⟩
end

/-! ### A function -/
def argSig : Nat → List Value → Sig
  | _, [] => []
  | i, v :: r => (i, v) :: argSig (i + 1) r
theorem argSig_lk : ∀ (l : List Value) (i t : Nat) (v : Value), lk (argSig i l) t = some v → i ≤ t ∧ l[t - i]? = some v
  | [], _, _, _, h => by simp [argSig, lk] at h
  | u :: r, i, t, v, h => by
    simp only [argSig] at h
    rw [lk_cons] at h
    by_cases e : i = t
    · subst e
      simp at h
      subst h
      simp
    · simp [e] at h
      obtain ⟨h1, h2⟩ := argSig_lk r (i + 1) t v h
      refine ⟨by omega, ?_⟩
      rw [show t - i = (t - (i + 1)) + 1 by omega]
      simpa using h2
theorem Fr.start (args : List Value) (m : Nat) : Fr (args.length + m) (argSig 0 args) { tmps := args.toArray ++ Array.replicate m undef, defers := [] } :=
  ⟨by simp, fun t v h => by
    obtain ⟨_, h2⟩ := argSig_lk args 0 t v h
    have hlt : t < args.length := by
      rcases Nat.lt_or_ge t args.length with h' | h'
      · exact h'
      · simp [List.getElem?_eq_none h'] at h2
    rw [Array.getElem?_append_left (by simpa using hlt)]
    simpa using h2, rfl⟩
/-- enter a function -/
theorem Ret.enter {P : Program} {f : FuncId} {fn : Func} {c : Code} {args : List Value} {w : World} {Q : Value → World → Prop} {n : Nat} (hf : P.funcs[f]? = some fn) (hb : fn.body = some c) (hnt : fn.ntmps = n)
    (hn : (!(fn.name == "runtime.NumGoroutine") && fn.body.isSome) = true) (hl : args.length + (n - args.length) = n)
    (h : KW P (fun a w' => bodyPost P fn (fun e w' => ∃ v, e = .returned v ∧ Q v w') .ret a w') [.code c] n (argSig 0 args) w) : Ret P f args w Q := by
  refine ⟨⟨fn, hf, hn⟩, calls_of_wp hf hb ?_⟩
  have hfr : Fr n (argSig 0 args) { tmps := args.toArray ++ Array.replicate (fn.ntmps - args.toArray.size) undef, defers := [] } := by
    have := Fr.start args (n - args.length)
    rw [hl] at this
    simpa [hnt] using this
  have h1 := h _ hfr
  simp only [pst] at h1
  refine Code.wp_mono (fun e a' w' q => ?_) h1
  cases e with
  | normal => exact q
  | ret => exact q
  | _ => exact q.elim
section
variable {P : Program} {fn : Func} {Q : Value → World → Prop} {n : Nat} {σ : Sig} {w : World} {k : List KI}
theorem ret_of {v : Value} (hr : ∀ a, Fr n σ a → (results fn a.tmps).run P w = .ok v w) (hq : Q v w) : ∀ a, Fr n σ a → bodyPost P fn (fun e w' => ∃ v, e = .returned v ∧ Q v w') .ret a w :=
  fun a ha => ⟨ha.df, v, hr a ha, v, rfl, hq⟩
theorem ret1 {t : Nat} {v : Value} (hs : fn.results = #[.tmp t]) (hv : lk σ t = some v) (hq : Q v w) : ∀ a, Fr n σ a → bodyPost P fn (fun e w' => ∃ v, e = .returned v ∧ Q v w') .ret a w :=
  ret_of (fun a ha => by rw [results_tmp hs]; simp [ha.val t v hv]) hq
theorem ret0 (hs : fn.results = #[]) (hq : Q (.tuple #[]) w) : ∀ a, Fr n σ a → bodyPost P fn (fun e w' => ∃ v, e = .returned v ∧ Q v w') .ret a w :=
  ret_of (fun _ _ => results_none hs _ _ _) hq
theorem ret2 {t u : Nat} {v x : Value} (hs : fn.results = #[.tmp t, .tmp u]) (hv : lk σ t = some v) (hx : lk σ u = some x) (hq : Q (.tuple #[v, x]) w) : ∀ a, Fr n σ a → bodyPost P fn (fun e w' => ∃ v, e = .returned v ∧ Q v w') .ret a w :=
  ret_of (fun a ha => by rw [results_tmp2 hs]; simp [ha.val t v hv, ha.val u x hx]) hq
theorem ret3 {t u s : Nat} {v x y : Value} (hs : fn.results = #[.tmp t, .tmp u, .tmp s]) (hv : lk σ t = some v) (hx : lk σ u = some x) (hy : lk σ s = some y) (hq : Q (.tuple #[v, x, y]) w) :
    ∀ a, Fr n σ a → bodyPost P fn (fun e w' => ∃ v, e = .returned v ∧ Q v w') .ret a w :=
  ret_of (fun a ha => by rw [results_tmp3 hs]; simp [ha.val t v hv, ha.val u x hx, ha.val s y hy]) hq
end
end Go.Proofs.YtieojdkblakchaaDoor
