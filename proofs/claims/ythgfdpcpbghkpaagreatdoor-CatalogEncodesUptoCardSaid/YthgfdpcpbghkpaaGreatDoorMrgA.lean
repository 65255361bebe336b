/-
  What the statements rest on, part 1 of 5: many small texts, one behind the other.
-/
import Derived.WalkKit
import Derived.WalkSpells
import Derived.WalkLawsBesides
import Derived.Lib.Hide
import Derived.Deep.Draws
import Derived.Deep.Quiet
import Derived.StillTail
import Derived.Deep.AppendSrc
import Derived.Lib.SlBytesConst
import Derived.Lib.AppendZerosOnto
import Derived.Lib.Join
import Derived.Lib.Bytealg
import Derived.Lib.Split
import Derived.Lib.SplitLaws
import Derived.Lib.IndexBytes
import Derived.Lib.IndexLaws
import Derived.Lib.CountLaws
import Derived.Sort.Statements
import Derived.Test.YthgfdpcpbghkpaaGreatDoorRows
set_option linter.unusedSimpArgs false
set_option linter.unusedVariables false
set_option linter.unnecessarySimpa false
namespace Go.Proofs.YthgfdpcpbghkpaaGreatDoor
open Go.RowKit
abbrev Sig := List (Nat × Value)
def lk : Sig → Nat → Option Value
  | [], _ => none
  | (i, v) :: r, t => match Nat.beq i t with | true => some v | false => lk r t
def ev (σ : Sig) : Operand → Option Value
  | .tmp t => lk σ t
  | .const v => some v
  | .global g => some (.pointer (some ⟨g, 0, none⟩))
  | .func f => some (.func (.func f) #[] #[])
def evs (σ : Sig) : List Operand → Option (List Value)
  | [] => some []
  | x :: r => match ev σ x with
    | some v => match evs σ r with
      | some vs => some (v :: vs)
      | none => none
    | none => none
structure Fr (n : Nat) (σ : Sig) (a : Act) : Prop where
  size : a.tmps.size = n
  val : ∀ t v, lk σ t = some v → a.tmps[t]? = some v
  df : a.defers = []
theorem Fr.ev {n : Nat} {σ : Sig} {a : Act} (h : Fr n σ a) {x : Operand} {v : Value} (hx : ev σ x = some v) : a.eval x = v := by
  cases x with
  | tmp t =>
    have := h.val t v hx
    simp [Act.eval, this]
  | const u => simpa [Go.Proofs.YthgfdpcpbghkpaaGreatDoor.ev, Act.eval] using hx
  | global g => simpa [Go.Proofs.YthgfdpcpbghkpaaGreatDoor.ev, Act.eval] using hx
  | func f => simpa [Go.Proofs.YthgfdpcpbghkpaaGreatDoor.ev, Act.eval] using hx
theorem Fr.evs {n : Nat} {σ : Sig} {a : Act} (h : Fr n σ a) : ∀ {xs : List Operand} {vs : List Value}, evs σ xs = some vs → xs.map a.eval = vs
  | [], vs, hx => by simpa [Go.Proofs.YthgfdpcpbghkpaaGreatDoor.evs] using hx
  | x :: xs, vs, hx => by
    unfold Go.Proofs.YthgfdpcpbghkpaaGreatDoor.evs at hx
    split at hx
    · rename_i v hv
      split at hx
      · rename_i us hus
        injection hx with hx
        subst hx
        simp [h.ev hv, h.evs hus]
      · cases hx
    · cases hx
theorem lk_cons_same (σ : Sig) (d : Nat) (v : Value) : lk ((d, v) :: σ) d = some v := by simp [lk]
theorem lk_cons (σ : Sig) (d t : Nat) (v : Value) : lk ((d, v) :: σ) t = if d = t then some v else lk σ t := by
  by_cases h : d = t
  · subst h; simp [lk_cons_same]
  · have : Nat.beq d t = false := by
      cases hb : Nat.beq d t with
      | false => rfl
      | true => exact absurd (Nat.eq_of_beq_eq_true hb) h
    simp [lk, this, h]
theorem Fr.put {n : Nat} {σ : Sig} {a : Act} (h : Fr n σ a) {d : Nat} (hd : Nat.blt d n = true) (v : Value) : Fr n ((d, v) :: σ) (a.put (some d) v) := by
  have hd' : d < n := by simpa [Nat.blt_eq] using hd
  refine ⟨by simpa [Act.put] using h.size, fun t u ht => ?_, h.df⟩
  rw [lk_cons] at ht
  by_cases e : d = t
  · subst e
    simp at ht
    subst ht
    simp [Act.put, h.size, hd']
  · simp [e] at ht
    simp only [Act.put]
    rw [Array.getElem?_setIfInBounds_ne e]
    exact h.val t u ht
def Subs : Sig → Sig → Prop
  | [], _ => True
  | (t, v) :: r, σ => lk σ t = some v ∧ Subs r σ
theorem Subs.lk {σ : Sig} : ∀ {σ' : Sig}, Subs σ' σ → ∀ {t : Nat} {v : Value}, lk σ' t = some v → lk σ t = some v
  | [], _, _, _, h => by simp [Go.Proofs.YthgfdpcpbghkpaaGreatDoor.lk] at h
  | (i, u) :: r, hs, t, v, h => by
    rw [lk_cons] at h
    by_cases e : i = t
    · subst e
      simp at h
      subst h
      exact hs.1
    · simp [e] at h
      exact hs.2.lk h
theorem Fr.sub {n : Nat} {σ σ' : Sig} {a : Act} (h : Fr n σ a) (hs : Subs σ' σ) : Fr n σ' a := ⟨h.size, fun t v ht => h.val t v (hs.lk ht), h.df⟩
inductive KI where
  | code (c : Code)
  | blk (id : Nat)
  | asr (I : Act → World → Prop)
def pst (P : Program) (R : Act → World → Prop) : List KI → Exit → Act → World → Prop
  | [], .normal => R
  | [], .ret => R
  | [], _ => fun _ _ => False
  | .code c :: k, e => match e with | .normal => fun a w => c.wp P (pst P R k) a w | e => pst P R k e
  | .blk id :: k, e => match e with | .exit i => fun a w => if i = id then pst P R k .normal a w else pst P R k (.exit i) a w | e => pst P R k e
  | .asr I :: k, e => match e with | .normal => I | e => pst P R k e
def popTo (id : Nat) : List KI → Option (List KI)
  | [] => none
  | .blk i :: k => match Nat.beq id i with | true => some k | false => popTo id k
  | .code _ :: k => popTo id k
  | .asr _ :: k => popTo id k
def KW (P : Program) (R : Act → World → Prop) (k : List KI) (n : Nat) (σ : Sig) (w : World) : Prop := ∀ a, Fr n σ a → pst P R k .normal a w
section
variable {P : Program} {R : Act → World → Prop} {k : List KI} {n : Nat} {σ : Sig} {w : World}
theorem pst_then (c : Code) (k : List KI) : pst P R (.code c :: k) = Exit.then (fun a w => c.wp P (pst P R k) a w) (pst P R k) := by
  funext e a w
  cases e <;> simp [pst, Exit.then]
theorem pst_blk (id : Nat) (k : List KI) : pst P R (.blk id :: k) = Exit.inBlock id (pst P R k) := by
  funext e a w
  cases e <;> simp [pst, Exit.inBlock]
theorem pst_exit {id : Nat} : ∀ {k k' : List KI}, popTo id k = some k' → ∀ a w, pst P R k (.exit id) a w = pst P R k' .normal a w
  | [], _, h, _, _ => by simp [popTo] at h
  | .code c :: k, k', h, a, w => by simp only [popTo] at h; simp only [pst]; exact pst_exit h a w
  | .asr I :: k, k', h, a, w => by simp only [popTo] at h; simp only [pst]; exact pst_exit h a w
  | .blk i :: k, k', h, a, w => by
    simp only [popTo] at h
    simp only [pst]
    by_cases e : id = i
    · subst e
      have : Nat.beq id id = true := by simp
      rw [this] at h
      injection h with h
      subst h
      simp
    · have : Nat.beq id i = false := by
        cases hb : Nat.beq id i with
        | false => rfl
        | true => exact absurd (Nat.eq_of_beq_eq_true hb) e
      rw [this] at h
      rw [if_neg e]
      exact pst_exit h a w
theorem pst_ret : ∀ (k : List KI) (a : Act) (w : World), pst P R k .ret a w = R a w
  | [], _, _ => rfl
  | .code _ :: k, a, w => pst_ret k a w
  | .blk _ :: k, a, w => pst_ret k a w
  | .asr _ :: k, a, w => pst_ret k a w
theorem KW.seq {x y : Code} (h : KW P R (.code x :: .code y :: k) n σ w) : KW P R (.code (.seq x y) :: k) n σ w := fun a ha => by
  have := h a ha
  simp only [pst] at this ⊢
  refine wp_seq ?_
  rw [← pst_then]
  exact this
theorem KW.block {id : Nat} {c : Code} (h : KW P R (.code c :: .blk id :: k) n σ w) : KW P R (.code (.block id c) :: k) n σ w := fun a ha => by
  have := h a ha
  simp only [pst] at this ⊢
  refine wp_block ?_
  rw [← pst_blk]
  exact this
theorem KW.leave {id : Nat} (h : KW P R k n σ w) : KW P R (.blk id :: k) n σ w := fun a ha => h a ha
theorem KW.skip (h : KW P R k n σ w) : KW P R (.code .skip :: k) n σ w := fun a ha => wp_skip (h a ha)
theorem KW.label {l : Nat} (h : KW P R k n σ w) : KW P R (.code (.label l) :: k) n σ w := fun a ha => wp_label (h a ha)
theorem KW.exit {id : Nat} {k' : List KI} (hk : popTo id k = some k') (h : KW P R k' n σ w) : KW P R (.code (.exit id) :: k) n σ w := fun a ha =>
  wp_exit (by rw [pst_exit hk]; exact h a ha)
theorem KW.ret (h : ∀ a, Fr n σ a → R a w) : KW P R (.code .ret :: k) n σ w := fun a ha => wp_ret (by rw [pst_ret]; exact h a ha)
theorem KW.done (h : ∀ a, Fr n σ a → R a w) : KW P R [] n σ w := h
theorem KW.sub {σ' : Sig} (hs : Subs σ' σ) (h : KW P R k n σ' w) : KW P R k n σ w := fun a ha => h a (ha.sub hs)
theorem KW.cond {c : Operand} {x y : Code} {b : Bool} (hc : ev σ c = some (.bool b)) (ht : b = true → KW P R (.code x :: k) n σ w) (hf : b = false → KW P R (.code y :: k) n σ w) :
    KW P R (.code (.cond c x y) :: k) n σ w := fun a ha =>
  wp_cond_split (ha.ev hc) (fun e => ht e a ha) (fun e => hf e a ha)
theorem KW.condD {c : Operand} {x y : Code} {p : Prop} [Decidable p] (hc : ev σ c = some (.bool (decide p))) (ht : p → KW P R (.code x :: k) n σ w) (hf : ¬ p → KW P R (.code y :: k) n σ w) :
    KW P R (.code (.cond c x y) :: k) n σ w :=
  KW.cond hc (fun e => ht (of_decide_eq_true e)) (fun e => hf (of_decide_eq_false e))
theorem KW.condT {c : Operand} {x y : Code} (hc : ev σ c = some (.bool true)) (h : KW P R (.code x :: k) n σ w) : KW P R (.code (.cond c x y) :: k) n σ w :=
  KW.cond hc (fun _ => h) (fun e => by cases e)
theorem KW.condF {c : Operand} {x y : Code} (hc : ev σ c = some (.bool false)) (h : KW P R (.code y :: k) n σ w) : KW P R (.code (.cond c x y) :: k) n σ w :=
  KW.cond hc (fun e => by cases e) (fun _ => h)
def Met {ι : Type} (n : Nat) (I : ι → Prop) (S : ι → Sig) (W : ι → World) (a : Act) (w : World) : Prop := ∃ i, I i ∧ Fr n (S i) a ∧ w = W i
theorem KW.cut {ι : Type} (I : ι → Prop) (S : ι → Sig) (W : ι → World) {c : Code} (h : KW P R (.code c :: .asr (Met n I S W) :: k) n σ w) (h2 : ∀ i, I i → KW P R k n (S i) (W i)) :
    KW P R (.code c :: k) n σ w := fun a ha => by
  have h1 := h a ha
  simp only [pst] at h1 ⊢
  refine Code.wp_mono (fun e a' w' q => ?_) h1
  cases e with
  | normal => obtain ⟨i, hi, hf, rfl⟩ := q; exact h2 i hi a' hf
  | _ => exact q
theorem KW.meet {ι : Type} {I : ι → Prop} {S : ι → Sig} {W : ι → World} (i : ι) (hs : Subs (S i) σ) (hw : w = W i) (hi : I i) : KW P R (.asr (Met n I S W) :: k) n σ w :=
  fun _ ha => ⟨i, hi, ha.sub hs, hw⟩
def Back {ι : Type} (n : Nat) (I : ι → Prop) (S : ι → Sig) (W : ι → World) (μ : ι → Nat) (i : ι) (a : Act) (w : World) : Prop := ∃ j, I j ∧ μ j < μ i ∧ Fr n (S j) a ∧ w = W j
theorem KW.back {ι : Type} {I : ι → Prop} {S : ι → Sig} {W : ι → World} {μ : ι → Nat} {i : ι} (j : ι) (hs : Subs (S j) σ) (hw : w = W j) (hi : I j) (hm : μ j < μ i) :
    KW P R (.asr (Back n I S W μ i) :: k) n σ w := fun _ ha => ⟨j, hi, hm, ha.sub hs, hw⟩
theorem least_nat (M : Nat → Prop) : ∀ m, M m → ∃ m, M m ∧ ∀ m', M m' → m ≤ m' := by
  intro m
  induction m using Nat.strongRecOn with
  | _ m ih =>
    intro hm
    by_cases h : ∃ m', M m' ∧ m' < m
    · obtain ⟨m', h1, h2⟩ := h
      exact ih m' h2 h1
    · exact ⟨m, hm, fun m' h' => by
        rcases Nat.lt_or_ge m' m with hlt | hge
        · exact absurd ⟨m', h', hlt⟩ h
        · exact hge⟩
theorem KW.loop {ι : Type} (I : ι → Prop) (S : ι → Sig) (W : ι → World) (μ : ι → Nat) {c : Code} (i : ι) (hs : Subs (S i) σ) (hw : w = W i) (hi : I i)
    (round : ∀ i, I i → KW P R (.code c :: .asr (Back n I S W μ i) :: k) n (S i) (W i)) : KW P R (.code (.loop c) :: k) n σ w := fun a ha => by
  let M (a : Act) (w : World) (m : Nat) : Prop := ∃ i, I i ∧ Fr n (S i) a ∧ w = W i ∧ μ i = m
  have hex : ∀ a w, (∃ m, M a w m) → ∃ m, M a w m ∧ ∀ m', M a w m' → m ≤ m' := fun a w ⟨m, hm⟩ => least_nat _ m hm
  let ν (a : Act) (w : World) : Nat := Classical.epsilon fun m => M a w m ∧ ∀ m', M a w m' → m ≤ m'
  have hν : ∀ a w, (∃ m, M a w m) → M a w (ν a w) ∧ ∀ m', M a w m' → ν a w ≤ m' := fun a w h => Classical.epsilon_spec (hex a w h)
  simp only [pst]
  refine wp_loop (fun a w => ∃ m, M a w m) ν ⟨μ i, i, hi, ha.sub hs, hw, rfl⟩ fun a' w' hm => ?_
  obtain ⟨⟨j, hj, hf, hw', hmu⟩, _⟩ := hν a' w' hm
  have h := round j hj a' hf
  simp only [pst] at h
  subst hw'
  refine Code.wp_mono (fun e a'' w'' q => ?_) h
  cases e with
  | normal =>
    obtain ⟨j', h1, h2, h3, h4⟩ := q
    refine ⟨⟨μ j', j', h1, h3, h4, rfl⟩, ?_⟩
    have := (hν a'' w'' ⟨μ j', j', h1, h3, h4, rfl⟩).2 (μ j') ⟨j', h1, h3, h4, rfl⟩
    omega
  | _ => exact q
end
section
variable {P : Program} {R : Act → World → Prop} {k : List KI} {n : Nat} {σ : Sig} {w : World}
def Back1 {α : Type} (n : Nat) (I : α → Prop) (S : α → Sig) (W : α → World) (μ : α → Nat) (x0 : α) : Act → World → Prop :=
  Back n (fun p : α => I p) (fun p => S p) (fun p => W p) (fun p => μ p) x0
def Met1 {α : Type} (n : Nat) (I : α → Prop) (S : α → Sig) (W : α → World) : Act → World → Prop :=
  Met n (fun p : α => I p) (fun p => S p) (fun p => W p)
theorem KW.loop1 {α : Type} (I : α → Prop) (S : α → Sig) (W : α → World) (μ : α → Nat) {c : Code} (x0 : α) (hs : Subs (S x0) σ) (hw : w = W x0) (hi : I x0)
    (round : ∀ x0, I x0 → KW P R (.code c :: .asr (Back1 n I S W μ x0) :: k) n (S x0) (W x0)) : KW P R (.code (.loop c) :: k) n σ w :=
  KW.loop (fun p : α => I p) (fun p => S p) (fun p => W p) (fun p => μ p) x0 hs hw hi fun p hp => round p hp
theorem KW.back1 {α : Type} {I : α → Prop} {S : α → Sig} {W : α → World} {μ : α → Nat} {y0 : α} (x0 : α) (hs : Subs (S x0) σ) (hw : w = W x0) (hi : I x0) (hm : μ x0 < μ y0) :
    KW P R (.asr (Back1 n I S W μ y0) :: k) n σ w :=
  KW.back (I := fun p : α => I p) (S := fun p => S p) (W := fun p => W p) (μ := fun p => μ p) x0 hs hw hi hm
theorem KW.cut1 {α : Type} (I : α → Prop) (S : α → Sig) (W : α → World) {c : Code} (h : KW P R (.code c :: .asr (Met1 n I S W) :: k) n σ w)
    (h2 : ∀ x0, I x0 → KW P R k n (S x0) (W x0)) : KW P R (.code c :: k) n σ w :=
  KW.cut (fun p : α => I p) (fun p => S p) (fun p => W p) h fun p hp => h2 p hp
theorem KW.meet1 {α : Type} {I : α → Prop} {S : α → Sig} {W : α → World} (x0 : α) (hs : Subs (S x0) σ) (hw : w = W x0) (hi : I x0) :
    KW P R (.asr (Met1 n I S W) :: k) n σ w :=
  KW.meet (I := fun p : α => I p) (S := fun p => S p) (W := fun p => W p) x0 hs hw hi
def Back2 {α β : Type} (n : Nat) (I : α → β → Prop) (S : α → β → Sig) (W : α → β → World) (μ : α → β → Nat) (x0 : α) (x1 : β) : Act → World → Prop :=
  Back n (fun p : α × β => I p.1 p.2) (fun p => S p.1 p.2) (fun p => W p.1 p.2) (fun p => μ p.1 p.2) (x0, x1)
def Met2 {α β : Type} (n : Nat) (I : α → β → Prop) (S : α → β → Sig) (W : α → β → World) : Act → World → Prop :=
  Met n (fun p : α × β => I p.1 p.2) (fun p => S p.1 p.2) (fun p => W p.1 p.2)
theorem KW.loop2 {α β : Type} (I : α → β → Prop) (S : α → β → Sig) (W : α → β → World) (μ : α → β → Nat) {c : Code} (x0 : α) (x1 : β) (hs : Subs (S x0 x1) σ) (hw : w = W x0 x1) (hi : I x0 x1)
    (round : ∀ x0 x1, I x0 x1 → KW P R (.code c :: .asr (Back2 n I S W μ x0 x1) :: k) n (S x0 x1) (W x0 x1)) : KW P R (.code (.loop c) :: k) n σ w :=
  KW.loop (fun p : α × β => I p.1 p.2) (fun p => S p.1 p.2) (fun p => W p.1 p.2) (fun p => μ p.1 p.2) (x0, x1) hs hw hi fun p hp => round p.1 p.2 hp
theorem KW.back2 {α β : Type} {I : α → β → Prop} {S : α → β → Sig} {W : α → β → World} {μ : α → β → Nat} {y0 : α} {y1 : β} (x0 : α) (x1 : β) (hs : Subs (S x0 x1) σ) (hw : w = W x0 x1) (hi : I x0 x1) (hm : μ x0 x1 < μ y0 y1) :
    KW P R (.asr (Back2 n I S W μ y0 y1) :: k) n σ w :=
  KW.back (I := fun p : α × β => I p.1 p.2) (S := fun p => S p.1 p.2) (W := fun p => W p.1 p.2) (μ := fun p => μ p.1 p.2) (x0, x1) hs hw hi hm
theorem KW.cut2 {α β : Type} (I : α → β → Prop) (S : α → β → Sig) (W : α → β → World) {c : Code} (h : KW P R (.code c :: .asr (Met2 n I S W) :: k) n σ w)
    (h2 : ∀ x0 x1, I x0 x1 → KW P R k n (S x0 x1) (W x0 x1)) : KW P R (.code c :: k) n σ w :=
  KW.cut (fun p : α × β => I p.1 p.2) (fun p => S p.1 p.2) (fun p => W p.1 p.2) h fun p hp => h2 p.1 p.2 hp
theorem KW.meet2 {α β : Type} {I : α → β → Prop} {S : α → β → Sig} {W : α → β → World} (x0 : α) (x1 : β) (hs : Subs (S x0 x1) σ) (hw : w = W x0 x1) (hi : I x0 x1) :
    KW P R (.asr (Met2 n I S W) :: k) n σ w :=
  KW.meet (I := fun p : α × β => I p.1 p.2) (S := fun p => S p.1 p.2) (W := fun p => W p.1 p.2) (x0, x1) hs hw hi
def Back3 {α β γ : Type} (n : Nat) (I : α → β → γ → Prop) (S : α → β → γ → Sig) (W : α → β → γ → World) (μ : α → β → γ → Nat) (x0 : α) (x1 : β) (x2 : γ) : Act → World → Prop :=
  Back n (fun p : α × β × γ => I p.1 p.2.1 p.2.2) (fun p => S p.1 p.2.1 p.2.2) (fun p => W p.1 p.2.1 p.2.2) (fun p => μ p.1 p.2.1 p.2.2) (x0, x1, x2)
def Met3 {α β γ : Type} (n : Nat) (I : α → β → γ → Prop) (S : α → β → γ → Sig) (W : α → β → γ → World) : Act → World → Prop :=
  Met n (fun p : α × β × γ => I p.1 p.2.1 p.2.2) (fun p => S p.1 p.2.1 p.2.2) (fun p => W p.1 p.2.1 p.2.2)
theorem KW.loop3 {α β γ : Type} (I : α → β → γ → Prop) (S : α → β → γ → Sig) (W : α → β → γ → World) (μ : α → β → γ → Nat) {c : Code} (x0 : α) (x1 : β) (x2 : γ) (hs : Subs (S x0 x1 x2) σ) (hw : w = W x0 x1 x2) (hi : I x0 x1 x2)
    (round : ∀ x0 x1 x2, I x0 x1 x2 → KW P R (.code c :: .asr (Back3 n I S W μ x0 x1 x2) :: k) n (S x0 x1 x2) (W x0 x1 x2)) : KW P R (.code (.loop c) :: k) n σ w :=
  KW.loop (fun p : α × β × γ => I p.1 p.2.1 p.2.2) (fun p => S p.1 p.2.1 p.2.2) (fun p => W p.1 p.2.1 p.2.2) (fun p => μ p.1 p.2.1 p.2.2) (x0, x1, x2) hs hw hi fun p hp => round p.1 p.2.1 p.2.2 hp
theorem KW.back3 {α β γ : Type} {I : α → β → γ → Prop} {S : α → β → γ → Sig} {W : α → β → γ → World} {μ : α → β → γ → Nat} {y0 : α} {y1 : β} {y2 : γ} (x0 : α) (x1 : β) (x2 : γ) (hs : Subs (S x0 x1 x2) σ) (hw : w = W x0 x1 x2) (hi : I x0 x1 x2) (hm : μ x0 x1 x2 < μ y0 y1 y2) :
    KW P R (.asr (Back3 n I S W μ y0 y1 y2) :: k) n σ w :=
  KW.back (I := fun p : α × β × γ => I p.1 p.2.1 p.2.2) (S := fun p => S p.1 p.2.1 p.2.2) (W := fun p => W p.1 p.2.1 p.2.2) (μ := fun p => μ p.1 p.2.1 p.2.2) (x0, x1, x2) hs hw hi hm
theorem KW.cut3 {α β γ : Type} (I : α → β → γ → Prop) (S : α → β → γ → Sig) (W : α → β → γ → World) {c : Code} (h : KW P R (.code c :: .asr (Met3 n I S W) :: k) n σ w)
    (h2 : ∀ x0 x1 x2, I x0 x1 x2 → KW P R k n (S x0 x1 x2) (W x0 x1 x2)) : KW P R (.code c :: k) n σ w :=
  KW.cut (fun p : α × β × γ => I p.1 p.2.1 p.2.2) (fun p => S p.1 p.2.1 p.2.2) (fun p => W p.1 p.2.1 p.2.2) h fun p hp => h2 p.1 p.2.1 p.2.2 hp
theorem KW.meet3 {α β γ : Type} {I : α → β → γ → Prop} {S : α → β → γ → Sig} {W : α → β → γ → World} (x0 : α) (x1 : β) (x2 : γ) (hs : Subs (S x0 x1 x2) σ) (hw : w = W x0 x1 x2) (hi : I x0 x1 x2) :
    KW P R (.asr (Met3 n I S W) :: k) n σ w :=
  KW.meet (I := fun p : α × β × γ => I p.1 p.2.1 p.2.2) (S := fun p => S p.1 p.2.1 p.2.2) (W := fun p => W p.1 p.2.1 p.2.2) (x0, x1, x2) hs hw hi
def Back4 {α β γ δ : Type} (n : Nat) (I : α → β → γ → δ → Prop) (S : α → β → γ → δ → Sig) (W : α → β → γ → δ → World) (μ : α → β → γ → δ → Nat) (x0 : α) (x1 : β) (x2 : γ) (x3 : δ) : Act → World → Prop :=
  Back n (fun p : α × β × γ × δ => I p.1 p.2.1 p.2.2.1 p.2.2.2) (fun p => S p.1 p.2.1 p.2.2.1 p.2.2.2) (fun p => W p.1 p.2.1 p.2.2.1 p.2.2.2) (fun p => μ p.1 p.2.1 p.2.2.1 p.2.2.2) (x0, x1, x2, x3)
theorem KW.loop4 {α β γ δ : Type} (I : α → β → γ → δ → Prop) (S : α → β → γ → δ → Sig) (W : α → β → γ → δ → World) (μ : α → β → γ → δ → Nat) {c : Code} (x0 : α) (x1 : β) (x2 : γ) (x3 : δ) (hs : Subs (S x0 x1 x2 x3) σ) (hw : w = W x0 x1 x2 x3) (hi : I x0 x1 x2 x3)
    (round : ∀ x0 x1 x2 x3, I x0 x1 x2 x3 → KW P R (.code c :: .asr (Back4 n I S W μ x0 x1 x2 x3) :: k) n (S x0 x1 x2 x3) (W x0 x1 x2 x3)) : KW P R (.code (.loop c) :: k) n σ w :=
  KW.loop (fun p : α × β × γ × δ => I p.1 p.2.1 p.2.2.1 p.2.2.2) (fun p => S p.1 p.2.1 p.2.2.1 p.2.2.2) (fun p => W p.1 p.2.1 p.2.2.1 p.2.2.2) (fun p => μ p.1 p.2.1 p.2.2.1 p.2.2.2) (x0, x1, x2, x3) hs hw hi fun p hp => round p.1 p.2.1 p.2.2.1 p.2.2.2 hp
theorem KW.back4 {α β γ δ : Type} {I : α → β → γ → δ → Prop} {S : α → β → γ → δ → Sig} {W : α → β → γ → δ → World} {μ : α → β → γ → δ → Nat} {y0 : α} {y1 : β} {y2 : γ} {y3 : δ} (x0 : α) (x1 : β) (x2 : γ) (x3 : δ) (hs : Subs (S x0 x1 x2 x3) σ) (hw : w = W x0 x1 x2 x3) (hi : I x0 x1 x2 x3) (hm : μ x0 x1 x2 x3 < μ y0 y1 y2 y3) :
    KW P R (.asr (Back4 n I S W μ y0 y1 y2 y3) :: k) n σ w :=
  KW.back (I := fun p : α × β × γ × δ => I p.1 p.2.1 p.2.2.1 p.2.2.2) (S := fun p => S p.1 p.2.1 p.2.2.1 p.2.2.2) (W := fun p => W p.1 p.2.1 p.2.2.1 p.2.2.2) (μ := fun p => μ p.1 p.2.1 p.2.2.1 p.2.2.2) (x0, x1, x2, x3) hs hw hi hm
def Back5 {α β γ δ ε : Type} (n : Nat) (I : α → β → γ → δ → ε → Prop) (S : α → β → γ → δ → ε → Sig) (W : α → β → γ → δ → ε → World) (μ : α → β → γ → δ → ε → Nat) (x0 : α) (x1 : β) (x2 : γ) (x3 : δ) (x4 : ε) : Act → World → Prop :=
  Back n (fun p : α × β × γ × δ × ε => I p.1 p.2.1 p.2.2.1 p.2.2.2.1 p.2.2.2.2) (fun p => S p.1 p.2.1 p.2.2.1 p.2.2.2.1 p.2.2.2.2) (fun p => W p.1 p.2.1 p.2.2.1 p.2.2.2.1 p.2.2.2.2) (fun p => μ p.1 p.2.1 p.2.2.1 p.2.2.2.1 p.2.2.2.2) (x0, x1, x2, x3, x4)
theorem KW.loop5 {α β γ δ ε : Type} (I : α → β → γ → δ → ε → Prop) (S : α → β → γ → δ → ε → Sig) (W : α → β → γ → δ → ε → World) (μ : α → β → γ → δ → ε → Nat) {c : Code} (x0 : α) (x1 : β) (x2 : γ) (x3 : δ) (x4 : ε) (hs : Subs (S x0 x1 x2 x3 x4) σ) (hw : w = W x0 x1 x2 x3 x4) (hi : I x0 x1 x2 x3 x4)
    (round : ∀ x0 x1 x2 x3 x4, I x0 x1 x2 x3 x4 → KW P R (.code c :: .asr (Back5 n I S W μ x0 x1 x2 x3 x4) :: k) n (S x0 x1 x2 x3 x4) (W x0 x1 x2 x3 x4)) : KW P R (.code (.loop c) :: k) n σ w :=
  KW.loop (fun p : α × β × γ × δ × ε => I p.1 p.2.1 p.2.2.1 p.2.2.2.1 p.2.2.2.2) (fun p => S p.1 p.2.1 p.2.2.1 p.2.2.2.1 p.2.2.2.2) (fun p => W p.1 p.2.1 p.2.2.1 p.2.2.2.1 p.2.2.2.2) (fun p => μ p.1 p.2.1 p.2.2.1 p.2.2.2.1 p.2.2.2.2) (x0, x1, x2, x3, x4) hs hw hi fun p hp => round p.1 p.2.1 p.2.2.1 p.2.2.2.1 p.2.2.2.2 hp
theorem KW.back5 {α β γ δ ε : Type} {I : α → β → γ → δ → ε → Prop} {S : α → β → γ → δ → ε → Sig} {W : α → β → γ → δ → ε → World} {μ : α → β → γ → δ → ε → Nat} {y0 : α} {y1 : β} {y2 : γ} {y3 : δ} {y4 : ε} (x0 : α) (x1 : β) (x2 : γ) (x3 : δ) (x4 : ε) (hs : Subs (S x0 x1 x2 x3 x4) σ) (hw : w = W x0 x1 x2 x3 x4) (hi : I x0 x1 x2 x3 x4) (hm : μ x0 x1 x2 x3 x4 < μ y0 y1 y2 y3 y4) :
    KW P R (.asr (Back5 n I S W μ y0 y1 y2 y3 y4) :: k) n σ w :=
  KW.back (I := fun p : α × β × γ × δ × ε => I p.1 p.2.1 p.2.2.1 p.2.2.2.1 p.2.2.2.2) (S := fun p => S p.1 p.2.1 p.2.2.1 p.2.2.2.1 p.2.2.2.2) (W := fun p => W p.1 p.2.1 p.2.2.1 p.2.2.2.1 p.2.2.2.2) (μ := fun p => μ p.1 p.2.1 p.2.2.1 p.2.2.2.1 p.2.2.2.2) (x0, x1, x2, x3, x4) hs hw hi hm
end
def OW (P : Program) (R : Act → World → Prop) (ops : Array Oper) (l : List Oper) (k : List KI) (n : Nat) (σ : Sig) (w : World) : Prop := ∀ a, Fr n σ a → wpList P ops (pst P R k) l a w
def wantS (ops : Array Oper) (σ : Sig) : Option (Nat × Bool) → Option Bool
  | none => some true
  | some (j, want) => match (ops[j]?).bind (·.dst) with
    | some t => match lk σ t with
      | some (.bool b) => some (b == want)
      | some (.tuple _) => some false
      | _ => none
    | none => none
theorem wantS_spec {ops : Array Oper} {σ : Sig} {n : Nat} {a : Act} (ha : Fr n σ a) {o : Oper} {b : Bool} (h : wantS ops σ o.guard = some b) : Region.wanted o (yielded ops a.tmps) = b := by
  unfold Region.wanted
  cases hg : o.guard with
  | none => rw [hg] at h; simpa [wantS] using h
  | some jw =>
    obtain ⟨j, want⟩ := jw
    rw [hg] at h
    simp only [wantS] at h
    split at h
    · rename_i t ht
      split at h
      · rename_i u hu
        injection h with h
        subst h
        have := ha.val t _ hu
        simp only [yielded, ht, Option.bind_some, this]
        cases u <;> cases want <;> rfl
      · rename_i u hu
        injection h with h
        subst h
        have := ha.val t _ hu
        simp only [yielded, ht, Option.bind_some, this]
        rfl
      · cases h
    · cases h
section
variable {P : Program} {R : Act → World → Prop} {ops : Array Oper} {l rest : List Oper} {k : List KI} {n : Nat} {σ : Sig} {w w' : World}
theorem KW.region {id : Nat} (h : OW P R l.toArray l k n σ w) : KW P R (.code (.region id l.toArray false) :: k) n σ w := fun a ha => wp_region_lit (h a ha)
theorem OW.nil (h : KW P R k n σ w) : OW P R ops [] k n σ w := h
theorem OW.sub {σ' : Sig} (hs : Subs σ' σ) (h : OW P R ops l k n σ' w) : OW P R ops l k n σ w := fun a ha => h a (ha.sub hs)
theorem OW.as (t : Nat) (v' : Value) {v : Value} (ht : lk σ t = some v) (e : v = v') (h : OW P R ops l k n ((t, v') :: σ) w) : OW P R ops l k n σ w := fun a ha =>
  h a ⟨ha.size, fun i u hu => by
    rw [lk_cons] at hu
    by_cases e' : t = i
    · subst e'
      simp at hu
      subst hu
      rw [← e]
      exact ha.val t _ ht
    · simp [e'] at hu
      exact ha.val i u hu, ha.df⟩
theorem KW.as (t : Nat) (v' : Value) {v : Value} (ht : lk σ t = some v) (e : v = v') (h : KW P R k n ((t, v') :: σ) w) : KW P R k n σ w := fun a ha =>
  OW.as (P := P) (R := R) (ops := #[]) (l := []) t v' ht e h a ha
theorem OW.split (t : Nat) {b : Bool} (ht : lk σ t = some (.bool b)) (h1 : b = true → OW P R ops l k n ((t, .bool true) :: σ) w) (h2 : b = false → OW P R ops l k n ((t, .bool false) :: σ) w) : OW P R ops l k n σ w := by
  cases b with
  | true => exact OW.as t _ ht rfl (h1 rfl)
  | false => exact OW.as t _ ht rfl (h2 rfl)
theorem OW.splitD (t : Nat) {p : Prop} [Decidable p] (ht : lk σ t = some (.bool (decide p))) (h1 : p → OW P R ops l k n ((t, .bool true) :: σ) w) (h2 : ¬ p → OW P R ops l k n ((t, .bool false) :: σ) w) : OW P R ops l k n σ w :=
  OW.split t ht (fun e => h1 (of_decide_eq_true e)) (fun e => h2 (of_decide_eq_false e))
def EX (P : Program) (n : Nat) (σ : Sig) (op : Op) (ty : TypeId) (w : World) (v : Value) (w' : World) : Prop :=
  ∀ (a : Act), Fr n σ a → ∀ (dst : Option Tmp) (pos : String) (after : Array Edge) (g : Option (Nat × Bool)), (execOp a.eval ⟨dst, op, ty, pos, after, g⟩).run P w = .ok (.value v) w'
def EU (P : Program) (n : Nat) (σ : Sig) (op : Op) (ty : TypeId) (w w' : World) : Prop :=
  ∀ (a : Act), Fr n σ a → ∀ (dst : Option Tmp) (pos : String) (after : Array Edge) (g : Option (Nat × Bool)), (execOp a.eval ⟨dst, op, ty, pos, after, g⟩).run P w = .ok .skip w'
def EC (P : Program) (n : Nat) (σ : Sig) (op : Op) (ty : TypeId) (w : World) (f : FuncId) (args : Array Value) : Prop :=
  ∀ (a : Act), Fr n σ a → ∀ (dst : Option Tmp) (pos : String) (after : Array Edge) (g : Option (Nat × Bool)), (execOp a.eval ⟨dst, op, ty, pos, after, g⟩).run P w = .ok (.enter f args) w
theorem OW.val {d : Nat} {op : Op} {ty : TypeId} {pos : String} {after : Array Edge} {g : Option (Nat × Bool)} {v : Value} (hg : wantS ops σ g = some true) (hd : Nat.blt d n = true) (he : EX P n σ op ty w v w')
    (h : OW P R ops rest k n ((d, v) :: σ) w') : OW P R ops (⟨some d, op, ty, pos, after, g⟩ :: rest) k n σ w := fun a ha => by
  have h1 := he a ha (some d) pos after g
  unfold wpList
  rw [if_pos (wantS_spec ha (o := ⟨some d, op, ty, pos, after, g⟩) hg)]
  refine .inl ?_
  unfold Oper.wp
  rw [h1]
  exact h _ (ha.put hd v)
theorem OW.eff {op : Op} {ty : TypeId} {pos : String} {after : Array Edge} {g : Option (Nat × Bool)} (hg : wantS ops σ g = some true) (he : EU P n σ op ty w w')
    (h : OW P R ops rest k n σ w') : OW P R ops (⟨none, op, ty, pos, after, g⟩ :: rest) k n σ w := fun a ha => by
  have h1 := he a ha none pos after g
  unfold wpList
  rw [if_pos (wantS_spec ha (o := ⟨none, op, ty, pos, after, g⟩) hg)]
  refine .inl ?_
  unfold Oper.wp
  rw [h1]
  exact h _ ha
theorem OW.pass {d : Nat} {op : Op} {ty : TypeId} {pos : String} {after : Array Edge} {g : Option (Nat × Bool)} (hg : wantS ops σ g = some false) (hd : Nat.blt d n = true)
    (h : OW P R ops rest k n ((d, undef) :: σ) w) : OW P R ops (⟨some d, op, ty, pos, after, g⟩ :: rest) k n σ w := fun a ha => by
  unfold wpList
  rw [if_neg (by rw [wantS_spec ha (o := ⟨some d, op, ty, pos, after, g⟩) hg]; simp)]
  exact h _ (ha.put hd undef)
def Ret (P : Program) (f : FuncId) (args : List Value) (w : World) (Q : Value → World → Prop) : Prop :=
  (∃ fn, P.funcs[f]? = some fn ∧ (!(fn.name == "runtime.NumGoroutine") && fn.body.isSome) = true) ∧ Calls P f args.toArray w fun e w' => ∃ v, e = .returned v ∧ Q v w'
theorem Ret.mono {f : FuncId} {args : List Value} {Q Q' : Value → World → Prop} (h : Ret P f args w Q) (hq : ∀ v w', Q v w' → Q' v w') : Ret P f args w Q' :=
  ⟨h.1, h.2.mono fun _ _ ⟨v, e, q⟩ => ⟨v, e, hq _ _ q⟩⟩
theorem run_callFunc {f : FuncId} {fn : Func} (hf : P.funcs[f]? = some fn) (hn : (!(fn.name == "runtime.NumGoroutine") && fn.body.isSome) = true) (args : Array Value) :
    (callFunc f args).run P w = .ok (.enter f args) w := by
  simp only [Bool.and_eq_true, Bool.not_eq_true', beq_eq_false_iff_ne] at hn
  have h2 : fn.body ≠ none := by intro e; rw [e] at hn; exact absurd hn.2 (by simp)
  unfold callFunc
  simp [program, Sem.run_bind, Sem.run, hf, hn.1, h2]
theorem OW.callE {d : Nat} {op : Op} {ty : TypeId} {pos : String} {after : Array Edge} {g : Option (Nat × Bool)} {f : FuncId} {args : List Value} {Q : Value → World → Prop} (hg : wantS ops σ g = some true) (hd : Nat.blt d n = true)
    (he : EC P n σ op ty w f args.toArray) (hc : Ret P f args w Q) (h : ∀ v w', Q v w' → OW P R ops rest k n ((d, v) :: σ) w') : OW P R ops (⟨some d, op, ty, pos, after, g⟩ :: rest) k n σ w := fun a ha => by
  have h1 := he a ha (some d) pos after g
  unfold wpList
  rw [if_pos (wantS_spec ha (o := ⟨some d, op, ty, pos, after, g⟩) hg)]
  refine .inl ?_
  unfold Oper.wp
  rw [h1]
  refine hc.2.mono fun e w'' ⟨v, he, q⟩ => ?_
  subst he
  exact h v w'' q _ (ha.put hd v)
theorem EC.go {f : FuncId} {xs : List Operand} {vs : List Value} {ats : Array TypeId} {ty : TypeId} {fn : Func} (hf : P.funcs[f]? = some fn) (hn : (!(fn.name == "runtime.NumGoroutine") && fn.body.isSome) = true) (hx : evs σ xs = some vs) :
    EC P n σ (.call { callee := .value (.func f), args := xs.toArray, argTypes := ats }) ty w f vs.toArray := fun a ha dst pos after g => by
  rw [execOp_call_go]
  have : #[] ++ xs.toArray.map a.eval ++ #[] = vs.toArray := by simp [ha.evs hx]
  rw [this]
  exact run_callFunc hf hn _
theorem OW.call {d : Nat} {f : FuncId} {xs : List Operand} {ats : Array TypeId} {ty : TypeId} {pos : String} {after : Array Edge} {g : Option (Nat × Bool)} {vs : List Value} {Q : Value → World → Prop}
    (hg : wantS ops σ g = some true) (hd : Nat.blt d n = true) (hx : evs σ xs = some vs) (hc : Ret P f vs w Q) (h : ∀ v w', Q v w' → OW P R ops rest k n ((d, v) :: σ) w') :
    OW P R ops (⟨some d, .call { callee := .value (.func f), args := xs.toArray, argTypes := ats }, ty, pos, after, g⟩ :: rest) k n σ w := by
  obtain ⟨⟨fn, h1, h2⟩, _⟩ := id hc
  exact OW.callE hg hd (EC.go h1 h2 hx) hc h
end
def QW (P : Program) (R : Act → World → Prop) (ops : Array Oper) (l : List Oper) (k : List KI) (n : Nat) (σ : Sig) (w : World) : Prop := ∀ a, Fr n σ a →
  wpQuiet P ops (fun w' => ∃ m, w' = w.drewN m) (fun a' => ∀ w', (∃ m, w' = w.drewN m) → pst P R k .normal a' w') l a
section
variable {P : Program} {R : Act → World → Prop} {ops : Array Oper} {l rest : List Oper} {k : List KI} {n : Nat} {σ : Sig} {w : World}
theorem KW.regionQ {id : Nat} (hm : P.follows .mixedOrders = true) (hB : Region.lexB .any l.toArray = true) (h : QW P R l.toArray l k n σ w) : KW P R (.code (.region id l.toArray true) :: k) n σ w := fun a ha =>
  wp_region_quiet_lit hm hB (h a ha)
theorem QW.nil (h : ∀ m, KW P R k n σ (w.drewN m)) : QW P R ops [] k n σ w := fun a ha => wpQuiet_nil (by rintro w' ⟨m, rfl⟩; exact h m a ha)
theorem QW.val {d : Nat} {op : Op} {ty : TypeId} {pos : String} {after : Array Edge} {g : Option (Nat × Bool)} {v : Value} (hg : wantS ops σ g = some true) (hd : Nat.blt d n = true) (he : ∀ m, EX P n σ op ty (w.drewN m) v (w.drewN m))
    (h : QW P R ops rest k n ((d, v) :: σ) w) : QW P R ops (⟨some d, op, ty, pos, after, g⟩ :: rest) k n σ w := fun a ha => by
  unfold wpQuiet
  rw [if_pos (wantS_spec ha (o := ⟨some d, op, ty, pos, after, g⟩) hg)]
  refine ⟨v, ?_, h _ (ha.put hd v)⟩
  rintro w' ⟨m, rfl⟩
  unfold Oper.quietAt
  rw [he m a ha (some d) pos after g]
  exact ⟨rfl, rfl⟩
theorem QW.pass {d : Nat} {op : Op} {ty : TypeId} {pos : String} {after : Array Edge} {g : Option (Nat × Bool)} (hg : wantS ops σ g = some false) (hd : Nat.blt d n = true)
    (h : QW P R ops rest k n ((d, undef) :: σ) w) : QW P R ops (⟨some d, op, ty, pos, after, g⟩ :: rest) k n σ w := fun a ha => by
  unfold wpQuiet
  rw [if_neg (by rw [wantS_spec ha (o := ⟨some d, op, ty, pos, after, g⟩) hg]; simp)]
  exact h _ (ha.put hd undef)
theorem QW.as (t : Nat) (v' : Value) {v : Value} (ht : lk σ t = some v) (e : v = v') (h : QW P R ops l k n ((t, v') :: σ) w) : QW P R ops l k n σ w := fun a ha =>
  h a ⟨ha.size, fun i u hu => by
    rw [lk_cons] at hu
    by_cases e' : t = i
    · subst e'
      simp at hu
      subst hu
      rw [← e]
      exact ha.val t _ ht
    · simp [e'] at hu
      exact ha.val i u hu, ha.df⟩
theorem QW.splitD (t : Nat) {p : Prop} [Decidable p] (ht : lk σ t = some (.bool (decide p))) (h1 : p → QW P R ops l k n ((t, .bool true) :: σ) w) (h2 : ¬ p → QW P R ops l k n ((t, .bool false) :: σ) w) : QW P R ops l k n σ w := by
  by_cases hp : p
  · exact QW.as t _ ht (by rw [decide_eq_true hp]) (h1 hp)
  · exact QW.as t _ ht (by rw [decide_eq_false hp]) (h2 hp)
def RetQ (P : Program) (f : FuncId) (args : List Value) (w : World) (v : Value) : Prop := Ret P f args w fun v' w' => v' = v ∧ ∃ m, w' = w.drewN m
theorem QW.call {d : Nat} {f : FuncId} {xs : List Operand} {ats : Array TypeId} {ty : TypeId} {pos : String} {after : Array Edge} {g : Option (Nat × Bool)} {vs : List Value} {v : Value}
    (hg : wantS ops σ g = some true) (hd : Nat.blt d n = true) (hx : evs σ xs = some vs) (hc : ∀ m, RetQ P f vs (w.drewN m) v) (h : QW P R ops rest k n ((d, v) :: σ) w) :
    QW P R ops (⟨some d, .call { callee := .value (.func f), args := xs.toArray, argTypes := ats }, ty, pos, after, g⟩ :: rest) k n σ w := fun a ha => by
  unfold wpQuiet
  rw [if_pos (wantS_spec ha (o := ⟨some d, .call { callee := .value (.func f), args := xs.toArray, argTypes := ats }, ty, pos, after, g⟩) hg)]
  refine ⟨v, ?_, h _ (ha.put hd v)⟩
  rintro w' ⟨m, rfl⟩
  unfold Oper.quietAt
  obtain ⟨⟨fn, h1, h2⟩, hcc⟩ := hc m
  rw [EC.go (n := n) h1 h2 hx a ha (some d) pos after g]
  refine ⟨rfl, hcc.mono ?_⟩
  rintro e w'' ⟨v', rfl, rfl, m', rfl⟩
  exact ⟨rfl, m + m', by rw [World.drewN_drewN]⟩
end
def HW (P : Program) (R : Act → World → Prop) (ops : Array Oper) (l : List Oper) (N : Nat) (k : List KI) (n : Nat) (σ : Sig) (w : World) : Prop := ∀ a, Fr n σ a →
  wpStill P ops w (fun a' => wpList P ops (pst P R k) (l.drop N) a' w) (l.take N) a
section
variable {P : Program} {R : Act → World → Prop} {ops : Array Oper} {l rest : List Oper} {N : Nat} {k : List KI} {n : Nat} {σ : Sig} {w : World}
theorem KW.regionH {id : Nat} (N : Nat) (hm : P.follows .mixedOrders = true) (hB : Region.lexTailB .any l.toArray N = true) (h : HW P R l.toArray l N k n σ w.drew) : KW P R (.code (.region id l.toArray true) :: k) n σ w := fun a ha =>
  wp_region_still_tail N hm hB (h a ha)
theorem HW.tail (h : OW P R ops l k n σ w) : HW P R ops l 0 k n σ w := fun a ha => wpStill_nil (h a ha)
theorem HW.val {d : Nat} {op : Op} {ty : TypeId} {pos : String} {after : Array Edge} {g : Option (Nat × Bool)} {v : Value} (hg : wantS ops σ g = some true) (hd : Nat.blt d n = true) (he : EX P n σ op ty w v w)
    (h : HW P R ops rest N k n ((d, v) :: σ) w) : HW P R ops (⟨some d, op, ty, pos, after, g⟩ :: rest) (N + 1) k n σ w := fun a ha => by
  show wpStill P ops w _ (_ :: rest.take N) a
  unfold wpStill
  rw [if_pos (wantS_spec ha (o := ⟨some d, op, ty, pos, after, g⟩) hg)]
  unfold Oper.still
  rw [he a ha (some d) pos after g]
  exact ⟨rfl, h _ (ha.put hd v)⟩
theorem HW.pass {d : Nat} {op : Op} {ty : TypeId} {pos : String} {after : Array Edge} {g : Option (Nat × Bool)} (hg : wantS ops σ g = some false) (hd : Nat.blt d n = true)
    (h : HW P R ops rest N k n ((d, undef) :: σ) w) : HW P R ops (⟨some d, op, ty, pos, after, g⟩ :: rest) (N + 1) k n σ w := fun a ha => by
  show wpStill P ops w _ (_ :: rest.take N) a
  unfold wpStill
  rw [if_neg (by rw [wantS_spec ha (o := ⟨some d, op, ty, pos, after, g⟩) hg]; simp)]
  exact h _ (ha.put hd undef)
theorem HW.as (t : Nat) (v' : Value) {v : Value} (ht : lk σ t = some v) (e : v = v') (h : HW P R ops l N k n ((t, v') :: σ) w) : HW P R ops l N k n σ w := fun a ha =>
  h a ⟨ha.size, fun i u hu => by
    rw [lk_cons] at hu
    by_cases e' : t = i
    · subst e'
      simp at hu
      subst hu
      rw [← e]
      exact ha.val t _ ht
    · simp [e'] at hu
      exact ha.val i u hu, ha.df⟩
theorem HW.splitD (t : Nat) {p : Prop} [Decidable p] (ht : lk σ t = some (.bool (decide p))) (h1 : p → HW P R ops l N k n ((t, .bool true) :: σ) w) (h2 : ¬ p → HW P R ops l N k n ((t, .bool false) :: σ) w) : HW P R ops l N k n σ w := by
  by_cases hp : p
  · exact HW.as t _ ht (by rw [decide_eq_true hp]) (h1 hp)
  · exact HW.as t _ ht (by rw [decide_eq_false hp]) (h2 hp)
theorem HW.call {d : Nat} {f : FuncId} {xs : List Operand} {ats : Array TypeId} {ty : TypeId} {pos : String} {after : Array Edge} {g : Option (Nat × Bool)} {vs : List Value} {v : Value}
    (hg : wantS ops σ g = some true) (hd : Nat.blt d n = true) (hx : evs σ xs = some vs) (hc : Ret P f vs w fun v' w' => v' = v ∧ w' = w) (h : HW P R ops rest N k n ((d, v) :: σ) w) :
    HW P R ops (⟨some d, .call { callee := .value (.func f), args := xs.toArray, argTypes := ats }, ty, pos, after, g⟩ :: rest) (N + 1) k n σ w := fun a ha => by
  show wpStill P ops w _ (_ :: rest.take N) a
  unfold wpStill
  rw [if_pos (wantS_spec ha (o := ⟨some d, .call { callee := .value (.func f), args := xs.toArray, argTypes := ats }, ty, pos, after, g⟩) hg)]
  unfold Oper.still
  obtain ⟨⟨fn, h1, h2⟩, hcc⟩ := hc
  rw [EC.go (n := n) h1 h2 hx a ha (some d) pos after g]
  refine ⟨rfl, v, hcc.mono ?_, h _ (ha.put hd v)⟩
  rintro e w'' ⟨v', rfl, rfl, rfl⟩
  exact ⟨rfl, rfl⟩
end
def argSig : Nat → List Value → Sig
  | _, [] => []
  | i, v :: r => (i, v) :: argSig (i + 1) r
theorem argSig_lk : ∀ (l : List Value) (i t : Nat) (v : Value), lk (argSig i l) t = some v → i ≤ t ∧ l[t - i]? = some v
  | [], _, _, _, h => by simp [argSig, lk] at h
  | u :: r, i, t, v, h => by
    simp only [argSig] at h
    rw [lk_cons] at h
    by_cases e : i = t
    · subst e
      simp at h
      subst h
      simp
    · simp [e] at h
      obtain ⟨h1, h2⟩ := argSig_lk r (i + 1) t v h
      refine ⟨by omega, ?_⟩
      rw [show t - i = (t - (i + 1)) + 1 by omega]
      simpa using h2
theorem Fr.start (args : List Value) (m : Nat) : Fr (args.length + m) (argSig 0 args) { tmps := args.toArray ++ Array.replicate m undef, defers := [] } :=
  ⟨by simp, fun t v h => by
    obtain ⟨_, h2⟩ := argSig_lk args 0 t v h
    have hlt : t < args.length := by
      rcases Nat.lt_or_ge t args.length with h' | h'
      · exact h'
      · simp [List.getElem?_eq_none h'] at h2
    rw [Array.getElem?_append_left (by simpa using hlt)]
    simpa using h2, rfl⟩
theorem Ret.enter {P : Program} {f : FuncId} {fn : Func} {c : Code} {args : List Value} {w : World} {Q : Value → World → Prop} {n : Nat} (hf : P.funcs[f]? = some fn) (hb : fn.body = some c) (hnt : fn.ntmps = n)
    (hn : (!(fn.name == "runtime.NumGoroutine") && fn.body.isSome) = true) (hl : args.length + (n - args.length) = n)
    (h : KW P (fun a w' => bodyPost P fn (fun e w' => ∃ v, e = .returned v ∧ Q v w') .ret a w') [.code c] n (argSig 0 args) w) : Ret P f args w Q := by
  refine ⟨⟨fn, hf, hn⟩, calls_of_wp hf hb ?_⟩
  have hfr : Fr n (argSig 0 args) { tmps := args.toArray ++ Array.replicate (fn.ntmps - args.toArray.size) undef, defers := [] } := by
    have := Fr.start args (n - args.length)
    rw [hl] at this
    simpa [hnt] using this
  have h1 := h _ hfr
  simp only [pst] at h1
  refine Code.wp_mono (fun e a' w' q => ?_) h1
  cases e with
  | normal => exact q
  | ret => exact q
  | _ => exact q.elim
section
variable {P : Program} {fn : Func} {Q : Value → World → Prop} {n : Nat} {σ : Sig} {w : World} {k : List KI}
theorem ret_of {v : Value} (hr : ∀ a, Fr n σ a → (results fn a.tmps).run P w = .ok v w) (hq : Q v w) : ∀ a, Fr n σ a → bodyPost P fn (fun e w' => ∃ v, e = .returned v ∧ Q v w') .ret a w :=
  fun a ha => ⟨ha.df, v, hr a ha, v, rfl, hq⟩
theorem ret1 {t : Nat} {v : Value} (hs : fn.results = #[.tmp t]) (hv : lk σ t = some v) (hq : Q v w) : ∀ a, Fr n σ a → bodyPost P fn (fun e w' => ∃ v, e = .returned v ∧ Q v w') .ret a w :=
  ret_of (fun a ha => by rw [results_tmp hs]; simp [ha.val t v hv]) hq
theorem ret0 (hs : fn.results = #[]) (hq : Q (.tuple #[]) w) : ∀ a, Fr n σ a → bodyPost P fn (fun e w' => ∃ v, e = .returned v ∧ Q v w') .ret a w :=
  ret_of (fun _ _ => results_none hs _ _ _) hq
theorem ret2 {t u : Nat} {v x : Value} (hs : fn.results = #[.tmp t, .tmp u]) (hv : lk σ t = some v) (hx : lk σ u = some x) (hq : Q (.tuple #[v, x]) w) : ∀ a, Fr n σ a → bodyPost P fn (fun e w' => ∃ v, e = .returned v ∧ Q v w') .ret a w :=
  ret_of (fun a ha => by rw [results_tmp2 hs]; simp [ha.val t v hv, ha.val u x hx]) hq
theorem ret3 {t u s : Nat} {v x y : Value} (hs : fn.results = #[.tmp t, .tmp u, .tmp s]) (hv : lk σ t = some v) (hx : lk σ u = some x) (hy : lk σ s = some y) (hq : Q (.tuple #[v, x, y]) w) :
    ∀ a, Fr n σ a → bodyPost P fn (fun e w' => ∃ v, e = .returned v ∧ Q v w') .ret a w :=
  ret_of (fun a ha => by rw [results_tmp3 hs]; simp [ha.val t v hv, ha.val u x hx, ha.val s y hy]) hq
end
end Go.Proofs.YthgfdpcpbghkpaaGreatDoor
namespace Go.Proofs.YthgfdpcpbghkpaaGreatDoor
open Go.RowKit
def maxN : IntKind → Nat
  | .i8 => 127 | .i16 => 32767 | .i32 => 2147483647 | .i64 => 9223372036854775807
  | .u8 => 255 | .u16 => 65535 | .u32 => 4294967295 | .u64 => 18446744073709551615
def modN : IntKind → Nat
  | .u8 => 256 | .u16 => 65536 | .u32 => 4294967296 | .u64 => 18446744073709551616 | _ => 0
theorem wrap_fit {k : IntKind} {m a : Nat} (hm : maxN k = m) (h : a ≤ m) : k.wrap (a : Int) = a := by
  subst hm
  cases k <;> simp only [maxN] at h <;> first
    | exact IntWalk.i8_in _ (by omega) | exact IntWalk.i16_in _ (by omega) | exact IntWalk.i32_in _ (by omega) | exact IntWalk.i64_in _ (by omega)
    | exact IntWalk.u8_in _ (by omega) | exact IntWalk.u16_in _ (by omega) | exact IntWalk.u32_in _ (by omega) | exact IntWalk.u64_in _ (by omega)
theorem wrap_mod {k : IntKind} {m a : Nat} (hm : modN k = m) (hp : 0 < m) : k.wrap (a : Int) = ((a % m : Nat) : Int) := by
  subst hm
  cases k <;> simp [modN] at hp <;> simp [modN, IntKind.wrap, IntKind.bits, IntKind.signed]
theorem wrap_fitZ {k : IntKind} {m : Nat} {a : Int} (hs : k.signed = true) (hm : maxN k = m) (h : -((m : Int) + 1) ≤ a ∧ a ≤ m) : k.wrap a = a := by
  subst hm
  cases k <;> simp [IntKind.signed] at hs <;> simp only [maxN] at h <;> first
    | exact IntWalk.i8_in _ (by omega) | exact IntWalk.i16_in _ (by omega) | exact IntWalk.i32_in _ (by omega) | exact IntWalk.i64_in _ (by omega)
theorem maxN_lt (k : IntKind) : maxN k < 2 ^ k.bits := by cases k <;> decide
abbrev str (l : List UInt8) : Value := .string ⟨⟨l⟩⟩
section
variable {P : Program} {n : Nat} {σ : Sig} {w : World} {t t' : TypeId} {ty : TypeId} {x y : Operand} {k : IntKind} {a b m : Nat} {c d : Int}
theorem EX.move {v : Value} (hx : ev σ x = some v) : EX P n σ (.move x) ty w v w := fun a ha dst pos after g => by
  simp only [execOp, ha.ev hx]; rfl
theorem EX.assign {v : Value} (hx : ev σ x = some v) : EX P n σ (.assign x) ty w v w := fun a ha dst pos after g => by
  simp only [execOp, ha.ev hx]; rfl
theorem EX.pickT {z : Operand} {v : Value} (hx : ev σ x = some (.bool true)) (hy : ev σ y = some v) : EX P n σ (.pick x y z) ty w v w := fun a ha dst pos after g => by
  simp only [execOp, ha.ev hx, ha.ev hy]; rfl
theorem EX.pickF {z : Operand} {v : Value} (hx : ev σ x = some (.bool false)) (hz : ev σ z = some v) : EX P n σ (.pick x y z) ty w v w := fun a ha dst pos after g => by
  simp only [execOp, ha.ev hx, ha.ev hz]; rfl
theorem EX.bin {op : BinOp} {u v r : Value} (hx : ev σ x = some u) (hy : ev σ y = some v) (hg : (eqGuard op t x y u v).run P w = .ok () w) (hr : (binOp op t u v).run P w = .ok r w) : EX P n σ (.binOp op t x y t') ty w r w := fun a ha dst pos after g => by
  simp only [execOp, ha.ev hx, ha.ev hy, Sem.run_bind, hg, hr, Result.andThen_ok]; rfl
theorem guard_int (op : BinOp) (i j : Int) : (eqGuard op t x y (.int k i) (.int k j)).run P w = .ok () w := by
  unfold eqGuard; cases op <;> rfl
theorem guard_str (op : BinOp) (i j : ByteArray) : (eqGuard op t x y (.string i) (.string j)).run P w = .ok () w := by
  unfold eqGuard; cases op <;> rfl
theorem EX.binI {op : BinOp} {i j : Int} {r : Value} (hx : ev σ x = some (.int k i)) (hy : ev σ y = some (.int k j)) (hr : (binOp op t (.int k i) (.int k j)).run P w = .ok r w) : EX P n σ (.binOp op t x y t') ty w r w :=
  EX.bin hx hy (guard_int op i j) hr
theorem EX.addN (hx : ev σ x = some (.int k (a : Int))) (hy : ev σ y = some (.int k (b : Int))) (hm : maxN k = m) (h : a + b ≤ m) : EX P n σ (.binOp .add t x y t') ty w (.int k ((a + b : Nat) : Int)) w :=
  EX.binI hx hy (by
    have := wrap_fit hm h
    simp only [Int.natCast_add] at this ⊢
    simp [binOp, Op.intArith, this])
theorem EX.subN (hx : ev σ x = some (.int k (a : Int))) (hy : ev σ y = some (.int k (b : Int))) (hm : maxN k = m) (h : b ≤ a ∧ a ≤ m) : EX P n σ (.binOp .sub t x y t') ty w (.int k ((a - b : Nat) : Int)) w :=
  EX.binI hx hy (by
    have := wrap_fit hm (show a - b ≤ m by omega)
    rw [Int.natCast_sub h.1] at this ⊢
    simp [binOp, Op.intArith, this])
theorem EX.mulN (hx : ev σ x = some (.int k (a : Int))) (hy : ev σ y = some (.int k (b : Int))) (hm : maxN k = m) (h : a * b ≤ m) : EX P n σ (.binOp .mul t x y t') ty w (.int k ((a * b : Nat) : Int)) w :=
  EX.binI hx hy (by
    have := wrap_fit hm h
    simp only [Int.natCast_mul] at this ⊢
    simp [binOp, Op.intArith, this])
theorem EX.addW (hx : ev σ x = some (.int k (a : Int))) (hy : ev σ y = some (.int k (b : Int))) (hm : modN k = m) (hp : 0 < m) : EX P n σ (.binOp .add t x y t') ty w (.int k (((a + b) % m : Nat) : Int)) w :=
  EX.binI hx hy (by
    have := wrap_mod (a := a + b) hm hp
    rw [← this]
    simp [binOp, Op.intArith])
theorem EX.mulW (hx : ev σ x = some (.int k (a : Int))) (hy : ev σ y = some (.int k (b : Int))) (hm : modN k = m) (hp : 0 < m) : EX P n σ (.binOp .mul t x y t') ty w (.int k (((a * b) % m : Nat) : Int)) w :=
  EX.binI hx hy (by
    have := wrap_mod (a := a * b) hm hp
    rw [← this]
    simp [binOp, Op.intArith])
theorem EX.quoN (hx : ev σ x = some (.int k (a : Int))) (hy : ev σ y = some (.int k (b : Int))) (hm : maxN k = m) (h : 0 < b ∧ a ≤ m) : EX P n σ (.binOp .quo t x y t') ty w (.int k ((a / b : Nat) : Int)) w :=
  EX.binI hx hy (by
    have hle : a / b ≤ a := Nat.div_le_self _ _
    have := wrap_fit hm (show a / b ≤ m by omega)
    have hb : ¬ (b : Int) = 0 := by omega
    have hq : (a : Int).tdiv b = ((a / b : Nat) : Int) := rfl
    unfold binOp
    simp only [ne_eq, not_true_eq_false, if_false, Op.intDiv, if_neg hb, hq, this]
    rfl)
theorem EX.remN (hx : ev σ x = some (.int k (a : Int))) (hy : ev σ y = some (.int k (b : Int))) (h : 0 < b) : EX P n σ (.binOp .rem t x y t') ty w (.int k ((a % b : Nat) : Int)) w :=
  EX.binI hx hy (by
    have hb : ¬ (b : Int) = 0 := by omega
    have hq : (a : Int).tmod b = ((a % b : Nat) : Int) := rfl
    unfold binOp
    simp only [ne_eq, not_true_eq_false, if_false, Op.intDiv, if_neg hb, hq]
    rfl)
theorem ofInt_fit {k : IntKind} {a : Nat} (h : a ≤ maxN k) : (BitVec.ofInt k.bits (a : Int)).toNat = a := by
  rw [BitVec.ofInt_natCast, BitVec.toNat_ofNat]
  exact Nat.mod_eq_of_lt (Nat.lt_of_le_of_lt h (maxN_lt k))
theorem mod_fit {k : IntKind} {a : Nat} (h : a ≤ maxN k) : a % 2 ^ k.bits = a := Nat.mod_eq_of_lt (Nat.lt_of_le_of_lt h (maxN_lt k))
theorem bits_le (k : IntKind) : ∃ j, maxN k + 1 = 2 ^ j := by cases k <;> first | exact ⟨7, rfl⟩ | exact ⟨15, rfl⟩ | exact ⟨31, rfl⟩ | exact ⟨63, rfl⟩ | exact ⟨8, rfl⟩ | exact ⟨16, rfl⟩ | exact ⟨32, rfl⟩ | exact ⟨64, rfl⟩
theorem EX.andN (hx : ev σ x = some (.int k (a : Int))) (hy : ev σ y = some (.int k (b : Int))) (hm : maxN k = m) (h : a ≤ m ∧ b ≤ m) : EX P n σ (.binOp .and t x y t') ty w (.int k ((a &&& b : Nat) : Int)) w :=
  EX.binI hx hy (by
    subst hm
    have hle : a &&& b ≤ a := Nat.and_le_left
    have := wrap_fit rfl (show a &&& b ≤ maxN k by omega)
    simp [binOp, Op.intBits, mod_fit h.1, mod_fit h.2, this])
theorem EX.orN (hx : ev σ x = some (.int k (a : Int))) (hy : ev σ y = some (.int k (b : Int))) (hm : maxN k = m) (h : a ≤ m ∧ b ≤ m) : EX P n σ (.binOp .or t x y t') ty w (.int k ((a ||| b : Nat) : Int)) w :=
  EX.binI hx hy (by
    subst hm
    obtain ⟨j, hj⟩ := bits_le k
    have hlt : a ||| b < 2 ^ j := Nat.or_lt_two_pow (by omega) (by omega)
    have := wrap_fit rfl (show a ||| b ≤ maxN k by omega)
    simp [binOp, Op.intBits, mod_fit h.1, mod_fit h.2, this])
theorem EX.xorN (hx : ev σ x = some (.int k (a : Int))) (hy : ev σ y = some (.int k (b : Int))) (hm : maxN k = m) (h : a ≤ m ∧ b ≤ m) : EX P n σ (.binOp .xor t x y t') ty w (.int k ((a ^^^ b : Nat) : Int)) w :=
  EX.binI hx hy (by
    subst hm
    obtain ⟨j, hj⟩ := bits_le k
    have hlt : a ^^^ b < 2 ^ j := Nat.xor_lt_two_pow (by omega) (by omega)
    have := wrap_fit rfl (show a ^^^ b ≤ maxN k by omega)
    simp [binOp, Op.intBits, mod_fit h.1, mod_fit h.2, this])
theorem EX.maskN {j p : Nat} (hx : ev σ x = some (.int k (a : Int))) (hy : ev σ y = some (.int k (b : Int))) (hp : 2 ^ j = p) (hb : b + 1 = p) (hm : maxN k = m) (h : a ≤ m ∧ b ≤ m) : EX P n σ (.binOp .and t x y t') ty w (.int k ((a % p : Nat) : Int)) w := by
  have h1 := EX.andN (P := P) (n := n) (w := w) (t := t) (t' := t') (ty := ty) hx hy hm h
  have : a &&& b = a % p := by
    rw [show b = p - 1 by omega, ← hp]
    exact Nat.and_two_pow_sub_one_eq_mod a j
  rwa [this] at h1
theorem EX.shlN {s p : Nat} {k' : IntKind} (hx : ev σ x = some (.int k (a : Int))) (hy : ev σ y = some (.int k' (s : Int))) (hp : 2 ^ s = p) (hs : s ≤ k.bits) (hm : maxN k = m) (h : a * p ≤ m) :
    EX P n σ (.binOp .shl t x y t') ty w (.int k ((a * p : Nat) : Int)) w :=
  EX.bin hx hy (by unfold eqGuard; rfl) (by
    subst hp
    have := wrap_fit hm h
    have hn : ¬ (s : Int) < 0 := by omega
    simp only [Int.natCast_mul, Int.natCast_pow, Int.cast_ofNat_Int] at this ⊢
    simp [binOp, Op.shift, hn, Nat.min_eq_left hs, this])
theorem EX.shlW {s p : Nat} {k' : IntKind} (hx : ev σ x = some (.int k (a : Int))) (hy : ev σ y = some (.int k' (s : Int))) (hp : 2 ^ s = p) (hs : s ≤ k.bits) (hm : modN k = m) (h : 0 < m) :
    EX P n σ (.binOp .shl t x y t') ty w (.int k (((a * p) % m : Nat) : Int)) w :=
  EX.bin hx hy (by unfold eqGuard; rfl) (by
    subst hp
    have := wrap_mod (a := a * 2 ^ s) hm h
    have hn : ¬ (s : Int) < 0 := by omega
    rw [← this]
    simp only [Int.natCast_mul, Int.natCast_pow, Int.cast_ofNat_Int]
    simp [binOp, Op.shift, hn, Nat.min_eq_left hs])
theorem EX.shrN {s p : Nat} {k' : IntKind} (hx : ev σ x = some (.int k (a : Int))) (hy : ev σ y = some (.int k' (s : Int))) (hp : 2 ^ s = p) (hs : s ≤ k.bits) :
    EX P n σ (.binOp .shr t x y t') ty w (.int k ((a / p : Nat) : Int)) w :=
  EX.bin hx hy (by unfold eqGuard; rfl) (by
    subst hp
    have hn : ¬ (s : Int) < 0 := by omega
    have hf : (a : Int).fdiv (2 ^ s) = ((a / 2 ^ s : Nat) : Int) := by
      rw [Int.fdiv_eq_ediv_of_nonneg _ (by exact_mod_cast Nat.zero_le _)]
      simp
    simp [binOp, Op.shift, hn, Nat.min_eq_left hs, hf])
theorem run_cmp {op : BinOp} {i j : Int} {q : Bool} (h : (Op.intCmp op i j).run P w = .ok (.bool q) w) (ho : (match op with | .eql | .neq | .lss | .leq | .gtr | .geq => true | _ => false) = true) : (binOp op t (.int k i) (.int k j)).run P w = .ok (.bool q) w := by
  cases op <;> simp at ho <;> simpa [binOp] using h
theorem EX.lssN (hx : ev σ x = some (.int k (a : Int))) (hy : ev σ y = some (.int k (b : Int))) : EX P n σ (.binOp .lss t x y t') ty w (.bool (decide (a < b))) w :=
  EX.binI hx hy (run_cmp (by simp [Op.intCmp]) rfl)
theorem EX.leqN (hx : ev σ x = some (.int k (a : Int))) (hy : ev σ y = some (.int k (b : Int))) : EX P n σ (.binOp .leq t x y t') ty w (.bool (decide (a ≤ b))) w :=
  EX.binI hx hy (run_cmp (by simp [Op.intCmp]) rfl)
theorem EX.gtrN (hx : ev σ x = some (.int k (a : Int))) (hy : ev σ y = some (.int k (b : Int))) : EX P n σ (.binOp .gtr t x y t') ty w (.bool (decide (b < a))) w :=
  EX.binI hx hy (run_cmp (by simp [Op.intCmp]) rfl)
theorem EX.geqN (hx : ev σ x = some (.int k (a : Int))) (hy : ev σ y = some (.int k (b : Int))) : EX P n σ (.binOp .geq t x y t') ty w (.bool (decide (b ≤ a))) w :=
  EX.binI hx hy (run_cmp (by simp [Op.intCmp]) rfl)
theorem EX.eqlN (hx : ev σ x = some (.int k (a : Int))) (hy : ev σ y = some (.int k (b : Int))) : EX P n σ (.binOp .eql t x y t') ty w (.bool (decide (a = b))) w :=
  EX.binI hx hy (run_cmp (by
    have : ((a : Int) == (b : Int)) = decide (a = b) := by rw [Bool.eq_iff_iff]; simp; omega
    simp only [Op.intCmp, this]; rfl) rfl)
theorem EX.neqN (hx : ev σ x = some (.int k (a : Int))) (hy : ev σ y = some (.int k (b : Int))) : EX P n σ (.binOp .neq t x y t') ty w (.bool (decide (a ≠ b))) w :=
  EX.binI hx hy (run_cmp (by
    have : ((a : Int) != (b : Int)) = decide (a ≠ b) := by rw [Bool.eq_iff_iff]; simp; omega
    simp only [Op.intCmp, this]; rfl) rfl)
theorem EX.lssZ (hx : ev σ x = some (.int k c)) (hy : ev σ y = some (.int k d)) : EX P n σ (.binOp .lss t x y t') ty w (.bool (decide (c < d))) w :=
  EX.binI hx hy (run_cmp (by simp [Op.intCmp]) rfl)
theorem EX.leqZ (hx : ev σ x = some (.int k c)) (hy : ev σ y = some (.int k d)) : EX P n σ (.binOp .leq t x y t') ty w (.bool (decide (c ≤ d))) w :=
  EX.binI hx hy (run_cmp (by simp [Op.intCmp]) rfl)
theorem EX.gtrZ (hx : ev σ x = some (.int k c)) (hy : ev σ y = some (.int k d)) : EX P n σ (.binOp .gtr t x y t') ty w (.bool (decide (d < c))) w :=
  EX.binI hx hy (run_cmp (by simp [Op.intCmp]) rfl)
theorem EX.geqZ (hx : ev σ x = some (.int k c)) (hy : ev σ y = some (.int k d)) : EX P n σ (.binOp .geq t x y t') ty w (.bool (decide (d ≤ c))) w :=
  EX.binI hx hy (run_cmp (by simp [Op.intCmp]) rfl)
theorem EX.eqlZ (hx : ev σ x = some (.int k c)) (hy : ev σ y = some (.int k d)) : EX P n σ (.binOp .eql t x y t') ty w (.bool (decide (c = d))) w :=
  EX.binI hx hy (run_cmp (by simp [Op.intCmp, BEq.beq]) rfl)
theorem EX.neqZ (hx : ev σ x = some (.int k c)) (hy : ev σ y = some (.int k d)) : EX P n σ (.binOp .neq t x y t') ty w (.bool (decide (c ≠ d))) w :=
  EX.binI hx hy (run_cmp (by simp [Op.intCmp, bne, BEq.beq]) rfl)
theorem EX.addZ (hx : ev σ x = some (.int k c)) (hy : ev σ y = some (.int k d)) (hs : k.signed = true) (hm : maxN k = m) (h : -((m : Int) + 1) ≤ c + d ∧ c + d ≤ m) : EX P n σ (.binOp .add t x y t') ty w (.int k (c + d)) w :=
  EX.binI hx hy (by simp [binOp, Op.intArith, wrap_fitZ hs hm h])
theorem EX.subZ (hx : ev σ x = some (.int k c)) (hy : ev σ y = some (.int k d)) (hs : k.signed = true) (hm : maxN k = m) (h : -((m : Int) + 1) ≤ c - d ∧ c - d ≤ m) : EX P n σ (.binOp .sub t x y t') ty w (.int k (c - d)) w :=
  EX.binI hx hy (by simp [binOp, Op.intArith, wrap_fitZ hs hm h])
theorem EX.mulZ (hx : ev σ x = some (.int k c)) (hy : ev σ y = some (.int k d)) (hs : k.signed = true) (hm : maxN k = m) (h : -((m : Int) + 1) ≤ c * d ∧ c * d ≤ m) : EX P n σ (.binOp .mul t x y t') ty w (.int k (c * d)) w :=
  EX.binI hx hy (by simp [binOp, Op.intArith, wrap_fitZ hs hm h])
theorem EX.notN (hx : ev σ x = some (.int k (a : Int))) (hs : k.signed = false) (hm : maxN k = m) (h : a ≤ m) : EX P n σ (.unOp .xor t x) ty w (.int k ((m - a : Nat) : Int)) w := fun A ha dst pos after g => by
  subst hm
  have hk : (maxN k : Int) = k.max := by cases k <;> first | rfl | simp [IntKind.signed] at hs
  have h1 : (BitVec.ofInt k.bits k.max ^^^ BitVec.ofInt k.bits (a : Int)).toNat = maxN k - a := by
    have hall : BitVec.ofInt k.bits k.max = BitVec.allOnes k.bits := by cases k <;> first | rfl | simp [IntKind.signed] at hs
    rw [hall, BitVec.allOnes_xor, BitVec.toNat_not, ofInt_fit h]
    have : maxN k + 1 = 2 ^ k.bits := by cases k <;> first | rfl | simp [IntKind.signed] at hs
    omega
  have := wrap_fit rfl (show maxN k - a ≤ maxN k by omega)
  simp only [execOp, ha.ev hx]
  simp only [Op.unary, Op.intBits, hs, Bool.false_eq_true, if_false, h1, this]
  rfl
theorem EX.convN {s e : TypeId} {k' : IntKind} {dd : TypeDesc} (hu : P.underlying s = some dd) (hv : P.underlying e = some (.int k)) (hx : ev σ x = some (.int k' (a : Int))) (hm : maxN k = m) (h : a ≤ m) : EX P n σ (.convert s e x) ty w (.int k (a : Int)) w := fun A ha dst pos after g => by
  have := wrap_fit hm h
  simp only [execOp, ha.ev hx]
  simp [convert, run_underlying hu, run_underlying hv, Sem.run_bind, Conv.intToInt, this]
theorem EX.convW {s e : TypeId} {k' : IntKind} {dd : TypeDesc} (hu : P.underlying s = some dd) (hv : P.underlying e = some (.int k)) (hx : ev σ x = some (.int k' (a : Int))) (hm : modN k = m) (h : 0 < m) : EX P n σ (.convert s e x) ty w (.int k ((a % m : Nat) : Int)) w := fun A ha dst pos after g => by
  have := wrap_mod (a := a) hm h
  simp only [execOp, ha.ev hx]
  simp [convert, run_underlying hu, run_underlying hv, Sem.run_bind, Conv.intToInt, this]
theorem EX.convZ {s e : TypeId} {k' : IntKind} {dd : TypeDesc} (hu : P.underlying s = some dd) (hv : P.underlying e = some (.int k)) (hx : ev σ x = some (.int k' c)) : EX P n σ (.convert s e x) ty w (.int k (k.wrap c)) w := fun A ha dst pos after g => by
  simp only [execOp, ha.ev hx]
  simp [convert, run_underlying hu, run_underlying hv, Sem.run_bind, Conv.intToInt]
theorem EX.extract {i : Nat} {vs : Array Value} {v : Value} (hx : ev σ x = some (.tuple vs)) (hi : vs[i]? = some v) : EX P n σ (.extract x i) ty w v w := fun A ha dst pos after g => by
  simp only [execOp, ha.ev hx]
  simp [Instr.extract, hi]
theorem EX.notB {p : Bool} (hx : ev σ x = some (.bool p)) : EX P n σ (.unOp .not t x) ty w (.bool !p) w := fun A ha dst pos after g => by
  simp only [execOp, ha.ev hx]; rfl
end
section
variable {P : Program} {n : Nat} {σ : Sig} {w : World} {t t' : TypeId} {ty : TypeId} {x y : Operand} {s r : List UInt8}
theorem EX.lenS (ht : P.underlying t = some .string) (hx : ev σ x = some (str s)) : EX P n σ (.call { callee := .builtin .len, args := #[x], argTypes := #[t] }) ty w (.int .i64 (s.length : Int)) w := fun A ha dst pos after g => by
  simp only [execOp, resolve, invoke, builtin, Sem.run_bind, Sem.run_pure, Result.andThen_ok, List.map_toArray, List.map_cons, List.map_nil, ha.ev hx]
  simp [Builtin.len_, run_underlying ht, goInt]
  rfl
theorem EX.lenA {e : TypeId} {A : Option Addr} {l c : Nat} (ht : P.underlying t = some (.slice e)) (hx : ev σ x = some (.slice A l c)) : EX P n σ (.call { callee := .builtin .len, args := #[x], argTypes := #[t] }) ty w (.int .i64 (l : Int)) w := fun A ha dst pos after g => by
  simp only [execOp, resolve, invoke, builtin, Sem.run_bind, Sem.run_pure, Result.andThen_ok, List.map_toArray, List.map_cons, List.map_nil, ha.ev hx]
  simp [Builtin.len_, run_underlying ht, goInt]
theorem EX.indexS {i : Nat} {k : IntKind} {c : UInt8} (ht : P.underlying t = some .string) (hx : ev σ x = some (str s)) (hy : ev σ y = some (.int k (i : Int))) (hi : s[i]? = some c) : EX P n σ (.index t x y) ty w (.int .u8 (c.toNat : Int)) w := fun A ha dst pos after g => by
  obtain ⟨hlt, he⟩ := List.getElem?_eq_some_iff.1 hi
  have h1 : (⟨⟨s⟩⟩ : ByteArray)[i]? = some c := by
    have hsz : i < (⟨⟨s⟩⟩ : ByteArray).size := hlt
    have h2 : (⟨⟨s⟩⟩ : ByteArray)[i] = c := he
    rw [getElem?_pos (⟨⟨s⟩⟩ : ByteArray) i hsz, h2]
  simp only [execOp, ha.ev hx, ha.ev hy]
  simp [Instr.index, asIntOf, run_underlying ht, Sem.run_bind, h1]
theorem EX.eqlS (hx : ev σ x = some (str s)) (hy : ev σ y = some (str r)) : EX P n σ (.binOp .eql t x y t') ty w (.bool (decide (s = r))) w :=
  EX.bin hx hy (guard_str _ _ _) (by
    have : (ByteArray.toList ⟨⟨s⟩⟩ == ByteArray.toList ⟨⟨r⟩⟩) = decide (s = r) := by
      rw [Bool.eq_iff_iff]; simp
    simp only [binOp, Op.stringOp, this]
    rfl)
theorem EX.neqS (hx : ev σ x = some (str s)) (hy : ev σ y = some (str r)) : EX P n σ (.binOp .neq t x y t') ty w (.bool (decide (s ≠ r))) w :=
  EX.bin hx hy (guard_str _ _ _) (by
    have : (!(ByteArray.toList ⟨⟨s⟩⟩ == ByteArray.toList ⟨⟨r⟩⟩)) = decide (s ≠ r) := by
      rw [Bool.eq_iff_iff]; simp
    simp only [binOp, Op.stringOp, this]
    rfl)
def lessB : List UInt8 → List UInt8 → Bool := Op.bytesLess
theorem EX.lssS (hx : ev σ x = some (str s)) (hy : ev σ y = some (str r)) : EX P n σ (.binOp .lss t x y t') ty w (.bool (lessB s r)) w :=
  EX.bin hx hy (guard_str _ _ _) (by
    have h1 : ByteArray.toList ⟨⟨s⟩⟩ = s := by simp
    have h2 : ByteArray.toList ⟨⟨r⟩⟩ = r := by simp
    simp only [binOp, Op.stringOp, h1, h2]
    rfl)
theorem EX.gtrS (hx : ev σ x = some (str s)) (hy : ev σ y = some (str r)) : EX P n σ (.binOp .gtr t x y t') ty w (.bool !(lessB s r || s == r)) w :=
  EX.bin hx hy (guard_str _ _ _) (by
    have h1 : ByteArray.toList ⟨⟨s⟩⟩ = s := by simp
    have h2 : ByteArray.toList ⟨⟨r⟩⟩ = r := by simp
    simp only [binOp, Op.stringOp, h1, h2]
    rfl)
theorem EX.addS (hx : ev σ x = some (str s)) (hy : ev σ y = some (str r)) (h : s.length + r.length ≤ 9223372036854775807) : EX P n σ (.binOp .add t x y t') ty w (str (s ++ r)) w :=
  EX.bin hx hy (guard_str _ _ _) (by
    have h0 : ¬ (((ByteArray.size ⟨⟨s⟩⟩ + ByteArray.size ⟨⟨r⟩⟩ : Nat) : Int) > IntKind.i64.max) := by
      show ¬ (((s.length + r.length : Nat) : Int) > 9223372036854775807)
      omega
    have h1 : ((⟨⟨s⟩⟩ : ByteArray) ++ ⟨⟨r⟩⟩) = ⟨⟨s ++ r⟩⟩ := by
      apply ByteArray.ext
      rw [ByteArray.data_append]
      simp
    unfold binOp
    simp only [Op.stringOp, if_neg h0, h1]
    rfl)
theorem EX.notD {p : Prop} [Decidable p] (hx : ev σ x = some (.bool (decide p))) : EX P n σ (.unOp .not t x) ty w (.bool (decide (¬ p))) w := fun A ha dst pos after g => by
  simp only [execOp, ha.ev hx, decide_not]; rfl
theorem extract_str (s : List UInt8) (i j : Nat) : (⟨⟨s⟩⟩ : ByteArray).extract i j = ⟨⟨(s.drop i).take (j - i)⟩⟩ := by
  apply ByteArray.ext
  rw [ByteArray.data_extract]
  apply Array.ext'
  simp [List.extract_eq_take_drop]
theorem run_sliceBound {k : IntKind} {i : Nat} (y : Nat) (c : BoundsCode) (h : i ≤ y) : (Instr.sliceBound (.int k (i : Int)) y c).run P w = .ok i w := by
  have h1 : (0 : Int) ≤ (i : Int) ∧ (i : Int) ≤ (y : Int) := by omega
  simp [Instr.sliceBound, asIntOf, Sem.run_bind, h]
section
variable {k k' : IntKind} {i j : Nat} {lo hi : Operand}
theorem EX.sliceLH (ht : P.underlying t = some .string) (hx : ev σ x = some (str s)) (hl : ev σ lo = some (.int k (i : Int))) (hh : ev σ hi = some (.int k' (j : Int))) (h : i ≤ j ∧ j ≤ s.length) :
    EX P n σ (.slice t x (some lo) (some hi) none) ty w (str ((s.drop i).take (j - i))) w := fun A ha dst pos after g => by
  have hj : j ≤ ByteArray.size ⟨⟨s⟩⟩ := h.2
  simp only [execOp, ha.ev hx, ha.ev hl, ha.ev hh, Option.map_some, Option.map_none]
  simp [Instr.sliceAt, run_underlying ht, Instr.slice, Instr.sliceBounds, Sem.run_bind, run_sliceBound _ _ hj, run_sliceBound _ _ h.1, extract_str]
theorem EX.sliceLE (ht : P.underlying t = some .string) (hx : ev σ x = some (str s)) (hl : ev σ lo = some (.int k (i : Int))) (h : i ≤ s.length) :
    EX P n σ (.slice t x (some lo) none none) ty w (str (s.drop i)) w := fun A ha dst pos after g => by
  have hj : i ≤ ByteArray.size ⟨⟨s⟩⟩ := h
  have e : (s.drop i).take (ByteArray.size ⟨⟨s⟩⟩ - i) = s.drop i := List.take_of_length_le (by rw [List.length_drop]; exact Nat.le_refl _)
  simp only [execOp, ha.ev hx, ha.ev hl, Option.map_some, Option.map_none]
  simp [Instr.sliceAt, run_underlying ht, Instr.slice, Instr.sliceBounds, Sem.run_bind, run_sliceBound _ _ hj, extract_str, e]
theorem EX.sliceFH (ht : P.underlying t = some .string) (hx : ev σ x = some (str s)) (hh : ev σ hi = some (.int k' (j : Int))) (h : j ≤ s.length) :
    EX P n σ (.slice t x none (some hi) none) ty w (str (s.take j)) w := fun A ha dst pos after g => by
  have hj : j ≤ ByteArray.size ⟨⟨s⟩⟩ := h
  simp only [execOp, ha.ev hx, ha.ev hh, Option.map_some, Option.map_none]
  simp [Instr.sliceAt, run_underlying ht, Instr.slice, Instr.sliceBounds, Sem.run_bind, run_sliceBound _ _ hj, extract_str]
end
theorem EX.minN {k : IntKind} {a b : Nat} {ats : Array TypeId} (hx : ev σ x = some (.int k (a : Int))) (hy : ev σ y = some (.int k (b : Int))) : EX P n σ (.call { callee := .builtin .min, args := #[x, y], argTypes := ats }) ty w (.int k ((min a b : Nat) : Int)) w := fun A ha dst pos after g => by
  simp only [execOp, resolve, invoke, builtin, Sem.run_bind, Sem.run_pure, Result.andThen_ok, List.map_toArray, List.map_cons, List.map_nil, ha.ev hx, ha.ev hy]
  have : (if (b : Int) < a then (b : Int) else a) = ((min a b : Nat) : Int) := by split <;> omega
  simp only [Builtin.min_, Builtin.min2, List.foldlM, Sem.run_bind, Sem.run_pure, Result.andThen_ok, this]
end
end Go.Proofs.YthgfdpcpbghkpaaGreatDoor
namespace Go.Proofs.YthgfdpcpbghkpaaGreatDoor
open Go.RowKit
def Bk (w : World) (b : Nat) (T : TypeId) (l : List Value) : Prop := ∃ fr : Nat × Nat, w.heap[b]? = some (.cells l.toArray T fr) ∧ (l.length ≤ fr.1 ∨ fr.2 ≤ fr.1)
abbrev Ext (w w' : World) : Prop := Below w.heap.size w w'
section
variable {w w' : World} {b : Nat} {T : TypeId} {l : List Value}
theorem Bk.lt (h : Bk w b T l) : b < w.heap.size := by
  obtain ⟨fr, h, _⟩ := h
  rcases Nat.lt_or_ge b w.heap.size with h' | h'
  · exact h'
  · simp [Array.getElem?_eq_none h'] at h
theorem Bk.cell (h : Bk w b T l) (i : Nat) : w.cell? ⟨b, i, none⟩ = l[i]? := by
  obtain ⟨fr, h, _⟩ := h
  simp [World.cell?, h]
theorem Bk.cell_of (h : Bk w b T l) {i : Nat} {v : Value} (hi : l[i]? = some v) : w.cell? ⟨b, i, none⟩ = some v := (h.cell i).trans hi
theorem Bk.free (h : Bk w b T l) (i : Nat) (hi : i < l.length) : w.frozen? ⟨b, i, none⟩ = false := by
  obtain ⟨⟨lo, hi'⟩, h, hf⟩ := h
  simp only [World.frozen?, h]
  simp only [Bool.and_eq_false_iff, decide_eq_false_iff_not]
  simp only at hf
  omega
theorem Bk.of_block (h : Bk w b T l) (hb : w'.heap[b]? = w.heap[b]?) : Bk w' b T l := by
  obtain ⟨fr, h, hf⟩ := h
  exact ⟨fr, by rw [hb]; exact h, hf⟩
theorem Bk.new (w : World) (T : TypeId) (l : List Value) : Bk (w.alloc (.cells l.toArray T)) w.heap.size T l := ⟨(0, 0), heap_alloc_new w _, .inr (Nat.le_refl _)⟩
theorem Bk.alloc (h : Bk w b T l) (o : Obj) : Bk (w.alloc o) b T l := h.of_block (Below.heap_alloc w o b h.lt)
theorem Bk.drew (h : Bk w b T l) : Bk w.drew b T l := h
theorem Bk.drewN (h : Bk w b T l) (m : Nat) : Bk (w.drewN m) b T l := h
theorem Bk.below {B : Nat} (h : Bk w b T l) (hb : Below B w w') (hlt : b < B) : Bk w' b T l := h.of_block (hb.block b hlt)
theorem Bk.ext (h : Bk w b T l) (hb : Ext w w') : Bk w' b T l := h.below hb h.lt
theorem Bk.far (h : Bk w b T l) {p : Addr} (hp : b ≠ p.block) (u : Value) : Bk (w.setCell p u) b T l := h.of_block (Below.heap_setCell w p u b hp)
theorem Bk.grown {row : Option Nat} (h : Bk w b T l) (hg : w.grownBy w' row) (hne : some b ≠ row) : Bk w' b T l := h.of_block (hg.block b h.lt hne)
theorem Bk.set (h : Bk w b T l) (i : Nat) (u : Value) : Bk (w.setCell ⟨b, i, none⟩ u) b T (l.set i u) := by
  have hlt := h.lt
  obtain ⟨fr, h, hf⟩ := h
  have hv : w.heap[b] = .cells l.toArray T fr := (Array.getElem?_eq_some_iff.1 h).2
  refine ⟨fr, ?_, by simpa using hf⟩
  simp only [World.setCell, Array.getElem?_modify, if_true, h, Option.map_some]
  simp
theorem Bk.ne {b' : Nat} {T' : TypeId} {l' : List Value} (h : Bk w b T l) (h' : Bk w b' T' l') (hne : T ≠ T') : b ≠ b' := by
  rintro rfl
  obtain ⟨fr, h, _⟩ := h
  obtain ⟨fr', h', _⟩ := h'
  rw [h] at h'
  simp at h'
  exact hne h'.2.1
theorem Bk.det {l' : List Value} {T' : TypeId} (h : Bk w b T l) (h' : Bk w b T' l') : T = T' ∧ l = l' := by
  obtain ⟨fr, h, _⟩ := h
  obtain ⟨fr', h', _⟩ := h'
  rw [h] at h'
  simp at h'
  exact ⟨h'.2.1, h'.1⟩
theorem Ext.refl (w : World) : Ext w w := Below.refl _ _
theorem Ext.trans {a b c : World} (h : Ext a b) (k : Ext b c) : Ext a c := Below.trans h (k.mono h.size)
theorem Ext.alloc (w : World) (o : Obj) : Ext w (w.alloc o) := (Below.refl _ _).alloc (Nat.le_refl _) o
theorem Ext.drew (w : World) : Ext w w.drew := (Below.refl _ _).drew
theorem below_drewN {B : Nat} {a w : World} (h : Below B a w) (m : Nat) : Below B a (w.drewN m) := ⟨h.os, h.tape, h.output, h.size, h.block⟩
theorem Ext.drewN (w : World) (m : Nat) : Ext w (w.drewN m) := below_drewN (Below.refl _ _) m
theorem Below.ext {B : Nat} {a w w' : World} (h : Below B a w) (hx : Ext w w') (hB : B ≤ w.heap.size) : Below B a w' := h.trans (hx.mono hB)
theorem run_storeCells_bk (P : Program) (w : World) (b o : Nat) (T : TypeId) : ∀ (vs : List Value) (i : Nat) (l : List Value) (w : World), Bk w b T l → o + i + vs.length ≤ l.length → (∀ v ∈ vs, v.oneCell' = true) →
    ∃ w', (storeCells ⟨b, o, none⟩ vs i).run P w = .ok () w' ∧ Bk w' b T (l.take (o + i) ++ vs ++ l.drop (o + i + vs.length)) ∧ w.grownBy w' (some b)
  | [], i, l, w, h, _, _ => ⟨w, rfl, by simpa using h, ⟨rfl, rfl, rfl, Nat.le_refl _, fun _ _ _ => rfl⟩⟩
  | v :: vs, i, l, w, h, hl, h1 => by
    simp only [List.length_cons] at hl
    have hlt : o + i < l.length := by omega
    have hc : w.cell? ⟨b, o + i, none⟩ = some l[o + i] := h.cell_of (List.getElem?_eq_getElem hlt)
    have hf := h.free (o + i) hlt
    have hadd : (⟨b, o, none⟩ : Addr).add i = ⟨b, o + i, none⟩ := by unfold Addr.add; split <;> simp_all
    obtain ⟨w', hr, hb, hg⟩ := run_storeCells_bk P w b o T vs (i + 1) (l.set (o + i) v) (w.setCell ⟨b, o + i, none⟩ v) (h.set (o + i) v) (by simp; omega) (fun u hu => h1 u (by simp [hu]))
    have hv1 := h1 v (by simp)
    have hst : (store ⟨b, o + i, none⟩ v).run P w = .ok () (w.setCell ⟨b, o + i, none⟩ v) := by
      cases v <;> simp [Value.oneCell'] at hv1 <;> simp [store, Sem.run, hc, hf]
    refine ⟨w', ?_, ?_, ⟨hg.os, hg.tape, hg.output, by have := hg.size; simpa using this, fun k hk hne => ?_⟩⟩
    · simp only [storeCells, Sem.run_bind, hadd, hst, Result.andThen_ok]
      exact hr
    · have e1 : (l.set (o + i) v).take (o + (i + 1)) = l.take (o + i) ++ [v] := by
        rw [show o + (i + 1) = (o + i) + 1 by omega, List.take_add_one]
        rw [List.take_set_of_le (Nat.le_refl _)]
        simp [hlt]
      have e2 : (l.set (o + i) v).drop (o + (i + 1) + vs.length) = l.drop (o + i + (vs.length + 1)) := by
        rw [List.drop_set_of_lt (by omega)]
        congr 1
        omega
      rw [e1, e2] at hb
      simpa using hb
    · rw [hg.block k (by simpa using hk) hne]
      exact Below.heap_setCell w _ v k (fun e => hne (by rw [e]))
end
def TI (P : Program) (T : TypeId) (z : Value) (s b : Nat) : Prop := (P.info? T).map (fun i => (i.zero, i.size, i.bytes)) = some (some z, s, b)
theorem TI.at {P : Program} {T : TypeId} {z : Value} {s b : Nat} (h : TI P T z s b) : ∃ i, P.info? T = some i ∧ i.zero = some z ∧ i.size = s ∧ i.bytes = b := by
  unfold TI at h
  cases hq : P.info? T with
  | none => simp [hq] at h
  | some i => exact ⟨i, rfl, by simpa [hq] using h⟩
def flat : TypeDesc → Bool
  | .struct _ | .array _ _ => false
  | _ => true
section
variable {P : Program} {n : Nat} {σ : Sig} {w w' : World} {t t' e : TypeId} {ty : TypeId} {x y : Operand} {b o : Nat} {l : List Value} {T : TypeId} {z v : Value} {s bs : Nat}
theorem run_isAgg {d : TypeDesc} (hu : P.underlying t = some d) : (isAgg t).run P w = .ok (!flat d) w := by
  unfold isAgg
  rw [Sem.run_bind, run_underlying hu w]
  cases d <;> rfl
theorem run_sizeOf (h : TI P t z s bs) : (sizeOf t).run P w = .ok s w := by
  obtain ⟨i, hi, _, rfl, _⟩ := h.at
  simp [sizeOf, typeInfo, hi, Sem.run_bind]
theorem run_zeroValue (h : TI P t z s bs) : (zeroValue t).run P w = .ok z w := by
  obtain ⟨i, hi, hz, _⟩ := h.at
  simp [zeroValue, typeInfo, hi, hz, Sem.run_bind]
theorem EX.alloc (h : TI P t z s bs) (hl : z.cells.toList = l) : EX P n σ (.alloc t) ty w (.pointer (some ⟨w.heap.size, 0, none⟩)) (w.alloc (.cells l.toArray t)) := fun A ha dst pos after g => by
  subst hl
  simp only [execOp, Instr.alloc, Sem.run_bind, run_zeroValue h, Result.andThen_ok]
  simp [newVar, newRow, newObj, Sem.run_bind, Sem.run]
theorem EX.box (hx : ev σ x = some v) (hl : v.cells.toList = l) : EX P n σ (.box t x) ty w (.pointer (some ⟨w.heap.size, 0, none⟩)) (w.alloc (.cells l.toArray t)) := fun A ha dst pos after g => by
  subst hl
  simp only [execOp, Instr.box, ha.ev hx, Sem.run_bind]
  simp [newVar, newRow, newObj, Sem.run_bind, Sem.run]
theorem EX.load {d : TypeDesc} {a : Addr} (hu : P.underlying t = some d) (hd : flat d = true) (hx : ev σ x = some (.pointer (some a))) (hc : w.cell? a = some v) : EX P n σ (.load t x) ty w v w := fun A ha dst pos after g => by
  simp only [execOp, Instr.loadAt, Instr.sureAddr, ha.ev hx, Sem.run_bind, Sem.run_pure, Result.andThen_ok, loadVar, run_isAgg hu, hd]
  simp [load, Sem.run, hc]
theorem EX.loadA {d : TypeDesc} (hu : P.underlying t = some d) (hd : flat d = false) (h : TI P t z s bs) (hx : ev σ x = some (.pointer (some ⟨b, o, none⟩))) (hs : l.length = s)
    (hc : ∀ j u, l[j]? = some u → w.cell? ⟨b, o + j, none⟩ = some u) : EX P n σ (.load t x) ty w (.agg l.toArray) w := fun A ha dst pos after g => by
  have hl := run_loadCells_list (P := P) w ⟨b, o, none⟩ l (fun j u hj => by
    have hadd : (⟨b, o, none⟩ : Addr).add j = ⟨b, o + j, none⟩ := by unfold Addr.add; split <;> simp_all
    rw [hadd]; exact hc j u hj)
  simp only [execOp, Instr.loadAt, Instr.sureAddr, ha.ev hx, Sem.run_bind, Sem.run_pure, Result.andThen_ok, loadVar, run_isAgg hu, hd, run_sizeOf h]
  rw [hs] at hl
  simp [run_sizeOf h, hl, Sem.run_bind]
theorem EX.loadBk {d : TypeDesc} (hu : P.underlying t = some d) (hd : flat d = false) (h : TI P t z s bs) (hx : ev σ x = some (.pointer (some ⟨b, 0, none⟩))) (hb : Bk w b T l) (hs : l.length = s) : EX P n σ (.load t x) ty w (.agg l.toArray) w :=
  EX.loadA hu hd h hx hs fun j u hj => by rw [Nat.zero_add]; exact hb.cell_of hj
theorem EU.store {a : Addr} {u : Value} (h : TI P t z 1 bs) (hx : ev σ x = some (.pointer (some a))) (hy : ev σ y = some v) (h1 : v.oneCell' = true) (hc : w.cell? a = some u) (hf : w.frozen? a = false) : EU P n σ (.store t x y) ty w (w.setCell a v) := fun A ha dst pos after g => by
  have hst : (Go.store a v).run P w = .ok () (w.setCell a v) := by
    cases v <;> simp [Value.oneCell'] at h1 <;> simp [Go.store, Sem.run, hc, hf]
  have hcs : v.cells = #[v] := by cases v <;> simp [Value.oneCell'] at h1 <;> rfl
  have hadd : a.add 0 = a := by unfold Addr.add; simp
  simp only [execOp, Instr.storeAt, Instr.sureAddr, ha.ev hx, ha.ev hy, Sem.run_bind, Sem.run_pure, Result.andThen_ok, storeVar, run_sizeOf h, hcs]
  simp [storeCells, Sem.run_bind, hadd, hst]
theorem EU.storeBk {i : Nat} (h : TI P t z 1 bs) (hx : ev σ x = some (.pointer (some ⟨b, i, none⟩))) (hy : ev σ y = some v) (h1 : v.oneCell' = true) (hb : Bk w b T l) (hi : i < l.length) : EU P n σ (.store t x y) ty w (w.setCell ⟨b, i, none⟩ v) :=
  EU.store h hx hy h1 (hb.cell_of (List.getElem?_eq_getElem hi)) (hb.free i hi)
theorem oneCell_cells {v : Value} (h : v.oneCell' = true) : v.cells = #[v] := by cases v <;> simp [Value.oneCell'] at h <;> rfl
theorem EU.storeA {vs : List Value} (h : TI P t z s bs) (hx : ev σ x = some (.pointer (some ⟨b, o, none⟩))) (hy : ev σ y = some (.agg vs.toArray)) (hs : vs.length = s) (h1 : vs.all (·.oneCell') = true) (hb : Bk w b T l) (hl : o + vs.length ≤ l.length) :
    ∃ w', EU P n σ (.store t x y) ty w w' ∧ Bk w' b T (l.take o ++ vs ++ l.drop (o + vs.length)) ∧ w.grownBy w' (some b) := by
  obtain ⟨w', hr, hb', hg⟩ := run_storeCells_bk P w b o T vs 0 l w hb (by simpa using hl) (fun v hv => List.all_eq_true.1 h1 v hv)
  refine ⟨w', fun A ha dst pos after g => ?_, by simpa using hb', hg⟩
  simp only [execOp, Instr.storeAt, Instr.sureAddr, ha.ev hx, ha.ev hy, Sem.run_bind, Sem.run_pure, Result.andThen_ok, storeVar, run_sizeOf h, Value.cells]
  simp [hs, hr]
theorem EX.indexAddrA {m : Nat} {k : IntKind} {i : Nat} (hu : P.underlying t = some (.array m e)) (h : TI P e z s bs) (hx : ev σ x = some (.pointer (some ⟨b, o, none⟩))) (hy : ev σ y = some (.int k (i : Int))) (hi : i < m) :
    EX P n σ (.indexAddr t x y) ty w (.pointer (some ⟨b, o + i * s, none⟩)) w := fun A ha dst pos after g => by
  have h1 : (0 : Int) ≤ (i : Int) ∧ (i : Int) < (m : Int) := by omega
  have hadd : (⟨b, o, none⟩ : Addr).add (i * s) = ⟨b, o + i * s, none⟩ := by unfold Addr.add; split <;> simp_all
  simp only [execOp, ha.ev hx, ha.ev hy]
  simp [Instr.indexAt, asIntOf, run_underlying hu, Sem.run_bind, Instr.sureAddr, hi, run_sizeOf h, hadd]
theorem EX.indexAddrS {k : IntKind} {i len cap : Nat} (hu : P.underlying t = some (.slice e)) (h : TI P e z s bs) (hx : ev σ x = some (.slice (some ⟨b, o, none⟩) len cap)) (hy : ev σ y = some (.int k (i : Int))) (hi : i < len) :
    EX P n σ (.indexAddr t x y) ty w (.pointer (some ⟨b, o + i * s, none⟩)) w := fun A ha dst pos after g => by
  have h1 : (0 : Int) ≤ (i : Int) ∧ (i : Int) < (len : Int) := by omega
  have hadd : (⟨b, o, none⟩ : Addr).add (i * s) = ⟨b, o + i * s, none⟩ := by unfold Addr.add; split <;> simp_all
  simp only [execOp, ha.ev hx, ha.ev hy]
  simp [Instr.indexAt, asIntOf, run_underlying hu, Sem.run_bind, Instr.sureAddr, hi, run_sizeOf h, hadd]
theorem EX.indexAddrA1 {m : Nat} {k : IntKind} {i : Nat} (hu : P.underlying t = some (.array m e)) (h : TI P e z 1 bs) (hx : ev σ x = some (.pointer (some ⟨b, o, none⟩))) (hy : ev σ y = some (.int k (i : Int))) (hi : i < m) :
    EX P n σ (.indexAddr t x y) ty w (.pointer (some ⟨b, o + i, none⟩)) w := by simpa using EX.indexAddrA (ty := ty) (w := w) (n := n) hu h hx hy hi
theorem EX.indexAddrS1 {k : IntKind} {i len cap : Nat} (hu : P.underlying t = some (.slice e)) (h : TI P e z 1 bs) (hx : ev σ x = some (.slice (some ⟨b, o, none⟩) len cap)) (hy : ev σ y = some (.int k (i : Int))) (hi : i < len) :
    EX P n σ (.indexAddr t x y) ty w (.pointer (some ⟨b, o + i, none⟩)) w := by simpa using EX.indexAddrS (ty := ty) (w := w) (n := n) hu h hx hy hi
theorem EX.indexAddrA0 {m : Nat} {k : IntKind} {i : Nat} (hu : P.underlying t = some (.array m e)) (h : TI P e z 1 bs) (hx : ev σ x = some (.pointer (some ⟨b, 0, none⟩))) (hy : ev σ y = some (.int k (i : Int))) (hi : i < m) :
    EX P n σ (.indexAddr t x y) ty w (.pointer (some ⟨b, i, none⟩)) w := by simpa using EX.indexAddrA (ty := ty) (w := w) (n := n) hu h hx hy hi
theorem EX.indexAddrS0 {k : IntKind} {i len cap : Nat} (hu : P.underlying t = some (.slice e)) (h : TI P e z 1 bs) (hx : ev σ x = some (.slice (some ⟨b, 0, none⟩) len cap)) (hy : ev σ y = some (.int k (i : Int))) (hi : i < len) :
    EX P n σ (.indexAddr t x y) ty w (.pointer (some ⟨b, i, none⟩)) w := by simpa using EX.indexAddrS (ty := ty) (w := w) (n := n) hu h hx hy hi
theorem EX.nilCheck {a : Addr} (hx : ev σ x = some (.pointer (some a))) : EX P n σ (.nilCheck x) ty w (.pointer (some a)) w := fun A ha dst pos after g => by
  simp only [execOp, ha.ev hx]; rfl
end
end Go.Proofs.YthgfdpcpbghkpaaGreatDoor
namespace Go.Proofs.YthgfdpcpbghkpaaGreatDoor
open Go.RowKit
def Sl (w : World) (B : Nat) (A : Option Addr) (xs : List Value) : Prop :=
  xs = [] ∨ ∃ b o, A = some ⟨b, o, none⟩ ∧ b < B ∧ ∀ j u, xs[j]? = some u → w.cell? ⟨b, o + j, none⟩ = some u
def ints (k : IntKind) (l : List Nat) : List Value := l.map fun (x : Nat) => Value.int k (x : Int)
def bytesV (l : List UInt8) : List Value := l.map fun c => Value.int .u8 (c.toNat : Int)
def Own (w : World) (B : Nat) (T : TypeId) (s : Nat) (v : Value) (n : Nat) (xs : List Value) : Prop :=
  xs.length = n * s ∧ ((v = .slice none 0 0 ∧ n = 0) ∨
    ∃ g cap rest, v = .slice (some ⟨g, 0, none⟩) n cap ∧ B ≤ g ∧ Bk w g T (xs ++ rest) ∧ xs.length + rest.length = cap * s ∧ n ≤ cap ∧ cap ≤ maxLen)
section
variable {w w' : World} {B B' : Nat} {A : Option Addr} {xs : List Value} {T : TypeId} {s n : Nat} {v : Value}
theorem Sl.at_ (h : Sl w B A xs) (hx : 0 < xs.length) : ∃ b o, A = some ⟨b, o, none⟩ ∧ b < B ∧ ∀ j u, xs[j]? = some u → w.cell? ⟨b, o + j, none⟩ = some u := by
  rcases h with h | h
  · subst h; simp at hx
  · exact h
theorem Sl.keep (h : Sl w B A xs) (hk : ∀ p : Addr, p.block < B → w'.cell? p = w.cell? p) : Sl w' B A xs := by
  rcases h with h | ⟨b, o, h1, h2, h3⟩
  · exact .inl h
  · exact .inr ⟨b, o, h1, h2, fun j u hu => (hk _ h2).trans (h3 j u hu)⟩
theorem Sl.more (h : Sl w B A xs) (hB : B ≤ B') : Sl w B' A xs := by
  rcases h with h | ⟨b, o, h1, h2, h3⟩
  · exact .inl h
  · exact .inr ⟨b, o, h1, by omega, h3⟩
theorem Sl.below (h : Sl w B A xs) (hb : Below B w w') : Sl w' B A xs := h.keep fun _ hp => hb.cell hp
theorem Sl.ext (h : Sl w B A xs) (hb : Ext w w') : Sl w' B A xs := by
  rcases h with h | ⟨b, o, h1, h2, h3⟩
  · exact .inl h
  · exact .inr ⟨b, o, h1, h2, fun j u hu => (hb.cell (p := ⟨b, o + j, none⟩) (block_lt_of_cell (h3 j u hu))).trans (h3 j u hu)⟩
theorem Sl.drewN (h : Sl w B A xs) (m : Nat) : Sl (w.drewN m) B A xs := h
theorem Sl.pre (h : Sl w B A xs) (m : Nat) : Sl w B A (xs.take m) := by
  rcases h with h | ⟨b, o, h1, h2, h3⟩
  · subst h; left; simp
  · exact .inr ⟨b, o, h1, h2, fun j u hu => h3 j u (by
      rw [List.getElem?_take] at hu
      split at hu
      · exact hu
      · cases hu)⟩
theorem Sl.of_bk {b : Nat} {l : List Value} (h : Bk w b T l) (hB : b < B) : Sl w B (some ⟨b, 0, none⟩) l := .inr ⟨b, 0, rfl, hB, fun j u hu => by rw [Nat.zero_add]; exact h.cell_of hu⟩
theorem Bk.sl {b : Nat} {l : List Value} (h : Bk w b T l) : Sl w w.heap.size (some ⟨b, 0, none⟩) l := Sl.of_bk h h.lt
theorem Own.nil (w : World) (B : Nat) (T : TypeId) (s : Nat) : Own w B T s (.slice none 0 0) 0 [] := ⟨by simp, .inl ⟨rfl, rfl⟩⟩
theorem Own.lt (h : Own w B T s v n xs) : ∀ k, v.ownBlock = some k → B ≤ k ∧ k < w.heap.size := by
  intro k hk
  rcases h.2 with ⟨rfl, _⟩ | ⟨g, cap, rest, rfl, hb, hg, _⟩
  · simp [Value.ownBlock] at hk
  · simp [Value.ownBlock] at hk
    subst hk
    exact ⟨hb, hg.lt⟩
theorem Own.of_blocks (h : Own w B T s v n xs) (hk : ∀ k, v.ownBlock = some k → w'.heap[k]? = w.heap[k]?) : Own w' B T s v n xs := by
  refine ⟨h.1, ?_⟩
  rcases h.2 with hn | ⟨g, cap, rest, rfl, hb, hg, r⟩
  · exact .inl hn
  · exact .inr ⟨g, cap, rest, rfl, hb, hg.of_block (hk g rfl), r⟩
theorem Own.ext (h : Own w B T s v n xs) (hx : Ext w w') : Own w' B T s v n xs := h.of_blocks fun k hk => hx.block k (h.lt k hk).2
theorem Own.grown {row : Option Nat} (h : Own w B T s v n xs) (hg : w.grownBy w' row) (hne : v.ownBlock = none ∨ v.ownBlock ≠ row) : Own w' B T s v n xs :=
  h.of_blocks fun k hk => hg.block k (h.lt k hk).2 (by rw [← hk]; rcases hne with e | e <;> simp_all)
theorem Own.alloc (h : Own w B T s v n xs) (o : Obj) : Own (w.alloc o) B T s v n xs := h.ext (Ext.alloc w o)
theorem Own.drewN (h : Own w B T s v n xs) (m : Nat) : Own (w.drewN m) B T s v n xs := h.ext (Ext.drewN w m)
theorem Own.far (h : Own w B T s v n xs) {p : Addr} (hp : v.ownBlock ≠ some p.block) (u : Value) : Own (w.setCell p u) B T s v n xs :=
  h.of_blocks fun k hk => Below.heap_setCell w p u k (fun e => hp (by rw [hk, e]))
theorem Own.more (h : Own w B T s v n xs) (hB : B' ≤ B) : Own w B' T s v n xs := by
  refine ⟨h.1, ?_⟩
  rcases h.2 with hn | ⟨g, cap, rest, rfl, hb, r⟩
  · exact .inl hn
  · exact .inr ⟨g, cap, rest, rfl, by omega, r⟩
theorem Own.slice (h : Own w B T s v n xs) : ∃ A c, v = .slice A n c ∧ n ≤ c ∧ Sl w w.heap.size A xs := by
  rcases h.2 with ⟨rfl, rfl⟩ | ⟨g, cap, rest, rfl, hb, hg, hl, hn, _⟩
  · exact ⟨none, 0, rfl, Nat.le_refl _, .inl (List.eq_nil_of_length_eq_zero (by simpa using h.1))⟩
  · refine ⟨_, cap, rfl, hn, .inr ⟨g, 0, rfl, hg.lt, fun j u hu => ?_⟩⟩
    rw [Nat.zero_add]
    refine hg.cell_of ?_
    rw [List.getElem?_append_left]
    · exact hu
    · rcases Nat.lt_or_ge j xs.length with h' | h'
      · exact h'
      · simp [List.getElem?_eq_none h'] at hu
theorem Own.blk (h : Own w B T s v n xs) (hx : 0 < xs.length) : ∃ g cap rest, v = .slice (some ⟨g, 0, none⟩) n cap ∧ B ≤ g ∧ Bk w g T (xs ++ rest) ∧ xs.length + rest.length = cap * s ∧ n ≤ cap ∧ cap ≤ maxLen := by
  rcases h.2 with ⟨rfl, rfl⟩ | h2
  · have := h.1; omega
  · exact h2
theorem Own.of_bk {g cap : Nat} {l : List Value} (hg : Bk w g T l) (hB : B ≤ g) (hl : l.length = cap * s) (hm : cap ≤ maxLen) : Own w B T s (.slice (some ⟨g, 0, none⟩) cap cap) cap l :=
  ⟨hl, .inr ⟨g, cap, [], rfl, hB, by simpa using hg, by simpa using hl, Nat.le_refl _, hm⟩⟩
theorem Own.set {g cap : Nat} (h : Own w B T s (.slice (some ⟨g, 0, none⟩) n cap) n xs) (i : Nat) (hi : i < xs.length) (u : Value) :
    Own (w.setCell ⟨g, i, none⟩ u) B T s (.slice (some ⟨g, 0, none⟩) n cap) n (xs.set i u) ∧ w.grownBy (w.setCell ⟨g, i, none⟩ u) (some g) := by
  obtain ⟨g', cap', rest, hv, hb, hg, hr⟩ := h.blk (by omega)
  simp only [Value.slice.injEq, Option.some.injEq, Addr.mk.injEq, and_true, true_and] at hv
  obtain ⟨rfl, rfl⟩ := hv
  refine ⟨⟨by simpa using h.1, .inr ⟨g, cap, rest, rfl, hb, ?_, by simpa using hr.1, hr.2⟩⟩, ⟨rfl, rfl, rfl, by simp, fun k _ hk => Below.heap_setCell w _ u k (fun e => hk (by rw [e]))⟩⟩
  have := hg.set i u
  rwa [List.set_append_left _ _ hi] at this
end
section
variable {P : Program} {w : World}
theorem size_zeroCells' (z : Array Value) (n : Nat) : (Builtin.zeroCells z n).size = n * z.size := by simp [Builtin.zeroCells]
theorem run_append (B : Nat) (t tx ty e : TypeId) {z : Value} {s bs : Nat} (ht : P.underlying t = some (.slice e)) (hi : TI P e z s bs) (hzs : z.cells.size = s) (hs0 : 0 < s)
    {v : Value} {n : Nat} {xs : List Value} (hown : Own w B e s v n xs) {x : Value} {m : Nat} {news : List Value} (hsrc : Src P s tx x m news w)
    (h63 : n + m ≤ maxLen) (hbytes : (n + m) * bs ≤ 140737488355328) (hB : B ≤ w.heap.size) :
    ∃ v' w', (Builtin.append_ #[t, tx] ty #[v, x]).run P w = .ok v' w' ∧ Own w' B e s v' (n + m) (xs ++ news) ∧ w.grownBy w' v.ownBlock ∧ (v'.ownBlock = v.ownBlock ∨ v'.ownBlock = some w.heap.size) := by
  obtain ⟨i, hq, hz, rfl, rfl⟩ := hi.at
  have hlen : (xs ++ news).length = (n + m) * i.size := by rw [List.length_append, hown.1, hsrc.newsLen, Nat.add_mul]
  have grow : ∀ (A : Option Addr) (cap : Nat), v = .slice A n cap → cap < n + m → (Builtin.firstCells i.size n (.slice A n cap)).run P w.drew = .ok xs.toArray w.drew →
      ∃ v' w', (Builtin.append_ #[t, tx] ty #[v, x]).run P w = .ok v' w' ∧ Own w' B e i.size v' (n + m) (xs ++ news) ∧ w.grownBy w' v.ownBlock ∧ (v'.ownBlock = v.ownBlock ∨ v'.ownBlock = some w.heap.size) := by
    intro A cap hv hc hold
    subst hv
    have hr := run_append_grow_src (P := P) w t tx ty e i z ht hq hz A n cap xs hold x m news hsrc hc (by simp only [maxLen] at h63; omega) (growslice_fits (by omega) hbytes)
    have hge := grownCap_ge w (n + m) cap e
    have hcm : grownCap w (n + m) cap e ≤ maxLen := grownCap_le_maxLen w (n + m) cap e h63
    refine ⟨_, _, hr, ⟨hlen, .inr ⟨w.heap.size, _, (Builtin.zeroCells z.cells (grownCap w (n + m) cap e - (n + m))).toList, rfl, hB, ?_, ?_, hge, hcm⟩⟩, ⟨rfl, rfl, rfl, by simp, fun k hk _ => Below.heap_alloc w.drew _ k hk⟩, .inr rfl⟩
    · have := Bk.new w.drew e ((xs ++ news) ++ (Builtin.zeroCells z.cells (grownCap w (n + m) cap e - (n + m))).toList)
      rw [show ((xs ++ news) ++ (Builtin.zeroCells z.cells (grownCap w (n + m) cap e - (n + m))).toList).toArray = (xs ++ news).toArray ++ Builtin.zeroCells z.cells (grownCap w (n + m) cap e - (n + m)) by simp] at this
      exact this
    · rw [hlen, Array.length_toList, size_zeroCells', hzs, ← Nat.add_mul]
      congr 1
      omega
  rcases hown.2 with ⟨rfl, rfl⟩ | ⟨g, cap, rest, rfl, hb, hg, hl, hn, hcm⟩
  · have hx : xs = [] := List.eq_nil_of_length_eq_zero (by simpa using hown.1)
    subst hx
    by_cases hm : m = 0
    · subst hm
      have hn : news = [] := List.eq_nil_of_length_eq_zero (by simpa using hsrc.newsLen)
      subst hn
      refine ⟨.slice none 0 0, w, ?_, Own.nil _ _ _ _, ⟨rfl, rfl, rfl, Nat.le_refl _, fun _ _ _ => rfl⟩, .inl rfl⟩
      have hc := hsrc.cells
      rcases hsrc.kind with ⟨e', hk⟩ | hk <;> simp [Builtin.append_, run_underlying ht, run_underlying hk, sizeOf, typeInfo, hq, hsrc.len, hc]
    · exact grow none 0 rfl (by omega) (by simp [Builtin.firstCells])
  · by_cases hroom : n + m ≤ cap
    · have hfit : n * i.size + news.length ≤ (xs ++ rest).length := by
        rw [List.length_append, hl, hsrc.newsLen, ← Nat.add_mul]
        exact Nat.mul_le_mul_right _ hroom
      obtain ⟨w', hst, hb', hg'⟩ := run_storeCells_bk P w g (n * i.size) e news 0 (xs ++ rest) w hg (by simpa using hfit) hsrc.one
      refine ⟨.slice (some ⟨g, 0, none⟩) (n + m) cap, w', ?_, ⟨hlen, .inr ⟨g, cap, rest.drop news.length, rfl, hb, ?_, ?_, hroom, hcm⟩⟩, by simpa [Value.ownBlock] using hg', .inl rfl⟩
      · rcases hsrc.kind with ⟨e', hk⟩ | hk <;> simp [Builtin.append_, run_underlying ht, run_underlying hk, sizeOf, typeInfo, hq, hsrc.len, hroom, hsrc.cells, Addr.add_lit, hst]
      · have e1 : (xs ++ rest).take (n * i.size) = xs := by rw [← hown.1]; exact List.take_left
        have e2 : (xs ++ rest).drop (n * i.size + news.length) = rest.drop news.length := by
          rw [← hown.1, ← List.drop_drop, List.drop_left]
        simp only [Nat.add_zero] at hb'
        rw [e1, e2] at hb'
        exact hb'
      · rw [List.length_drop, hlen]
        have h1 : (xs.length + rest.length) = cap * i.size := hl
        rw [hown.1] at h1
        have h2 : (n + m) * i.size ≤ cap * i.size := Nat.mul_le_mul_right _ hroom
        have h3 := hsrc.newsLen
        rw [Nat.add_mul] at h2 ⊢
        omega
    · refine grow _ cap rfl (by omega) ?_
      have : (loadCells ⟨g, 0, none⟩ (n * i.size)).run P w.drew = .ok xs.toArray w.drew := by
        have := run_loadCells_list (P := P) w.drew ⟨g, 0, none⟩ xs (fun j u hj => by
          have hadd : (⟨g, 0, none⟩ : Addr).add j = ⟨g, j, none⟩ := by unfold Addr.add; split <;> simp_all
          rw [hadd]
          refine (hg.drew).cell_of ?_
          rw [List.getElem?_append_left]
          · exact hj
          · rcases Nat.lt_or_ge j xs.length with h' | h'
            · exact h'
            · simp [List.getElem?_eq_none h'] at hj)
        rwa [hown.1] at this
      simpa [Builtin.firstCells] using this
theorem Src.of_sl {tx e' : TypeId} {s : Nat} (hk : P.underlying tx = some (.slice e')) {B : Nat} {A : Option Addr} {m c : Nat} {news : List Value} (h : Sl w B A news) (hl : news.length = m * s) (h1 : ∀ u ∈ news, u.oneCell' = true) (hs0 : 0 < s) : Src P s tx (.slice A m c) m news w := by
  have cells : ∀ w1 : World, (∀ a, w1.cell? a = w.cell? a) → (Builtin.firstCells s m (.slice A m c)).run P w1 = .ok news.toArray w1 := by
    intro w1 hw1
    rcases h with h | ⟨b, o, rfl, _, hc⟩
    · subst h
      have hm : m * s = 0 := by simpa using hl.symm
      cases A with
      | none => simp [Builtin.firstCells]
      | some a => simp [Builtin.firstCells, hm, loadCells, loadCellsFrom]
    · have := run_loadCells_list (P := P) w1 ⟨b, o, none⟩ news (fun j u hj => by
        have hadd : (⟨b, o, none⟩ : Addr).add j = ⟨b, o + j, none⟩ := by unfold Addr.add; split <;> simp_all
        rw [hadd, hw1]
        exact hc j u hj)
      rw [hl] at this
      simpa [Builtin.firstCells] using this
  exact ⟨.inl ⟨e', hk⟩, fun _ => rfl, cells w fun _ => rfl, cells w.drew fun _ => rfl, hl, h1⟩
theorem Src.of_str {tx : TypeId} (hk : P.underlying tx = some .string) (l : List UInt8) : Src P 1 tx (str l) l.length (bytesV l) w := Src.ofString w hk ⟨⟨l⟩⟩
theorem ints_one {k : IntKind} {l : List Nat} : ∀ u ∈ ints k l, u.oneCell' = true := by
  intro u hu
  obtain ⟨_, _, rfl⟩ := List.mem_map.1 hu
  rfl
theorem bytesV_one {l : List UInt8} : ∀ u ∈ bytesV l, u.oneCell' = true := by
  intro u hu
  obtain ⟨_, _, rfl⟩ := List.mem_map.1 hu
  rfl
theorem bytesV_length (l : List UInt8) : (bytesV l).length = l.length := by simp [bytesV]
theorem ints_length (k : IntKind) (l : List Nat) : (ints k l).length = l.length := by simp [ints]
theorem ints_append (k : IntKind) (l m : List Nat) : ints k (l ++ m) = ints k l ++ ints k m := by simp [ints]
theorem bytesV_append (l m : List UInt8) : bytesV (l ++ m) = bytesV l ++ bytesV m := by simp [bytesV]
end
section
variable {P : Program} {R : Act → World → Prop} {ops : Array Oper} {rest : List Oper} {k : List KI} {n : Nat} {σ : Sig} {w : World} {x y : Operand} {t t' e ty : TypeId} {pos : String} {after : Array Edge} {gd : Option (Nat × Bool)} {d : Nat}
theorem OW.append (B : Nat) {z : Value} {s bs : Nat} (hg : wantS ops σ gd = some true) (hd : Nat.blt d n = true) (ht : P.underlying t = some (.slice e)) (hi : TI P e z s bs) (hzs : z.cells.size = s) (hs0 : 0 < s)
    {v xv : Value} {m l : Nat} {xs news : List Value} (hx : ev σ x = some v) (hy : ev σ y = some xv) (hown : Own w B e s v l xs) (hsrc : Src P s t' xv m news w)
    (h63 : l + m ≤ maxLen) (hbytes : (l + m) * bs ≤ 140737488355328) (hB : B ≤ w.heap.size)
    (h : ∀ v' w', Own w' B e s v' (l + m) (xs ++ news) → w.grownBy w' v.ownBlock → (v'.ownBlock = v.ownBlock ∨ v'.ownBlock = some w.heap.size) → OW P R ops rest k n ((d, v') :: σ) w') :
    OW P R ops (⟨some d, .call { callee := .builtin .append, args := #[x, y], argTypes := #[t, t'] }, ty, pos, after, gd⟩ :: rest) k n σ w := by
  obtain ⟨v', w', hr, h2, h3, h4⟩ := run_append (P := P) B t t' ty e ht hi hzs hs0 hown hsrc h63 hbytes hB
  refine OW.val hg hd (v := v') (w' := w') ?_ (h v' w' h2 h3 h4)
  intro A ha dst pos after g
  simp only [execOp, resolve, invoke, builtin, Sem.run_bind, Sem.run_pure, Result.andThen_ok, List.map_toArray, List.map_cons, List.map_nil, ha.ev hx, ha.ev hy, hr]
theorem fill_one : ∀ (vs : List Value) (i : Nat) (pre post : List Value), pre.length = i → (∀ v ∈ vs, v.oneCell' = true) → post.length = vs.length →
    Instr.fill (fun i => some (i * 1, 1)) (pre ++ post).toArray ((vs.zipIdx i).map fun (v, j) => (j, v)) = some (pre ++ vs).toArray
  | [], i, pre, post, hp, _, hl => by
    have : post = [] := List.eq_nil_of_length_eq_zero (by simpa using hl)
    subst this
    simp [Instr.fill]
  | v :: vs, i, pre, post, hp, h1, hl => by
    cases post with
    | nil => simp at hl
    | cons p post =>
      have hc := oneCell_cells (h1 v (by simp))
      have ih := fill_one vs (i + 1) (pre ++ [v]) post (by simp [hp]) (fun u hu => h1 u (by simp [hu])) (by simpa using hl)
      have hset : (pre ++ p :: post).toArray.setIfInBounds (i + 0) v = ((pre ++ [v]) ++ post).toArray := by
        simp [← hp]
      simp only [List.zipIdx_cons, List.map_cons, Instr.fill, hc, List.size_toArray, List.length_cons, List.length_nil, Nat.mul_one]
      have hn : ¬ (0 + 1 ≠ 1 ∨ i + (0 + 1) > (pre ++ p :: post).length) := by simp [hp]
      simp only [ne_eq, Bool.or_eq_true, decide_eq_true_eq]
      rw [if_neg (by simpa using hn)]
      have hz : (#[v] : Array Value).zipIdx.foldl (fun cs (x : Value × Nat) => cs.setIfInBounds (i + x.2) x.1) (pre ++ p :: post).toArray = ((pre ++ [v]) ++ post).toArray := by
        rw [← hset]; rfl
      rw [hz]
      simpa using ih
theorem run_buildSlice {z : Value} {bs : Nat} {pv : Array (Nat × Value)} {vs : List Value} (len : Nat) (ht : P.underlying t = some (.slice e)) (hi : TI P e z 1 bs) (hz1 : z.oneCell' = true)
    (hpv : pv.toList = vs.zipIdx.map fun (v, j) => (j, v)) (hl : vs.length = len) (h1 : ∀ v ∈ vs, v.oneCell' = true) (hlen : len ≤ 16777216) :
    (Instr.buildSlice t len pv).run P w = .ok (.slice (some ⟨w.heap.size, 0, none⟩) len len) (w.alloc (.cells vs.toArray e)) := by
  have hf := fill_one vs 0 [] (List.replicate len z) rfl h1 (by simp [hl])
  simp only [List.nil_append] at hf
  have hzc := oneCell_cells hz1
  have hrep : ((Array.range (len * 1)).map fun j => #[z][j % (#[z] : Array Value).size]!) = (List.replicate len z).toArray := by
    apply Array.ext'
    apply List.ext_getElem?
    intro j
    by_cases hj : j < len
    · simp [hj, Nat.mod_one]
    · simp [hj]
  have hn : ¬ (len * 1 > 2 ^ 24) := by omega
  simp only [Instr.buildSlice, Sem.run_bind, run_underlying ht, run_sizeOf hi, Result.andThen_ok, if_neg hn, hpv, Sem.run_pure]
  by_cases h0 : len * 1 = 0
  · have h0' : len = 0 := by omega
    subst h0'
    have : vs = [] := List.eq_nil_of_length_eq_zero hl
    subst this
    simp [Instr.fill, newRow, newObj, Sem.run_bind, Sem.run, Array.range_zero']
  · rw [if_neg h0]
    simp only [Sem.run_bind, run_zeroValue hi, Result.andThen_ok, Sem.run_pure, hzc, hrep, hf]
    simp [newRow, newObj, Sem.run_bind, Sem.run]
theorem EX.buildSlice {z : Value} {bs : Nat} {parts : Array (Nat × Operand)} {vs : List Value} (len : Nat) (ht : P.underlying t = some (.slice e)) (hi : TI P e z 1 bs) (hz1 : z.oneCell' = true)
    (hv : evs σ (parts.toList.map (·.2)) = some vs) (hp : parts.toList.map (·.1) = List.range' 0 parts.toList.length) (hl : vs.length = len) (h1 : vs.all (·.oneCell') = true) (hlen : len ≤ 16777216) :
    EX P n σ (.buildSlice t len parts) ty w (.slice (some ⟨w.heap.size, 0, none⟩) len len) (w.alloc (.cells vs.toArray e)) := fun A ha dst pos after g => by
  have hpv : (parts.map fun (p : Nat × Operand) => (p.1, A.eval p.2)).toList = vs.zipIdx.map fun (v, j) => (j, v) := by
    have h2 := ha.evs hv
    apply List.ext_getElem?
    intro j
    have e1 := congrArg (·[j]?) h2
    have e2 := congrArg (·[j]?) hp
    simp only [List.getElem?_map] at e1 e2
    simp only [Array.toList_map, List.getElem?_map, List.getElem?_zipIdx]
    cases hq : parts.toList[j]? with
    | none => simp [hq] at e1; simp [List.getElem?_eq_none e1]
    | some p =>
      have hlt : j < parts.toList.length := (List.getElem?_eq_some_iff.1 hq).1
      simp [hq] at e1
      rw [hq, List.getElem?_range' hlt] at e2
      simp at e2
      simp [← e1, e2]
  have := run_buildSlice (P := P) (w := w) len ht hi hz1 hpv hl (fun v hv => List.all_eq_true.1 h1 v hv) hlen
  simp only [execOp, Sem.run_bind]
  rw [show (parts.map fun (x : Nat × Operand) => match x with | (i, x) => (i, A.eval x)) = parts.map fun (p : Nat × Operand) => (p.1, A.eval p.2) from rfl, this]
  rfl
theorem EX.makeSlice {z : Value} {bs len : Nat} {kl kc : IntKind} (ht : P.underlying t = some (.slice e)) (hi : TI P e z 1 bs) (hz1 : z.oneCell' = true) (hx : ev σ x = some (.int kl (len : Int))) (hy : ev σ y = some (.int kc (len : Int)))
    (hb : bs * len ≤ 281474976710656) (h63 : len ≤ 9223372036854775807) :
    EX P n σ (.makeSlice t x y) ty w (.slice (some ⟨w.heap.size, 0, none⟩) len len) (w.alloc (.cells (List.replicate len z).toArray e)) := fun A ha dst pos after g => by
  obtain ⟨i, hq, hz, hs, rfl⟩ := hi.at
  have hb' : (i.bytes : Int) * (len : Int) ≤ 281474976710656 := by
    have h : ((i.bytes * len : Nat) : Int) ≤ 281474976710656 := by omega
    rwa [Int.natCast_mul] at h
  have hr := run_make (P := P) w t e i z ht hq hz kl kc len len (by omega) (Int.le_refl _) hb' (by omega)
  simp only [Int.toNat_natCast, hs, Nat.mul_one, oneCell_cells hz1] at hr
  have hl : madeCells #[z] len = (List.replicate len z).toArray := by
    apply Array.ext'
    rw [toList_madeCells_one]
  rw [hl] at hr
  simp only [execOp, ha.ev hx, ha.ev hy, Sem.run_bind, hr]
  rfl
theorem EX.bytesOf {s : List UInt8} (ht : P.underlying t = some .string) (ht' : P.underlying t' = some (.slice e)) (he : P.underlying e = some (.int .u8)) (hx : ev σ x = some (str s)) (hs : s.length ≤ 9223372036854775807) :
    ∃ v w', EX P n σ (.convert t t' x) ty w v w' ∧ Own w' w.heap.size e 1 v s.length (bytesV s) ∧ v.ownBlock = some w.heap.size ∧ Ext w w' := by
  let cap := Question.cut (.appendCap s.length 0 e) (w.tape w.drawn (.appendCap s.length 0 e))
  have hge : s.length ≤ cap := by simp [cap, Question.cut]
  have hle : cap ≤ maxLen := by
    have hlt := Nat.mod_lt (w.tape w.drawn (.appendCap s.length 0 e)) (show 0 < 2 ^ 63 - s.length by omega)
    simp only [cap, Question.cut, maxLen]
    omega
  let l := bytesV s ++ List.replicate (cap - s.length) (Value.int .u8 0)
  have hll : l.length = cap := by simp [l, bytesV]; omega
  let w1 := w.drew.alloc (.cells l.toArray e)
  let w2 := w1.freeze ⟨w.heap.size, cap, none⟩ 1
  have hrow : (s.toArray.map fun b => Value.int .u8 (b.toNat : Int)) ++ Array.replicate (cap - s.length) (Value.int .u8 0) = l.toArray := by
    apply Array.ext'
    simp [l, bytesV]
  have hb1 : w1.heap[w.heap.size]? = some (.cells l.toArray e (0, 0)) := heap_alloc_new w.drew _
  have hsh : w1.shape? w.heap.size = some (e, cap) := by simp [World.shape?, hb1, hll]
  have hb2 : w2.heap[w.heap.size]? = some (.cells l.toArray e (cap, cap + 1)) := by
    simp only [w2, World.freeze]
    simp [Array.getElem?_modify, hb1]
  have hrun : (Conv.stringToBytes e ⟨⟨s⟩⟩).run P w = .ok (.slice (some ⟨w.heap.size, 0, none⟩) s.length cap) w2 := by
    have hsz : ByteArray.size ⟨⟨s⟩⟩ = s.length := rfl
    have hf : Question.forced (.appendCap s.length 0 e) = false := rfl
    have e2 : (({ w with drawn := w.drawn + 1 } : World).heap.push (.cells l.toArray e)) = w1.heap := rfl
    simp only [Conv.stringToBytes, hsz, Sem.run_bind, choose, Sem.run, hf, Bool.false_eq_true, if_false, Result.andThen_ok, newRow, newObj, Sem.run_pure]
    rw [show ((⟨⟨s⟩⟩ : ByteArray).data.map fun b => Value.int .u8 (b.toNat : Int)) = s.toArray.map fun b => Value.int .u8 (b.toNat : Int) from rfl, hrow]
    have hsh' : World.shape? { w with drawn := w.drawn + 1, heap := w.heap.push (.cells l.toArray e) } w.heap.size = some (e, cap) := hsh
    simp only [markStringish, shape, Sem.run_bind, Sem.run, hsh', Result.andThen_ok, freeze]
    rfl
  refine ⟨.slice (some ⟨w.heap.size, 0, none⟩) s.length cap, w2, fun A ha dst pos after g => ?_, ⟨by simp [bytesV], .inr ⟨w.heap.size, cap, _, rfl, Nat.le_refl _, ⟨(cap, cap + 1), hb2, .inl (by show l.length ≤ cap; omega)⟩, by simpa [l] using hll, hge, hle⟩⟩, rfl, ⟨rfl, rfl, rfl, ?_, fun k hk => ?_⟩⟩
  · simp only [execOp, ha.ev hx, convert, run_underlying ht, run_underlying ht', run_underlying he, Sem.run_bind, Result.andThen_ok, hrun]
    rfl
  · simp [w2, w1, World.freeze]
  · have : w2.heap[k]? = w1.heap[k]? := by
      simp only [w2, World.freeze]
      simp [Array.getElem?_modify, Nat.ne_of_gt hk]
    rw [this]
    exact Below.heap_alloc w.drew _ k hk
theorem strOf_bytes (s : List UInt8) : strOfNums (s.map fun c => (c.toNat : Int)) = ⟨⟨s⟩⟩ := by
  have h : s.map ((fun n : Int => UInt8.ofNat n.toNat) ∘ fun c : UInt8 => (c.toNat : Int)) = s := by
    have h2 : ∀ c ∈ s, ((fun n : Int => UInt8.ofNat n.toNat) ∘ fun c : UInt8 => (c.toNat : Int)) c = id c := fun c _ => by simp
    rw [List.map_congr_left h2, List.map_id]
  simp [strOfNums, h]
theorem EX.strOf {B : Nat} {A : Option Addr} {len cap : Nat} {s : List UInt8} (ht : P.underlying t = some (.slice e)) (he : P.underlying e = some (.int .u8)) (ht' : P.underlying t' = some .string) (hx : ev σ x = some (.slice A len cap)) (h : Sl w B A (bytesV s)) (hl : s.length = len) :
    EX P n σ (.convert t t' x) ty w (str s) w := fun Ac ha dst pos after g => by
  have hr : (convert t t' (.slice A len cap)).run P w = .ok (str s) w := by
    rcases h with h | ⟨b, o, rfl, _, hc⟩
    · have hs0 : s = [] := by
        have := congrArg List.length h
        simp [bytesV] at this
        exact this
      subst hs0
      simp only [List.length_nil] at hl
      subst hl
      cases A with
      | none => exact run_convert_bytes_nil (P := P) w t e ht he 0 cap t' ht'
      | some a =>
        obtain ⟨b, o, sp⟩ := a
        rw [run_convert_bytes_string w t t' e _ 0 cap ht he ht', run_bytesToString w _ 0 cap [] (by simp [loadCells, loadCellsFrom])]
        rfl
    · have := run_convert_bytes_arg (P := P) w t e ht he b o len cap (s.map fun c => (c.toNat : Int)) (by simpa using hl) (fun i hi => by
        have hi' : i < s.length := by omega
        have := hc i (.int .u8 (s[i].toNat : Int)) (by simp [bytesV, hi'])
        rw [this]
        simp [List.getD, hi']) t' ht'
      rw [strOf_bytes] at this
      exact this
  simp only [execOp, ha.ev hx, Sem.run_bind, hr]
  rfl
end
end Go.Proofs.YthgfdpcpbghkpaaGreatDoor
namespace Go.Proofs.YthgfdpcpbghkpaaGreatDoor
open Go.RowKit
section
variable {P : Program} {R : Act → World → Prop} {ops : Array Oper} {rest : List Oper} {k : List KI} {n : Nat} {σ : Sig} {w w0 : World} {x y : Operand} {t t' e ty ty1 : TypeId} {pos pos1 : String} {after after1 : Array Edge} {gd gd1 : Option (Nat × Bool)} {d d1 : Nat}
theorem Ext.grown {row : Option Nat} {w' : World} (h : Ext w0 w) (hg : w.grownBy w' row) (hr : ∀ g, row = some g → w0.heap.size ≤ g) : Ext w0 w' := Below.grown h hg h.size hr
theorem OW.appendX {z : Value} {s bs : Nat} (hg : wantS ops σ gd = some true) (hd : Nat.blt d n = true) (ht : P.underlying t = some (.slice e)) (hi : TI P e z s bs) (hzs : z.cells.size = s) (hs0 : 0 < s)
    {v xv : Value} {m l : Nat} {xs news : List Value} (hx : ev σ x = some v) (hy : ev σ y = some xv) (hext : Ext w0 w) (hown : Own w w0.heap.size e s v l xs) (hsrc : Src P s t' xv m news w)
    (h63 : l + m ≤ maxLen) (hbytes : (l + m) * bs ≤ 140737488355328)
    (h : ∀ v' w', Own w' w0.heap.size e s v' (l + m) (xs ++ news) → Ext w0 w' → w.grownBy w' v.ownBlock → (v'.ownBlock = v.ownBlock ∨ v'.ownBlock = some w.heap.size) → OW P R ops rest k n ((d, v') :: σ) w') :
    OW P R ops (⟨some d, .call { callee := .builtin .append, args := #[x, y], argTypes := #[t, t'] }, ty, pos, after, gd⟩ :: rest) k n σ w :=
  OW.append w0.heap.size hg hd ht hi hzs hs0 hx hy hown hsrc h63 hbytes hext.size fun v' w' h1 h2 h3 => h v' w' h1 (hext.grown h2 fun g hg => (hown.lt g hg).1) h2 h3
theorem OW.push {z : Value} {bs : Nat} (hg1 : wantS ops σ gd1 = some true) (hd1 : Nat.blt d1 n = true) (hg : ∀ u, wantS ops ((d1, u) :: σ) gd = some true) (hd : Nat.blt d n = true) (ht : P.underlying t = some (.slice e)) (hi : TI P e z 1 bs) (hz1 : z.oneCell' = true)
    {v u : Value} {l : Nat} {xs : List Value} (hy : ev σ y = some u) (hx : ∀ q, ev ((d1, q) :: σ) x = some v) (hu : u.oneCell' = true) (hext : Ext w0 w) (hown : Own w w0.heap.size e 1 v l xs)
    (h63 : l + 1 ≤ maxLen) (hbytes : (l + 1) * bs ≤ 140737488355328)
    (h : ∀ q v' w', Own w' w0.heap.size e 1 v' (l + 1) (xs ++ [u]) → Ext w0 w' → w.grownBy w' v.ownBlock → (v'.ownBlock = v.ownBlock ∨ ∃ g, v'.ownBlock = some g ∧ w.heap.size ≤ g) → OW P R ops rest k n ((d, v') :: (d1, q) :: σ) w') :
    OW P R ops (⟨some d1, .buildSlice t 1 #[(0, y)], ty1, pos1, after1, gd1⟩ :: ⟨some d, .call { callee := .builtin .append, args := #[x, .tmp d1], argTypes := #[t, t] }, ty, pos, after, gd⟩ :: rest) k n σ w := by
  refine OW.val hg1 hd1 (EX.buildSlice (vs := [u]) 1 ht hi hz1 (by simp [evs, hy]) rfl rfl (by simp [hu]) (by decide)) ?_
  have hx1 : Ext w0 (w.alloc (.cells [u].toArray e)) := hext.trans (Ext.alloc w _)
  have hb := Bk.new w e [u]
  refine OW.appendX (hg _) hd ht hi (by rw [oneCell_cells hz1]; rfl) (by decide) (hx _) (lk_cons_same _ _ _) hx1 (hown.alloc _) (Src.of_sl ht (Sl.of_bk hb hb.lt) rfl (by simpa using hu) (by decide)) h63 hbytes ?_
  intro v' w' h1 h2 h3 h4
  refine h _ v' w' h1 h2 ⟨h3.os, h3.tape, h3.output, by have := h3.size; simp at this; omega, fun j hj hne => ?_⟩ ?_
  · rw [h3.block j (by simp; omega) hne]
    exact Below.heap_alloc w _ j hj
  · rcases h4 with h4 | h4
    · exact .inl h4
    · exact .inr ⟨_, h4, by simp⟩
theorem zeroCells_one {z : Value} (hz1 : z.oneCell' = true) (m : Nat) : (Builtin.zeroCells z.cells m).toList = List.replicate m z := by
  rw [oneCell_cells hz1]
  apply List.ext_getElem?
  intro j
  by_cases hj : j < m
  · simp [Builtin.zeroCells, hj, Nat.mod_one]
  · simp [Builtin.zeroCells, hj]
theorem run_append_zeros (B : Nat) (tx : TypeId) {kx : IntKind} (hk : P.underlying tx = some (.int kx)) {z : Value} {bs : Nat} (ht : P.underlying t = some (.slice e)) (hi : TI P e z 1 bs) (hz1 : z.oneCell' = true)
    {v : Value} {l : Nat} {xs : List Value} (hown : Own w B e 1 v l xs) {m : Nat} {ki : IntKind} (h63 : l + m ≤ maxLen) (hbytes : (l + m) * bs ≤ 140737488355328) (hB : B ≤ w.heap.size) (hm : 0 < m) :
    ∃ v' w', (Builtin.append_ #[t, tx] ty #[v, .int ki (m : Int)]).run P w = .ok v' w' ∧ Own w' B e 1 v' (l + m) (xs ++ List.replicate m z) ∧ w.grownBy w' v.ownBlock ∧ (v'.ownBlock = v.ownBlock ∨ v'.ownBlock = some w.heap.size) := by
  obtain ⟨i, hq, hz, hs, rfl⟩ := hi.at
  have hzc := zeroCells_one hz1
  have hw : IntKind.i64.wrap (m : Int) = m := by rw [IntKind.wrap_i64]; simp only [maxLen] at h63; omega
  have hn0 : ¬ ((m : Int) < 0) := by omega
  have hnb : ¬ ((m : Int) * (i.bytes : Int) > 2 ^ 48) := by
    have h1 : m * i.bytes ≤ (l + m) * i.bytes := Nat.mul_le_mul_right _ (by omega)
    have h2 : ((m * i.bytes : Nat) : Int) ≤ 140737488355328 := by omega
    rw [Int.natCast_mul] at h2
    omega
  have hm0 : ¬ (m * 1 = 0) := by omega
  have hlen : (xs ++ List.replicate m z).length = (l + m) * 1 := by rw [List.length_append, hown.1, List.length_replicate, Nat.add_mul, Nat.mul_one m]
  have grow : ∀ (A : Option Addr) (cap : Nat), v = .slice A l cap → cap < l + m → (∀ w1 : World, (∀ a, w1.cell? a = w.cell? a) → (Builtin.firstCells 1 l (.slice A l cap)).run P w1 = .ok xs.toArray w1) →
      ∃ v' w', (Builtin.append_ #[t, tx] ty #[v, .int ki (m : Int)]).run P w = .ok v' w' ∧ Own w' B e 1 v' (l + m) (xs ++ List.replicate m z) ∧ w.grownBy w' v.ownBlock ∧ (v'.ownBlock = v.ownBlock ∨ v'.ownBlock = some w.heap.size) := by
    intro A cap hv hc hold
    subst hv
    have hge := grownCap_ge w (l + m) cap e
    have hcm : grownCap w (l + m) cap e ≤ maxLen := grownCap_le_maxLen w (l + m) cap e h63
    have hfits := growslice_fits (bytes := i.bytes) (need := l + m) (old := cap) (by omega) hbytes
    have hmb : m * i.bytes ≤ (l + m) * i.bytes := Nat.mul_le_mul_right _ (by omega)
    have hr := Lib.run_append_grow_zeros (P := P) w t tx ty e i z ki kx ht hk hq hz A l cap xs (by rw [hs]; exact hold w.drew fun _ => rfl) m hm (by omega) hc (by simp only [maxLen] at h63; omega) (by omega) hfits
    refine ⟨_, _, hr, ⟨hlen, .inr ⟨w.heap.size, _, (Builtin.zeroCells z.cells (grownCap w (l + m) cap e - (l + m))).toList, rfl, hB, ?_, ?_, hge, hcm⟩⟩, ⟨rfl, rfl, rfl, by simp, fun k hk _ => Below.heap_alloc w.drew _ k hk⟩, .inr rfl⟩
    · have := Bk.new w.drew e ((xs ++ List.replicate m z) ++ (Builtin.zeroCells z.cells (grownCap w (l + m) cap e - (l + m))).toList)
      rw [show ((xs ++ List.replicate m z) ++ (Builtin.zeroCells z.cells (grownCap w (l + m) cap e - (l + m))).toList).toArray = xs.toArray ++ Builtin.zeroCells z.cells m ++ Builtin.zeroCells z.cells (grownCap w (l + m) cap e - (l + m)) by
        apply Array.ext'; simp [← hzc]] at this
      exact this
    · rw [hlen, hzc, List.length_replicate]
      omega
  rcases hown.2 with ⟨rfl, rfl⟩ | ⟨g, cap, rest, rfl, hb, hg, hl, hn, hcm⟩
  · have hx : xs = [] := List.eq_nil_of_length_eq_zero (by simpa using hown.1)
    subst hx
    exact grow none 0 rfl (by omega) (fun w1 _ => by simp [Builtin.firstCells])
  · by_cases hroom : l + m ≤ cap
    · have hfit : l + (List.replicate m z).length ≤ (xs ++ rest).length := by
        rw [List.length_append, hl, List.length_replicate]; omega
      obtain ⟨w', hst, hb', hg'⟩ := run_storeCells_bk P w g l e (List.replicate m z) 0 (xs ++ rest) w hg (by simpa using hfit) (fun v hv => by rw [(List.mem_replicate.1 hv).2]; exact hz1)
      refine ⟨.slice (some ⟨g, 0, none⟩) (l + m) cap, w', ?_, ⟨hlen, .inr ⟨g, cap, rest.drop m, rfl, hb, ?_, ?_, hroom, hcm⟩⟩, by simpa [Value.ownBlock] using hg', .inl rfl⟩
      · rw [← hzc] at hst
        have h63' : (m : Int) ≤ 9223372036854775807 := by simp only [maxLen] at h63; omega
        have hne : m ≠ 0 := by omega
        simp [Builtin.append_, run_underlying ht, run_underlying hk, sizeOf, typeInfo, zeroValue, hq, hz, hs, asInt, asIntOf, hw, hn0, hne, hroom, Addr.add_lit, hst, show ¬ (281474976710656 < (m : Int) * (i.bytes : Int)) by omega]
      · have hxl : xs.length = l := by have := hown.1; omega
        have e1 : (xs ++ rest).take (l + 0) = xs := by rw [Nat.add_zero, ← hxl]; exact List.take_left
        have e2 : (xs ++ rest).drop (l + 0 + (List.replicate m z).length) = rest.drop m := by
          rw [Nat.add_zero, List.length_replicate, ← hxl, ← List.drop_drop, List.drop_left]
        rw [e1, e2] at hb'
        exact hb'
      · rw [List.length_drop, hlen]
        have := hown.1
        omega
    · refine grow _ cap rfl (by omega) (fun w1 hw1 => ?_)
      have : (loadCells ⟨g, 0, none⟩ (l * 1)).run P w1 = .ok xs.toArray w1 := by
        have := run_loadCells_list (P := P) w1 ⟨g, 0, none⟩ xs (fun j u hj => by
          have hadd : (⟨g, 0, none⟩ : Addr).add j = ⟨g, j, none⟩ := by unfold Addr.add; split <;> simp_all
          rw [hadd, hw1]
          refine hg.cell_of ?_
          rw [List.getElem?_append_left]
          · exact hj
          · rcases Nat.lt_or_ge j xs.length with h' | h'
            · exact h'
            · simp [List.getElem?_eq_none h'] at hj)
        rwa [hown.1] at this
      simpa [Builtin.firstCells] using this
theorem OW.appendZ {z : Value} {bs : Nat} {kx ki : IntKind} (hg : wantS ops σ gd = some true) (hd : Nat.blt d n = true) (ht : P.underlying t = some (.slice e)) (hk : P.underlying t' = some (.int kx)) (hi : TI P e z 1 bs) (hz1 : z.oneCell' = true)
    {v : Value} {m l : Nat} {xs : List Value} (hx : ev σ x = some v) (hy : ev σ y = some (.int ki (m : Int))) (hext : Ext w0 w) (hown : Own w w0.heap.size e 1 v l xs) (hm : 0 < m)
    (h63 : l + m ≤ maxLen) (hbytes : (l + m) * bs ≤ 140737488355328)
    (h : ∀ v' w', Own w' w0.heap.size e 1 v' (l + m) (xs ++ List.replicate m z) → Ext w0 w' → w.grownBy w' v.ownBlock → (v'.ownBlock = v.ownBlock ∨ v'.ownBlock = some w.heap.size) → OW P R ops rest k n ((d, v') :: σ) w') :
    OW P R ops (⟨some d, .call { callee := .builtin .append, args := #[x, y], argTypes := #[t, t'] }, ty, pos, after, gd⟩ :: rest) k n σ w := by
  obtain ⟨v', w', hr, h2, h3, h4⟩ := run_append_zeros (P := P) (ty := ty) w0.heap.size t' hk ht hi hz1 hown (ki := ki) h63 hbytes hext.size hm
  refine OW.val hg hd (v := v') (w' := w') ?_ (h v' w' h2 (hext.grown h3 fun g hg => (hown.lt g hg).1) h3 h4)
  intro A ha dst pos after g
  simp only [execOp, resolve, invoke, builtin, Sem.run_bind, Sem.run_pure, Result.andThen_ok, List.map_toArray, List.map_cons, List.map_nil, ha.ev hx, ha.ev hy, hr]
theorem OW.storeA {z : Value} {s bs b o : Nat} {vs l : List Value} {T : TypeId} (hg : wantS ops σ gd = some true) (h : TI P t z s bs) (hx : ev σ x = some (.pointer (some ⟨b, o, none⟩))) (hy : ev σ y = some (.agg vs.toArray)) (hs : vs.length = s) (h1 : vs.all (·.oneCell') = true) (hb : Bk w b T l) (hl : o + vs.length ≤ l.length)
    (hn : ∀ w', Bk w' b T (l.take o ++ vs ++ l.drop (o + vs.length)) → w.grownBy w' (some b) → OW P R ops rest k n σ w') : OW P R ops (⟨none, .store t x y, ty, pos, after, gd⟩ :: rest) k n σ w := by
  obtain ⟨w', he, h2, h3⟩ := EU.storeA (P := P) (n := n) (ty := ty) h hx hy hs h1 hb hl
  exact OW.eff hg he (hn w' h2 h3)
theorem OW.storeW {z : Value} {s bs b : Nat} {vs l : List Value} {T : TypeId} (hg : wantS ops σ gd = some true) (h : TI P t z s bs) (hx : ev σ x = some (.pointer (some ⟨b, 0, none⟩))) (hy : ev σ y = some (.agg vs.toArray)) (hs : vs.length = s) (h1 : vs.all (·.oneCell') = true) (hb : Bk w b T l) (hl : l.length = s)
    (hn : ∀ w', Bk w' b T vs → w.grownBy w' (some b) → OW P R ops rest k n σ w') : OW P R ops (⟨none, .store t x y, ty, pos, after, gd⟩ :: rest) k n σ w :=
  OW.storeA hg h hx hy hs h1 hb (by omega) fun w' h2 h3 => hn w' (by
    have e : l.take 0 ++ vs ++ l.drop (0 + vs.length) = vs := by rw [List.drop_of_length_le (by omega)]; simp
    rwa [e] at h2) h3
theorem retA {fn : Func} {Q : Value → World → Prop} {p : Nat} {z : Value} {s bs g : Nat} {l : List Value} {T : TypeId} {dd : TypeDesc} (hs : fn.results = #[.cell p t]) (hp : lk σ p = some (.pointer (some ⟨g, 0, none⟩))) (hu : P.underlying t = some dd) (hd : flat dd = false) (h : TI P t z s bs) (hb : Bk w g T l) (hl : l.length = s) (hq : Q (.agg l.toArray) w) :
    ∀ a, Fr n σ a → bodyPost P fn (fun e w' => ∃ v, e = .returned v ∧ Q v w') .ret a w :=
  ret_of (fun a ha => by
    have hp' := ha.val p _ hp
    have hld := run_loadCells_list (P := P) w ⟨g, 0, none⟩ l (fun j u hj => by
      have hadd : (⟨g, 0, none⟩ : Addr).add j = ⟨g, j, none⟩ := by unfold Addr.add; split <;> simp_all
      rw [hadd]; exact hb.cell_of hj)
    rw [hl] at hld
    simp [results, hs, hp', asAddr, loadVar, run_isAgg hu, hd, run_sizeOf h, hld, Sem.run_bind]) hq
theorem run_sliceBoundI {kk : IntKind} {i : Nat} (y : Nat) (c : BoundsCode) (h : i ≤ y) : (Instr.sliceBound (.int kk (i : Int)) y c).run P w = .ok i w := run_sliceBound y c h
theorem Sl.cut {B : Nat} {A : Option Addr} {xs : List Value} (h : Sl w B A xs) {i c : Nat} (hc : xs.length ≤ c) : Sl w B (if c = i then A else A.map (·.add (i * 1))) (xs.drop i) := by
  rcases h with h | ⟨b, o, rfl, hb, hcell⟩
  · subst h; left; simp
  · by_cases hi : xs.length ≤ i
    · left; exact List.drop_of_length_le hi
    · rw [if_neg (by omega)]
      refine .inr ⟨b, o + i, by simp [Addr.add_lit, Nat.mul_one], hb, fun j u hu => ?_⟩
      rw [List.getElem?_drop] at hu
      rw [Nat.add_assoc]
      exact hcell (i + j) u hu
theorem EX.sliceALE {z : Value} {bs : Nat} {A : Option Addr} {B len cap i : Nat} {kk : IntKind} {lo : Operand} {xs : List Value} (ht : P.underlying t = some (.slice e)) (hi : TI P e z 1 bs) (hx : ev σ x = some (.slice A len cap)) (hl : ev σ lo = some (.int kk (i : Int))) (h : i ≤ len) (hc : len ≤ cap) (hs : Sl w B A xs) (hln : xs.length = len) :
    ∃ A', EX P n σ (.slice t x (some lo) none none) ty w (.slice A' (len - i) (cap - i)) w ∧ Sl w B A' (xs.drop i) :=
  ⟨if cap = i then A else A.map (·.add (i * 1)), fun Ac ha dst pos after g => by
    simp only [execOp, ha.ev hx, ha.ev hl, Option.map_some, Option.map_none]
    simp [Instr.sliceAt, run_underlying ht, Instr.slice, Instr.sliceBounds, Sem.run_bind, run_sliceBoundI _ _ h, run_sizeOf hi], hs.cut (by omega)⟩
theorem OW.sliceALE {z : Value} {bs : Nat} {A : Option Addr} {B len cap i : Nat} {kk : IntKind} {lo : Operand} {xs : List Value} (hg : wantS ops σ gd = some true) (hd : Nat.blt d n = true) (ht : P.underlying t = some (.slice e)) (hi : TI P e z 1 bs) (hx : ev σ x = some (.slice A len cap)) (hl : ev σ lo = some (.int kk (i : Int))) (h : i ≤ len) (hc : len ≤ cap) (hs : Sl w B A xs) (hln : xs.length = len)
    (hn : ∀ A', Sl w B A' (xs.drop i) → OW P R ops rest k n ((d, .slice A' (len - i) (cap - i)) :: σ) w) : OW P R ops (⟨some d, .slice t x (some lo) none none, ty, pos, after, gd⟩ :: rest) k n σ w := by
  obtain ⟨A', h1, h2⟩ := EX.sliceALE (P := P) (n := n) (ty := ty) ht hi hx hl h hc hs hln
  exact OW.val hg hd h1 (hn A' h2)
theorem OW.bytesOf {s : List UInt8} (hg : wantS ops σ gd = some true) (hd : Nat.blt d n = true) (ht : P.underlying t = some .string) (ht' : P.underlying t' = some (.slice e)) (he : P.underlying e = some (.int .u8)) (hx : ev σ x = some (str s)) (hs : s.length ≤ 9223372036854775807)
    (hn : ∀ cap rs w', Bk w' w.heap.size e (bytesV s ++ rs) → s.length ≤ cap → cap ≤ maxLen → s.length + rs.length = cap → Ext w w' → OW P R ops rest k n ((d, .slice (some ⟨w.heap.size, 0, none⟩) s.length cap) :: σ) w') :
    OW P R ops (⟨some d, .convert t t' x, ty, pos, after, gd⟩ :: rest) k n σ w := by
  obtain ⟨v, w', h1, h2, h3, h4⟩ := EX.bytesOf (P := P) (n := n) (ty := ty) (w := w) ht ht' he hx hs
  rcases h2.2 with ⟨rfl, _⟩ | ⟨g, cap, rs, rfl, _, hb, hl, hc, hm⟩
  · simp [Value.ownBlock] at h3
  · simp [Value.ownBlock] at h3
    subst h3
    exact OW.val hg hd h1 (hn cap rs w' hb hc hm (by rw [bytesV_length] at hl; omega) h4)
end
end Go.Proofs.YthgfdpcpbghkpaaGreatDoor
namespace Go.Proofs.YthgfdpcpbghkpaaGreatDoor
open Go.RowKit
structure Mo (w w' : World) (S : List Nat) : Prop where
  os : w'.os = w.os
  tape : w'.tape = w.tape
  output : w'.output = w.output
  size : w.heap.size ≤ w'.heap.size
  block : ∀ k, k < w.heap.size → k ∉ S → w'.heap[k]? = w.heap[k]?
section
variable {w w' w'' : World} {S S' : List Nat} {b B : Nat} {T : TypeId} {l : List Value}
theorem Mo.refl (w : World) (S : List Nat) : Mo w w S := ⟨rfl, rfl, rfl, Nat.le_refl _, fun _ _ _ => rfl⟩
theorem Mo.trans (h : Mo w w' S) (k : Mo w' w'' S) : Mo w w'' S :=
  ⟨k.os.trans h.os, k.tape.trans h.tape, k.output.trans h.output, Nat.le_trans h.size k.size, fun i hi hS => (k.block i (Nat.lt_of_lt_of_le hi h.size) hS).trans (h.block i hi hS)⟩
theorem Mo.mono (h : Mo w w' S) (hs : ∀ k ∈ S, k ∈ S') : Mo w w' S' := ⟨h.os, h.tape, h.output, h.size, fun i hi hS => h.block i hi fun hk => hS (hs i hk)⟩
theorem Mo.fresh (h : Mo w w' S) (hs : ∀ k ∈ S, k < w.heap.size → k ∈ S') : Mo w w' S' := ⟨h.os, h.tape, h.output, h.size, fun i hi hS => h.block i hi fun hk => hS (hs i hk hi)⟩
theorem Mo.of_ext (h : Ext w w') (S : List Nat) : Mo w w' S := ⟨h.os, h.tape, h.output, h.size, fun i hi _ => h.block i hi⟩
theorem Mo.ext (h : Mo w w' []) : Ext w w' := ⟨h.os, h.tape, h.output, h.size, fun i hi => h.block i hi (by simp)⟩
theorem Mo.set (w : World) (b i : Nat) (u : Value) : Mo w (w.setCell ⟨b, i, none⟩ u) [b] := ⟨rfl, rfl, rfl, by simp, fun k _ hk => Below.heap_setCell w _ u k (fun e => hk (by simp [e]))⟩
theorem Mo.grown {row : Option Nat} (h : w.grownBy w' row) (hr : ∀ k, row = some k → k ∈ S) : Mo w w' S := ⟨h.os, h.tape, h.output, h.size, fun i hi hS => h.block i hi (fun e => hS (hr i e.symm))⟩
theorem below_mo {a : World} (h : Below B a w) (hm : Mo w w' S) (hB : B ≤ w.heap.size) (hs : ∀ k ∈ S, B ≤ k) : Below B a w' :=
  ⟨hm.os.trans h.os, hm.tape.trans h.tape, hm.output.trans h.output, Nat.le_trans h.size hm.size, fun i hi => (hm.block i (by omega) (fun hk => by have := hs i hk; omega)).trans (h.block i hi)⟩
theorem Bk.mo (h : Bk w b T l) (hm : Mo w w' S) (hb : b ∉ S) : Bk w' b T l := h.of_block (hm.block b h.lt hb)
theorem Own.mo {s n : Nat} {v : Value} {xs : List Value} (h : Own w B T s v n xs) (hm : Mo w w' S) (hb : ∀ k, v.ownBlock = some k → k ∉ S) : Own w' B T s v n xs :=
  h.of_blocks fun k hk => hm.block k (h.lt k hk).2 (hb k hk)
theorem Sl.mo {A : Option Addr} {xs : List Value} (h : Sl w B A xs) (hm : Mo w w' S) (hB : B ≤ w.heap.size) (hb : ∀ k ∈ S, B ≤ k) : Sl w' B A xs := by
  rcases h with h | ⟨b, o, h1, h2, h3⟩
  · exact .inl h
  · refine .inr ⟨b, o, h1, h2, fun j u hu => ?_⟩
    have hc := h3 j u hu
    have hk := hm.block b (by omega) (fun hk => by have := hb b hk; omega)
    unfold World.cell? at hc ⊢
    rwa [hk]
end
section
variable {P : Program} {R : Act → World → Prop} {ops : Array Oper} {rest : List Oper} {k : List KI} {n : Nat} {σ : Sig} {w : World} {x y t : Operand} {T T' e ty : TypeId} {pos : String} {after : Array Edge} {gd : Option (Nat × Bool)} {d : Nat} {v z : Value} {s bs : Nat} {l : List Value}
theorem EX.box1 (hx : ev σ x = some v) (h1 : v.oneCell' = true) : EX P n σ (.box T x) ty w (.pointer (some ⟨w.heap.size, 0, none⟩)) (w.alloc (.cells [v].toArray T)) :=
  EX.box hx (by rw [oneCell_cells h1])
theorem OW.boxB (hg : wantS ops σ gd = some true) (hd : Nat.blt d n = true) (hx : ev σ x = some v) (h1 : v.oneCell' = true)
    (h : ∀ b w', w.heap.size ≤ b → Bk w' b T [v] → Ext w w' → OW P R ops rest k n ((d, .pointer (some ⟨b, 0, none⟩)) :: σ) w') :
    OW P R ops (⟨some d, .box T x, ty, pos, after, gd⟩ :: rest) k n σ w :=
  OW.val hg hd (EX.box1 hx h1) (h _ _ (Nat.le_refl _) (Bk.new w T [v]) (Ext.alloc w _))
theorem OW.allocB (hg : wantS ops σ gd = some true) (hd : Nat.blt d n = true) (hi : TI P T z s bs) (hl : z.cells.toList = l)
    (h : ∀ b w', w.heap.size ≤ b → Bk w' b T l → Ext w w' → OW P R ops rest k n ((d, .pointer (some ⟨b, 0, none⟩)) :: σ) w') :
    OW P R ops (⟨some d, .alloc T, ty, pos, after, gd⟩ :: rest) k n σ w :=
  OW.val hg hd (EX.alloc hi hl) (h _ _ (Nat.le_refl _) (Bk.new w T l) (Ext.alloc w _))
theorem OW.storeB {b i : Nat} (hg : wantS ops σ gd = some true) (hi : TI P T z 1 bs) (hx : ev σ x = some (.pointer (some ⟨b, i, none⟩))) (hy : ev σ y = some v) (h1 : v.oneCell' = true) (hb : Bk w b T' l) (hlt : i < l.length)
    (h : ∀ w', Bk w' b T' (l.set i v) → Mo w w' [b] → OW P R ops rest k n σ w') :
    OW P R ops (⟨none, .store T x y, ty, pos, after, gd⟩ :: rest) k n σ w :=
  OW.eff hg (EU.storeBk hi hx hy h1 hb hlt) (h _ (hb.set i v) (Mo.set w b i v))
theorem OW.makeB {len : Nat} {kl kc : IntKind} (hg : wantS ops σ gd = some true) (hd : Nat.blt d n = true) (ht : P.underlying T = some (.slice e)) (hi : TI P e z 1 bs) (hz1 : z.oneCell' = true) (hx : ev σ x = some (.int kl (len : Int))) (hy : ev σ y = some (.int kc (len : Int)))
    (hb : bs * len ≤ 281474976710656) (h63 : len ≤ 9223372036854775807)
    (h : ∀ b w', w.heap.size ≤ b → Bk w' b e (List.replicate len z) → Ext w w' → OW P R ops rest k n ((d, .slice (some ⟨b, 0, none⟩) len len) :: σ) w') :
    OW P R ops (⟨some d, .makeSlice T x y, ty, pos, after, gd⟩ :: rest) k n σ w :=
  OW.val hg hd (EX.makeSlice ht hi hz1 hx hy hb h63) (h _ _ (Nat.le_refl _) (Bk.new w e _) (Ext.alloc w _))
theorem OW.buildB {parts : Array (Nat × Operand)} {vs : List Value} (len : Nat) (hg : wantS ops σ gd = some true) (hd : Nat.blt d n = true) (ht : P.underlying T = some (.slice e)) (hi : TI P e z 1 bs) (hz1 : z.oneCell' = true)
    (hv : evs σ (parts.toList.map (·.2)) = some vs) (hp : parts.toList.map (·.1) = List.range' 0 parts.toList.length) (hl : vs.length = len) (h1 : vs.all (·.oneCell') = true) (hlen : len ≤ 16777216)
    (h : ∀ b w', w.heap.size ≤ b → Bk w' b e vs → Ext w w' → OW P R ops rest k n ((d, .slice (some ⟨b, 0, none⟩) len len) :: σ) w') :
    OW P R ops (⟨some d, .buildSlice T len parts, ty, pos, after, gd⟩ :: rest) k n σ w :=
  OW.val hg hd (EX.buildSlice len ht hi hz1 hv hp hl h1 hlen) (h _ _ (Nat.le_refl _) (Bk.new w e vs) (Ext.alloc w _))
theorem EX.makeFunc {f : FuncId} {fs cs : List Operand} {fv cv : List Value} (hf : evs σ fs = some fv) (hc : evs σ cs = some cv) :
    EX P n σ (.makeFunc (.func f) fs.toArray cs.toArray) ty w (.func (.func f) fv.toArray cv.toArray) w := fun A ha dst pos after g => by
  have e1 : fs.toArray.map A.eval = fv.toArray := by simp [ha.evs hf]
  have e2 : cs.toArray.map A.eval = cv.toArray := by simp [ha.evs hc]
  simp only [execOp, e1, e2]
  rfl
theorem EC.val {f : FuncId} {xs : List Operand} {vs fv cv args : List Value} {ats : Array TypeId} {fn : Func} (hf : P.funcs[f]? = some fn) (hn : (!(fn.name == "runtime.NumGoroutine") && fn.body.isSome) = true)
    (ht : ev σ t = some (.func (.func f) fv.toArray cv.toArray)) (hx : evs σ xs = some vs) (he : fv ++ vs ++ cv = args) :
    EC P n σ (.call { callee := .value t, args := xs.toArray, argTypes := ats }) ty w f args.toArray := fun A ha dst pos after g => by
  subst he
  have e1 : xs.toArray.map A.eval = vs.toArray := by simp [ha.evs hx]
  simp only [execOp, resolve, Deferred.ofValue, ha.ev ht, Sem.run_bind, Sem.run_pure, Result.andThen_ok, invoke, e1]
  have := run_callFunc (P := P) (w := w) hf hn (fv ++ vs ++ cv).toArray
  simpa using this
theorem OW.callV {f : FuncId} {xs : List Operand} {ats : Array TypeId} {vs fv cv args : List Value} {Q : Value → World → Prop}
    (hg : wantS ops σ gd = some true) (hd : Nat.blt d n = true) (ht : ev σ t = some (.func (.func f) fv.toArray cv.toArray)) (hx : evs σ xs = some vs) (he : fv ++ vs ++ cv = args) (hc : Ret P f args w Q)
    (h : ∀ v w', Q v w' → OW P R ops rest k n ((d, v) :: σ) w') :
    OW P R ops (⟨some d, .call { callee := .value t, args := xs.toArray, argTypes := ats }, ty, pos, after, gd⟩ :: rest) k n σ w := by
  obtain ⟨⟨fn, h1, h2⟩, _⟩ := id hc
  exact OW.callE hg hd (EC.val h1 h2 ht hx he) hc h
end
theorem Ret.of_calls {P : Program} {f : FuncId} {fn : Func} {args : List Value} {w : World} {v : Value} {W : World → Prop} (hf : P.funcs[f]? = some fn) (hn : (!(fn.name == "runtime.NumGoroutine") && fn.body.isSome) = true)
    (h : Calls P f args.toArray w fun e w' => e = .returned v ∧ W w') : Ret P f args w fun v' w' => v' = v ∧ W w' :=
  ⟨⟨fn, hf, hn⟩, h.mono fun e w' ⟨he, hw⟩ => ⟨v, he, rfl, hw⟩⟩
end Go.Proofs.YthgfdpcpbghkpaaGreatDoor
namespace Go.Proofs.YthgfdpcpbghkpaaGreatDoor.Pth
abbrev Txts := List (List UInt8)
def parts : List UInt8 → Txts
  | [] => [[]]
  | c :: s => if c = 47 then [] :: parts s else match parts s with
    | p :: r => (c :: p) :: r
    | [] => [[c]]
theorem parts_cons (c : UInt8) (s : List UInt8) : parts (c :: s) = if c = 47 then [] :: parts s else match parts s with
    | p :: r => (c :: p) :: r
    | [] => [[c]] := rfl
theorem parts_ne : ∀ s, parts s ≠ []
  | [] => by simp [parts]
  | c :: s => by
    unfold parts
    split
    · simp
    · split <;> simp
theorem parts_slash : ∀ a b : List UInt8, (∀ c ∈ a, c ≠ 47) → parts (a ++ 47 :: b) = a :: parts b
  | [], b, _ => by simp [parts]
  | c :: a, b, h => by
    have hc : c ≠ 47 := h c (by simp)
    rw [List.cons_append, parts_cons, if_neg hc, parts_slash a b (fun x hx => h x (by simp [hx]))]
theorem parts_whole : ∀ a : List UInt8, (∀ c ∈ a, c ≠ 47) → parts a = [a]
  | [], _ => rfl
  | c :: a, h => by
    have hc : c ≠ 47 := h c (by simp)
    rw [parts_cons, if_neg hc, parts_whole a (fun x hx => h x (by simp [hx]))]
def wt : Txts → Nat
  | [] => 0
  | x :: l => x.length + 1 + wt l
theorem wt_parts : ∀ s, wt (parts s) = s.length + 1
  | [] => rfl
  | c :: s => by
    have ih := wt_parts s
    unfold parts
    split
    · simp [wt, ih]; omega
    · split
      · rename_i p r e
        rw [e] at ih
        simp [wt] at ih ⊢
        omega
      · rename_i e
        exact absurd e (parts_ne s)
theorem wt_len : ∀ l : Txts, l.length ≤ wt l
  | [] => by simp [wt]
  | x :: l => by have := wt_len l; simp [wt]; omega
theorem wt_append : ∀ a b : Txts, wt (a ++ b) = wt a + wt b
  | [], b => by simp [wt]
  | x :: a, b => by simp [wt, wt_append a b]; omega
theorem wt_filter (q : List UInt8 → Bool) : ∀ l : Txts, wt (l.filter q) ≤ wt l
  | [] => by simp [wt]
  | x :: l => by
    have := wt_filter q l
    rw [List.filter_cons]
    split <;> simp [wt] <;> omega
theorem wt_mem : ∀ {l : Txts} {x : List UInt8}, x ∈ l → x.length < wt l
  | y :: l, x, h => by
    simp only [wt]
    rcases List.mem_cons.1 h with rfl | h
    · omega
    · have := wt_mem h; omega
def joinS : Txts → List UInt8
  | [] => []
  | [x] => x
  | x :: y :: l => x ++ 47 :: joinS (y :: l)
theorem joinS_eq : ∀ l : Txts, Go.Lib.join l [47] = joinS l
  | [] => rfl
  | [x] => by simp [Go.Lib.join, List.intercalate, joinS]
  | x :: y :: l => by
    have ih := joinS_eq (y :: l)
    simp only [Go.Lib.join, List.intercalate, joinS] at ih ⊢
    rw [← ih]
    simp [List.intersperse]
theorem joinS_wt : ∀ l : Txts, (joinS l).length ≤ wt l
  | [] => by simp [joinS]
  | [x] => by simp [joinS, wt]
  | x :: y :: l => by
    have := joinS_wt (y :: l)
    simp [joinS, wt] at this ⊢
    omega
theorem joinS_snoc : ∀ (l : Txts) (x : List UInt8), l ≠ [] → joinS (l ++ [x]) = joinS l ++ 47 :: x
  | [y], x, _ => by simp [joinS]
  | y :: z :: l, x, _ => by
    have ih := joinS_snoc (z :: l) x (by simp)
    simp only [List.cons_append, joinS] at ih ⊢
    rw [ih]
    simp
def keepB (x : List UInt8) : Bool := decide (x ≠ [] ∧ x ≠ [46])
def kept (l : Txts) : Txts := l.filter keepB
theorem kept_snoc (l : Txts) (x : List UInt8) : kept (l ++ [x]) = if keepB x = true then kept l ++ [x] else kept l := by
  unfold kept
  rw [List.filter_append, List.filter_cons]
  split <;> simp_all
theorem joinS_nil {l : Txts} (h : ∀ x ∈ l, x ≠ []) : joinS l = [] ↔ l = [] := by
  constructor
  · intro e
    match l, h, e with
    | [], _, _ => rfl
    | [x], h, e => exact absurd e (h x (by simp))
    | x :: y :: l, _, e => simp [joinS] at e
  · rintro rfl; rfl
theorem kept_ne (l : Txts) : ∀ x ∈ kept l, x ≠ [] := by
  intro x hx
  have := (List.mem_filter.1 hx).2
  simp [keepB] at this
  exact this.1
def dd : List UInt8 := [46, 46]
def fits (s : List UInt8) : Prop := ∀ c ∈ s, 32 ≤ c.toNat ∧ c.toNat ≤ 126
instance (s : List UInt8) : Decidable (fits s) := by unfold fits; infer_instance
def cleanP (s : List UInt8) : List UInt8 × Nat :=
  if fits s ∧ dd ∉ parts s ∧ joinS (kept (parts s)) ≠ [] ∧ (joinS (kept (parts s))).length ≤ 120 then (joinS (kept (parts s)), 0) else ([], 140)
def checkP (s : List UInt8) : Nat := if cleanP s = (s, 0) then 0 else 140
end Go.Proofs.YthgfdpcpbghkpaaGreatDoor.Pth
namespace Go.Proofs.YthgfdpcpbghkpaaGreatDoor.Pth
open Go.Lib
theorem split_parts : ∀ (k : Nat) (s : List UInt8), count s [47] = k → splitK [47] 0 k s = parts s
  | 0, s, hk => by
    have hn : ∀ c ∈ s, c ≠ 47 := by
      intro c hc e
      subst e
      have hi := index_one s 47
      rcases Int.lt_or_le (index s [47]) 0 with h | h
      · have := index_ge s [47]
        have h1 : indexByte s 47 = -1 := by rw [← hi]; omega
        obtain ⟨j, hj⟩ := List.getElem?_of_mem hc
        exact indexByte_none h1 j hj
      · obtain ⟨i, hi'⟩ := Int.eq_ofNat_of_zero_le h
        have := count_hit (s := s) (sub := [47]) (by simp) hi'
        omega
    rw [splitK, parts_whole s hn]
  | k + 1, s, hk => by
    have hne : ¬ index s [47] = -1 := fun h => by rw [count_miss h] at hk; omega
    have hge := index_ge s [47]
    obtain ⟨i, hi⟩ := Int.eq_ofNat_of_zero_le (show 0 ≤ index s [47] by omega)
    have hc := count_hit (s := s) (sub := [47]) (by simp) hi
    have hb : indexByte s 47 = i := by rw [← index_one]; exact hi
    obtain ⟨h1, h2⟩ := indexByte_some hb
    have hlt : i < s.length := (List.getElem?_eq_some_iff.1 h1).1
    have hs : s = s.take i ++ 47 :: s.drop (i + 1) := by
      have e := List.take_append_drop i s
      rw [List.drop_eq_getElem_cons hlt] at e
      have e2 : s[i] = 47 := by
        have := List.getElem?_eq_getElem hlt
        rw [this] at h1
        exact Option.some.inj h1
      rw [e2] at e
      exact e.symm
    have hn : ∀ c ∈ s.take i, c ≠ 47 := by
      intro c hc' e
      subst e
      obtain ⟨j, hj⟩ := List.getElem?_of_mem hc'
      have hji : j < i := by
        have := (List.getElem?_eq_some_iff.1 hj).1
        rw [List.length_take] at this
        omega
      rw [List.getElem?_take_of_lt hji] at hj
      exact h2 j hji hj
    have hbe : ¬ (index s [47] == -1) = true := fun e => hne (beq_iff_eq.1 e)
    rw [splitK, if_neg hbe, show (index s [47]).toNat = i by omega, Nat.add_zero]
    have ih := split_parts k (s.drop (i + 1)) (by simp only [List.length_singleton] at hc; omega)
    rw [show i + [(47 : UInt8)].length = i + 1 from rfl, ih]
    conv => rhs; rw [hs]
    rw [parts_slash _ _ hn]
def cmpL : Txts → Txts → Int
  | [], [] => 0
  | [], _ :: _ => -1
  | _ :: _, [] => 1
  | x :: xs, y :: ys => if x = y then cmpL xs ys else compareBytes x y
def cmpP (a b : List UInt8) : Int := cmpL (parts a) (parts b)
theorem cb_eq : ∀ x y : List UInt8, compareBytes x y = 0 ↔ x = y
  | [], [] => by simp [compareBytes]
  | [], _ :: _ => by simp [compareBytes]
  | _ :: _, [] => by simp [compareBytes]
  | a :: x, b :: y => by
    have ih := cb_eq x y
    unfold compareBytes
    split
    · rename_i h
      have : a ≠ b := fun e => by subst e; exact absurd h (by simp)
      simp [this]
    · split
      · rename_i h
        have : a ≠ b := fun e => by subst e; exact absurd h (by simp)
        simp [this]
      · rename_i h1 h2
        have : a = b := by
          have h1' : ¬ a.toNat < b.toNat := h1
          have h2' : ¬ b.toNat < a.toNat := h2
          exact UInt8.toNat_inj.1 (by omega)
        subst this
        rw [ih]
        simp
theorem cb_val : ∀ x y : List UInt8, compareBytes x y = -1 ∨ compareBytes x y = 0 ∨ compareBytes x y = 1
  | [], [] => by simp [compareBytes]
  | [], _ :: _ => by simp [compareBytes]
  | _ :: _, [] => by simp [compareBytes]
  | a :: x, b :: y => by
    unfold compareBytes
    split
    · simp
    · split
      · simp
      · exact cb_val x y
theorem cb_neg : ∀ x y : List UInt8, compareBytes y x = - compareBytes x y
  | [], [] => by simp [compareBytes]
  | [], _ :: _ => by simp [compareBytes]
  | _ :: _, [] => by simp [compareBytes]
  | a :: x, b :: y => by
    have ih := cb_neg x y
    unfold compareBytes
    by_cases h1 : a < b
    · have h1' : a.toNat < b.toNat := h1
      have h2 : ¬ b < a := fun h => by have h' : b.toNat < a.toNat := h; omega
      simp [h1, h2]
    · by_cases h2 : b < a
      · simp [h1, h2]
      · simp [h1, h2, ih]
theorem cb_trans : ∀ x y z : List UInt8, compareBytes x y ≤ 0 → compareBytes y z ≤ 0 → compareBytes x z ≤ 0
  | [], y, [], _, _ => by simp [compareBytes]
  | [], y, _ :: _, _, _ => by simp [compareBytes]
  | a :: x, [], z, h, _ => by simp [compareBytes] at h
  | a :: x, b :: y, [], _, h => by simp [compareBytes] at h
  | a :: x, b :: y, c :: z, h1, h2 => by
    have ih := cb_trans x y z
    unfold compareBytes at h1 h2 ⊢
    have lt : ∀ p q : UInt8, (p < q) = (p.toNat < q.toNat) := fun _ _ => rfl
    simp only [lt] at h1 h2 ⊢
    split at h1
    · split at h2
      · rw [if_pos (by omega)]; decide
      · split at h2
        · omega
        · rw [if_pos (by omega)]; decide
    · split at h1
      · omega
      · split at h2
        · rw [if_pos (by omega)]; decide
        · split at h2
          · omega
          · rw [if_neg (by omega), if_neg (by omega)]
            exact ih h1 h2
theorem cmpL_val : ∀ x y : Txts, cmpL x y = -1 ∨ cmpL x y = 0 ∨ cmpL x y = 1
  | [], [] => by simp [cmpL]
  | [], _ :: _ => by simp [cmpL]
  | _ :: _, [] => by simp [cmpL]
  | a :: x, b :: y => by
    unfold cmpL
    split
    · exact cmpL_val x y
    · exact cb_val a b
theorem cmpL_eq : ∀ x y : Txts, cmpL x y = 0 ↔ x = y
  | [], [] => by simp [cmpL]
  | [], _ :: _ => by simp [cmpL]
  | _ :: _, [] => by simp [cmpL]
  | a :: x, b :: y => by
    unfold cmpL
    split
    · rename_i h; rw [cmpL_eq x y]; simp [h]
    · rename_i h
      rw [cb_eq]
      simp [h]
theorem cmpL_neg : ∀ x y : Txts, cmpL y x = - cmpL x y
  | [], [] => by simp [cmpL]
  | [], _ :: _ => by simp [cmpL]
  | _ :: _, [] => by simp [cmpL]
  | a :: x, b :: y => by
    unfold cmpL
    by_cases h : a = b
    · rw [if_pos h.symm, if_pos h]; exact cmpL_neg x y
    · rw [if_neg (fun e => h e.symm), if_neg h]; exact cb_neg a b
theorem cmpL_trans : ∀ x y z : Txts, cmpL x y ≤ 0 → cmpL y z ≤ 0 → cmpL x z ≤ 0
  | [], y, [], _, _ => by simp [cmpL]
  | [], y, _ :: _, _, _ => by simp [cmpL]
  | a :: x, [], z, h, _ => by simp [cmpL] at h
  | a :: x, b :: y, [], _, h => by simp [cmpL] at h
  | a :: x, b :: y, c :: z, h1, h2 => by
    have ih := cmpL_trans x y z
    unfold cmpL at h1 h2 ⊢
    by_cases e1 : a = b
    · subst e1
      rw [if_pos rfl] at h1
      by_cases e2 : a = c
      · rw [if_pos e2] at h2 ⊢
        exact ih h1 h2
      · rw [if_neg e2] at h2 ⊢
        exact h2
    · rw [if_neg e1] at h1
      by_cases e2 : b = c
      · subst e2
        rw [if_neg e1]
        exact h1
      · rw [if_neg e2] at h2
        have h3 := cb_trans a b c h1 h2
        by_cases e3 : a = c
        · subst e3
          have h4 := cb_neg a b
          have h5 : compareBytes a b = 0 := by omega
          exact absurd ((cb_eq a b).1 h5) e1
        · rw [if_neg e3]
          exact h3
def glue : Txts → List UInt8
  | [] => []
  | [x] => x
  | x :: y :: l => x ++ 47 :: glue (y :: l)
theorem glue_parts : ∀ s, glue (parts s) = s
  | [] => rfl
  | c :: s => by
    have ih := glue_parts s
    rw [parts_cons]
    split
    · rename_i h
      subst h
      rcases hp : parts s with _ | ⟨p, r⟩
      · exact absurd hp (parts_ne s)
      · rw [hp] at ih
        simp [glue, ih]
    · rcases hp : parts s with _ | ⟨p, r⟩
      · exact absurd hp (parts_ne s)
      · rw [hp] at ih
        cases r with
        | nil => simp [glue] at ih ⊢; exact ih
        | cons q r => simp [glue] at ih ⊢; exact ih
theorem cmpP_eq (a b : List UInt8) : cmpP a b = 0 ↔ a = b := by
  unfold cmpP
  rw [cmpL_eq]
  constructor
  · intro h
    rw [← glue_parts a, ← glue_parts b, h]
  · rintro rfl; rfl
end Go.Proofs.YthgfdpcpbghkpaaGreatDoor.Pth
namespace Go.Proofs.YthgfdpcpbghkpaaGreatDoor.Srt
open Pth
abbrev By := List UInt8
section
variable {α : Type} (key : α → By)
def cmpK (a b : α) : Int := cmpP (key a) (key b)
theorem cmpK_val (a b : α) : cmpK key a b = -1 ∨ cmpK key a b = 0 ∨ cmpK key a b = 1 := cmpL_val _ _
theorem cmpK_neg (a b : α) : cmpK key b a = - cmpK key a b := cmpL_neg _ _
theorem cmpK_eq (a b : α) : cmpK key a b = 0 ↔ key a = key b := cmpP_eq _ _
theorem cmpK_trans {a b c : α} (h1 : cmpK key a b ≤ 0) (h2 : cmpK key b c ≤ 0) : cmpK key a c ≤ 0 := cmpL_trans _ _ _ h1 h2
theorem cmpK_lt {a b c : α} (h1 : cmpK key a b = -1) (h2 : cmpK key b c ≤ 0) : cmpK key a c = -1 := by
  have h3 := cmpK_trans key (show cmpK key a b ≤ 0 by omega) h2
  rcases cmpK_val key a c with h | h | h
  · exact h
  · exfalso
    have e := (cmpK_eq key a c).1 h
    have h4 : cmpK key b a ≤ 0 := by
      have : cmpK key b a = cmpK key b c := by unfold cmpK; rw [e]
      omega
    have h5 := cmpK_neg key a b
    omega
  · omega
theorem cmpK_lt' {a b c : α} (h1 : cmpK key a b ≤ 0) (h2 : cmpK key b c = -1) : cmpK key a c = -1 := by
  have h3 := cmpK_trans key h1 (show cmpK key b c ≤ 0 by omega)
  rcases cmpK_val key a c with h | h | h
  · exact h
  · exfalso
    have e := (cmpK_eq key a c).1 h
    have h4 : cmpK key c b ≤ 0 := by
      have : cmpK key c b = cmpK key a b := by unfold cmpK; rw [e]
      omega
    have h5 := cmpK_neg key b c
    omega
  · omega
def Rises (l : List α) : Prop := l.Pairwise (fun a b => cmpK key a b = -1)
theorem rises_one : ∀ {a b : List α}, Rises key a → Rises key b → (∀ x, x ∈ a ↔ x ∈ b) → a = b
  | [], [], _, _, _ => rfl
  | [], y :: b, _, _, h => absurd ((h y).2 (by simp)) (by simp)
  | x :: a, [], _, _, h => absurd ((h x).1 (by simp)) (by simp)
  | x :: a, y :: b, ha, hb, h => by
    have ha' := List.pairwise_cons.1 ha
    have hb' := List.pairwise_cons.1 hb
    have irr : ∀ z : α, cmpK key z z ≠ -1 := fun z q => by
      have := (cmpK_eq key z z).2 rfl
      omega
    have hxy : x = y := by
      rcases List.mem_cons.1 ((h x).1 (by simp)) with q | q
      · exact q
      · have h1 := hb'.1 x q
        rcases List.mem_cons.1 ((h y).2 (by simp)) with q2 | q2
        · exact q2.symm
        · have h2 := ha'.1 y q2
          have := cmpK_neg key x y
          omega
    subst hxy
    have hm : ∀ z, z ∈ a ↔ z ∈ b := fun z => by
      constructor
      · intro hz
        rcases List.mem_cons.1 ((h z).1 (List.mem_cons_of_mem _ hz)) with q | q
        · subst q
          exact absurd (ha'.1 z hz) (irr z)
        · exact q
      · intro hz
        rcases List.mem_cons.1 ((h z).2 (List.mem_cons_of_mem _ hz)) with q | q
        · subst q
          exact absurd (hb'.1 z hz) (irr z)
        · exact q
    rw [rises_one ha'.2 hb'.2 hm]
structure IsMap (m : By → Option α) (out : List α) : Prop where
  rises : Rises key out
  mem : ∀ x, x ∈ out ↔ m (key x) = some x
theorem IsMap.one {key : α → By} {m : By → Option α} {a b : List α} (h1 : IsMap key m a) (h2 : IsMap key m b) : a = b := rises_one key h1.rises h2.rises fun x => (h1.mem x).trans (h2.mem x).symm
def none' : By → Option α := fun _ => none
theorem IsMap.nil : IsMap key (none' : By → Option α) [] := ⟨List.Pairwise.nil, fun x => by simp [none']⟩
def upd (m : By → Option α) (p : By) (v : Option α) : By → Option α := fun q => if q = p then v else m q
def insR (x : α) : List α → List α
  | [] => [x]
  | y :: ys => if cmpK key x y = -1 then x :: y :: ys else if cmpK key x y = 0 then x :: ys else y :: insR x ys
theorem mem_insR (x : α) : ∀ {ys : List α}, Rises key ys → ∀ z, z ∈ insR key x ys ↔ z = x ∨ (z ∈ ys ∧ key z ≠ key x)
  | [], _, z => by simp [insR]
  | y :: ys, h, z => by
    have h' := List.pairwise_cons.1 h
    have ih := mem_insR x h'.2 z
    unfold insR
    by_cases c1 : cmpK key x y = -1
    · rw [if_pos c1]
      have hne : ∀ u ∈ y :: ys, key u ≠ key x := fun u hu e => by
        have h1 : cmpK key x u = -1 := by
          rcases List.mem_cons.1 hu with rfl | hu
          · exact c1
          · exact cmpK_lt key c1 (by have := h'.1 u hu; omega)
        have h2 := (cmpK_eq key x u).2 e.symm
        omega
      constructor
      · intro hz
        rcases List.mem_cons.1 hz with q | q
        · exact .inl q
        · exact .inr ⟨q, hne z q⟩
      · rintro (q | ⟨q, _⟩)
        · subst q; simp
        · exact List.mem_cons_of_mem _ q
    · rw [if_neg c1]
      by_cases c2 : cmpK key x y = 0
      · rw [if_pos c2]
        have ey := (cmpK_eq key x y).1 c2
        have hne : ∀ u ∈ ys, key u ≠ key x := fun u hu e => by
          have h1 := h'.1 u hu
          have h2 := (cmpK_eq key y u).2 (by rw [e, ey])
          omega
        constructor
        · intro hz
          rcases List.mem_cons.1 hz with q | q
          · exact .inl q
          · exact .inr ⟨List.mem_cons_of_mem _ q, hne z q⟩
        · rintro (q | ⟨q, q2⟩)
          · subst q; simp
          · rcases List.mem_cons.1 q with q | q
            · subst q
              exact absurd ey.symm q2
            · exact List.mem_cons_of_mem _ q
      · rw [if_neg c2]
        simp only [List.mem_cons, ih]
        constructor
        · rintro (q | q | ⟨q, q2⟩)
          · subst q
            exact .inr ⟨.inl rfl, fun e => c2 ((cmpK_eq key x z).2 e.symm)⟩
          · exact .inl q
          · exact .inr ⟨.inr q, q2⟩
        · rintro (q | ⟨q | q, q2⟩)
          · exact .inr (.inl q)
          · exact .inl q
          · exact .inr (.inr ⟨q, q2⟩)
theorem rises_insR (x : α) : ∀ {ys : List α}, Rises key ys → Rises key (insR key x ys)
  | [], _ => by simp [insR, Rises]
  | y :: ys, h => by
    have h' := List.pairwise_cons.1 h
    have ih := rises_insR x h'.2
    unfold insR
    by_cases c1 : cmpK key x y = -1
    · rw [if_pos c1]
      refine List.pairwise_cons.2 ⟨fun u hu => ?_, h⟩
      rcases List.mem_cons.1 hu with rfl | hu
      · exact c1
      · exact cmpK_lt key c1 (by have := h'.1 u hu; omega)
    · rw [if_neg c1]
      by_cases c2 : cmpK key x y = 0
      · rw [if_pos c2]
        refine List.pairwise_cons.2 ⟨fun u hu => ?_, h'.2⟩
        exact cmpK_lt' key (by omega) (h'.1 u hu)
      · rw [if_neg c2]
        refine List.pairwise_cons.2 ⟨fun u hu => ?_, ih⟩
        rcases (mem_insR key x h'.2 u).1 hu with q | ⟨q, _⟩
        · subst q
          have h1 := cmpK_neg key u y
          have h2 := cmpK_val key u y
          omega
        · exact h'.1 u q
theorem IsMap.put {m : By → Option α} {ys : List α} (h : IsMap key m ys) (x : α) : IsMap key (upd m (key x) (some x)) (insR key x ys) := by
  refine ⟨rises_insR key x h.rises, fun z => ?_⟩
  rw [mem_insR key x h.rises z]
  unfold upd
  by_cases e : key z = key x
  · rw [if_pos e]
    constructor
    · rintro (q | ⟨_, q⟩)
      · rw [q]
      · exact absurd e q
    · intro q
      injection q with q
      exact .inl q.symm
  · rw [if_neg e, ← h.mem z]
    constructor
    · rintro (q | ⟨q, _⟩)
      · exact absurd (by rw [q]) e
      · exact q
    · exact fun q => .inr ⟨q, e⟩
end
end Go.Proofs.YthgfdpcpbghkpaaGreatDoor.Srt
namespace Go.Proofs.YthgfdpcpbghkpaaGreatDoor
def trn : Nat → Nat → Nat → Nat
  | 0, _, out => out
  | n + 1, v, out => trn n (v / 2) ((out * 2) % 4294967296 ||| v % 2)
def cstep (r : Nat) : Nat := if r &&& 2147483648 ≠ 0 then (r * 2 % 4294967296) ^^^ 79764919 else r * 2 % 4294967296
def citer : Nat → Nat → Nat
  | 0, r => r
  | k + 1, r => cstep (citer k r)
theorem citer_succ (k r : Nat) : citer (k + 1) r = cstep (citer k r) := rfl
def ctab (i : Nat) : Nat := citer 8 (i * 16777216)
def cnext (r b : Nat) : Nat := (r * 256 % 4294967296) ^^^ ctab ((r / 16777216) ^^^ b)
def cmore (r : Nat) (s : List UInt8) : Nat := s.foldl (fun r c => cnext r c.toNat) r
def cieeeR (s : List UInt8) : Nat := s.foldl (fun r c => cnext r (trn 8 c.toNat 0)) 4294967295
def cieee (s : List UInt8) : Nat := trn 32 (4294967295 - cieeeR s) 0
def bits8 (b : Nat) : List Nat := (List.range 8).map fun j => b / 2 ^ (7 - j) % 2
def bitsOf (l : List UInt8) : List Nat := l.flatMap fun b => bits8 b.toNat
theorem bits8_length (b : Nat) : (bits8 b).length = 8 := by simp [bits8]
theorem bitsOf_length : ∀ l, (bitsOf l).length = 8 * l.length
  | [] => rfl
  | b :: l => by
    have := bitsOf_length l
    simp only [bitsOf] at this ⊢
    rw [List.flatMap_cons, List.length_append, bits8_length, this, List.length_cons]; omega
theorem bits8_snoc (b j : Nat) (hj : j < 8) : (bits8 b).take (j + 1) = (bits8 b).take j ++ [b / 2 ^ (7 - j) % 2] := by
  rw [List.take_add_one]; simp [bits8, hj]
theorem bitsOf_snoc (l : List UInt8) (c : UInt8) : bitsOf (l ++ [c]) = bitsOf l ++ bits8 c.toNat := by simp [bitsOf]
theorem take_snoc {α : Type} (l : List α) (k : Nat) (h : k < l.length) : l.take (k + 1) = l.take k ++ [l[k]] := by
  rw [List.take_add_one]; simp [h]
theorem bits8_le (b : Nat) : ∀ x ∈ bits8 b, x ≤ 1 := by
  intro x hx
  obtain ⟨j, _, rfl⟩ := List.mem_map.1 hx
  omega
theorem bitsOf_le (l : List UInt8) : ∀ x ∈ bitsOf l, x ≤ 1 := by
  intro x hx
  obtain ⟨b, _, h⟩ := List.mem_flatMap.1 hx
  exact bits8_le _ x h
def bitsN (n v : Nat) : List Nat := (List.range n).map fun i => v / 2 ^ (n - 1 - i) % 2
theorem bitsN_length (n v : Nat) : (bitsN n v).length = n := by simp [bitsN]
theorem bitsN_get (n v i : Nat) (h : i < n) : (bitsN n v)[i]? = some (v / 2 ^ (n - 1 - i) % 2) := by simp [bitsN, h]
theorem bitsN_le (n v : Nat) : ∀ x ∈ bitsN n v, x ≤ 1 := by
  intro x hx
  obtain ⟨j, _, rfl⟩ := List.mem_map.1 hx
  omega
def numN (l : List Nat) : Nat := l.foldl (fun v x => v * 2 + x) 0
theorem numN_snoc (l : List Nat) (x : Nat) : numN (l ++ [x]) = numN l * 2 + x := by simp [numN]
theorem foldl_bits_lt : ∀ (l : List Nat) (v : Nat), (∀ x ∈ l, x ≤ 1) → l.foldl (fun v x => v * 2 + x) v < (v + 1) * 2 ^ l.length
  | [], v, _ => by simp
  | x :: l, v, h => by
    have ih := foldl_bits_lt l (v * 2 + x) (fun y hy => h y (by simp [hy]))
    have hx := h x (by simp)
    have h1 : (v * 2 + x + 1) * 2 ^ l.length ≤ (v * 2 + 2) * 2 ^ l.length := Nat.mul_le_mul_right _ (by omega)
    have h2 : (v + 1) * 2 ^ (x :: l).length = (v * 2 + 2) * 2 ^ l.length := by
      rw [List.length_cons, Nat.pow_succ, Nat.mul_comm (2 ^ l.length) 2, ← Nat.mul_assoc]
      congr 1
      omega
    rw [h2, List.foldl_cons]
    omega
theorem numN_lt (l : List Nat) (h : ∀ x ∈ l, x ≤ 1) : numN l < 2 ^ l.length := by
  have := foldl_bits_lt l 0 h
  simpa [numN] using this
def addP : List Nat → List Nat → List Nat
  | l, [] => l
  | [], _ :: _ => []
  | x :: l, q :: p => (x + q) % 2 :: addP l p
def polyP : List Nat := bitsN 33 4374732215
def divStep (l : List Nat) : List Nat := match l with
  | [] => []
  | x :: r => if x = 1 then (addP (x :: r) polyP).tail else r
def divB : Nat → List Nat → List Nat
  | 0, l => l
  | n + 1, l => divB n (divStep l)
def restN (l : List Nat) : List Nat := divB (l.length - 32) l
def rmore (r : Nat) (s : List UInt8) : Nat := numN (restN (addP (bitsOf s ++ List.replicate 32 0) (bitsN 32 r)))
theorem addP_get : ∀ (l p : List Nat) (j : Nat), (addP l p)[j]? = (l[j]?).map fun x => match p[j]? with | some q => (x + q) % 2 | none => x
  | l, [], j => by cases h : l[j]? <;> simp [addP, h]
  | [], _ :: _, j => by simp [addP]
  | x :: l, q :: p, 0 => by simp [addP]
  | x :: l, q :: p, j + 1 => by simpa [addP] using addP_get l p j
theorem addP_length (l p : List Nat) : (addP l p).length = l.length := by
  induction l generalizing p with
  | nil => cases p <;> simp [addP]
  | cons x l ih => cases p <;> simp [addP, ih]
theorem addP_le (l p : List Nat) (h : ∀ x ∈ l, x ≤ 1) : ∀ x ∈ addP l p, x ≤ 1 := by
  induction l generalizing p with
  | nil => cases p <;> simp [addP]
  | cons x l ih =>
    cases p with
    | nil => simpa [addP] using h
    | cons q p =>
      intro y hy
      simp only [addP, List.mem_cons] at hy
      rcases hy with rfl | hy
      · omega
      · exact ih p (fun z hz => h z (by simp [hz])) y hy
theorem divStep_length (l : List Nat) : (divStep l).length = l.length - 1 := by
  unfold divStep
  cases l with
  | nil => rfl
  | cons x r =>
    simp only
    split
    · rw [List.length_tail, addP_length]
    · simp
theorem divStep_le (l : List Nat) (h : ∀ x ∈ l, x ≤ 1) : ∀ x ∈ divStep l, x ≤ 1 := by
  unfold divStep
  cases l with
  | nil => simp
  | cons x r =>
    simp only
    split
    · exact fun y hy => addP_le _ _ h y (List.mem_of_mem_tail hy)
    · exact fun y hy => h y (by simp [hy])
theorem divB_length : ∀ (n : Nat) (l : List Nat), (divB n l).length = l.length - n
  | 0, l => rfl
  | n + 1, l => by rw [divB, divB_length n, divStep_length]; omega
theorem divB_le : ∀ (n : Nat) (l : List Nat), (∀ x ∈ l, x ≤ 1) → ∀ x ∈ divB n l, x ≤ 1
  | 0, l, h => h
  | n + 1, l, h => by rw [divB]; exact divB_le n _ (divStep_le l h)
theorem restN_length (l : List Nat) (h : 32 ≤ l.length) : (restN l).length = 32 := by rw [restN, divB_length]; omega
theorem restN_le (l : List Nat) (h : ∀ x ∈ l, x ≤ 1) : ∀ x ∈ restN l, x ≤ 1 := divB_le _ _ h
theorem polyP_length : polyP.length = 33 := bitsN_length _ _
theorem polyP_le : ∀ x ∈ polyP, x ≤ 1 := bitsN_le _ _
theorem addP_part {d e p : List Nat} {i : Nat} (he : ∀ j, e[j]? = (d[j]?).map fun x => if i ≤ j ∧ j < i + p.length then (x + p.getD (j - i) 0) % 2 else x) : e.drop i = addP (d.drop i) p := by
  apply List.ext_getElem?
  intro j
  rw [List.getElem?_drop, he, addP_get, List.getElem?_drop]
  cases h : d[i + j]? with
  | none => rfl
  | some x =>
    simp only [Option.map_some]
    by_cases hj : j < p.length
    · rw [if_pos ⟨by omega, by omega⟩, show i + j - i = j by omega]
      simp [hj, List.getD]
    · rw [if_neg (by omega)]
      simp [List.getElem?_eq_none (Nat.le_of_not_lt hj)]
theorem cstep_lt (r : Nat) : cstep r < 4294967296 := by
  unfold cstep
  split
  · exact Nat.xor_lt_two_pow (n := 32) (by omega) (by omega)
  · omega
theorem ctab_lt (i : Nat) : ctab i < 4294967296 := cstep_lt _
theorem cnext_lt (r b : Nat) : cnext r b < 4294967296 := Nat.xor_lt_two_pow (n := 32) (by omega) (ctab_lt _)
theorem trn_lt : ∀ n v o, o < 4294967296 → trn n v o < 4294967296
  | 0, _, _, h => h
  | n + 1, v, o, h => by
    unfold trn
    exact trn_lt n _ _ (Nat.or_lt_two_pow (n := 32) (by omega) (by omega))
theorem trn_small : ∀ n v o j, o < 2 ^ j → j + n ≤ 32 → trn n v o < 2 ^ (j + n)
  | 0, _, _, _, h, _ => h
  | n + 1, v, o, j, h, hj => by
    unfold trn
    have hp : 2 ^ (j + 1) ≤ 2 ^ 32 := Nat.pow_le_pow_right (by decide) (by omega)
    have h2 : 2 ^ (j + 1) = 2 * 2 ^ j := by rw [Nat.pow_succ, Nat.mul_comm]
    have hm : o * 2 % 4294967296 < 2 ^ (j + 1) := by
      have := Nat.mod_le (o * 2) 4294967296
      omega
    have h1 : 1 ≤ 2 ^ j := Nat.one_le_two_pow
    have := trn_small n (v / 2) (o * 2 % 4294967296 ||| v % 2) (j + 1) (Nat.or_lt_two_pow hm (by omega)) (by omega)
    rwa [show j + 1 + n = j + (n + 1) by omega] at this
theorem trn8_lt (v : Nat) : trn 8 v 0 < 256 := trn_small 8 v 0 0 (by decide) (by decide)
theorem cieeeR_snoc (s : List UInt8) (c : UInt8) : cieeeR (s ++ [c]) = cnext (cieeeR s) (trn 8 c.toNat 0) := by simp [cieeeR]
def byteOf (l : List Nat) (i : Nat) : Nat := (List.range 8).foldl (fun b k => b * 2 + l.getD (i + k) 0) 0
def textOf (l : List Nat) : List UInt8 := (List.range ((l.length + 7) / 8)).map fun i => UInt8.ofNat (byteOf l (8 * i))
def rieee (s : List UInt8) : Nat :=
  numN (bitsN 32 (4294967295 - rmore 4294967295 (textOf (s.flatMap fun c => (bits8 c.toNat).reverse)))).reverse
end Go.Proofs.YthgfdpcpbghkpaaGreatDoor
namespace Go.Proofs.YthgfdpcpbghkpaaGreatDoor
theorem tb_mul2 (a j : Nat) : (a * 2 % 4294967296).testBit j = (decide (j < 32) && (decide (1 ≤ j) && a.testBit (j - 1))) := by
  rw [show a * 2 = a <<< 1 by rw [Nat.shiftLeft_eq], show 4294967296 = 2 ^ 32 by decide, Nat.testBit_mod_two_pow, Nat.testBit_shiftLeft]
theorem top_bit (r : Nat) : (r &&& 2147483648 ≠ 0) ↔ r.testBit 31 = true := by
  rw [show 2147483648 = 2 ^ 31 by decide]
  constructor
  · intro h
    cases hb : r.testBit 31 with
    | true => rfl
    | false =>
      exfalso
      apply h
      apply Nat.eq_of_testBit_eq
      intro j
      rw [Nat.testBit_and, Nat.testBit_two_pow, Nat.zero_testBit]
      by_cases e : 31 = j
      · subst e; rw [hb]; rfl
      · simp [e]
  · intro h e
    have := congrArg (·.testBit 31) e
    simp only [Nat.testBit_and, h, Nat.testBit_two_pow, Nat.zero_testBit] at this
    exact absurd this (by decide)
theorem cstep_eq (r : Nat) : cstep r = (r * 2 % 4294967296) ^^^ (if r.testBit 31 then 79764919 else 0) := by
  unfold cstep
  by_cases h : r &&& 2147483648 ≠ 0
  · rw [if_pos h, if_pos ((top_bit r).1 h)]
  · have : ¬ r.testBit 31 = true := fun e => h ((top_bit r).2 e)
    rw [if_neg h, if_neg this, Nat.xor_zero]
theorem mul2_xor (a b : Nat) : ((a ^^^ b) * 2 % 4294967296) = (a * 2 % 4294967296) ^^^ (b * 2 % 4294967296) := by
  apply Nat.eq_of_testBit_eq
  intro j
  simp only [tb_mul2, Nat.testBit_xor]
  cases decide (j < 32) <;> cases decide (1 ≤ j) <;> simp
theorem cstep_xor (a b : Nat) : cstep (a ^^^ b) = cstep a ^^^ cstep b := by
  rw [cstep_eq, cstep_eq, cstep_eq, mul2_xor, Nat.testBit_xor]
  cases a.testBit 31 <;> cases b.testBit 31
  · simp
  · simp [Nat.xor_assoc]
  · simp only [Bool.bne_false, Bool.xor_false, if_true]
    simp only [Bool.false_eq_true, if_false, Nat.xor_zero]
    rw [Nat.xor_assoc, Nat.xor_comm (b * 2 % 4294967296), ← Nat.xor_assoc]
  · simp only [bne_self_eq_false, Bool.false_eq_true, if_false, if_true, Nat.xor_zero]
    rw [Nat.xor_assoc, Nat.xor_comm 79764919 (b * 2 % 4294967296 ^^^ 79764919), Nat.xor_assoc (b * 2 % 4294967296), Nat.xor_self, Nat.xor_zero]
theorem citer_xor : ∀ (k a b : Nat), citer k (a ^^^ b) = citer k a ^^^ citer k b
  | 0, _, _ => rfl
  | k + 1, a, b => by rw [citer_succ, citer_succ, citer_succ, citer_xor k, cstep_xor]
theorem citer_comm : ∀ (k r : Nat), citer k (cstep r) = cstep (citer k r)
  | 0, _ => rfl
  | k + 1, r => by rw [citer_succ, citer_comm k, ← citer_succ]
theorem tb_big (a j : Nat) (h : a < 2147483648) : a.testBit 31 = false := Nat.testBit_lt_two_pow (by rw [show 2 ^ 31 = 2147483648 by decide]; exact h)
theorem cstep_small (a : Nat) (h : a < 2147483648) : cstep a = a * 2 := by
  rw [cstep_eq, tb_big a 0 h]
  simp
  omega
theorem citer_small : ∀ (k a : Nat), a * 2 ^ k ≤ 4294967295 → citer k a = a * 2 ^ k
  | 0, a, _ => by simp [citer]
  | k + 1, a, h => by
    have h2 : a * 2 ^ (k + 1) = a * 2 ^ k * 2 := by rw [Nat.pow_succ, Nat.mul_assoc]
    rw [citer_succ, citer_small k a (by omega), cstep_small _ (by omega), h2]
theorem xor_split (r k : Nat) : r = (r / 2 ^ k * 2 ^ k) ^^^ (r % 2 ^ k) := by
  apply Nat.eq_of_testBit_eq
  intro j
  rw [Nat.testBit_xor, Nat.testBit_mul_two_pow, Nat.testBit_div_two_pow, Nat.testBit_mod_two_pow]
  by_cases h : k ≤ j
  · rw [show j - k + k = j by omega]
    simp [h, show ¬ j < k by omega]
  · simp [h, show j < k by omega]
theorem shl_xor (a b k : Nat) : (a ^^^ b) * 2 ^ k = (a * 2 ^ k) ^^^ (b * 2 ^ k) := by
  rw [← Nat.shiftLeft_eq, ← Nat.shiftLeft_eq, ← Nat.shiftLeft_eq, Nat.shiftLeft_xor_distrib]
theorem cnext_eq (r b : Nat) (hr : r < 4294967296) : cnext r b = citer 8 (r ^^^ b * 2 ^ 24) := by
  have h1 : r ^^^ b * 2 ^ 24 = ((r / 2 ^ 24 ^^^ b) * 2 ^ 24) ^^^ (r % 2 ^ 24) := by
    rw [shl_xor]
    conv => lhs; rw [xor_split r 24]
    rw [Nat.xor_assoc, Nat.xor_comm (r % 2 ^ 24), ← Nat.xor_assoc]
  rw [h1, citer_xor, citer_small 8 (r % 2 ^ 24) (by omega), Nat.xor_comm]
  unfold cnext ctab
  rw [show r % 2 ^ 24 * 2 ^ 8 = r * 256 % 4294967296 by omega, show r / 2 ^ 24 = r / 16777216 from rfl, show (2 : Nat) ^ 24 = 16777216 from rfl]
def cbit (r b : Nat) : Nat := cstep (r ^^^ b * 2 ^ 31)
theorem cbit_lt (r b : Nat) : cbit r b < 4294967296 := cstep_lt _
theorem bitsN_succ (k X : Nat) : bitsN (k + 1) X = X / 2 ^ k % 2 :: bitsN k X := by
  simp only [bitsN, List.range_succ_eq_map, List.map_cons, List.map_map]
  congr 1
  apply List.map_congr_left
  intro i hi
  have := List.mem_range.1 hi
  simp only [Function.comp]
  rw [show k + 1 - 1 - (i + 1) = k - 1 - i by omega]
theorem bitsN_mod (k X : Nat) : bitsN k (X % 2 ^ k) = bitsN k X := by
  apply List.map_congr_left
  intro i hi
  have := List.mem_range.1 hi
  have h1 := Nat.testBit_mod_two_pow X k (k - 1 - i)
  simp only [Nat.testBit_eq_decide_div_mod_eq] at h1
  have h2 : k - 1 - i < k := by omega
  simp only [h2, decide_true, Bool.true_and, decide_eq_decide] at h1
  omega
theorem bits8_eq (b : Nat) : bits8 b = bitsN 8 b := rfl
theorem feed (k : Nat) : ∀ (X r : Nat), k ≤ 32 → X < 2 ^ k → (bitsN k X).foldl cbit r = citer k (r ^^^ X * 2 ^ (32 - k)) := by
  induction k with
  | zero =>
    intro X r _ hX
    obtain rfl : X = 0 := by omega
    simp [bitsN, citer]
  | succ k ih =>
    intro X r hk hX
    have hp : (2 : Nat) ^ (k + 1) = 2 ^ k * 2 := Nat.pow_succ 2 k
    have hpos : 0 < 2 ^ k := Nat.two_pow_pos k
    have hb : X / 2 ^ k < 2 := by rw [Nat.div_lt_iff_lt_mul hpos]; omega
    rw [bitsN_succ, List.foldl_cons, Nat.mod_eq_of_lt hb, ← bitsN_mod, ih (X % 2 ^ k) _ (by omega) (Nat.mod_lt _ hpos)]
    have e1 : (2 : Nat) ^ (32 - k) = 2 ^ (32 - (k + 1)) * 2 := by rw [← Nat.pow_succ]; congr 1; omega
    have e2 : (2 : Nat) ^ k * 2 ^ (32 - (k + 1)) = 2 ^ 31 := by rw [← Nat.pow_add]; congr 1; omega
    have hlow : X % 2 ^ k * 2 ^ (32 - (k + 1)) < 2147483648 := by
      have h1 : X % 2 ^ k < 2 ^ k := Nat.mod_lt _ hpos
      have h2 := Nat.mul_lt_mul_of_pos_right h1 (Nat.two_pow_pos (32 - (k + 1)))
      rw [e2] at h2
      exact h2
    have hX : X * 2 ^ (32 - (k + 1)) = (X / 2 ^ k * 2 ^ 31) ^^^ (X % 2 ^ k * 2 ^ (32 - (k + 1))) := by
      conv => lhs; rw [xor_split X k]
      rw [shl_xor, Nat.mul_assoc, e2]
    rw [hX, ← Nat.xor_assoc]
    show citer k (cstep (r ^^^ X / 2 ^ k * 2 ^ 31) ^^^ X % 2 ^ k * 2 ^ (32 - k)) = _
    rw [citer_succ, ← citer_comm, cstep_xor (r ^^^ X / 2 ^ k * 2 ^ 31), cstep_small _ hlow, e1, Nat.mul_assoc]
theorem cnext_bits (r : Nat) (hr : r < 4294967296) (b : Nat) (hb : b < 256) : cnext r b = (bits8 b).foldl cbit r := by
  rw [bits8_eq, feed 8 b r (by decide) hb, cnext_eq r b hr]
theorem cmore_bits (s : List UInt8) : ∀ (r : Nat), r < 4294967296 → cmore r s = (bitsOf s).foldl cbit r := by
  induction s with
  | nil => intro r _; rfl
  | cons c s ih =>
    intro r hr
    have h1 := ih (cnext r c.toNat) (cnext_lt _ _)
    simp only [cmore, bitsOf, List.foldl_cons, List.flatMap_cons, List.foldl_append] at h1 ⊢
    rw [h1, cnext_bits r hr c.toNat c.toNat_lt]
theorem div_bit (n i : Nat) : n / 2 ^ i % 2 = (n.testBit i).toNat := by
  rw [Nat.testBit_eq_decide_div_mod_eq]
  have : n / 2 ^ i % 2 < 2 := Nat.mod_lt _ (by decide)
  by_cases h : n / 2 ^ i % 2 = 1
  · simp [h]
  · have : n / 2 ^ i % 2 = 0 := by omega
    simp [this]
theorem bit_xor (a b i : Nat) : (a ^^^ b) / 2 ^ i % 2 = (a / 2 ^ i % 2 + b / 2 ^ i % 2) % 2 := by
  rw [div_bit, div_bit, div_bit, Nat.testBit_xor]
  cases a.testBit i <;> cases b.testBit i <;> rfl
theorem addP_addP (q : List Nat) (n a b : Nat) : addP (addP q (bitsN n a)) (bitsN n b) = addP q (bitsN n (a ^^^ b)) := by
  apply List.ext_getElem?
  intro j
  rw [addP_get, addP_get, addP_get]
  cases q[j]? with
  | none => rfl
  | some x =>
    simp only [Option.map_some]
    by_cases hj : j < n
    · rw [bitsN_get n a j hj, bitsN_get n b j hj, bitsN_get n (a ^^^ b) j hj]
      simp only [bit_xor]
      congr 1
      omega
    · rw [List.getElem?_eq_none (by rw [bitsN_length]; omega), List.getElem?_eq_none (by rw [bitsN_length]; omega), List.getElem?_eq_none (by rw [bitsN_length]; omega)]
theorem addP_zero (q : List Nat) (h : ∀ x ∈ q, x ≤ 1) (n : Nat) (a : Nat) : addP q (bitsN n a) = addP q (bitsN (n + 1) (a * 2)) := by
  apply List.ext_getElem?
  intro j
  rw [addP_get, addP_get]
  cases hq : q[j]? with
  | none => rfl
  | some x =>
    have hx := h x (List.mem_of_getElem? hq)
    simp only [Option.map_some]
    by_cases hj : j < n
    · rw [bitsN_get n a j hj, bitsN_get (n + 1) (a * 2) j (by omega)]
      have : a * 2 / 2 ^ (n + 1 - 1 - j) = a / 2 ^ (n - 1 - j) := by
        rw [show n + 1 - 1 - j = (n - 1 - j) + 1 by omega, Nat.pow_succ, Nat.mul_comm (2 ^ (n - 1 - j)) 2, ← Nat.div_div_eq_div_mul, Nat.mul_div_cancel _ (by decide)]
      rw [this]
    · rw [List.getElem?_eq_none (by rw [bitsN_length]; omega)]
      by_cases hj2 : j < n + 1
      · obtain rfl : j = n := by omega
        rw [bitsN_get _ _ _ hj2, show j + 1 - 1 - j = 0 by omega]
        simp
        omega
      · rw [List.getElem?_eq_none (by rw [bitsN_length]; omega)]
theorem polyP_cons : polyP = 1 :: bitsN 32 79764919 := by decide +kernel
theorem bitsN_num : ∀ (n v : Nat), v < 2 ^ n → numN (bitsN n v) = v := by
  have key : ∀ (n v o : Nat), v < 2 ^ n → (bitsN n v).foldl (fun v x => v * 2 + x) o = o * 2 ^ n + v := by
    intro n
    induction n with
    | zero => intro v o h; obtain rfl : v = 0 := by omega
              simp [bitsN]
    | succ n ih =>
      intro v o h
      have hpos : 0 < 2 ^ n := Nat.two_pow_pos n
      have hp : (2 : Nat) ^ (n + 1) = 2 ^ n * 2 := Nat.pow_succ 2 n
      have hb : v / 2 ^ n < 2 := by rw [Nat.div_lt_iff_lt_mul hpos]; omega
      rw [bitsN_succ, List.foldl_cons, Nat.mod_eq_of_lt hb, ← bitsN_mod, ih _ _ (Nat.mod_lt _ hpos), Nat.add_mul]
      have hd := Nat.div_add_mod v (2 ^ n)
      rw [hp, Nat.mul_comm (2 ^ n) 2, ← Nat.mul_assoc, Nat.mul_comm (v / 2 ^ n)]
      omega
  intro n v h
  have := key n v 0 h
  simpa [numN] using this
theorem addP_self_zero (a : Nat) : addP (List.replicate 32 0) (bitsN 32 a) = bitsN 32 a := by
  apply List.ext_getElem?
  intro j
  rw [addP_get]
  by_cases hj : j < 32
  · rw [bitsN_get 32 a j hj, List.getElem?_replicate, if_pos hj]
    simp
  · have e1 : (List.replicate 32 0)[j]? = none := List.getElem?_eq_none (by rw [List.length_replicate]; omega)
    rw [e1, List.getElem?_eq_none (show (bitsN 32 a).length ≤ j by rw [bitsN_length]; omega)]
    rfl
theorem rest_bits : ∀ (m : List Nat) (r : Nat), r < 4294967296 → (∀ x ∈ m, x ≤ 1) → numN (divB m.length (addP (m ++ List.replicate 32 0) (bitsN 32 r))) = m.foldl cbit r
  | [], r, hr, _ => by
    rw [List.nil_append, List.length_nil, divB, addP_self_zero, List.foldl_nil]
    exact bitsN_num 32 r hr
  | b :: m, r, hr, h => by
    have hb := h b (by simp)
    have hm : ∀ x ∈ m, x ≤ 1 := fun x hx => h x (by simp [hx])
    have hq : ∀ x ∈ m ++ List.replicate 32 0, x ≤ 1 := fun x hx => by
      rcases List.mem_append.1 hx with h | h
      · exact hm x h
      · rw [(List.mem_replicate.1 h).2]; omega
    rw [List.length_cons, divB, List.foldl_cons, ← rest_bits m (cbit r b) (cbit_lt _ _) hm]
    congr 2
    have htop : r / 2 ^ 31 < 2 := by omega
    rw [bitsN_succ 31 r, Nat.mod_eq_of_lt htop]
    show divStep ((b + r / 2 ^ 31) % 2 :: addP (m ++ List.replicate 32 0) (bitsN 31 r)) = _
    have hlow : addP (m ++ List.replicate 32 0) (bitsN 31 r) = addP (m ++ List.replicate 32 0) (bitsN 32 (r % 2 ^ 31 * 2)) := by
      rw [← bitsN_mod 31 r, addP_zero _ hq 31]
    have hbit : cbit r b = (r % 2 ^ 31 * 2) ^^^ (if (b + r / 2 ^ 31) % 2 = 1 then 79764919 else 0) := by
      unfold cbit
      rw [cstep_eq]
      congr 1
      · apply Nat.eq_of_testBit_eq
        intro j
        rw [tb_mul2, Nat.testBit_xor, Nat.testBit_mul_two_pow, show r % 2 ^ 31 * 2 = r % 2 ^ 31 * 2 ^ 1 from rfl, Nat.testBit_mul_two_pow, Nat.testBit_mod_two_pow]
        by_cases h1 : 1 ≤ j
        · by_cases h2 : j < 32
          · have : ¬ 31 ≤ j - 1 := by omega
            simp [h1, h2, this]
            omega
          · have h3 : ¬ j - 1 < 31 := by omega
            simp [h2, h3]
        · simp [h1]
      · have ht : (r ^^^ b * 2 ^ 31).testBit 31 = decide ((b + r / 2 ^ 31) % 2 = 1) := by
          rw [Nat.testBit_xor, Nat.testBit_mul_two_pow, Nat.testBit_eq_decide_div_mod_eq, Nat.mod_eq_of_lt htop]
          have e : ∀ b : Nat, b ≤ 1 → b.testBit 0 = decide (b = 1) := fun b hb => by
            rcases (by omega : b = 0 ∨ b = 1) with rfl | rfl <;> rfl
          rw [Nat.sub_self, e b hb]
          generalize r / 2 ^ 31 = t at htop
          rcases (by omega : b = 0 ∨ b = 1) with rfl | rfl <;> rcases (by omega : t = 0 ∨ t = 1) with rfl | rfl <;> rfl
        rw [ht]
        by_cases h1 : (b + r / 2 ^ 31) % 2 = 1 <;> simp [h1]
    rw [hbit, hlow]
    unfold divStep
    simp only
    split
    · rw [polyP_cons]
      show addP (addP (m ++ List.replicate 32 0) (bitsN 32 (r % 2 ^ 31 * 2))) (bitsN 32 79764919) = _
      rw [addP_addP]
    · rw [Nat.xor_zero]
theorem more_eq (r : Nat) (hr : r < 4294967296) (s : List UInt8) : rmore r s = cmore r s := by
  have h := rest_bits (bitsOf s) r hr (bitsOf_le s)
  unfold rmore restN
  rw [addP_length, List.length_append, List.length_replicate, Nat.add_sub_cancel, h, cmore_bits s r hr]
theorem trn_fold : ∀ (n v o : Nat), n ≤ 32 → o < 2 ^ (32 - n) → trn n v o = ((List.range n).map fun i => v / 2 ^ i % 2).foldl (fun b x => b * 2 + x) o
  | 0, _, _, _, _ => rfl
  | n + 1, v, o, hn, ho => by
    have hp : (2 : Nat) ^ (32 - n) = 2 ^ (32 - (n + 1)) * 2 := by rw [← Nat.pow_succ]; congr 1; omega
    have hle : (2 : Nat) ^ (32 - n) ≤ 2 ^ 32 := Nat.pow_le_pow_right (by decide) (by omega)
    have e1 : o * 2 % 4294967296 = o * 2 := Nat.mod_eq_of_lt (by omega)
    have e2 : (o * 2 ||| v % 2) = o * 2 + v % 2 := by
      have h2 : v % 2 < 2 ^ 1 := by omega
      have := Nat.two_pow_add_eq_or_of_lt h2 o
      rw [Nat.mul_comm o 2]
      exact this.symm
    rw [trn, e1, e2, trn_fold n (v / 2) _ (by omega) (by omega), List.range_succ_eq_map, List.map_cons, List.foldl_cons, List.map_map]
    simp only [Nat.pow_zero, Nat.div_one]
    congr 1
    apply List.map_congr_left
    intro i _
    simp only [Function.comp, Nat.succ_eq_add_one]
    rw [Nat.pow_succ, Nat.mul_comm (2 ^ i) 2, ← Nat.div_div_eq_div_mul]
theorem bitsN_rev (n v : Nat) : (bitsN n v).reverse = (List.range n).map fun i => v / 2 ^ i % 2 := by
  apply List.ext_getElem
  · simp [bitsN]
  · intro i h1 h2
    simp only [List.length_reverse, bitsN_length] at h1
    simp [bitsN]
    rw [show n - 1 - (n - 1 - i) = i by omega]
theorem trn_num (n v : Nat) (hn : n ≤ 32) : numN (bitsN n v).reverse = trn n v 0 := by
  rw [bitsN_rev, trn_fold n v 0 hn (Nat.two_pow_pos _)]
  rfl
def turnB (s : List UInt8) : List UInt8 := s.map fun c => UInt8.ofNat (trn 8 c.toNat 0)
theorem u8_trn (v : Nat) : (UInt8.ofNat (trn 8 v 0)).toNat = trn 8 v 0 := by
  rw [UInt8.toNat_ofNat']
  exact Nat.mod_eq_of_lt (trn8_lt v)
theorem cieeeR_eq (s : List UInt8) : cieeeR s = cmore 4294967295 (turnB s) := by
  have h : ∀ (s : List UInt8) (r : Nat), s.foldl (fun r c => cnext r (trn 8 c.toNat 0)) r = cmore r (turnB s) := by
    intro s
    induction s with
    | nil => intro r; simp only [turnB, cmore, List.map_nil, List.foldl_nil]
    | cons c s ih =>
      intro r
      have e : cmore r (turnB (c :: s)) = cmore (cnext r (UInt8.ofNat (trn 8 c.toNat 0)).toNat) (turnB s) := rfl
      rw [e, u8_trn, List.foldl_cons]
      exact ih _
  exact h s 4294967295
theorem flat_getD (f : UInt8 → List Nat) (hf : ∀ c, (f c).length = 8) : ∀ (s : List UInt8) (i k : Nat) (hi : i < s.length), k < 8 → (s.flatMap f).getD (8 * i + k) 0 = (f s[i]).getD k 0
  | c :: s, 0, k, _, hk => by
    simp only [List.flatMap_cons, List.getD, List.getElem_cons_zero, Nat.mul_zero, Nat.zero_add]
    rw [List.getElem?_append_left (by rw [hf]; exact hk)]
  | c :: s, i + 1, k, hi, hk => by
    have ih := flat_getD f hf s i k (by simpa using hi) hk
    simp only [List.flatMap_cons, List.getD, List.getElem_cons_succ] at ih ⊢
    rw [List.getElem?_append_right (by rw [hf]; omega), hf, show 8 * (i + 1) + k - 8 = 8 * i + k by omega]
    exact ih
theorem text_rev (s : List UInt8) : textOf (s.flatMap fun c => (bits8 c.toNat).reverse) = turnB s := by
  have hf : ∀ c : UInt8, ((bits8 c.toNat).reverse).length = 8 := fun c => by rw [List.length_reverse, bits8_length]
  have hl : (s.flatMap fun c => (bits8 c.toNat).reverse).length = 8 * s.length := by
    induction s with
    | nil => rfl
    | cons c s ih => rw [List.flatMap_cons, List.length_append, ih, hf, List.length_cons]; omega
  apply List.ext_getElem
  · simp [textOf, hl, turnB]; omega
  · intro i h1 h2
    have hi : i < s.length := by simpa [turnB] using h2
    simp only [textOf, turnB, List.getElem_map, List.getElem_range]
    congr 1
    unfold byteOf
    rw [← trn_num 8 _ (by decide), ← bits8_eq, numN]
    have : (bits8 s[i].toNat).reverse = (List.range 8).map fun k => (s.flatMap fun c => (bits8 c.toNat).reverse).getD (8 * i + k) 0 := by
      apply List.ext_getElem
      · rw [hf]; simp
      · intro k h3 h4
        have hk : k < 8 := by simpa using h4
        simp only [List.getElem_map, List.getElem_range]
        rw [flat_getD _ hf s i k hi hk]
        simp [List.getD, h3]
        rw [List.getElem?_eq_getElem h3]
        simp
    rw [this, List.foldl_map]
theorem ieee_eq (s : List UInt8) : rieee s = cieee s := by
  unfold rieee cieee
  rw [text_rev, more_eq _ (by decide), trn_num 32 _ (by decide), cieeeR_eq]
end Go.Proofs.YthgfdpcpbghkpaaGreatDoor
namespace Go.Proofs.YthgfdpcpbghkpaaGreatDoor.Rec
open Go.Proofs.YthgfdpcpbghkpaaGreatDoor
def be : Nat → Nat → List UInt8
  | 0, _ => []
  | w + 1, n => be w (n / 256) ++ [UInt8.ofNat (n % 256)]
theorem be_length : ∀ w n, (be w n).length = w
  | 0, _ => rfl
  | w + 1, n => by simp [be, be_length w]
def nb (s : List UInt8) : Nat := s.foldl (fun v c => v * 256 + c.toNat) 0
theorem nb_snoc (s : List UInt8) (c : UInt8) : nb (s ++ [c]) = nb s * 256 + c.toNat := by simp [nb]
theorem nb_lt : ∀ (k : Nat) (s : List UInt8), s.length = k → nb s < 256 ^ k
  | 0, s, h => by rw [List.eq_nil_of_length_eq_zero h]; decide
  | k + 1, s, h => by
    have hne : s ≠ [] := by intro e; subst e; simp at h
    rw [← List.dropLast_concat_getLast hne, nb_snoc]
    have ih := nb_lt k s.dropLast (by simp [h])
    have hc := (s.getLast hne).toNat_lt
    rw [Nat.pow_succ]
    omega
theorem nb_be : ∀ w n, n < 256 ^ w → nb (be w n) = n
  | 0, n, h => by simp at h; subst h; rfl
  | w + 1, n, h => by
    simp only [be, nb_snoc]
    rw [nb_be w (n / 256) (by rw [Nat.pow_succ] at h; omega)]
    have : (UInt8.ofNat (n % 256)).toNat = n % 256 := by simp
    rw [this]
    omega
theorem be_cons : ∀ (w n : Nat), be (w + 1) n = UInt8.ofNat (n / 256 ^ w % 256) :: be w n
  | 0, n => by simp [be]
  | w + 1, n => by
    rw [show be (w + 1 + 1) n = be (w + 1) (n / 256) ++ [UInt8.ofNat (n % 256)] from rfl, be_cons w (n / 256)]
    simp only [be, List.cons_append]
    rw [Nat.div_div_eq_div_mul, Nat.pow_succ, Nat.mul_comm 256]
def body (kind gen index : Nat) (data : List UInt8) : List UInt8 := [75, 73, 83, 84] ++ [UInt8.ofNat kind] ++ be 8 gen ++ be 4 index ++ be 2 data.length ++ (data ++ List.replicate (489 - data.length) 0)
theorem body_length (kind gen index : Nat) (data : List UInt8) (h : data.length ≤ 486) : (body kind gen index data).length = 508 := by
  simp [body, be_length]; omega
def text (kind gen index : Nat) (data : List UInt8) : List UInt8 := body kind gen index data ++ be 4 (cieee (body kind gen index data))
theorem text_length (kind gen index : Nat) (data : List UInt8) (h : data.length ≤ 486) : (text kind gen index data).length = 512 := by
  unfold text; rw [List.length_append, body_length _ _ _ _ h, be_length]
def bad (kind : Nat) (gen index : Int) (data : List UInt8) : Prop := kind = 0 ∨ gen < 0 ∨ 4611686018427387904 < gen ∨ index < 0 ∨ 2147483647 < index ∨ 486 < data.length
instance (kind : Nat) (gen index : Int) (data : List UInt8) : Decidable (bad kind gen index data) := by unfold bad; infer_instance
def encodeR (kind : Nat) (gen index : Int) (data : List UInt8) : List UInt8 × Nat := if bad kind gen index data then ([], 200) else (text kind gen.toNat index.toNat data, 0)
structure R where
  kind : Nat
  gen : Int
  index : Int
  data : List UInt8
  deriving DecidableEq
def R0 : R := ⟨0, 0, 0, []⟩
def numI (s : List UInt8) : Int := if nb s < 9223372036854775808 then nb s else (nb s : Int) - 18446744073709551616
def decR (s : List UInt8) : R := ⟨(s.getD 4 0).toNat, numI ((s.drop 5).take 8), numI ((s.drop 13).take 4), (s.drop 19).take (nb ((s.drop 17).take 2))⟩
def decodeR (s : List UInt8) : R × Nat :=
  if s.length = 512 ∧ nb ((s.drop 17).take 2) ≤ 486 ∧ encodeR (decR s).kind (decR s).gen (decR s).index (decR s).data = (s, 0) then (decR s, 0) else (R0, 200)
end Go.Proofs.YthgfdpcpbghkpaaGreatDoor.Rec
namespace Go.Proofs.YthgfdpcpbghkpaaGreatDoor
theorem ti3 : TI Tryz.prog 3 (.int .i64 0) 1 8 := by unfold TI; kernel_rfl
theorem ti4 : TI Tryz.prog 4 (.bool false) 1 1 := by unfold TI; kernel_rfl
theorem ti5 : TI Tryz.prog 5 (.int .u8 0) 1 1 := by unfold TI; kernel_rfl
theorem ti9 : TI Tryz.prog 9 (str []) 1 16 := by unfold TI; kernel_rfl
theorem ti22 : TI Tryz.prog 22 (.slice none 0 0) 1 24 := by unfold TI; kernel_rfl
theorem ti24 : TI Tryz.prog 24 (.slice none 0 0) 1 24 := by unfold TI; kernel_rfl
theorem ti47 : TI Tryz.prog 47 (.slice none 0 0) 1 24 := by unfold TI; kernel_rfl
theorem ti49 : TI Tryz.prog 49 (.agg #[.int .i64 0, .slice none 0 0]) 2 32 := by unfold TI; kernel_rfl
theorem ti54 : TI Tryz.prog 54 (.slice none 0 0) 1 24 := by unfold TI; kernel_rfl
theorem ti68 : TI Tryz.prog 68 (.int .u32 0) 1 4 := by unfold TI; kernel_rfl
theorem ti70 : TI Tryz.prog 70 (.agg #[str [], .int .i64 0, .int .i64 0, .int .i64 0, .int .u32 0]) 5 48 := by unfold TI; kernel_rfl
theorem ti71 : TI Tryz.prog 71 (.pointer none) 1 8 := by unfold TI; kernel_rfl
theorem ti73 : TI Tryz.prog 73 (.agg #[.pointer none, .slice none 0 0]) 2 32 := by unfold TI; kernel_rfl
theorem ti88 : TI Tryz.prog 88 (.agg #[.int .i64 0, .int .i64 0]) 2 16 := by unfold TI; kernel_rfl
theorem ti94 : TI Tryz.prog 94 (.agg #[.int .u8 0, .int .i64 0, .int .i64 0, str []]) 4 40 := by unfold TI; kernel_rfl
theorem ti99 : TI Tryz.prog 99 (.agg #[str [], str [], str [], str [], str []]) 5 80 := by unfold TI; kernel_rfl
theorem ti100 : TI Tryz.prog 100 (.agg #[.int .u8 0, .int .i64 0, .int .i64 0, str []]) 4 40 := by unfold TI; kernel_rfl
theorem ti107 : TI Tryz.prog 107 (.slice none 0 0) 1 24 := by unfold TI; kernel_rfl
theorem ti109 : TI Tryz.prog 109 (.agg #[.int .i64 0, .slice none 0 0, .slice none 0 0, .slice none 0 0, .int .i64 0, .slice none 0 0, .bool false, .int .i64 0]) 8 128 := by unfold TI; kernel_rfl
theorem ti118 : TI Tryz.prog 118 (.agg #[.int .i64 0, .slice none 0 0, .bool false]) 3 40 := by unfold TI; kernel_rfl
theorem ti119 : TI Tryz.prog 119 (.agg #[.int .i64 0, .slice none 0 0, .bool false, .int .i64 0, .slice none 0 0, .bool false]) 6 80 := by unfold TI; kernel_rfl
theorem ti134 : TI Tryz.prog 134 (.agg #[str []]) 1 16 := by unfold TI; kernel_rfl
theorem ti136 : TI Tryz.prog 136 (.agg #[str []]) 1 16 := by unfold TI; kernel_rfl
theorem ti139 : TI Tryz.prog 139 (.nilFunc) 1 8 := by unfold TI; kernel_rfl
end Go.Proofs.YthgfdpcpbghkpaaGreatDoor
namespace Go.Proofs.YthgfdpcpbghkpaaGreatDoor
open Go.RowKit
theorem turned_s (v n : Nat) (hv : v < 4294967296) (hn : n ≤ 64) (w : World) :
    Ret Tryz.prog 88 [.int .u32 v, .int .i64 n] w fun r w' => r = .int .u32 (trn n v 0 : Nat) ∧ w = w' := by
  refine Ret.enter Tryz.func88 rfl Tryz.ntmps88 (by kernel_rfl) rfl ?_
  refine KW.seq (KW.region ?_)
  refine OW.val rfl rfl (EX.assign rfl) ?_
  refine OW.nil ?_
  refine KW.seq (KW.region ?_)
  refine OW.val rfl rfl (EX.assign rfl) ?_
  refine OW.nil ?_
  refine KW.seq (KW.seq (KW.region ?_))
  refine OW.val rfl rfl (EX.move rfl) ?_
  refine OW.val rfl rfl (EX.move rfl) ?_
  refine OW.nil ?_
  refine KW.block ?_
  refine KW.loop3 (fun (k : Nat) (x : Nat) (o : Nat) => k ≤ n ∧ x < 4294967296 ∧ o < 4294967296 ∧ trn (n - k) x o = trn n v 0) (fun (k : Nat) (x : Nat) (o : Nat) => [(0, .int .u32 ((x : Nat) : Int)), (5, .int .u32 ((o : Nat) : Int)), (6, .int .i64 ((n : Nat) : Int)), (7, .int .i64 ((k : Nat) : Int))]) (fun (k : Nat) (x : Nat) (o : Nat) => w) (fun (k : Nat) (x : Nat) (o : Nat) => n - k) (0) (v) (0) ⟨rfl, rfl, rfl, rfl, trivial⟩ rfl ?_ ?_
  · exact ⟨by omega, hv, by omega, rfl⟩
  · rintro k x o ⟨hk, hx, ho, hr⟩
    refine KW.seq (KW.region ?_)
    refine OW.val rfl rfl (by first | exact EX.lssN rfl rfl | exact EX.lssZ rfl rfl) ?_
    refine OW.nil ?_
    refine KW.seq ?_
    refine KW.condD rfl (fun h => ?_) (fun h => ?_)
    · refine KW.skip (KW.seq (KW.block (KW.seq (KW.region ?_))))
      refine OW.val rfl rfl (EX.move rfl) ?_
      refine OW.val rfl rfl (by first | exact EX.shlN (s := 1) (p := 2) (m := 4294967295) rfl rfl (by decide) (by decide) rfl (by omega) | exact EX.shlW (s := 1) (p := 2) (m := 4294967296) rfl rfl (by decide) (by decide) rfl (by decide)) ?_
      refine OW.val rfl rfl (EX.move rfl) ?_
      refine OW.val rfl rfl (EX.maskN (b := 1) (j := 1) (p := 2) (m := 4294967295) rfl rfl (by decide) (by decide) rfl (by omega)) ?_
      refine OW.val rfl rfl (EX.orN (m := 4294967295) rfl rfl rfl (by omega)) ?_
      refine OW.val rfl rfl (EX.assign rfl) ?_
      refine OW.nil ?_
      refine KW.region ?_
      refine OW.val rfl rfl (EX.move rfl) ?_
      refine OW.val rfl rfl (EX.shrN (s := 1) (p := 2) rfl rfl (by decide) (by decide)) ?_
      refine OW.val rfl rfl (EX.assign rfl) ?_
      refine OW.nil ?_
      refine KW.leave (KW.region ?_)
      refine OW.val rfl rfl (by first | exact EX.addN (b := 1) (m := 9223372036854775807) rfl rfl rfl (by omega) | exact EX.addZ (m := 9223372036854775807) rfl rfl rfl rfl (by omega)) ?_
      refine OW.val rfl rfl (EX.move rfl) ?_
      refine OW.nil ?_
      refine KW.back3 (k + 1) (x / 2) (o * 2 % 4294967296 ||| x % 2) ⟨rfl, rfl, rfl, rfl, trivial⟩ rfl ?_ (by omega)
      exact ⟨by omega, by omega, Nat.or_lt_two_pow (n := 32) (by omega) (by omega), by
        rw [show n - k = (n - (k + 1)) + 1 by omega] at hr
        exact hr⟩
    · refine KW.exit rfl (KW.seq (KW.region ?_))
      refine OW.val rfl rfl (EX.move rfl) ?_
      refine OW.val rfl rfl (EX.assign rfl) ?_
      refine OW.nil ?_
      refine KW.ret (ret1 rfl rfl ?_)
      obtain rfl : k = n := by omega
      rw [Nat.sub_self] at hr
      exact ⟨by rw [← hr]; rfl, rfl⟩
def zt256 : List Value := List.replicate 256 (.int .u32 0)
theorem ti_tab : TI Tryz.prog 148 (.agg zt256.toArray) 256 1024 := by unfold TI zt256; kernel_rfl
def tabV : List Value := (List.range 256).map fun i => Value.int .u32 (ctab i : Nat)
theorem tabV_get (i : Nat) (h : i < 256) : tabV[i]? = some (.int .u32 (ctab i : Nat)) := by simp [tabV, h]
theorem tabV_length : tabV.length = 256 := by simp [tabV]
theorem table_s (w : World) : Ret Tryz.prog 87 [] w fun r w' => r = .agg tabV.toArray ∧ Ext w w' := by
  refine Ret.enter Tryz.func87 rfl Tryz.ntmps87 (by kernel_rfl) rfl ?_
  refine KW.seq (KW.region ?_)
  refine OW.val rfl rfl (EX.alloc (l := zt256) ti_tab rfl) ?_
  refine OW.nil ?_
  refine KW.seq (KW.region ?_)
  refine OW.val rfl rfl (EX.alloc (l := zt256) ti_tab rfl) ?_
  refine OW.nil ?_
  refine KW.seq (KW.seq (KW.region ?_))
  refine OW.val rfl rfl (EX.move rfl) ?_
  refine OW.nil ?_
  refine KW.block ?_
  refine KW.as 1 (.pointer (some ⟨w.heap.size + 1, 0, none⟩)) rfl (by simp) ?_
  refine KW.loop3 (fun (k : Nat) (l : List Value) (wr : World) => k ≤ 256 ∧ l.length = 256 ∧ (∀ j, j < k → l[j]? = some (.int .u32 (ctab j : Nat))) ∧ Bk wr (w.heap.size + 1) 148 l ∧ Bk wr w.heap.size 148 zt256 ∧ Ext w wr) (fun (k : Nat) (l : List Value) (wr : World) => [(0, .pointer (some ⟨w.heap.size, 0, none⟩)), (1, .pointer (some ⟨w.heap.size + 1, 0, none⟩)), (4, .int .i64 ((k : Nat) : Int))]) (fun (k : Nat) (l : List Value) (wr : World) => wr) (fun (k : Nat) (l : List Value) (wr : World) => 256 - k) (0) (zt256) (_) ⟨rfl, rfl, rfl, trivial⟩ rfl ?_ ?_
  · refine ⟨by omega, List.length_replicate, fun j h => absurd h (by omega), ?_, (Bk.new w _ _).alloc _, (Ext.alloc _ _).trans (Ext.alloc _ _)⟩
    have := Bk.new (w.alloc (.cells zt256.toArray 148)) 148 zt256
    simpa using this
  · rintro k l wr ⟨hk, hl, hj, hb1, hb0, hx⟩
    refine KW.seq (KW.region ?_)
    refine OW.val rfl rfl (by first | exact EX.lssN (b := 256) rfl rfl | exact EX.lssZ rfl rfl) ?_
    refine OW.nil ?_
    refine KW.seq ?_
    refine KW.condD rfl (fun h => ?_) (fun h => ?_)
    · refine KW.skip (KW.seq (KW.block (KW.seq (KW.region ?_))))
      refine OW.val rfl rfl (EX.move rfl) ?_
      refine OW.val rfl rfl (EX.assign rfl) ?_
      refine OW.nil ?_
      refine KW.seq (KW.region ?_)
      refine OW.val rfl rfl (EX.move rfl) ?_
      refine OW.val rfl rfl (by first | exact EX.convN (m := 4294967295) Tryz.underlying3 Tryz.underlying68 rfl rfl (by omega) | exact EX.convW (m := 4294967296) Tryz.underlying3 Tryz.underlying68 rfl rfl (by decide) | exact EX.convZ Tryz.underlying3 Tryz.underlying68 rfl) ?_
      refine OW.val rfl rfl (by first | exact EX.shlN (s := 24) (p := 16777216) (m := 4294967295) rfl rfl (by decide) (by decide) rfl (by omega) | exact EX.shlW (s := 24) (p := 16777216) (m := 4294967296) rfl rfl (by decide) (by decide) rfl (by decide)) ?_
      refine OW.val rfl rfl (EX.assign rfl) ?_
      refine OW.nil ?_
      refine KW.seq (KW.seq (KW.region ?_))
      refine OW.val rfl rfl (EX.move rfl) ?_
      refine OW.nil ?_
      refine KW.block ?_
      refine KW.loop2 (fun (m : Nat) (r : Nat) => m ≤ 8 ∧ r < 4294967296 ∧ r = citer m (k * 16777216)) (fun (m : Nat) (r : Nat) => [(0, .pointer (some ⟨w.heap.size, 0, none⟩)), (1, .pointer (some ⟨w.heap.size + 1, 0, none⟩)), (2, .int .i64 ((k : Nat) : Int)), (3, .int .u32 ((r : Nat) : Int)), (4, .int .i64 ((k : Nat) : Int)), (10, .int .i64 ((m : Nat) : Int))]) (fun (m : Nat) (r : Nat) => wr) (fun (m : Nat) (r : Nat) => 8 - m) (0) (k * 16777216) ⟨rfl, rfl, rfl, rfl, rfl, rfl, trivial⟩ rfl ?_ ?_
      · exact ⟨by omega, by omega, rfl⟩
      · rintro m r ⟨hm, hr, hrc⟩
        refine KW.seq (KW.region ?_)
        refine OW.val rfl rfl (by first | exact EX.lssN (b := 8) rfl rfl | exact EX.lssZ rfl rfl) ?_
        refine OW.nil ?_
        refine KW.seq ?_
        refine KW.condD rfl (fun h8 => ?_) (fun h8 => ?_)
        · refine KW.skip (KW.seq (KW.block (KW.seq (KW.region ?_))))
          refine OW.val rfl rfl (EX.move rfl) ?_
          refine OW.val rfl rfl (EX.andN (b := 2147483648) (m := 4294967295) rfl rfl rfl (by omega)) ?_
          refine OW.val rfl rfl (by first | exact EX.neqN (b := 0) rfl rfl | exact EX.neqZ rfl rfl) ?_
          refine OW.nil ?_
          refine KW.condD rfl (fun hb => ?_) (fun hb => ?_)
          · refine KW.region ?_
            refine OW.val rfl rfl (EX.move rfl) ?_
            refine OW.val rfl rfl (by first | exact EX.shlN (s := 1) (p := 2) (m := 4294967295) rfl rfl (by decide) (by decide) rfl (by omega) | exact EX.shlW (s := 1) (p := 2) (m := 4294967296) rfl rfl (by decide) (by decide) rfl (by decide)) ?_
            refine OW.val rfl rfl (EX.xorN (b := 79764919) (m := 4294967295) rfl rfl rfl (by omega)) ?_
            refine OW.val rfl rfl (EX.assign rfl) ?_
            refine OW.nil ?_
            refine KW.leave (KW.region ?_)
            refine OW.val rfl rfl (by first | exact EX.addN (b := 1) (m := 9223372036854775807) rfl rfl rfl (by omega) | exact EX.addZ (m := 9223372036854775807) rfl rfl rfl rfl (by omega)) ?_
            refine OW.val rfl rfl (EX.move rfl) ?_
            refine OW.nil ?_
            refine KW.back2 (m + 1) ((r * 2 % 4294967296) ^^^ 79764919) ⟨rfl, rfl, rfl, rfl, rfl, rfl, trivial⟩ rfl ?_ (by omega)
            refine ⟨by omega, Nat.xor_lt_two_pow (n := 32) (by omega) (by omega), ?_⟩
            rw [citer_succ, ← hrc, cstep, if_pos hb]
          · refine KW.region ?_
            refine OW.val rfl rfl (EX.move rfl) ?_
            refine OW.val rfl rfl (by first | exact EX.shlN (s := 1) (p := 2) (m := 4294967295) rfl rfl (by decide) (by decide) rfl (by omega) | exact EX.shlW (s := 1) (p := 2) (m := 4294967296) rfl rfl (by decide) (by decide) rfl (by decide)) ?_
            refine OW.val rfl rfl (EX.assign rfl) ?_
            refine OW.nil ?_
            refine KW.leave (KW.region ?_)
            refine OW.val rfl rfl (by first | exact EX.addN (b := 1) (m := 9223372036854775807) rfl rfl rfl (by omega) | exact EX.addZ (m := 9223372036854775807) rfl rfl rfl rfl (by omega)) ?_
            refine OW.val rfl rfl (EX.move rfl) ?_
            refine OW.nil ?_
            refine KW.back2 (m + 1) (r * 2 % 4294967296) ⟨rfl, rfl, rfl, rfl, rfl, rfl, trivial⟩ rfl ?_ (by omega)
            refine ⟨by omega, by omega, ?_⟩
            rw [citer_succ, ← hrc, cstep, if_neg hb]
        · refine KW.exit rfl (KW.region ?_)
          refine OW.val rfl rfl (EX.move rfl) ?_
          refine OW.val rfl rfl (EX.move rfl) ?_
          refine OW.val rfl rfl (by first | exact EX.indexAddrA0 Tryz.underlying148 ti68 rfl rfl (by omega) | exact EX.indexAddrA1 Tryz.underlying148 ti68 rfl rfl (by omega)) ?_
          refine OW.eff rfl (EU.storeBk ti68 rfl rfl rfl (hb1) (by omega)) ?_
          refine OW.nil ?_
          refine KW.leave (KW.region ?_)
          refine OW.val rfl rfl (by first | exact EX.addN (b := 1) (m := 9223372036854775807) rfl rfl rfl (by omega) | exact EX.addZ (m := 9223372036854775807) rfl rfl rfl rfl (by omega)) ?_
          refine OW.val rfl rfl (EX.move rfl) ?_
          refine OW.nil ?_
          obtain rfl : m = 8 := by omega
          refine KW.back3 (k + 1) (l.set k (.int .u32 r)) (_) ⟨rfl, rfl, rfl, trivial⟩ rfl ?_ (by omega)
          refine ⟨by omega, by simpa using hl, fun j hjk => ?_, hb1.set k _, hb0.far (by simp) _, Below.setCell hx (by simp) _⟩
          rcases Nat.lt_or_ge j k with h1 | h1
          · rw [List.getElem?_set_ne (by omega)]; exact hj j h1
          · obtain rfl : j = k := by omega
            rw [List.getElem?_set_self (by omega), hrc]; rfl
    · refine KW.exit rfl (KW.seq (KW.region ?_))
      obtain rfl : k = 256 := by omega
      have hlt : l = tabV := by
        apply List.ext_getElem?
        intro j
        rcases Nat.lt_or_ge j 256 with h1 | h1
        · rw [hj j h1, tabV_get j h1]
        · rw [List.getElem?_eq_none (by omega), List.getElem?_eq_none (by rw [tabV_length]; exact h1)]
      subst hlt
      refine OW.val rfl rfl (EX.loadBk Tryz.underlying148 rfl ti_tab rfl hb1 tabV_length) ?_
      refine OW.storeW rfl ti_tab rfl rfl tabV_length (List.all_eq_true.2 fun v hv => by obtain ⟨_, _, rfl⟩ := List.mem_map.1 hv; rfl) hb0 List.length_replicate ?_
      intro w' hb' hg
      refine OW.nil ?_
      refine KW.ret (retA rfl rfl Tryz.underlying148 rfl ti_tab hb' tabV_length ?_)
      exact ⟨rfl, hx.grown hg (fun g hg => by cases hg; omega)⟩
end Go.Proofs.YthgfdpcpbghkpaaGreatDoor
namespace Go.Proofs.YthgfdpcpbghkpaaGreatDoor
open Go.RowKit
theorem of_s (s : List UInt8) (hs : s.length ≤ 1000000) (w : World) :
    Ret Tryz.prog 90 [str s] w fun v w' => Own w' w.heap.size 3 1 v (8 * s.length) (ints .i64 (bitsOf s)) ∧ Ext w w' := by
  refine Ret.enter Tryz.func90 rfl Tryz.ntmps90 (by kernel_rfl) rfl ?_
  refine KW.seq (KW.region ?_)
  refine OW.val rfl rfl (EX.assign rfl) ?_
  refine OW.nil ?_
  refine KW.seq (KW.region ?_)
  refine OW.val rfl rfl (EX.assign rfl) ?_
  refine OW.nil ?_
  refine KW.seq (KW.seq (KW.region ?_))
  refine OW.val rfl rfl (EX.assign rfl) ?_
  refine OW.nil ?_
  refine KW.block ?_
  refine KW.loop3 (fun (k : Nat) (v : Value) (wr : World) => k ≤ s.length ∧ Own wr w.heap.size 3 1 v (8 * k) (ints .i64 (bitsOf (s.take k))) ∧ Ext w wr) (fun (k : Nat) (v : Value) (wr : World) => [(0, str (s)), (3, v), (4, .int .i64 ((k : Nat) : Int))]) (fun (k : Nat) (v : Value) (wr : World) => wr) (fun (k : Nat) (v : Value) (wr : World) => s.length - k) (0) (.slice none 0 0) (w) ⟨rfl, rfl, rfl, trivial⟩ rfl ?_ ?_
  · exact ⟨by omega, Own.nil _ _ _ _, Ext.refl w⟩
  · rintro k v wr ⟨hk, hown, hx⟩
    refine KW.seq (KW.seq (KW.region ?_))
    refine OW.val rfl rfl (EX.move rfl) ?_
    refine OW.val rfl rfl (EX.move rfl) ?_
    refine OW.val rfl rfl (EX.lenS Tryz.underlying9 rfl) ?_
    refine OW.val rfl rfl (by first | exact EX.lssN rfl rfl | exact EX.lssZ rfl rfl) ?_
    refine OW.nil ?_
    refine KW.condD rfl (fun h => ?_) (fun h => ?_)
    · refine KW.skip (KW.seq (KW.block (KW.seq (KW.region ?_))))
      refine OW.val rfl rfl (EX.assign rfl) ?_
      refine OW.nil ?_
      refine KW.block ?_
      have hc : s[k].toNat < 256 := s[k].toNat_lt
      refine KW.loop3 (fun (j : Nat) (v2 : Value) (w2 : World) => j ≤ 8 ∧ Own w2 w.heap.size 3 1 v2 (8 * k + j) (ints .i64 (bitsOf (s.take k) ++ (bits8 s[k].toNat).take j)) ∧ Ext w w2) (fun (j : Nat) (v2 : Value) (w2 : World) => [(0, str (s)), (3, v2), (4, .int .i64 ((k : Nat) : Int)), (5, .int .i64 ((7 - (j : Int)) : Int))]) (fun (j : Nat) (v2 : Value) (w2 : World) => w2) (fun (j : Nat) (v2 : Value) (w2 : World) => 8 - j) (0) (v) (wr) ⟨rfl, rfl, rfl, rfl, trivial⟩ rfl ?_ ?_
      · exact ⟨by omega, by simpa using hown, hx⟩
      · rintro j v2 w2 ⟨hj, hown2, hx2⟩
        refine KW.seq (KW.seq (KW.region ?_))
        refine OW.val rfl rfl (EX.move rfl) ?_
        refine OW.val rfl rfl (by first | exact EX.geqN (b := 0) rfl rfl | exact EX.geqZ rfl rfl) ?_
        refine OW.nil ?_
        refine KW.condD rfl (fun h2 => ?_) (fun h2 => ?_)
        · refine KW.as 5 (.int .i64 (((7 - j) : Nat) : Int)) rfl (by congr 1; omega) ?_
          refine KW.skip (KW.seq (KW.block (KW.region ?_)))
          refine OW.val rfl rfl (EX.move rfl) ?_
          refine OW.val rfl rfl (EX.move rfl) ?_
          refine OW.val rfl rfl (EX.move rfl) ?_
          refine OW.val rfl rfl (EX.indexS Tryz.underlying9 rfl rfl (List.getElem?_eq_getElem (by omega))) ?_
          refine OW.val rfl rfl (by first | exact EX.convN (m := 9223372036854775807) Tryz.underlying5 Tryz.underlying3 rfl rfl (by omega) | exact EX.convZ Tryz.underlying5 Tryz.underlying3 rfl) ?_
          refine OW.val rfl rfl (EX.move rfl) ?_
          refine OW.val rfl rfl (by first | exact EX.convN (m := 18446744073709551615) Tryz.underlying3 Tryz.underlying141 rfl rfl (by omega) | exact EX.convW (m := 18446744073709551616) Tryz.underlying3 Tryz.underlying141 rfl rfl (by decide) | exact EX.convZ Tryz.underlying3 Tryz.underlying141 rfl) ?_
          have hb : s[k].toNat / 2 ^ (7 - j) ≤ s[k].toNat := Nat.div_le_self _ _
          refine OW.val rfl rfl (EX.shrN rfl rfl rfl (by show 7 - j ≤ 64; omega)) ?_
          refine OW.val rfl rfl (EX.maskN (b := 1) (j := 1) (p := 2) (m := 9223372036854775807) rfl rfl (by decide) (by decide) rfl (by omega)) ?_
          refine OW.push rfl rfl (fun _ => rfl) rfl Tryz.underlying151 ti3 rfl rfl (fun _ => rfl) rfl (hx2) (hown2) (by simp only [maxLen]; omega) (by omega) ?_
          rintro _ v' w' hown' hx' _ _
          refine OW.val rfl rfl (EX.assign rfl) ?_
          refine OW.nil ?_
          refine KW.leave (KW.region ?_)
          refine OW.val rfl rfl (EX.move rfl) ?_
          refine OW.val rfl rfl (by first | exact EX.subN (b := 1) (m := 9223372036854775807) rfl rfl rfl (by omega) | exact EX.subZ (m := 9223372036854775807) rfl rfl rfl rfl (by omega)) ?_
          refine OW.val rfl rfl (EX.assign rfl) ?_
          refine OW.nil ?_
          refine KW.as 5 (.int .i64 ((7 - ((j + 1 : Nat) : Int)) : Int)) rfl (by congr 1; omega) ?_
          refine KW.back3 (j + 1) (v') (w') ⟨rfl, rfl, rfl, rfl, trivial⟩ rfl ?_ (by omega)
          refine ⟨by omega, ?_, hx'⟩
          rw [bits8_snoc _ _ (by omega), ← List.append_assoc, ints_append _ (bitsOf (s.take k) ++ _)]
          exact hown'
        · refine KW.exit rfl (KW.leave (KW.region ?_))
          refine OW.val rfl rfl (EX.move rfl) ?_
          refine OW.val rfl rfl (by first | exact EX.addN (b := 1) (m := 9223372036854775807) rfl rfl rfl (by omega) | exact EX.addZ (m := 9223372036854775807) rfl rfl rfl rfl (by omega)) ?_
          refine OW.val rfl rfl (EX.assign rfl) ?_
          refine OW.nil ?_
          obtain rfl : j = 8 := by omega
          refine KW.back3 (k + 1) (v2) (w2) ⟨rfl, rfl, rfl, trivial⟩ rfl ?_ (by omega)
          refine ⟨by omega, ?_, hx2⟩
          rw [take_snoc s k h, bitsOf_snoc]
          rw [List.take_of_length_le (l := bits8 s[k].toNat) (by rw [bits8_length]; exact Nat.le_refl _)] at hown2
          exact hown2
    · refine KW.exit rfl (KW.seq (KW.region ?_))
      refine OW.val rfl rfl (EX.move rfl) ?_
      refine OW.val rfl rfl (EX.assign rfl) ?_
      refine OW.nil ?_
      refine KW.ret (ret1 rfl rfl ?_)
      obtain rfl : k = s.length := by omega
      rw [List.take_length] at hown
      exact ⟨hown, hx⟩
theorem bits_s (v n : Nat) (hv : v < 18446744073709551616) (hn : n ≤ 64) (w : World) :
    Ret Tryz.prog 91 [.int .u64 v, .int .i64 n] w fun r w' => ∃ u, r = .tuple #[u, .bool (decide (v / 2 ^ n = 0))] ∧ Own w' w.heap.size 3 1 u n (ints .i64 (bitsN n v)) ∧ Ext w w' := by
  refine Ret.enter Tryz.func91 rfl Tryz.ntmps91 (by kernel_rfl) rfl ?_
  refine KW.seq (KW.region ?_)
  refine OW.val rfl rfl (EX.assign rfl) ?_
  refine OW.val rfl rfl (EX.assign rfl) ?_
  refine OW.nil ?_
  refine KW.seq (KW.seq ?_)
  refine KW.region ?_
  refine OW.val rfl rfl (EX.move rfl) ?_
  refine OW.val rfl rfl (by first | exact EX.lssN (b := 0) rfl rfl | exact EX.lssZ rfl rfl) ?_
  refine OW.val rfl rfl (EX.move rfl) ?_
  refine OW.as 10 (.bool false) rfl (congrArg Value.bool (decide_eq_false (by omega))) ?_
  refine OW.val rfl rfl (EX.move rfl) ?_
  refine OW.val rfl rfl (by first | exact EX.gtrN (b := 64) rfl rfl | exact EX.gtrZ rfl rfl) ?_
  refine OW.val rfl rfl (EX.pickF rfl rfl) ?_
  refine OW.nil ?_
  refine KW.as 13 (.bool false) rfl (congrArg Value.bool (decide_eq_false (by omega))) ?_
  refine KW.condF rfl (KW.skip (KW.seq (KW.region ?_)))
  refine OW.val rfl rfl (EX.move rfl) ?_
  refine OW.val rfl rfl (EX.makeSlice Tryz.underlying151 ti3 rfl rfl rfl (by omega) (by omega)) ?_
  refine OW.val rfl rfl (EX.assign rfl) ?_
  refine OW.nil ?_
  refine KW.seq (KW.seq (KW.region ?_))
  refine OW.val rfl rfl (EX.move rfl) ?_
  refine OW.val rfl rfl (by first | exact EX.subN (b := 1) (m := 9223372036854775807) rfl rfl rfl (by omega) | exact EX.subZ (m := 9223372036854775807) rfl rfl rfl rfl (by omega)) ?_
  refine OW.val rfl rfl (EX.assign rfl) ?_
  refine OW.nil ?_
  refine KW.block ?_
  have hmk := Own.of_bk (B := w.heap.size) (s := 1) (Bk.new w 3 (List.replicate n (.int .i64 0))) (Nat.le_refl _) (by simp) (cap := n) (by simp only [maxLen]; omega)
  refine KW.as 7 (.int .i64 (((n : Int) - 1 - ((0 : Nat) : Int)) : Int)) rfl (by simp) ?_
  refine KW.loop4 (fun (j : Nat) (x : Nat) (l : List Value) (wr : World) => j ≤ n ∧ x = v / 2 ^ j ∧ Own wr w.heap.size 3 1 (.slice (some ⟨w.heap.size, 0, none⟩) n n) n l ∧ (∀ i, n - j ≤ i → i < n → l[i]? = some (.int .i64 (v / 2 ^ (n - 1 - i) % 2 : Nat))) ∧ Ext w wr) (fun (j : Nat) (x : Nat) (l : List Value) (wr : World) => [(0, .int .u64 ((x : Nat) : Int)), (6, .slice (some ⟨w.heap.size, 0, none⟩) n n), (7, .int .i64 (((n : Int) - 1 - (j : Int)) : Int))]) (fun (j : Nat) (x : Nat) (l : List Value) (wr : World) => wr) (fun (j : Nat) (x : Nat) (l : List Value) (wr : World) => n - j) (0) (v) (List.replicate n (.int .i64 0)) (_) ⟨rfl, rfl, rfl, trivial⟩ rfl ?_ ?_
  · exact ⟨by omega, by simp, hmk, fun i h1 h2 => absurd h1 (by omega), Ext.alloc w _⟩
  · rintro j x l wr ⟨hj, hx, hown, hl, hext⟩
    have hxl : x ≤ v := by rw [hx]; exact Nat.div_le_self _ _
    refine KW.seq (KW.seq (KW.region ?_))
    refine OW.val rfl rfl (EX.move rfl) ?_
    refine OW.val rfl rfl (by first | exact EX.geqN (b := 0) rfl rfl | exact EX.geqZ rfl rfl) ?_
    refine OW.nil ?_
    refine KW.condD rfl (fun h => ?_) (fun h => ?_)
    · obtain ⟨i, hi⟩ : ∃ i, i = n - 1 - j := ⟨_, rfl⟩
      refine KW.as 7 (.int .i64 ((i : Nat) : Int)) rfl (by congr 1; omega) ?_
      refine KW.skip (KW.seq (KW.block (KW.seq (KW.region ?_))))
      refine OW.val rfl rfl (EX.move rfl) ?_
      refine OW.val rfl rfl (EX.move rfl) ?_
      refine OW.val rfl rfl (EX.move rfl) ?_
      refine OW.val rfl rfl (EX.remN (b := 2) rfl rfl (by omega)) ?_
      refine OW.val rfl rfl (by first | exact EX.convN (m := 9223372036854775807) Tryz.underlying122 Tryz.underlying3 rfl rfl (by omega) | exact EX.convZ Tryz.underlying122 Tryz.underlying3 rfl) ?_
      refine OW.val rfl rfl (by first | exact EX.indexAddrS0 Tryz.underlying151 ti3 rfl rfl (by omega) | exact EX.indexAddrS1 Tryz.underlying151 ti3 rfl rfl (by omega)) ?_
      obtain ⟨g', cap', rest, hve, _, hbk, _⟩ := hown.blk (by have := hown.1; omega)
      simp only [Value.slice.injEq, Option.some.injEq, Addr.mk.injEq, and_true, true_and] at hve
      obtain ⟨rfl, rfl⟩ := hve
      have hln : l.length = n := by have := hown.1; omega
      refine OW.eff rfl (EU.storeBk ti3 rfl rfl rfl (hbk) (by simp; omega)) ?_
      refine OW.nil ?_
      refine KW.region ?_
      refine OW.val rfl rfl (EX.move rfl) ?_
      refine OW.val rfl rfl (EX.quoN (b := 2) (m := 18446744073709551615) rfl rfl rfl (by omega)) ?_
      refine OW.val rfl rfl (EX.assign rfl) ?_
      refine OW.nil ?_
      refine KW.leave (KW.region ?_)
      refine OW.val rfl rfl (EX.move rfl) ?_
      refine OW.val rfl rfl (by first | exact EX.subN (b := 1) (m := 9223372036854775807) rfl rfl rfl (by omega) | exact EX.subZ (m := 9223372036854775807) rfl rfl rfl rfl (by omega)) ?_
      refine OW.val rfl rfl (EX.assign rfl) ?_
      refine OW.nil ?_
      have hset := hown.set i (by omega) (.int .i64 (x % 2 : Nat))
      refine KW.as 7 (.int .i64 (((n : Int) - 1 - ((j + 1 : Nat) : Int)) : Int)) rfl (by congr 1; omega) ?_
      refine KW.back4 (j + 1) (x / 2) (l.set i (.int .i64 (x % 2 : Nat))) (_) ⟨rfl, rfl, rfl, trivial⟩ rfl ?_ (by omega)
      refine ⟨by omega, by rw [hx, Nat.div_div_eq_div_mul, Nat.pow_succ], hset.1, fun i' h1 h2 => ?_, hext.grown hset.2 (fun g hg => by cases hg; exact Nat.le_refl _)⟩
      rcases Nat.lt_or_ge i i' with h3 | h3
      · rw [List.getElem?_set_ne (by omega)]; exact hl i' (by omega) h2
      · obtain rfl : i' = i := by omega
        rw [List.getElem?_set_self (by omega), hx, show n - 1 - i' = j by omega]
    · refine KW.exit rfl (KW.seq (KW.region ?_))
      refine OW.val rfl rfl (EX.move rfl) ?_
      refine OW.val rfl rfl (EX.move rfl) ?_
      refine OW.val rfl rfl (by first | exact EX.eqlN (b := 0) rfl rfl | exact EX.eqlZ rfl rfl) ?_
      refine OW.val rfl rfl (EX.assign rfl) ?_
      refine OW.val rfl rfl (EX.assign rfl) ?_
      refine OW.nil ?_
      refine KW.ret (ret2 rfl rfl rfl ?_)
      obtain rfl : j = n := by omega
      refine ⟨_, by rw [hx], ?_, hext⟩
      have : l = ints .i64 (bitsN j v) := by
        apply List.ext_getElem?
        intro i
        have hln : l.length = j := by have := hown.1; omega
        rcases Nat.lt_or_ge i j with h1 | h1
        · rw [hl i (by omega) h1]; simp [ints, bitsN_get _ _ _ h1]
        · rw [List.getElem?_eq_none (by omega), List.getElem?_eq_none (by simp [ints, bitsN_length]; omega)]
      rw [← this]
      exact hown
theorem ints_get {k : IntKind} {l : List Nat} {i : Nat} (h : i < l.length) : (ints k l)[i]? = some (.int k (l[i] : Nat)) := by simp [ints, h]
theorem number_s (l : List Nat) (A : Option Addr) (c : Nat) (hl : ∀ x ∈ l, x ≤ 1) (hn : l.length ≤ 60) (w : World) (B : Nat) (hs : Sl w B A (ints .i64 l)) :
    Ret Tryz.prog 94 [.slice A l.length c] w fun r w' => r = .int .u64 (numN l : Nat) ∧ w = w' := by
  refine Ret.enter Tryz.func94 rfl Tryz.ntmps94 (by kernel_rfl) rfl ?_
  refine KW.seq (KW.region ?_)
  refine OW.val rfl rfl (EX.assign rfl) ?_
  refine OW.nil ?_
  refine KW.seq (KW.region ?_)
  refine OW.val rfl rfl (EX.assign rfl) ?_
  refine OW.nil ?_
  refine KW.seq (KW.seq (KW.region ?_))
  refine OW.val rfl rfl (EX.assign rfl) ?_
  refine OW.nil ?_
  refine KW.block ?_
  refine KW.loop2 (fun (i : Nat) (v : Nat) => i ≤ l.length ∧ v = numN (l.take i) ∧ v < 1152921504606846976) (fun (i : Nat) (v : Nat) => [(0, .slice A l.length c), (3, .int .u64 ((v : Nat) : Int)), (4, .int .i64 ((i : Nat) : Int))]) (fun (i : Nat) (v : Nat) => w) (fun (i : Nat) (v : Nat) => l.length - i) (0) (0) ⟨rfl, rfl, rfl, trivial⟩ rfl ?_ ?_
  · exact ⟨by omega, by simp [numN], by omega⟩
  · rintro i v ⟨hi, hv, hvb⟩
    refine KW.seq (KW.seq (KW.region ?_))
    refine OW.val rfl rfl (EX.move rfl) ?_
    refine OW.val rfl rfl (EX.move rfl) ?_
    refine OW.val rfl rfl (EX.lenA Tryz.underlying151 rfl) ?_
    refine OW.val rfl rfl (by first | exact EX.lssN rfl rfl | exact EX.lssZ rfl rfl) ?_
    refine OW.nil ?_
    refine KW.condD rfl (fun h => ?_) (fun h => ?_)
    · obtain ⟨b, o, rfl, _, hc⟩ := hs.at_ (by rw [ints_length]; omega)
      have hx1 := hl l[i] (by simp)
      refine KW.skip (KW.seq (KW.block (KW.region ?_)))
      refine OW.val rfl rfl (EX.move rfl) ?_
      refine OW.val rfl rfl (by first | exact EX.mulN (b := 2) (m := 18446744073709551615) rfl rfl rfl (by omega) | exact EX.mulW (b := 2) (m := 18446744073709551616) rfl rfl rfl (by decide)) ?_
      refine OW.val rfl rfl (EX.move rfl) ?_
      refine OW.val rfl rfl (EX.move rfl) ?_
      refine OW.val rfl rfl (by first | exact EX.indexAddrS0 Tryz.underlying151 ti3 rfl rfl (by omega) | exact EX.indexAddrS1 Tryz.underlying151 ti3 rfl rfl (by omega)) ?_
      refine OW.val rfl rfl (EX.load Tryz.underlying3 rfl rfl (hc i _ (ints_get h))) ?_
      refine OW.val rfl rfl (by first | exact EX.convN (m := 18446744073709551615) Tryz.underlying3 Tryz.underlying122 rfl rfl (by omega) | exact EX.convW (m := 18446744073709551616) Tryz.underlying3 Tryz.underlying122 rfl rfl (by decide) | exact EX.convZ Tryz.underlying3 Tryz.underlying122 rfl) ?_
      refine OW.val rfl rfl (by first | exact EX.addN (m := 18446744073709551615) rfl rfl rfl (by omega) | exact EX.addW (m := 18446744073709551616) rfl rfl rfl (by decide)) ?_
      refine OW.val rfl rfl (EX.assign rfl) ?_
      refine OW.nil ?_
      refine KW.leave (KW.region ?_)
      refine OW.val rfl rfl (EX.move rfl) ?_
      refine OW.val rfl rfl (by first | exact EX.addN (b := 1) (m := 9223372036854775807) rfl rfl rfl (by omega) | exact EX.addZ (m := 9223372036854775807) rfl rfl rfl rfl (by omega)) ?_
      refine OW.val rfl rfl (EX.assign rfl) ?_
      refine OW.nil ?_
      have hnew : v * 2 + l[i] = numN (l.take (i + 1)) := by rw [take_snoc l i h, numN_snoc, hv]
      have hlt : v * 2 + l[i] < 1152921504606846976 := by
        rw [hnew]
        refine Nat.lt_of_lt_of_le (numN_lt _ fun x hx => hl x (List.mem_of_mem_take hx)) ?_
        exact Nat.le_trans (Nat.pow_le_pow_right (by decide) (by rw [List.length_take]; omega)) (show 2 ^ 60 ≤ 1152921504606846976 by decide)
      refine KW.back2 (i + 1) (v * 2 + l[i]) ⟨rfl, rfl, rfl, trivial⟩ rfl ?_ (by omega)
      exact ⟨by omega, hnew, hlt⟩
    · refine KW.exit rfl (KW.seq (KW.region ?_))
      refine OW.val rfl rfl (EX.move rfl) ?_
      refine OW.val rfl rfl (EX.assign rfl) ?_
      refine OW.nil ?_
      refine KW.ret (ret1 rfl rfl ?_)
      rw [List.take_of_length_le (by omega)] at hv
      exact ⟨by rw [hv], rfl⟩
end Go.Proofs.YthgfdpcpbghkpaaGreatDoor
namespace Go.Proofs.YthgfdpcpbghkpaaGreatDoor
open Go.RowKit
theorem poly_s (w : World) : Ret Tryz.prog 129 [] w fun v w' => Own w' w.heap.size 3 1 v 33 (ints .i64 polyP) ∧ Ext w w' := by
  refine Ret.enter Tryz.func129 rfl Tryz.ntmps129 (by kernel_rfl) rfl ?_
  refine KW.seq (KW.region ?_)
  refine OW.val rfl rfl (EX.assign rfl) ?_
  refine OW.nil ?_
  refine KW.seq (KW.region ?_)
  refine OW.call rfl rfl rfl (bits_s 4374732215 33 (by omega) (by omega) _) ?_
  rintro _ w1 ⟨u, rfl, hown, hx⟩
  refine OW.val rfl rfl (EX.move rfl) ?_
  refine OW.val rfl rfl (EX.extract rfl rfl) ?_
  refine OW.val rfl rfl (EX.extract rfl rfl) ?_
  refine OW.val rfl rfl (EX.assign rfl) ?_
  refine OW.val rfl rfl (EX.assign rfl) ?_
  refine OW.nil ?_
  refine KW.seq (KW.region ?_)
  refine OW.val rfl rfl (EX.move rfl) ?_
  refine OW.val rfl rfl (EX.assign rfl) ?_
  refine OW.nil ?_
  refine KW.ret (ret1 rfl rfl ?_)
  exact ⟨hown, hx⟩
theorem bk_int {w : World} {b : Nat} {T : TypeId} {l : List Nat} {rest : List Value} {kd : IntKind} (h : Bk w b T (ints kd l ++ rest)) {i : Nat} (hi : i < l.length) : w.cell? ⟨b, i, none⟩ = some (.int kd (l[i] : Nat)) :=
  h.cell_of (by rw [List.getElem?_append_left (by rw [ints_length]; exact hi)]; exact ints_get hi)
theorem ints_set (k : IntKind) (l : List Nat) (i x : Nat) : (ints k l).set i (.int k (x : Nat)) = ints k (l.set i x) := by
  simp [ints, List.map_set]
theorem bk_set {w : World} {b : Nat} {T : TypeId} {l : List Nat} {rest : List Value} {kd : IntKind} (h : Bk w b T (ints kd l ++ rest)) {i : Nat} (hi : i < l.length) (x : Nat) : Bk (w.setCell ⟨b, i, none⟩ (.int kd (x : Nat))) b T (ints kd (l.set i x) ++ rest) := by
  have := h.set i (.int kd (x : Nat))
  rw [List.set_append_left _ _ (by rw [ints_length]; exact hi), ints_set] at this
  exact this
theorem rest_s (l : List Nat) (A : Option Addr) (c : Nat) (hl : ∀ x ∈ l, x ≤ 1) (h32 : 32 ≤ l.length) (hn : l.length ≤ 10000000) (w : World) (B : Nat) (hs : Sl w B A (ints .i64 l)) :
    Ret Tryz.prog 115 [.slice A l.length c] w fun r w' => ∃ A' c', r = .slice A' 32 c' ∧ Sl w' w'.heap.size A' (ints .i64 (restN l)) ∧ Ext w w' := by
  refine Ret.enter Tryz.func115 rfl Tryz.ntmps115 (by kernel_rfl) rfl ?_
  refine KW.seq (KW.region ?_)
  refine OW.val rfl rfl (EX.assign rfl) ?_
  refine OW.nil ?_
  refine KW.seq (KW.region ?_)
  refine OW.call rfl rfl rfl (poly_s w) ?_
  rintro u w1 ⟨hpo, hx1⟩
  refine OW.val rfl rfl (EX.assign rfl) ?_
  refine OW.nil ?_
  refine KW.seq (KW.region ?_)
  refine OW.val rfl rfl (EX.buildSlice 0 Tryz.underlying151 ti3 rfl rfl rfl rfl rfl (by decide)) ?_
  refine OW.val rfl rfl (EX.move rfl) ?_
  have hemp := Own.of_bk (B := w.heap.size) (s := 1) (cap := 0) (Bk.new w1 3 []) hx1.size (by simp) (by simp only [maxLen]; omega)
  have hx2 : Ext w (w1.alloc (.cells [].toArray 3)) := hx1.trans (Ext.alloc _ _)
  refine OW.appendX rfl rfl Tryz.underlying151 ti3 rfl (by decide) rfl rfl (hx2) (hemp) (Src.of_sl Tryz.underlying151 ((hs.ext hx2)) (by rw [ints_length]; omega) ints_one (by decide)) (by simp only [maxLen]; omega) (by omega) ?_
  rintro v w2 hown hext hgr hob
  refine OW.val rfl rfl (EX.assign rfl) ?_
  refine OW.nil ?_
  refine KW.seq (KW.seq (KW.region ?_))
  refine OW.val rfl rfl (EX.assign rfl) ?_
  refine OW.nil ?_
  refine KW.block ?_
  obtain ⟨gv, capv, rv, rfl, hgB, hbv, hlv, hcv, hmv⟩ := hown.blk (by rw [List.length_append, ints_length]; omega)
  obtain ⟨gp, capp, rp, rfl, _, hbp, _⟩ := hpo.blk (by rw [ints_length, polyP_length]; omega)
  have hne : gp ≠ gv := by
    have h1 := hbp.lt
    rcases hob with h | h
    · simp [Value.ownBlock] at h; omega
    · simp [Value.ownBlock] at h; omega
  have hbp2 := (hbp.alloc (.cells [].toArray 3)).grown hgr (by simp [Value.ownBlock]; have := hbp.lt; omega)
  rw [List.nil_append] at hbv
  simp only [Nat.zero_add]
  refine KW.loop3 (fun (i : Nat) (d : List Nat) (wr : World) => i ≤ l.length - 32 ∧ d.length = l.length ∧ (∀ x ∈ d, x ≤ 1) ∧ divB (l.length - 32 - i) (d.drop i) = restN l ∧ Bk wr gv 3 (ints .i64 d ++ rv) ∧ Bk wr gp 3 (ints .i64 polyP ++ rp) ∧ Ext w wr) (fun (i : Nat) (d : List Nat) (wr : World) => [(3, .slice (some ⟨gp, 0, none⟩) 33 capp), (4, .slice (some ⟨gv, 0, none⟩) l.length capv), (5, .int .i64 ((i : Nat) : Int))]) (fun (i : Nat) (d : List Nat) (wr : World) => wr) (fun (i : Nat) (d : List Nat) (wr : World) => l.length - i) (0) (l) (w2) ⟨rfl, rfl, rfl, trivial⟩ rfl ?_ ?_
  · exact ⟨by omega, rfl, hl, rfl, hbv, hbp2, hext⟩
  · rintro i d wr ⟨hi, hdl, hd1, hdiv, hbv, hbp, hx⟩
    refine KW.seq (KW.seq (KW.region ?_))
    refine OW.val rfl rfl (EX.move rfl) ?_
    refine OW.val rfl rfl (by first | exact EX.addN (b := 32) (m := 9223372036854775807) rfl rfl rfl (by omega) | exact EX.addZ (m := 9223372036854775807) rfl rfl rfl rfl (by omega)) ?_
    refine OW.val rfl rfl (EX.move rfl) ?_
    refine OW.val rfl rfl (EX.lenA Tryz.underlying151 rfl) ?_
    refine OW.val rfl rfl (by first | exact EX.lssN rfl rfl | exact EX.lssZ rfl rfl) ?_
    refine OW.nil ?_
    refine KW.condD rfl (fun h => ?_) (fun h => ?_)
    · refine KW.skip (KW.seq (KW.block (KW.seq (KW.region ?_))))
      refine OW.val rfl rfl (EX.move rfl) ?_
      refine OW.val rfl rfl (EX.move rfl) ?_
      refine OW.val rfl rfl (by first | exact EX.indexAddrS0 Tryz.underlying151 ti3 rfl rfl (by omega) | exact EX.indexAddrS1 Tryz.underlying151 ti3 rfl rfl (by omega)) ?_
      have hid : i < d.length := by omega
      refine OW.val rfl rfl (EX.load Tryz.underlying3 rfl rfl (bk_int hbv hid)) ?_
      refine OW.val rfl rfl (by first | exact EX.eqlN (b := 1) rfl rfl | exact EX.eqlZ rfl rfl) ?_
      refine OW.nil ?_
      have hdrop : d.drop i = d[i] :: d.drop (i + 1) := List.drop_eq_getElem_cons hid
      have hdiv2 : divB (l.length - 32 - (i + 1)) (divStep (d.drop i)) = restN l := by
        rw [show l.length - 32 - i = (l.length - 32 - (i + 1)) + 1 by omega, divB] at hdiv
        exact hdiv
      refine KW.condD rfl (fun h1 => ?_) (fun h1 => ?_)
      · refine KW.seq (KW.region ?_)
        refine OW.val rfl rfl (EX.assign rfl) ?_
        refine OW.nil ?_
        refine KW.block ?_
        refine KW.loop3 (fun (k : Nat) (e : List Nat) (w3 : World) => k ≤ 33 ∧ e.length = l.length ∧ (∀ j, e[j]? = (d[j]?).map fun x => if i ≤ j ∧ j < i + k then (x + polyP.getD (j - i) 0) % 2 else x) ∧ Bk w3 gv 3 (ints .i64 e ++ rv) ∧ Bk w3 gp 3 (ints .i64 polyP ++ rp) ∧ Ext w w3) (fun (k : Nat) (e : List Nat) (w3 : World) => [(3, .slice (some ⟨gp, 0, none⟩) 33 capp), (4, .slice (some ⟨gv, 0, none⟩) l.length capv), (5, .int .i64 ((i : Nat) : Int)), (6, .int .i64 ((k : Nat) : Int))]) (fun (k : Nat) (e : List Nat) (w3 : World) => w3) (fun (k : Nat) (e : List Nat) (w3 : World) => 33 - k) (0) (d) (wr) ⟨rfl, rfl, rfl, rfl, trivial⟩ rfl ?_ ?_
        · refine ⟨by omega, hdl, fun j => ?_, hbv, hbp, hx⟩
          have : ∀ x, (if i ≤ j ∧ j < i + 0 then (x + polyP.getD (j - i) 0) % 2 else x) = x := fun x => if_neg (by omega)
          simp only [this]
          simp
        · rintro k e w3 ⟨hk, hel, he, hbv3, hbp3, hx3⟩
          refine KW.seq (KW.seq (KW.region ?_))
          refine OW.val rfl rfl (EX.move rfl) ?_
          refine OW.val rfl rfl (by first | exact EX.lssN (b := 33) rfl rfl | exact EX.lssZ rfl rfl) ?_
          refine OW.nil ?_
          refine KW.condD rfl (fun h33 => ?_) (fun h33 => ?_)
          · refine KW.skip (KW.seq (KW.block ?_))
            refine KW.regionH 17 (by kernel_rfl) (by kernel_rfl) ?_
            refine HW.val rfl rfl (EX.move rfl) ?_
            refine HW.val rfl rfl (EX.move rfl) ?_
            refine HW.val rfl rfl (EX.move rfl) ?_
            refine HW.val rfl rfl (by first | exact EX.addN (m := 9223372036854775807) rfl rfl rfl (by omega) | exact EX.addZ (m := 9223372036854775807) rfl rfl rfl rfl (by omega)) ?_
            refine HW.val rfl rfl (EX.move rfl) ?_
            refine HW.val rfl rfl (EX.move rfl) ?_
            refine HW.val rfl rfl (EX.move rfl) ?_
            refine HW.val rfl rfl (by first | exact EX.addN (m := 9223372036854775807) rfl rfl rfl (by omega) | exact EX.addZ (m := 9223372036854775807) rfl rfl rfl rfl (by omega)) ?_
            refine HW.val rfl rfl (by first | exact EX.indexAddrS0 Tryz.underlying151 ti3 rfl rfl (by omega) | exact EX.indexAddrS1 Tryz.underlying151 ti3 rfl rfl (by omega)) ?_
            have hik : i + k < e.length := by omega
            have hkp : k < polyP.length := by rw [polyP_length]; exact h33
            have hek : e[i + k] = d[i + k] := by
              have := he (i + k)
              rw [List.getElem?_eq_getElem hik, List.getElem?_eq_getElem (by omega)] at this
              simpa using this
            have hd2 : d[i + k] ≤ 1 := hd1 _ (by simp)
            have hp2 : polyP[k] ≤ 1 := polyP_le _ (by simp)
            refine HW.val rfl rfl (EX.load Tryz.underlying3 rfl rfl (bk_int (hbv3.drew) hik)) ?_
            refine HW.val rfl rfl (EX.move rfl) ?_
            refine HW.val rfl rfl (EX.move rfl) ?_
            refine HW.val rfl rfl (by first | exact EX.indexAddrS0 Tryz.underlying151 ti3 rfl rfl (by omega) | exact EX.indexAddrS1 Tryz.underlying151 ti3 rfl rfl (by omega)) ?_
            refine HW.val rfl rfl (EX.load Tryz.underlying3 rfl rfl (bk_int (hbp3.drew) hkp)) ?_
            refine HW.val rfl rfl (by first | exact EX.addN (m := 9223372036854775807) rfl rfl rfl (by omega) | exact EX.addZ (m := 9223372036854775807) rfl rfl rfl rfl (by omega)) ?_
            refine HW.val rfl rfl (by first | exact EX.remN (b := 2) rfl rfl (by omega) | exact EX.remZ rfl rfl (by decide)) ?_
            refine HW.val rfl rfl (by first | exact EX.indexAddrS0 Tryz.underlying151 ti3 rfl rfl (by omega) | exact EX.indexAddrS1 Tryz.underlying151 ti3 rfl rfl (by omega)) ?_
            refine HW.tail ?_
            refine OW.eff rfl (EU.storeBk ti3 rfl rfl rfl (hbv3.drew) (by simp [ints_length]; omega)) ?_
            refine OW.nil ?_
            refine KW.leave (KW.region ?_)
            refine OW.val rfl rfl (EX.move rfl) ?_
            refine OW.val rfl rfl (by first | exact EX.addN (b := 1) (m := 9223372036854775807) rfl rfl rfl (by omega) | exact EX.addZ (m := 9223372036854775807) rfl rfl rfl rfl (by omega)) ?_
            refine OW.val rfl rfl (EX.assign rfl) ?_
            refine OW.nil ?_
            refine KW.back3 (k + 1) (e.set (i + k) ((e[i + k] + polyP[k]) % 2)) (_) ⟨rfl, rfl, rfl, rfl, trivial⟩ rfl ?_ (by omega)
            refine ⟨by omega, by simpa using hel, fun j => ?_, bk_set hbv3.drew hik _, hbp3.drew.far (p := ⟨gv, i + k, none⟩) hne _, (Below.drew hx3).setCell (p := ⟨gv, i + k, none⟩) hgB _⟩
            rcases Nat.decEq j (i + k) with hj | hj
            · rw [List.getElem?_set_ne (by omega), he j]
              congr 1
              funext x
              by_cases hc : i ≤ j ∧ j < i + k
              · rw [if_pos hc, if_pos (by omega)]
              · rw [if_neg hc, if_neg (by omega)]
            · subst hj
              rw [List.getElem?_set_self (by omega), List.getElem?_eq_getElem (by omega)]
              simp only [Option.map_some]
              rw [if_pos (by omega), hek, show i + k - i = k by omega]
              simp [List.getD, hkp]
          · refine KW.exit rfl (KW.leave (KW.region ?_))
            refine OW.val rfl rfl (EX.move rfl) ?_
            refine OW.val rfl rfl (by first | exact EX.addN (b := 1) (m := 9223372036854775807) rfl rfl rfl (by omega) | exact EX.addZ (m := 9223372036854775807) rfl rfl rfl rfl (by omega)) ?_
            refine OW.val rfl rfl (EX.assign rfl) ?_
            refine OW.nil ?_
            obtain rfl : k = 33 := by omega
            refine KW.back3 (i + 1) (e) (w3) ⟨rfl, rfl, rfl, trivial⟩ rfl ?_ (by omega)
            have hadd : e.drop i = addP (d.drop i) polyP := addP_part (by rw [polyP_length]; exact he)
            refine ⟨by omega, hel, fun x hxm => ?_, ?_, hbv3, hbp3, hx3⟩
            · obtain ⟨j, hj, rfl⟩ := List.mem_iff_getElem.1 hxm
              have hjj := he j
              rw [List.getElem?_eq_getElem hj, List.getElem?_eq_getElem (by omega)] at hjj
              simp only [Option.map_some, Option.some.injEq] at hjj
              have := hd1 d[j] (by simp)
              rw [hjj]
              split <;> omega
            · have : e.drop (i + 1) = divStep (d.drop i) := by
                rw [← List.tail_drop, hadd, hdrop]
                simp only [divStep, if_pos h1]
              rw [this]
              exact hdiv2
      · refine KW.skip (KW.leave (KW.region ?_))
        refine OW.val rfl rfl (EX.move rfl) ?_
        refine OW.val rfl rfl (by first | exact EX.addN (b := 1) (m := 9223372036854775807) rfl rfl rfl (by omega) | exact EX.addZ (m := 9223372036854775807) rfl rfl rfl rfl (by omega)) ?_
        refine OW.val rfl rfl (EX.assign rfl) ?_
        refine OW.nil ?_
        refine KW.back3 (i + 1) (d) (wr) ⟨rfl, rfl, rfl, trivial⟩ rfl ?_ (by omega)
        refine ⟨by omega, hdl, hd1, ?_, hbv, hbp, hx⟩
        rw [hdrop] at hdiv2
        simp only [divStep, if_neg h1] at hdiv2
        exact hdiv2
    · refine KW.exit rfl (KW.seq (KW.region ?_))
      refine OW.val rfl rfl (EX.move rfl) ?_
      refine OW.val rfl rfl (EX.move rfl) ?_
      refine OW.val rfl rfl (EX.lenA Tryz.underlying151 rfl) ?_
      refine OW.val rfl rfl (by first | exact EX.subN (b := 32) (m := 9223372036854775807) rfl rfl rfl (by omega) | exact EX.subZ (m := 9223372036854775807) rfl rfl rfl rfl (by omega)) ?_
      have hsl : Sl wr wr.heap.size (some ⟨gv, 0, none⟩) (ints .i64 d) := by
        have := (Sl.of_bk (B := wr.heap.size) hbv hbv.lt).pre (ints .i64 d).length
        rwa [List.take_left] at this
      refine OW.sliceALE rfl rfl Tryz.underlying151 ti3 rfl rfl (by omega) (by omega) hsl (by rw [ints_length]; exact hdl) ?_
      intro A' hs'
      refine OW.val rfl rfl (EX.assign rfl) ?_
      refine OW.nil ?_
      refine KW.ret (ret1 rfl rfl ?_)
      obtain rfl : i = l.length - 32 := by omega
      refine ⟨A', _, by rw [show l.length - (l.length - 32) = 32 by omega], ?_, hx⟩
      rw [Nat.sub_self, divB] at hdiv
      rw [← hdiv]
      have : (ints .i64 d).drop (l.length - 32) = ints .i64 (d.drop (l.length - 32)) := by simp [ints, List.map_drop]
      rw [← this]
      exact hs'
theorem rmore_s (r : Nat) (hr : r < 4294967296) (s : List UInt8) (hs : s.length ≤ 100000) (w : World) :
    Ret Tryz.prog 107 [.int .u32 r, str s] w fun v w' => v = .int .u32 (rmore r s : Nat) ∧ Ext w w' := by
  refine Ret.enter Tryz.func107 rfl Tryz.ntmps107 (by kernel_rfl) rfl ?_
  refine KW.seq (KW.region ?_)
  refine OW.val rfl rfl (EX.assign rfl) ?_
  refine OW.nil ?_
  refine KW.seq (KW.region ?_)
  refine OW.val rfl rfl (EX.move rfl) ?_
  refine OW.call rfl rfl rfl (of_s s (by omega) w) ?_
  rintro v w1 ⟨hown, hx1⟩
  refine OW.appendZ (m := 32) rfl rfl Tryz.underlying151 Tryz.underlying3 ti3 rfl rfl rfl (hx1) (hown) (by omega) (by simp only [maxLen]; omega) (by omega) ?_
  rintro v2 w2 hown2 hx2 _ _
  refine OW.val rfl rfl (EX.assign rfl) ?_
  refine OW.nil ?_
  refine KW.seq (KW.region ?_)
  refine OW.val rfl rfl (EX.move rfl) ?_
  refine OW.val rfl rfl (by first | exact EX.convN (m := 18446744073709551615) Tryz.underlying68 Tryz.underlying122 rfl rfl (by omega) | exact EX.convW (m := 18446744073709551616) Tryz.underlying68 Tryz.underlying122 rfl rfl (by decide) | exact EX.convZ Tryz.underlying68 Tryz.underlying122 rfl) ?_
  have hz : ints .i64 (bitsOf s) ++ List.replicate 32 (Value.int .i64 0) = ints .i64 (bitsOf s ++ List.replicate 32 0) := by simp [ints]
  rw [hz] at hown2
  generalize hq : bitsOf s ++ List.replicate 32 0 = q at hown2
  have hql : q.length = 8 * s.length + 32 := by rw [← hq, List.length_append, bitsOf_length]; simp
  have hq1 : ∀ x ∈ q, x ≤ 1 := by
    intro x hx
    rw [← hq] at hx
    rcases List.mem_append.1 hx with h | h
    · exact bitsOf_le _ x h
    · rw [(List.mem_replicate.1 h).2]; omega
  obtain ⟨gv, capv, rv, rfl, hgB, hbv, hlv, hcv, hmv⟩ := hown2.blk (by rw [ints_length]; omega)
  refine OW.call rfl rfl rfl (bits_s r 32 (by omega) (by omega) _) ?_
  rintro _ w3 ⟨u, rfl, hob, hx3⟩
  refine OW.val rfl rfl (EX.move rfl) ?_
  refine OW.val rfl rfl (EX.extract rfl rfl) ?_
  refine OW.val rfl rfl (EX.extract rfl rfl) ?_
  refine OW.val rfl rfl (EX.assign rfl) ?_
  refine OW.val rfl rfl (EX.assign rfl) ?_
  refine OW.nil ?_
  refine KW.seq (KW.seq (KW.region ?_))
  refine OW.val rfl rfl (EX.assign rfl) ?_
  refine OW.nil ?_
  refine KW.block ?_
  obtain ⟨gr, capr, rr, rfl, hgrB, hbr, _⟩ := hob.blk (by rw [ints_length, bitsN_length]; omega)
  have hne : gr ≠ gv := by have := hbv.lt; omega
  have hbv3 := hbv.ext hx3
  have hx03 : Ext w w3 := hx2.trans hx3
  refine KW.loop3 (fun (i : Nat) (d : List Nat) (wr : World) => i ≤ 32 ∧ d.length = q.length ∧ (∀ j, d[j]? = (q[j]?).map fun x => if 0 ≤ j ∧ j < 0 + i then (x + (bitsN 32 r).getD (j - 0) 0) % 2 else x) ∧ Bk wr gv 3 (ints .i64 d ++ rv) ∧ Bk wr gr 3 (ints .i64 (bitsN 32 r) ++ rr) ∧ Ext w wr) (fun (i : Nat) (d : List Nat) (wr : World) => [(5, .slice (some ⟨gv, 0, none⟩) (8 * s.length + 32) capv), (6, .slice (some ⟨gr, 0, none⟩) 32 capr), (8, .int .i64 ((i : Nat) : Int))]) (fun (i : Nat) (d : List Nat) (wr : World) => wr) (fun (i : Nat) (d : List Nat) (wr : World) => 32 - i) (0) (q) (w3) ⟨rfl, rfl, rfl, trivial⟩ rfl ?_ ?_
  · refine ⟨by omega, rfl, fun j => ?_, hbv3, hbr, hx03⟩
    have : ∀ x, (if 0 ≤ j ∧ j < 0 + 0 then (x + (bitsN 32 r).getD (j - 0) 0) % 2 else x) = x := fun x => if_neg (by omega)
    simp only [this]
    simp
  · rintro i d wr ⟨hi, hdl, hd, hbv, hbr, hx⟩
    refine KW.seq (KW.seq (KW.region ?_))
    refine OW.val rfl rfl (EX.move rfl) ?_
    refine OW.val rfl rfl (by first | exact EX.lssN (b := 32) rfl rfl | exact EX.lssZ rfl rfl) ?_
    refine OW.nil ?_
    refine KW.condD rfl (fun h => ?_) (fun h => ?_)
    · refine KW.skip (KW.seq (KW.block ?_))
      refine KW.regionH 13 (by kernel_rfl) (by kernel_rfl) ?_
      refine HW.val rfl rfl (EX.move rfl) ?_
      refine HW.val rfl rfl (EX.move rfl) ?_
      refine HW.val rfl rfl (EX.move rfl) ?_
      refine HW.val rfl rfl (EX.move rfl) ?_
      refine HW.val rfl rfl (by first | exact EX.indexAddrS0 Tryz.underlying151 ti3 rfl rfl (by omega) | exact EX.indexAddrS1 Tryz.underlying151 ti3 rfl rfl (by omega)) ?_
      have hid : i < d.length := by omega
      have hir : i < (bitsN 32 r).length := by rw [bitsN_length]; omega
      have hdi : d[i] = q[i] := by
        have := hd i
        rw [List.getElem?_eq_getElem hid, List.getElem?_eq_getElem (by omega)] at this
        simpa using this
      have h1 : q[i] ≤ 1 := hq1 _ (by simp)
      have h2 : (bitsN 32 r)[i] ≤ 1 := bitsN_le _ _ _ (List.getElem_mem _)
      refine HW.val rfl rfl (EX.load Tryz.underlying3 rfl rfl (bk_int (hbv.drew) hid)) ?_
      refine HW.val rfl rfl (EX.move rfl) ?_
      refine HW.val rfl rfl (EX.move rfl) ?_
      refine HW.val rfl rfl (by first | exact EX.indexAddrS0 Tryz.underlying151 ti3 rfl rfl (by omega) | exact EX.indexAddrS1 Tryz.underlying151 ti3 rfl rfl (by omega)) ?_
      refine HW.val rfl rfl (EX.load Tryz.underlying3 rfl rfl (bk_int (hbr.drew) hir)) ?_
      refine HW.val rfl rfl (by first | exact EX.addN (m := 9223372036854775807) rfl rfl rfl (by omega) | exact EX.addZ (m := 9223372036854775807) rfl rfl rfl rfl (by omega)) ?_
      refine HW.val rfl rfl (by first | exact EX.remN (b := 2) rfl rfl (by omega) | exact EX.remZ rfl rfl (by decide)) ?_
      refine HW.val rfl rfl (by first | exact EX.indexAddrS0 Tryz.underlying151 ti3 rfl rfl (by omega) | exact EX.indexAddrS1 Tryz.underlying151 ti3 rfl rfl (by omega)) ?_
      refine HW.tail ?_
      refine OW.eff rfl (EU.storeBk ti3 rfl rfl rfl (hbv.drew) (by simp [ints_length]; omega)) ?_
      refine OW.nil ?_
      refine KW.leave (KW.region ?_)
      refine OW.val rfl rfl (EX.move rfl) ?_
      refine OW.val rfl rfl (by first | exact EX.addN (b := 1) (m := 9223372036854775807) rfl rfl rfl (by omega) | exact EX.addZ (m := 9223372036854775807) rfl rfl rfl rfl (by omega)) ?_
      refine OW.val rfl rfl (EX.assign rfl) ?_
      refine OW.nil ?_
      refine KW.back3 (i + 1) (d.set i ((d[i] + (bitsN 32 r)[i]) % 2)) (_) ⟨rfl, rfl, rfl, trivial⟩ rfl ?_ (by omega)
      refine ⟨by omega, by simpa using hdl, fun j => ?_, bk_set hbv.drew hid _, hbr.drew.far (p := ⟨gv, i, none⟩) hne _, (Below.drew hx).setCell (p := ⟨gv, i, none⟩) hgB _⟩
      rcases Nat.decEq j i with hj | hj
      · rw [List.getElem?_set_ne (by omega), hd j]
        congr 1
        funext x
        by_cases hc : j < i
        · rw [if_pos (by omega), if_pos (by omega)]
        · rw [if_neg (by omega), if_neg (by omega)]
      · subst hj
        rw [List.getElem?_set_self (by omega), List.getElem?_eq_getElem (by omega)]
        simp only [Option.map_some]
        rw [if_pos (by omega), hdi]
        simp [List.getD, List.getElem?_eq_getElem hir]
    · refine KW.exit rfl (KW.seq (KW.region ?_))
      refine OW.val rfl rfl (EX.move rfl) ?_
      obtain rfl : i = 32 := by omega
      have hadd : d = addP q (bitsN 32 r) := by
        have := addP_part (d := q) (e := d) (p := bitsN 32 r) (i := 0) (by rw [bitsN_length]; exact hd)
        simpa using this
      have hd1 : ∀ x ∈ d, x ≤ 1 := by rw [hadd]; exact addP_le _ _ hq1
      have hsl : Sl wr wr.heap.size (some ⟨gv, 0, none⟩) (ints .i64 d) := by
        have := (Sl.of_bk (B := wr.heap.size) hbv hbv.lt).pre (ints .i64 d).length
        rwa [List.take_left] at this
      have hrc := rest_s d (some ⟨gv, 0, none⟩) capv hd1 (by omega) (by omega) wr _ hsl
      rw [show d.length = 8 * s.length + 32 by omega] at hrc
      refine OW.call rfl rfl rfl (hrc) ?_
      rintro _ w4 ⟨A', c', rfl, hs4, hx4⟩
      have hl4 := restN_length d (by omega)
      have hnc := number_s (restN d) A' c' (restN_le d hd1) (by omega) w4 _ hs4
      rw [hl4] at hnc
      have hlt := numN_lt (restN d) (restN_le d hd1)
      rw [hl4, show 2 ^ 32 = 4294967296 by decide] at hlt
      refine OW.call rfl rfl rfl (hnc) ?_
      rintro _ _ ⟨rfl, rfl⟩
      refine OW.val rfl rfl (by first | exact EX.convN (m := 4294967295) Tryz.underlying122 Tryz.underlying68 rfl rfl (by omega) | exact EX.convW (m := 4294967296) Tryz.underlying122 Tryz.underlying68 rfl rfl (by decide) | exact EX.convZ Tryz.underlying122 Tryz.underlying68 rfl) ?_
      refine OW.val rfl rfl (EX.assign rfl) ?_
      refine OW.nil ?_
      refine KW.ret (ret1 rfl rfl ?_)
      refine ⟨?_, hx.trans hx4⟩
      rw [rmore, hq, ← hadd]
end Go.Proofs.YthgfdpcpbghkpaaGreatDoor
