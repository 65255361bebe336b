/-
  What the statements rest on, part 1 of 4: many small texts, one behind the other.
-/
import Derived.WalkKit
import Derived.WalkSpells
import Derived.WalkLawsBesides
import Derived.Lib.Hide
import Derived.Deep.Draws
import Derived.Deep.Quiet
import Derived.StillTail
import Derived.Deep.AppendSrc
import Derived.Lib.SlBytesConst
import Derived.Lib.AppendZerosOnto
import Derived.Lib.Join
import Derived.Test.YtlpnoogcdnfllaaGreatDoorRows
import Derived.RangeFuncFrom
import Derived.RangeFuncLeaves
import Derived.RangeFuncCalls
import Derived.RangeFuncBound
import Derived.Shelf.Strings.Builder1
import Derived.Shelf.Strings.Builder2
import Derived.Shelf.Strings.OnBuilder
import Derived.Shelf.Small.Bits
import Derived.Shelf.Small.Strs
import Derived.Shelf.Strings.BuilderF
import Derived.Shelf.Utf8.RuneCount
import Derived.Shelf.Strings.Builder2Cap
import Derived.Shelf.Strconv.Itoa0
import Derived.Shelf.Strings.Search1
import Derived.Shelf.Strings.Search2
import Derived.Shelf.Strings.Search3
import Derived.Shelf.Strings.Count
import Derived.Shelf.LaysM
import Derived.Shelf.Strings.Shaped
import Derived.Shelf.Strings.Prefix
import Derived.Shelf.Strings.Split
import Derived.Shelf.Strings.SplitShaped
import Derived.Shelf.Unicode.Decode
import Derived.Shelf.Strings.RuneCount
import Derived.Shelf.Strings.Explode
import Derived.Shelf.Bits.Mul64
import Derived.Shelf.Strings.Repeat
import Derived.Shelf.Unicode.DecodeSlow
import Derived.Shelf.Unicode.DecodeAny
import Derived.Test.YtlpnoogcdnfllaaGreatDoorProg
set_option linter.unusedSimpArgs false
set_option linter.unusedVariables false
set_option linter.unnecessarySimpa false
namespace Go.Proofs.YtlpnoogcdnfllaaGreatDoor
def trn : Nat → Nat → Nat → Nat
  | 0, _, out => out
  | n + 1, v, out => trn n (v / 2) ((out * 2) % 4294967296 ||| v % 2)
def cstep (r : Nat) : Nat := if r &&& 2147483648 ≠ 0 then (r * 2 % 4294967296) ^^^ 79764919 else r * 2 % 4294967296
def citer : Nat → Nat → Nat
  | 0, r => r
  | k + 1, r => cstep (citer k r)
theorem citer_succ (k r : Nat) : citer (k + 1) r = cstep (citer k r) := rfl
def ctab (i : Nat) : Nat := citer 8 (i * 16777216)
def cnext (r b : Nat) : Nat := (r * 256 % 4294967296) ^^^ ctab ((r / 16777216) ^^^ b)
def cieeeR (s : List UInt8) : Nat := s.foldl (fun r c => cnext r (trn 8 c.toNat 0)) 4294967295
def cieee (s : List UInt8) : Nat := trn 32 (4294967295 - cieeeR s) 0
theorem take_snoc {α : Type} (l : List α) (k : Nat) (h : k < l.length) : l.take (k + 1) = l.take k ++ [l[k]] := by
  rw [List.take_add_one]; simp [h]
theorem cstep_lt (r : Nat) : cstep r < 4294967296 := by
  unfold cstep
  split
  · exact Nat.xor_lt_two_pow (n := 32) (by omega) (by omega)
  · omega
theorem ctab_lt (i : Nat) : ctab i < 4294967296 := cstep_lt _
theorem cnext_lt (r b : Nat) : cnext r b < 4294967296 := Nat.xor_lt_two_pow (n := 32) (by omega) (ctab_lt _)
theorem trn_lt : ∀ n v o, o < 4294967296 → trn n v o < 4294967296
  | 0, _, _, h => h
  | n + 1, v, o, h => by
    unfold trn
    exact trn_lt n _ _ (Nat.or_lt_two_pow (n := 32) (by omega) (by omega))
theorem trn_small : ∀ n v o j, o < 2 ^ j → j + n ≤ 32 → trn n v o < 2 ^ (j + n)
  | 0, _, _, _, h, _ => h
  | n + 1, v, o, j, h, hj => by
    unfold trn
    have hp : 2 ^ (j + 1) ≤ 2 ^ 32 := Nat.pow_le_pow_right (by decide) (by omega)
    have h2 : 2 ^ (j + 1) = 2 * 2 ^ j := by rw [Nat.pow_succ, Nat.mul_comm]
    have hm : o * 2 % 4294967296 < 2 ^ (j + 1) := by
      have := Nat.mod_le (o * 2) 4294967296
      omega
    have h1 : 1 ≤ 2 ^ j := Nat.one_le_two_pow
    have := trn_small n (v / 2) (o * 2 % 4294967296 ||| v % 2) (j + 1) (Nat.or_lt_two_pow hm (by omega)) (by omega)
    rwa [show j + 1 + n = j + (n + 1) by omega] at this
theorem trn8_lt (v : Nat) : trn 8 v 0 < 256 := trn_small 8 v 0 0 (by decide) (by decide)
theorem cieeeR_snoc (s : List UInt8) (c : UInt8) : cieeeR (s ++ [c]) = cnext (cieeeR s) (trn 8 c.toNat 0) := by simp [cieeeR]
end Go.Proofs.YtlpnoogcdnfllaaGreatDoor
namespace Go.Proofs.YtlpnoogcdnfllaaGreatDoor
open Go.RowKit
abbrev Sig := List (Nat × Value)
def lk : Sig → Nat → Option Value
  | [], _ => none
  | (i, v) :: r, t => match Nat.beq i t with | true => some v | false => lk r t
def ev (σ : Sig) : Operand → Option Value
  | .tmp t => lk σ t
  | .const v => some v
  | .global g => some (.pointer (some ⟨g, 0, none⟩))
  | .func f => some (.func (.func f) #[] #[])
def evs (σ : Sig) : List Operand → Option (List Value)
  | [] => some []
  | x :: r => match ev σ x with
    | some v => match evs σ r with
      | some vs => some (v :: vs)
      | none => none
    | none => none
structure Fr (n : Nat) (σ : Sig) (a : Act) : Prop where
  size : a.tmps.size = n
  val : ∀ t v, lk σ t = some v → a.tmps[t]? = some v
  df : a.defers = []
theorem Fr.ev {n : Nat} {σ : Sig} {a : Act} (h : Fr n σ a) {x : Operand} {v : Value} (hx : ev σ x = some v) : a.eval x = v := by
  cases x with
  | tmp t =>
    have := h.val t v hx
    simp [Act.eval, this]
  | const u => simpa [Go.Proofs.YtlpnoogcdnfllaaGreatDoor.ev, Act.eval] using hx
  | global g => simpa [Go.Proofs.YtlpnoogcdnfllaaGreatDoor.ev, Act.eval] using hx
  | func f => simpa [Go.Proofs.YtlpnoogcdnfllaaGreatDoor.ev, Act.eval] using hx
theorem Fr.evs {n : Nat} {σ : Sig} {a : Act} (h : Fr n σ a) : ∀ {xs : List Operand} {vs : List Value}, evs σ xs = some vs → xs.map a.eval = vs
  | [], vs, hx => by simpa [Go.Proofs.YtlpnoogcdnfllaaGreatDoor.evs] using hx
  | x :: xs, vs, hx => by
    unfold Go.Proofs.YtlpnoogcdnfllaaGreatDoor.evs at hx
    split at hx
    · rename_i v hv
      split at hx
      · rename_i us hus
        injection hx with hx
        subst hx
        simp [h.ev hv, h.evs hus]
      · cases hx
    · cases hx
theorem lk_cons_same (σ : Sig) (d : Nat) (v : Value) : lk ((d, v) :: σ) d = some v := by simp [lk]
theorem lk_cons (σ : Sig) (d t : Nat) (v : Value) : lk ((d, v) :: σ) t = if d = t then some v else lk σ t := by
  by_cases h : d = t
  · subst h; simp [lk_cons_same]
  · have : Nat.beq d t = false := by
      cases hb : Nat.beq d t with
      | false => rfl
      | true => exact absurd (Nat.eq_of_beq_eq_true hb) h
    simp [lk, this, h]
theorem Fr.put {n : Nat} {σ : Sig} {a : Act} (h : Fr n σ a) {d : Nat} (hd : Nat.blt d n = true) (v : Value) : Fr n ((d, v) :: σ) (a.put (some d) v) := by
  have hd' : d < n := by simpa [Nat.blt_eq] using hd
  refine ⟨by simpa [Act.put] using h.size, fun t u ht => ?_, h.df⟩
  rw [lk_cons] at ht
  by_cases e : d = t
  · subst e
    simp at ht
    subst ht
    simp [Act.put, h.size, hd']
  · simp [e] at ht
    simp only [Act.put]
    rw [Array.getElem?_setIfInBounds_ne e]
    exact h.val t u ht
def Subs : Sig → Sig → Prop
  | [], _ => True
  | (t, v) :: r, σ => lk σ t = some v ∧ Subs r σ
theorem Subs.lk {σ : Sig} : ∀ {σ' : Sig}, Subs σ' σ → ∀ {t : Nat} {v : Value}, lk σ' t = some v → lk σ t = some v
  | [], _, _, _, h => by simp [Go.Proofs.YtlpnoogcdnfllaaGreatDoor.lk] at h
  | (i, u) :: r, hs, t, v, h => by
    rw [lk_cons] at h
    by_cases e : i = t
    · subst e
      simp at h
      subst h
      exact hs.1
    · simp [e] at h
      exact hs.2.lk h
theorem Fr.sub {n : Nat} {σ σ' : Sig} {a : Act} (h : Fr n σ a) (hs : Subs σ' σ) : Fr n σ' a := ⟨h.size, fun t v ht => h.val t v (hs.lk ht), h.df⟩
inductive KI where
  | code (c : Code)
  | blk (id : Nat)
  | asr (I : Act → World → Prop)
def pst (P : Program) (R : Act → World → Prop) : List KI → Exit → Act → World → Prop
  | [], .normal => R
  | [], .ret => R
  | [], _ => fun _ _ => False
  | .code c :: k, e => match e with | .normal => fun a w => c.wp P (pst P R k) a w | e => pst P R k e
  | .blk id :: k, e => match e with | .exit i => fun a w => if i = id then pst P R k .normal a w else pst P R k (.exit i) a w | e => pst P R k e
  | .asr I :: k, e => match e with | .normal => I | e => pst P R k e
def popTo (id : Nat) : List KI → Option (List KI)
  | [] => none
  | .blk i :: k => match Nat.beq id i with | true => some k | false => popTo id k
  | .code _ :: k => popTo id k
  | .asr _ :: k => popTo id k
def KW (P : Program) (R : Act → World → Prop) (k : List KI) (n : Nat) (σ : Sig) (w : World) : Prop := ∀ a, Fr n σ a → pst P R k .normal a w
section
variable {P : Program} {R : Act → World → Prop} {k : List KI} {n : Nat} {σ : Sig} {w : World}
theorem pst_then (c : Code) (k : List KI) : pst P R (.code c :: k) = Exit.then (fun a w => c.wp P (pst P R k) a w) (pst P R k) := by
  funext e a w
  cases e <;> simp [pst, Exit.then]
theorem pst_blk (id : Nat) (k : List KI) : pst P R (.blk id :: k) = Exit.inBlock id (pst P R k) := by
  funext e a w
  cases e <;> simp [pst, Exit.inBlock]
theorem pst_exit {id : Nat} : ∀ {k k' : List KI}, popTo id k = some k' → ∀ a w, pst P R k (.exit id) a w = pst P R k' .normal a w
  | [], _, h, _, _ => by simp [popTo] at h
  | .code c :: k, k', h, a, w => by simp only [popTo] at h; simp only [pst]; exact pst_exit h a w
  | .asr I :: k, k', h, a, w => by simp only [popTo] at h; simp only [pst]; exact pst_exit h a w
  | .blk i :: k, k', h, a, w => by
    simp only [popTo] at h
    simp only [pst]
    by_cases e : id = i
    · subst e
      have : Nat.beq id id = true := by simp
      rw [this] at h
      injection h with h
      subst h
      simp
    · have : Nat.beq id i = false := by
        cases hb : Nat.beq id i with
        | false => rfl
        | true => exact absurd (Nat.eq_of_beq_eq_true hb) e
      rw [this] at h
      rw [if_neg e]
      exact pst_exit h a w
theorem pst_ret : ∀ (k : List KI) (a : Act) (w : World), pst P R k .ret a w = R a w
  | [], _, _ => rfl
  | .code _ :: k, a, w => pst_ret k a w
  | .blk _ :: k, a, w => pst_ret k a w
  | .asr _ :: k, a, w => pst_ret k a w
theorem KW.seq {x y : Code} (h : KW P R (.code x :: .code y :: k) n σ w) : KW P R (.code (.seq x y) :: k) n σ w := fun a ha => by
  have := h a ha
  simp only [pst] at this ⊢
  refine wp_seq ?_
  rw [← pst_then]
  exact this
theorem KW.block {id : Nat} {c : Code} (h : KW P R (.code c :: .blk id :: k) n σ w) : KW P R (.code (.block id c) :: k) n σ w := fun a ha => by
  have := h a ha
  simp only [pst] at this ⊢
  refine wp_block ?_
  rw [← pst_blk]
  exact this
theorem KW.leave {id : Nat} (h : KW P R k n σ w) : KW P R (.blk id :: k) n σ w := fun a ha => h a ha
theorem KW.skip (h : KW P R k n σ w) : KW P R (.code .skip :: k) n σ w := fun a ha => wp_skip (h a ha)
theorem KW.label {l : Nat} (h : KW P R k n σ w) : KW P R (.code (.label l) :: k) n σ w := fun a ha => wp_label (h a ha)
theorem KW.exit {id : Nat} {k' : List KI} (hk : popTo id k = some k') (h : KW P R k' n σ w) : KW P R (.code (.exit id) :: k) n σ w := fun a ha =>
  wp_exit (by rw [pst_exit hk]; exact h a ha)
theorem KW.ret (h : ∀ a, Fr n σ a → R a w) : KW P R (.code .ret :: k) n σ w := fun a ha => wp_ret (by rw [pst_ret]; exact h a ha)
theorem KW.done (h : ∀ a, Fr n σ a → R a w) : KW P R [] n σ w := h
theorem KW.sub {σ' : Sig} (hs : Subs σ' σ) (h : KW P R k n σ' w) : KW P R k n σ w := fun a ha => h a (ha.sub hs)
theorem KW.cond {c : Operand} {x y : Code} {b : Bool} (hc : ev σ c = some (.bool b)) (ht : b = true → KW P R (.code x :: k) n σ w) (hf : b = false → KW P R (.code y :: k) n σ w) :
    KW P R (.code (.cond c x y) :: k) n σ w := fun a ha =>
  wp_cond_split (ha.ev hc) (fun e => ht e a ha) (fun e => hf e a ha)
theorem KW.condD {c : Operand} {x y : Code} {p : Prop} [Decidable p] (hc : ev σ c = some (.bool (decide p))) (ht : p → KW P R (.code x :: k) n σ w) (hf : ¬ p → KW P R (.code y :: k) n σ w) :
    KW P R (.code (.cond c x y) :: k) n σ w :=
  KW.cond hc (fun e => ht (of_decide_eq_true e)) (fun e => hf (of_decide_eq_false e))
theorem KW.condT {c : Operand} {x y : Code} (hc : ev σ c = some (.bool true)) (h : KW P R (.code x :: k) n σ w) : KW P R (.code (.cond c x y) :: k) n σ w :=
  KW.cond hc (fun _ => h) (fun e => by cases e)
theorem KW.condF {c : Operand} {x y : Code} (hc : ev σ c = some (.bool false)) (h : KW P R (.code y :: k) n σ w) : KW P R (.code (.cond c x y) :: k) n σ w :=
  KW.cond hc (fun e => by cases e) (fun _ => h)
def Met {ι : Type} (n : Nat) (I : ι → Prop) (S : ι → Sig) (W : ι → World) (a : Act) (w : World) : Prop := ∃ i, I i ∧ Fr n (S i) a ∧ w = W i
theorem KW.cut {ι : Type} (I : ι → Prop) (S : ι → Sig) (W : ι → World) {c : Code} (h : KW P R (.code c :: .asr (Met n I S W) :: k) n σ w) (h2 : ∀ i, I i → KW P R k n (S i) (W i)) :
    KW P R (.code c :: k) n σ w := fun a ha => by
  have h1 := h a ha
  simp only [pst] at h1 ⊢
  refine Code.wp_mono (fun e a' w' q => ?_) h1
  cases e with
  | normal => obtain ⟨i, hi, hf, rfl⟩ := q; exact h2 i hi a' hf
  | _ => exact q
theorem KW.meet {ι : Type} {I : ι → Prop} {S : ι → Sig} {W : ι → World} (i : ι) (hs : Subs (S i) σ) (hw : w = W i) (hi : I i) : KW P R (.asr (Met n I S W) :: k) n σ w :=
  fun _ ha => ⟨i, hi, ha.sub hs, hw⟩
def Back {ι : Type} (n : Nat) (I : ι → Prop) (S : ι → Sig) (W : ι → World) (μ : ι → Nat) (i : ι) (a : Act) (w : World) : Prop := ∃ j, I j ∧ μ j < μ i ∧ Fr n (S j) a ∧ w = W j
theorem KW.back {ι : Type} {I : ι → Prop} {S : ι → Sig} {W : ι → World} {μ : ι → Nat} {i : ι} (j : ι) (hs : Subs (S j) σ) (hw : w = W j) (hi : I j) (hm : μ j < μ i) :
    KW P R (.asr (Back n I S W μ i) :: k) n σ w := fun _ ha => ⟨j, hi, hm, ha.sub hs, hw⟩
theorem least_nat (M : Nat → Prop) : ∀ m, M m → ∃ m, M m ∧ ∀ m', M m' → m ≤ m' := by
  intro m
  induction m using Nat.strongRecOn with
  | _ m ih =>
    intro hm
    by_cases h : ∃ m', M m' ∧ m' < m
    · obtain ⟨m', h1, h2⟩ := h
      exact ih m' h2 h1
    · exact ⟨m, hm, fun m' h' => by
        rcases Nat.lt_or_ge m' m with hlt | hge
        · exact absurd ⟨m', h', hlt⟩ h
        · exact hge⟩
theorem KW.loop {ι : Type} (I : ι → Prop) (S : ι → Sig) (W : ι → World) (μ : ι → Nat) {c : Code} (i : ι) (hs : Subs (S i) σ) (hw : w = W i) (hi : I i)
    (round : ∀ i, I i → KW P R (.code c :: .asr (Back n I S W μ i) :: k) n (S i) (W i)) : KW P R (.code (.loop c) :: k) n σ w := fun a ha => by
  let M (a : Act) (w : World) (m : Nat) : Prop := ∃ i, I i ∧ Fr n (S i) a ∧ w = W i ∧ μ i = m
  have hex : ∀ a w, (∃ m, M a w m) → ∃ m, M a w m ∧ ∀ m', M a w m' → m ≤ m' := fun a w ⟨m, hm⟩ => least_nat _ m hm
  let ν (a : Act) (w : World) : Nat := Classical.epsilon fun m => M a w m ∧ ∀ m', M a w m' → m ≤ m'
  have hν : ∀ a w, (∃ m, M a w m) → M a w (ν a w) ∧ ∀ m', M a w m' → ν a w ≤ m' := fun a w h => Classical.epsilon_spec (hex a w h)
  simp only [pst]
  refine wp_loop (fun a w => ∃ m, M a w m) ν ⟨μ i, i, hi, ha.sub hs, hw, rfl⟩ fun a' w' hm => ?_
  obtain ⟨⟨j, hj, hf, hw', hmu⟩, _⟩ := hν a' w' hm
  have h := round j hj a' hf
  simp only [pst] at h
  subst hw'
  refine Code.wp_mono (fun e a'' w'' q => ?_) h
  cases e with
  | normal =>
    obtain ⟨j', h1, h2, h3, h4⟩ := q
    refine ⟨⟨μ j', j', h1, h3, h4, rfl⟩, ?_⟩
    have := (hν a'' w'' ⟨μ j', j', h1, h3, h4, rfl⟩).2 (μ j') ⟨j', h1, h3, h4, rfl⟩
    omega
  | _ => exact q
end
section
variable {P : Program} {R : Act → World → Prop} {k : List KI} {n : Nat} {σ : Sig} {w : World}
def Back1 {α : Type} (n : Nat) (I : α → Prop) (S : α → Sig) (W : α → World) (μ : α → Nat) (x0 : α) : Act → World → Prop :=
  Back n (fun p : α => I p) (fun p => S p) (fun p => W p) (fun p => μ p) x0
def Met1 {α : Type} (n : Nat) (I : α → Prop) (S : α → Sig) (W : α → World) : Act → World → Prop :=
  Met n (fun p : α => I p) (fun p => S p) (fun p => W p)
theorem KW.loop1 {α : Type} (I : α → Prop) (S : α → Sig) (W : α → World) (μ : α → Nat) {c : Code} (x0 : α) (hs : Subs (S x0) σ) (hw : w = W x0) (hi : I x0)
    (round : ∀ x0, I x0 → KW P R (.code c :: .asr (Back1 n I S W μ x0) :: k) n (S x0) (W x0)) : KW P R (.code (.loop c) :: k) n σ w :=
  KW.loop (fun p : α => I p) (fun p => S p) (fun p => W p) (fun p => μ p) x0 hs hw hi fun p hp => round p hp
theorem KW.back1 {α : Type} {I : α → Prop} {S : α → Sig} {W : α → World} {μ : α → Nat} {y0 : α} (x0 : α) (hs : Subs (S x0) σ) (hw : w = W x0) (hi : I x0) (hm : μ x0 < μ y0) :
    KW P R (.asr (Back1 n I S W μ y0) :: k) n σ w :=
  KW.back (I := fun p : α => I p) (S := fun p => S p) (W := fun p => W p) (μ := fun p => μ p) x0 hs hw hi hm
theorem KW.cut1 {α : Type} (I : α → Prop) (S : α → Sig) (W : α → World) {c : Code} (h : KW P R (.code c :: .asr (Met1 n I S W) :: k) n σ w)
    (h2 : ∀ x0, I x0 → KW P R k n (S x0) (W x0)) : KW P R (.code c :: k) n σ w :=
  KW.cut (fun p : α => I p) (fun p => S p) (fun p => W p) h fun p hp => h2 p hp
theorem KW.meet1 {α : Type} {I : α → Prop} {S : α → Sig} {W : α → World} (x0 : α) (hs : Subs (S x0) σ) (hw : w = W x0) (hi : I x0) :
    KW P R (.asr (Met1 n I S W) :: k) n σ w :=
  KW.meet (I := fun p : α => I p) (S := fun p => S p) (W := fun p => W p) x0 hs hw hi
def Back2 {α β : Type} (n : Nat) (I : α → β → Prop) (S : α → β → Sig) (W : α → β → World) (μ : α → β → Nat) (x0 : α) (x1 : β) : Act → World → Prop :=
  Back n (fun p : α × β => I p.1 p.2) (fun p => S p.1 p.2) (fun p => W p.1 p.2) (fun p => μ p.1 p.2) (x0, x1)
def Met2 {α β : Type} (n : Nat) (I : α → β → Prop) (S : α → β → Sig) (W : α → β → World) : Act → World → Prop :=
  Met n (fun p : α × β => I p.1 p.2) (fun p => S p.1 p.2) (fun p => W p.1 p.2)
theorem KW.loop2 {α β : Type} (I : α → β → Prop) (S : α → β → Sig) (W : α → β → World) (μ : α → β → Nat) {c : Code} (x0 : α) (x1 : β) (hs : Subs (S x0 x1) σ) (hw : w = W x0 x1) (hi : I x0 x1)
    (round : ∀ x0 x1, I x0 x1 → KW P R (.code c :: .asr (Back2 n I S W μ x0 x1) :: k) n (S x0 x1) (W x0 x1)) : KW P R (.code (.loop c) :: k) n σ w :=
  KW.loop (fun p : α × β => I p.1 p.2) (fun p => S p.1 p.2) (fun p => W p.1 p.2) (fun p => μ p.1 p.2) (x0, x1) hs hw hi fun p hp => round p.1 p.2 hp
theorem KW.back2 {α β : Type} {I : α → β → Prop} {S : α → β → Sig} {W : α → β → World} {μ : α → β → Nat} {y0 : α} {y1 : β} (x0 : α) (x1 : β) (hs : Subs (S x0 x1) σ) (hw : w = W x0 x1) (hi : I x0 x1) (hm : μ x0 x1 < μ y0 y1) :
    KW P R (.asr (Back2 n I S W μ y0 y1) :: k) n σ w :=
  KW.back (I := fun p : α × β => I p.1 p.2) (S := fun p => S p.1 p.2) (W := fun p => W p.1 p.2) (μ := fun p => μ p.1 p.2) (x0, x1) hs hw hi hm
theorem KW.cut2 {α β : Type} (I : α → β → Prop) (S : α → β → Sig) (W : α → β → World) {c : Code} (h : KW P R (.code c :: .asr (Met2 n I S W) :: k) n σ w)
    (h2 : ∀ x0 x1, I x0 x1 → KW P R k n (S x0 x1) (W x0 x1)) : KW P R (.code c :: k) n σ w :=
  KW.cut (fun p : α × β => I p.1 p.2) (fun p => S p.1 p.2) (fun p => W p.1 p.2) h fun p hp => h2 p.1 p.2 hp
theorem KW.meet2 {α β : Type} {I : α → β → Prop} {S : α → β → Sig} {W : α → β → World} (x0 : α) (x1 : β) (hs : Subs (S x0 x1) σ) (hw : w = W x0 x1) (hi : I x0 x1) :
    KW P R (.asr (Met2 n I S W) :: k) n σ w :=
  KW.meet (I := fun p : α × β => I p.1 p.2) (S := fun p => S p.1 p.2) (W := fun p => W p.1 p.2) (x0, x1) hs hw hi
def Back3 {α β γ : Type} (n : Nat) (I : α → β → γ → Prop) (S : α → β → γ → Sig) (W : α → β → γ → World) (μ : α → β → γ → Nat) (x0 : α) (x1 : β) (x2 : γ) : Act → World → Prop :=
  Back n (fun p : α × β × γ => I p.1 p.2.1 p.2.2) (fun p => S p.1 p.2.1 p.2.2) (fun p => W p.1 p.2.1 p.2.2) (fun p => μ p.1 p.2.1 p.2.2) (x0, x1, x2)
def Met3 {α β γ : Type} (n : Nat) (I : α → β → γ → Prop) (S : α → β → γ → Sig) (W : α → β → γ → World) : Act → World → Prop :=
  Met n (fun p : α × β × γ => I p.1 p.2.1 p.2.2) (fun p => S p.1 p.2.1 p.2.2) (fun p => W p.1 p.2.1 p.2.2)
theorem KW.loop3 {α β γ : Type} (I : α → β → γ → Prop) (S : α → β → γ → Sig) (W : α → β → γ → World) (μ : α → β → γ → Nat) {c : Code} (x0 : α) (x1 : β) (x2 : γ) (hs : Subs (S x0 x1 x2) σ) (hw : w = W x0 x1 x2) (hi : I x0 x1 x2)
    (round : ∀ x0 x1 x2, I x0 x1 x2 → KW P R (.code c :: .asr (Back3 n I S W μ x0 x1 x2) :: k) n (S x0 x1 x2) (W x0 x1 x2)) : KW P R (.code (.loop c) :: k) n σ w :=
  KW.loop (fun p : α × β × γ => I p.1 p.2.1 p.2.2) (fun p => S p.1 p.2.1 p.2.2) (fun p => W p.1 p.2.1 p.2.2) (fun p => μ p.1 p.2.1 p.2.2) (x0, x1, x2) hs hw hi fun p hp => round p.1 p.2.1 p.2.2 hp
theorem KW.back3 {α β γ : Type} {I : α → β → γ → Prop} {S : α → β → γ → Sig} {W : α → β → γ → World} {μ : α → β → γ → Nat} {y0 : α} {y1 : β} {y2 : γ} (x0 : α) (x1 : β) (x2 : γ) (hs : Subs (S x0 x1 x2) σ) (hw : w = W x0 x1 x2) (hi : I x0 x1 x2) (hm : μ x0 x1 x2 < μ y0 y1 y2) :
    KW P R (.asr (Back3 n I S W μ y0 y1 y2) :: k) n σ w :=
  KW.back (I := fun p : α × β × γ => I p.1 p.2.1 p.2.2) (S := fun p => S p.1 p.2.1 p.2.2) (W := fun p => W p.1 p.2.1 p.2.2) (μ := fun p => μ p.1 p.2.1 p.2.2) (x0, x1, x2) hs hw hi hm
theorem KW.cut3 {α β γ : Type} (I : α → β → γ → Prop) (S : α → β → γ → Sig) (W : α → β → γ → World) {c : Code} (h : KW P R (.code c :: .asr (Met3 n I S W) :: k) n σ w)
    (h2 : ∀ x0 x1 x2, I x0 x1 x2 → KW P R k n (S x0 x1 x2) (W x0 x1 x2)) : KW P R (.code c :: k) n σ w :=
  KW.cut (fun p : α × β × γ => I p.1 p.2.1 p.2.2) (fun p => S p.1 p.2.1 p.2.2) (fun p => W p.1 p.2.1 p.2.2) h fun p hp => h2 p.1 p.2.1 p.2.2 hp
theorem KW.meet3 {α β γ : Type} {I : α → β → γ → Prop} {S : α → β → γ → Sig} {W : α → β → γ → World} (x0 : α) (x1 : β) (x2 : γ) (hs : Subs (S x0 x1 x2) σ) (hw : w = W x0 x1 x2) (hi : I x0 x1 x2) :
    KW P R (.asr (Met3 n I S W) :: k) n σ w :=
  KW.meet (I := fun p : α × β × γ => I p.1 p.2.1 p.2.2) (S := fun p => S p.1 p.2.1 p.2.2) (W := fun p => W p.1 p.2.1 p.2.2) (x0, x1, x2) hs hw hi
def Back4 {α β γ δ : Type} (n : Nat) (I : α → β → γ → δ → Prop) (S : α → β → γ → δ → Sig) (W : α → β → γ → δ → World) (μ : α → β → γ → δ → Nat) (x0 : α) (x1 : β) (x2 : γ) (x3 : δ) : Act → World → Prop :=
  Back n (fun p : α × β × γ × δ => I p.1 p.2.1 p.2.2.1 p.2.2.2) (fun p => S p.1 p.2.1 p.2.2.1 p.2.2.2) (fun p => W p.1 p.2.1 p.2.2.1 p.2.2.2) (fun p => μ p.1 p.2.1 p.2.2.1 p.2.2.2) (x0, x1, x2, x3)
theorem KW.loop4 {α β γ δ : Type} (I : α → β → γ → δ → Prop) (S : α → β → γ → δ → Sig) (W : α → β → γ → δ → World) (μ : α → β → γ → δ → Nat) {c : Code} (x0 : α) (x1 : β) (x2 : γ) (x3 : δ) (hs : Subs (S x0 x1 x2 x3) σ) (hw : w = W x0 x1 x2 x3) (hi : I x0 x1 x2 x3)
    (round : ∀ x0 x1 x2 x3, I x0 x1 x2 x3 → KW P R (.code c :: .asr (Back4 n I S W μ x0 x1 x2 x3) :: k) n (S x0 x1 x2 x3) (W x0 x1 x2 x3)) : KW P R (.code (.loop c) :: k) n σ w :=
  KW.loop (fun p : α × β × γ × δ => I p.1 p.2.1 p.2.2.1 p.2.2.2) (fun p => S p.1 p.2.1 p.2.2.1 p.2.2.2) (fun p => W p.1 p.2.1 p.2.2.1 p.2.2.2) (fun p => μ p.1 p.2.1 p.2.2.1 p.2.2.2) (x0, x1, x2, x3) hs hw hi fun p hp => round p.1 p.2.1 p.2.2.1 p.2.2.2 hp
theorem KW.back4 {α β γ δ : Type} {I : α → β → γ → δ → Prop} {S : α → β → γ → δ → Sig} {W : α → β → γ → δ → World} {μ : α → β → γ → δ → Nat} {y0 : α} {y1 : β} {y2 : γ} {y3 : δ} (x0 : α) (x1 : β) (x2 : γ) (x3 : δ) (hs : Subs (S x0 x1 x2 x3) σ) (hw : w = W x0 x1 x2 x3) (hi : I x0 x1 x2 x3) (hm : μ x0 x1 x2 x3 < μ y0 y1 y2 y3) :
    KW P R (.asr (Back4 n I S W μ y0 y1 y2 y3) :: k) n σ w :=
  KW.back (I := fun p : α × β × γ × δ => I p.1 p.2.1 p.2.2.1 p.2.2.2) (S := fun p => S p.1 p.2.1 p.2.2.1 p.2.2.2) (W := fun p => W p.1 p.2.1 p.2.2.1 p.2.2.2) (μ := fun p => μ p.1 p.2.1 p.2.2.1 p.2.2.2) (x0, x1, x2, x3) hs hw hi hm
def Back5 {α β γ δ ε : Type} (n : Nat) (I : α → β → γ → δ → ε → Prop) (S : α → β → γ → δ → ε → Sig) (W : α → β → γ → δ → ε → World) (μ : α → β → γ → δ → ε → Nat) (x0 : α) (x1 : β) (x2 : γ) (x3 : δ) (x4 : ε) : Act → World → Prop :=
  Back n (fun p : α × β × γ × δ × ε => I p.1 p.2.1 p.2.2.1 p.2.2.2.1 p.2.2.2.2) (fun p => S p.1 p.2.1 p.2.2.1 p.2.2.2.1 p.2.2.2.2) (fun p => W p.1 p.2.1 p.2.2.1 p.2.2.2.1 p.2.2.2.2) (fun p => μ p.1 p.2.1 p.2.2.1 p.2.2.2.1 p.2.2.2.2) (x0, x1, x2, x3, x4)
theorem KW.loop5 {α β γ δ ε : Type} (I : α → β → γ → δ → ε → Prop) (S : α → β → γ → δ → ε → Sig) (W : α → β → γ → δ → ε → World) (μ : α → β → γ → δ → ε → Nat) {c : Code} (x0 : α) (x1 : β) (x2 : γ) (x3 : δ) (x4 : ε) (hs : Subs (S x0 x1 x2 x3 x4) σ) (hw : w = W x0 x1 x2 x3 x4) (hi : I x0 x1 x2 x3 x4)
    (round : ∀ x0 x1 x2 x3 x4, I x0 x1 x2 x3 x4 → KW P R (.code c :: .asr (Back5 n I S W μ x0 x1 x2 x3 x4) :: k) n (S x0 x1 x2 x3 x4) (W x0 x1 x2 x3 x4)) : KW P R (.code (.loop c) :: k) n σ w :=
  KW.loop (fun p : α × β × γ × δ × ε => I p.1 p.2.1 p.2.2.1 p.2.2.2.1 p.2.2.2.2) (fun p => S p.1 p.2.1 p.2.2.1 p.2.2.2.1 p.2.2.2.2) (fun p => W p.1 p.2.1 p.2.2.1 p.2.2.2.1 p.2.2.2.2) (fun p => μ p.1 p.2.1 p.2.2.1 p.2.2.2.1 p.2.2.2.2) (x0, x1, x2, x3, x4) hs hw hi fun p hp => round p.1 p.2.1 p.2.2.1 p.2.2.2.1 p.2.2.2.2 hp
theorem KW.back5 {α β γ δ ε : Type} {I : α → β → γ → δ → ε → Prop} {S : α → β → γ → δ → ε → Sig} {W : α → β → γ → δ → ε → World} {μ : α → β → γ → δ → ε → Nat} {y0 : α} {y1 : β} {y2 : γ} {y3 : δ} {y4 : ε} (x0 : α) (x1 : β) (x2 : γ) (x3 : δ) (x4 : ε) (hs : Subs (S x0 x1 x2 x3 x4) σ) (hw : w = W x0 x1 x2 x3 x4) (hi : I x0 x1 x2 x3 x4) (hm : μ x0 x1 x2 x3 x4 < μ y0 y1 y2 y3 y4) :
    KW P R (.asr (Back5 n I S W μ y0 y1 y2 y3 y4) :: k) n σ w :=
  KW.back (I := fun p : α × β × γ × δ × ε => I p.1 p.2.1 p.2.2.1 p.2.2.2.1 p.2.2.2.2) (S := fun p => S p.1 p.2.1 p.2.2.1 p.2.2.2.1 p.2.2.2.2) (W := fun p => W p.1 p.2.1 p.2.2.1 p.2.2.2.1 p.2.2.2.2) (μ := fun p => μ p.1 p.2.1 p.2.2.1 p.2.2.2.1 p.2.2.2.2) (x0, x1, x2, x3, x4) hs hw hi hm
def Back7 {α β γ δ ε ζ η : Type} (n : Nat) (I : α → β → γ → δ → ε → ζ → η → Prop) (S : α → β → γ → δ → ε → ζ → η → Sig) (W : α → β → γ → δ → ε → ζ → η → World) (μ : α → β → γ → δ → ε → ζ → η → Nat) (x0 : α) (x1 : β) (x2 : γ) (x3 : δ) (x4 : ε) (x5 : ζ) (x6 : η) : Act → World → Prop :=
  Back n (fun p : α × β × γ × δ × ε × ζ × η => I p.1 p.2.1 p.2.2.1 p.2.2.2.1 p.2.2.2.2.1 p.2.2.2.2.2.1 p.2.2.2.2.2.2) (fun p => S p.1 p.2.1 p.2.2.1 p.2.2.2.1 p.2.2.2.2.1 p.2.2.2.2.2.1 p.2.2.2.2.2.2) (fun p => W p.1 p.2.1 p.2.2.1 p.2.2.2.1 p.2.2.2.2.1 p.2.2.2.2.2.1 p.2.2.2.2.2.2) (fun p => μ p.1 p.2.1 p.2.2.1 p.2.2.2.1 p.2.2.2.2.1 p.2.2.2.2.2.1 p.2.2.2.2.2.2) (x0, x1, x2, x3, x4, x5, x6)
theorem KW.loop7 {α β γ δ ε ζ η : Type} (I : α → β → γ → δ → ε → ζ → η → Prop) (S : α → β → γ → δ → ε → ζ → η → Sig) (W : α → β → γ → δ → ε → ζ → η → World) (μ : α → β → γ → δ → ε → ζ → η → Nat) {c : Code} (x0 : α) (x1 : β) (x2 : γ) (x3 : δ) (x4 : ε) (x5 : ζ) (x6 : η) (hs : Subs (S x0 x1 x2 x3 x4 x5 x6) σ) (hw : w = W x0 x1 x2 x3 x4 x5 x6) (hi : I x0 x1 x2 x3 x4 x5 x6)
    (round : ∀ x0 x1 x2 x3 x4 x5 x6, I x0 x1 x2 x3 x4 x5 x6 → KW P R (.code c :: .asr (Back7 n I S W μ x0 x1 x2 x3 x4 x5 x6) :: k) n (S x0 x1 x2 x3 x4 x5 x6) (W x0 x1 x2 x3 x4 x5 x6)) : KW P R (.code (.loop c) :: k) n σ w :=
  KW.loop (fun p : α × β × γ × δ × ε × ζ × η => I p.1 p.2.1 p.2.2.1 p.2.2.2.1 p.2.2.2.2.1 p.2.2.2.2.2.1 p.2.2.2.2.2.2) (fun p => S p.1 p.2.1 p.2.2.1 p.2.2.2.1 p.2.2.2.2.1 p.2.2.2.2.2.1 p.2.2.2.2.2.2) (fun p => W p.1 p.2.1 p.2.2.1 p.2.2.2.1 p.2.2.2.2.1 p.2.2.2.2.2.1 p.2.2.2.2.2.2) (fun p => μ p.1 p.2.1 p.2.2.1 p.2.2.2.1 p.2.2.2.2.1 p.2.2.2.2.2.1 p.2.2.2.2.2.2) (x0, x1, x2, x3, x4, x5, x6) hs hw hi fun p hp => round p.1 p.2.1 p.2.2.1 p.2.2.2.1 p.2.2.2.2.1 p.2.2.2.2.2.1 p.2.2.2.2.2.2 hp
theorem KW.back7 {α β γ δ ε ζ η : Type} {I : α → β → γ → δ → ε → ζ → η → Prop} {S : α → β → γ → δ → ε → ζ → η → Sig} {W : α → β → γ → δ → ε → ζ → η → World} {μ : α → β → γ → δ → ε → ζ → η → Nat} {y0 : α} {y1 : β} {y2 : γ} {y3 : δ} {y4 : ε} {y5 : ζ} {y6 : η} (x0 : α) (x1 : β) (x2 : γ) (x3 : δ) (x4 : ε) (x5 : ζ) (x6 : η) (hs : Subs (S x0 x1 x2 x3 x4 x5 x6) σ) (hw : w = W x0 x1 x2 x3 x4 x5 x6) (hi : I x0 x1 x2 x3 x4 x5 x6) (hm : μ x0 x1 x2 x3 x4 x5 x6 < μ y0 y1 y2 y3 y4 y5 y6) :
    KW P R (.asr (Back7 n I S W μ y0 y1 y2 y3 y4 y5 y6) :: k) n σ w :=
  KW.back (I := fun p : α × β × γ × δ × ε × ζ × η => I p.1 p.2.1 p.2.2.1 p.2.2.2.1 p.2.2.2.2.1 p.2.2.2.2.2.1 p.2.2.2.2.2.2) (S := fun p => S p.1 p.2.1 p.2.2.1 p.2.2.2.1 p.2.2.2.2.1 p.2.2.2.2.2.1 p.2.2.2.2.2.2) (W := fun p => W p.1 p.2.1 p.2.2.1 p.2.2.2.1 p.2.2.2.2.1 p.2.2.2.2.2.1 p.2.2.2.2.2.2) (μ := fun p => μ p.1 p.2.1 p.2.2.1 p.2.2.2.1 p.2.2.2.2.1 p.2.2.2.2.2.1 p.2.2.2.2.2.2) (x0, x1, x2, x3, x4, x5, x6) hs hw hi hm
end
def OW (P : Program) (R : Act → World → Prop) (ops : Array Oper) (l : List Oper) (k : List KI) (n : Nat) (σ : Sig) (w : World) : Prop := ∀ a, Fr n σ a → wpList P ops (pst P R k) l a w
def wantS (ops : Array Oper) (σ : Sig) : Option (Nat × Bool) → Option Bool
  | none => some true
  | some (j, want) => match (ops[j]?).bind (·.dst) with
    | some t => match lk σ t with
      | some (.bool b) => some (b == want)
      | some (.tuple _) => some false
      | _ => none
    | none => none
theorem wantS_spec {ops : Array Oper} {σ : Sig} {n : Nat} {a : Act} (ha : Fr n σ a) {o : Oper} {b : Bool} (h : wantS ops σ o.guard = some b) : Region.wanted o (yielded ops a.tmps) = b := by
  unfold Region.wanted
  cases hg : o.guard with
  | none => rw [hg] at h; simpa [wantS] using h
  | some jw =>
    obtain ⟨j, want⟩ := jw
    rw [hg] at h
    simp only [wantS] at h
    split at h
    · rename_i t ht
      split at h
      · rename_i u hu
        injection h with h
        subst h
        have := ha.val t _ hu
        simp only [yielded, ht, Option.bind_some, this]
        cases u <;> cases want <;> rfl
      · rename_i u hu
        injection h with h
        subst h
        have := ha.val t _ hu
        simp only [yielded, ht, Option.bind_some, this]
        rfl
      · cases h
    · cases h
section
variable {P : Program} {R : Act → World → Prop} {ops : Array Oper} {l rest : List Oper} {k : List KI} {n : Nat} {σ : Sig} {w w' : World}
theorem KW.region {id : Nat} (h : OW P R l.toArray l k n σ w) : KW P R (.code (.region id l.toArray false) :: k) n σ w := fun a ha => wp_region_lit (h a ha)
theorem OW.nil (h : KW P R k n σ w) : OW P R ops [] k n σ w := h
theorem OW.sub {σ' : Sig} (hs : Subs σ' σ) (h : OW P R ops l k n σ' w) : OW P R ops l k n σ w := fun a ha => h a (ha.sub hs)
theorem OW.as (t : Nat) (v' : Value) {v : Value} (ht : lk σ t = some v) (e : v = v') (h : OW P R ops l k n ((t, v') :: σ) w) : OW P R ops l k n σ w := fun a ha =>
  h a ⟨ha.size, fun i u hu => by
    rw [lk_cons] at hu
    by_cases e' : t = i
    · subst e'
      simp at hu
      subst hu
      rw [← e]
      exact ha.val t _ ht
    · simp [e'] at hu
      exact ha.val i u hu, ha.df⟩
theorem KW.as (t : Nat) (v' : Value) {v : Value} (ht : lk σ t = some v) (e : v = v') (h : KW P R k n ((t, v') :: σ) w) : KW P R k n σ w := fun a ha =>
  OW.as (P := P) (R := R) (ops := #[]) (l := []) t v' ht e h a ha
theorem OW.split (t : Nat) {b : Bool} (ht : lk σ t = some (.bool b)) (h1 : b = true → OW P R ops l k n ((t, .bool true) :: σ) w) (h2 : b = false → OW P R ops l k n ((t, .bool false) :: σ) w) : OW P R ops l k n σ w := by
  cases b with
  | true => exact OW.as t _ ht rfl (h1 rfl)
  | false => exact OW.as t _ ht rfl (h2 rfl)
theorem OW.splitD (t : Nat) {p : Prop} [Decidable p] (ht : lk σ t = some (.bool (decide p))) (h1 : p → OW P R ops l k n ((t, .bool true) :: σ) w) (h2 : ¬ p → OW P R ops l k n ((t, .bool false) :: σ) w) : OW P R ops l k n σ w :=
  OW.split t ht (fun e => h1 (of_decide_eq_true e)) (fun e => h2 (of_decide_eq_false e))
def EX (P : Program) (n : Nat) (σ : Sig) (op : Op) (ty : TypeId) (w : World) (v : Value) (w' : World) : Prop :=
  ∀ (a : Act), Fr n σ a → ∀ (dst : Option Tmp) (pos : String) (after : Array Edge) (g : Option (Nat × Bool)), (execOp a.eval ⟨dst, op, ty, pos, after, g⟩).run P w = .ok (.value v) w'
def EU (P : Program) (n : Nat) (σ : Sig) (op : Op) (ty : TypeId) (w w' : World) : Prop :=
  ∀ (a : Act), Fr n σ a → ∀ (dst : Option Tmp) (pos : String) (after : Array Edge) (g : Option (Nat × Bool)), (execOp a.eval ⟨dst, op, ty, pos, after, g⟩).run P w = .ok .skip w'
def EC (P : Program) (n : Nat) (σ : Sig) (op : Op) (ty : TypeId) (w : World) (f : FuncId) (args : Array Value) : Prop :=
  ∀ (a : Act), Fr n σ a → ∀ (dst : Option Tmp) (pos : String) (after : Array Edge) (g : Option (Nat × Bool)), (execOp a.eval ⟨dst, op, ty, pos, after, g⟩).run P w = .ok (.enter f args) w
theorem OW.val {d : Nat} {op : Op} {ty : TypeId} {pos : String} {after : Array Edge} {g : Option (Nat × Bool)} {v : Value} (hg : wantS ops σ g = some true) (hd : Nat.blt d n = true) (he : EX P n σ op ty w v w')
    (h : OW P R ops rest k n ((d, v) :: σ) w') : OW P R ops (⟨some d, op, ty, pos, after, g⟩ :: rest) k n σ w := fun a ha => by
  have h1 := he a ha (some d) pos after g
  unfold wpList
  rw [if_pos (wantS_spec ha (o := ⟨some d, op, ty, pos, after, g⟩) hg)]
  refine .inl ?_
  unfold Oper.wp
  rw [h1]
  exact h _ (ha.put hd v)
theorem OW.eff {op : Op} {ty : TypeId} {pos : String} {after : Array Edge} {g : Option (Nat × Bool)} (hg : wantS ops σ g = some true) (he : EU P n σ op ty w w')
    (h : OW P R ops rest k n σ w') : OW P R ops (⟨none, op, ty, pos, after, g⟩ :: rest) k n σ w := fun a ha => by
  have h1 := he a ha none pos after g
  unfold wpList
  rw [if_pos (wantS_spec ha (o := ⟨none, op, ty, pos, after, g⟩) hg)]
  refine .inl ?_
  unfold Oper.wp
  rw [h1]
  exact h _ ha
theorem OW.pass {d : Nat} {op : Op} {ty : TypeId} {pos : String} {after : Array Edge} {g : Option (Nat × Bool)} (hg : wantS ops σ g = some false) (hd : Nat.blt d n = true)
    (h : OW P R ops rest k n ((d, undef) :: σ) w) : OW P R ops (⟨some d, op, ty, pos, after, g⟩ :: rest) k n σ w := fun a ha => by
  unfold wpList
  rw [if_neg (by rw [wantS_spec ha (o := ⟨some d, op, ty, pos, after, g⟩) hg]; simp)]
  exact h _ (ha.put hd undef)
def Ret (P : Program) (f : FuncId) (args : List Value) (w : World) (Q : Value → World → Prop) : Prop :=
  (∃ fn, P.funcs[f]? = some fn ∧ (!(fn.name == "runtime.NumGoroutine") && fn.body.isSome) = true) ∧ Calls P f args.toArray w fun e w' => ∃ v, e = .returned v ∧ Q v w'
theorem Ret.mono {f : FuncId} {args : List Value} {Q Q' : Value → World → Prop} (h : Ret P f args w Q) (hq : ∀ v w', Q v w' → Q' v w') : Ret P f args w Q' :=
  ⟨h.1, h.2.mono fun _ _ ⟨v, e, q⟩ => ⟨v, e, hq _ _ q⟩⟩
theorem run_callFunc {f : FuncId} {fn : Func} (hf : P.funcs[f]? = some fn) (hn : (!(fn.name == "runtime.NumGoroutine") && fn.body.isSome) = true) (args : Array Value) :
    (callFunc f args).run P w = .ok (.enter f args) w := by
  simp only [Bool.and_eq_true, Bool.not_eq_true', beq_eq_false_iff_ne] at hn
  have h2 : fn.body ≠ none := by intro e; rw [e] at hn; exact absurd hn.2 (by simp)
  unfold callFunc
  simp [program, Sem.run_bind, Sem.run, hf, hn.1, h2]
theorem OW.callE {d : Nat} {op : Op} {ty : TypeId} {pos : String} {after : Array Edge} {g : Option (Nat × Bool)} {f : FuncId} {args : List Value} {Q : Value → World → Prop} (hg : wantS ops σ g = some true) (hd : Nat.blt d n = true)
    (he : EC P n σ op ty w f args.toArray) (hc : Ret P f args w Q) (h : ∀ v w', Q v w' → OW P R ops rest k n ((d, v) :: σ) w') : OW P R ops (⟨some d, op, ty, pos, after, g⟩ :: rest) k n σ w := fun a ha => by
  have h1 := he a ha (some d) pos after g
  unfold wpList
  rw [if_pos (wantS_spec ha (o := ⟨some d, op, ty, pos, after, g⟩) hg)]
  refine .inl ?_
  unfold Oper.wp
  rw [h1]
  refine hc.2.mono fun e w'' ⟨v, he, q⟩ => ?_
  subst he
  exact h v w'' q _ (ha.put hd v)
theorem EC.go {f : FuncId} {xs : List Operand} {vs : List Value} {ats : Array TypeId} {ty : TypeId} {fn : Func} (hf : P.funcs[f]? = some fn) (hn : (!(fn.name == "runtime.NumGoroutine") && fn.body.isSome) = true) (hx : evs σ xs = some vs) :
    EC P n σ (.call { callee := .value (.func f), args := xs.toArray, argTypes := ats }) ty w f vs.toArray := fun a ha dst pos after g => by
  rw [execOp_call_go]
  have : #[] ++ xs.toArray.map a.eval ++ #[] = vs.toArray := by simp [ha.evs hx]
  rw [this]
  exact run_callFunc hf hn _
theorem OW.call {d : Nat} {f : FuncId} {xs : List Operand} {ats : Array TypeId} {ty : TypeId} {pos : String} {after : Array Edge} {g : Option (Nat × Bool)} {vs : List Value} {Q : Value → World → Prop}
    (hg : wantS ops σ g = some true) (hd : Nat.blt d n = true) (hx : evs σ xs = some vs) (hc : Ret P f vs w Q) (h : ∀ v w', Q v w' → OW P R ops rest k n ((d, v) :: σ) w') :
    OW P R ops (⟨some d, .call { callee := .value (.func f), args := xs.toArray, argTypes := ats }, ty, pos, after, g⟩ :: rest) k n σ w := by
  obtain ⟨⟨fn, h1, h2⟩, _⟩ := id hc
  exact OW.callE hg hd (EC.go h1 h2 hx) hc h
end
def QW (P : Program) (R : Act → World → Prop) (ops : Array Oper) (l : List Oper) (k : List KI) (n : Nat) (σ : Sig) (w : World) : Prop := ∀ a, Fr n σ a →
  wpQuiet P ops (fun w' => ∃ m, w' = w.drewN m) (fun a' => ∀ w', (∃ m, w' = w.drewN m) → pst P R k .normal a' w') l a
section
variable {P : Program} {R : Act → World → Prop} {ops : Array Oper} {l rest : List Oper} {k : List KI} {n : Nat} {σ : Sig} {w : World}
theorem KW.regionQ {id : Nat} (hm : P.follows .mixedOrders = true) (hB : Region.lexB .any l.toArray = true) (h : QW P R l.toArray l k n σ w) : KW P R (.code (.region id l.toArray true) :: k) n σ w := fun a ha =>
  wp_region_quiet_lit hm hB (h a ha)
theorem QW.nil (h : ∀ m, KW P R k n σ (w.drewN m)) : QW P R ops [] k n σ w := fun a ha => wpQuiet_nil (by rintro w' ⟨m, rfl⟩; exact h m a ha)
theorem QW.val {d : Nat} {op : Op} {ty : TypeId} {pos : String} {after : Array Edge} {g : Option (Nat × Bool)} {v : Value} (hg : wantS ops σ g = some true) (hd : Nat.blt d n = true) (he : ∀ m, EX P n σ op ty (w.drewN m) v (w.drewN m))
    (h : QW P R ops rest k n ((d, v) :: σ) w) : QW P R ops (⟨some d, op, ty, pos, after, g⟩ :: rest) k n σ w := fun a ha => by
  unfold wpQuiet
  rw [if_pos (wantS_spec ha (o := ⟨some d, op, ty, pos, after, g⟩) hg)]
  refine ⟨v, ?_, h _ (ha.put hd v)⟩
  rintro w' ⟨m, rfl⟩
  unfold Oper.quietAt
  rw [he m a ha (some d) pos after g]
  exact ⟨rfl, rfl⟩
theorem QW.pass {d : Nat} {op : Op} {ty : TypeId} {pos : String} {after : Array Edge} {g : Option (Nat × Bool)} (hg : wantS ops σ g = some false) (hd : Nat.blt d n = true)
    (h : QW P R ops rest k n ((d, undef) :: σ) w) : QW P R ops (⟨some d, op, ty, pos, after, g⟩ :: rest) k n σ w := fun a ha => by
  unfold wpQuiet
  rw [if_neg (by rw [wantS_spec ha (o := ⟨some d, op, ty, pos, after, g⟩) hg]; simp)]
  exact h _ (ha.put hd undef)
theorem QW.as (t : Nat) (v' : Value) {v : Value} (ht : lk σ t = some v) (e : v = v') (h : QW P R ops l k n ((t, v') :: σ) w) : QW P R ops l k n σ w := fun a ha =>
  h a ⟨ha.size, fun i u hu => by
    rw [lk_cons] at hu
    by_cases e' : t = i
    · subst e'
      simp at hu
      subst hu
      rw [← e]
      exact ha.val t _ ht
    · simp [e'] at hu
      exact ha.val i u hu, ha.df⟩
theorem QW.splitD (t : Nat) {p : Prop} [Decidable p] (ht : lk σ t = some (.bool (decide p))) (h1 : p → QW P R ops l k n ((t, .bool true) :: σ) w) (h2 : ¬ p → QW P R ops l k n ((t, .bool false) :: σ) w) : QW P R ops l k n σ w := by
  by_cases hp : p
  · exact QW.as t _ ht (by rw [decide_eq_true hp]) (h1 hp)
  · exact QW.as t _ ht (by rw [decide_eq_false hp]) (h2 hp)
def RetQ (P : Program) (f : FuncId) (args : List Value) (w : World) (v : Value) : Prop := Ret P f args w fun v' w' => v' = v ∧ ∃ m, w' = w.drewN m
theorem QW.call {d : Nat} {f : FuncId} {xs : List Operand} {ats : Array TypeId} {ty : TypeId} {pos : String} {after : Array Edge} {g : Option (Nat × Bool)} {vs : List Value} {v : Value}
    (hg : wantS ops σ g = some true) (hd : Nat.blt d n = true) (hx : evs σ xs = some vs) (hc : ∀ m, RetQ P f vs (w.drewN m) v) (h : QW P R ops rest k n ((d, v) :: σ) w) :
    QW P R ops (⟨some d, .call { callee := .value (.func f), args := xs.toArray, argTypes := ats }, ty, pos, after, g⟩ :: rest) k n σ w := fun a ha => by
  unfold wpQuiet
  rw [if_pos (wantS_spec ha (o := ⟨some d, .call { callee := .value (.func f), args := xs.toArray, argTypes := ats }, ty, pos, after, g⟩) hg)]
  refine ⟨v, ?_, h _ (ha.put hd v)⟩
  rintro w' ⟨m, rfl⟩
  unfold Oper.quietAt
  obtain ⟨⟨fn, h1, h2⟩, hcc⟩ := hc m
  rw [EC.go (n := n) h1 h2 hx a ha (some d) pos after g]
  refine ⟨rfl, hcc.mono ?_⟩
  rintro e w'' ⟨v', rfl, rfl, m', rfl⟩
  exact ⟨rfl, m + m', by rw [World.drewN_drewN]⟩
end
def HW (P : Program) (R : Act → World → Prop) (ops : Array Oper) (l : List Oper) (N : Nat) (k : List KI) (n : Nat) (σ : Sig) (w : World) : Prop := ∀ a, Fr n σ a →
  wpStill P ops w (fun a' => wpList P ops (pst P R k) (l.drop N) a' w) (l.take N) a
section
variable {P : Program} {R : Act → World → Prop} {ops : Array Oper} {l rest : List Oper} {N : Nat} {k : List KI} {n : Nat} {σ : Sig} {w : World}
theorem KW.regionH {id : Nat} (N : Nat) (hm : P.follows .mixedOrders = true) (hB : Region.lexTailB .any l.toArray N = true) (h : HW P R l.toArray l N k n σ w.drew) : KW P R (.code (.region id l.toArray true) :: k) n σ w := fun a ha =>
  wp_region_still_tail N hm hB (h a ha)
theorem HW.tail (h : OW P R ops l k n σ w) : HW P R ops l 0 k n σ w := fun a ha => wpStill_nil (h a ha)
theorem HW.val {d : Nat} {op : Op} {ty : TypeId} {pos : String} {after : Array Edge} {g : Option (Nat × Bool)} {v : Value} (hg : wantS ops σ g = some true) (hd : Nat.blt d n = true) (he : EX P n σ op ty w v w)
    (h : HW P R ops rest N k n ((d, v) :: σ) w) : HW P R ops (⟨some d, op, ty, pos, after, g⟩ :: rest) (N + 1) k n σ w := fun a ha => by
  show wpStill P ops w _ (_ :: rest.take N) a
  unfold wpStill
  rw [if_pos (wantS_spec ha (o := ⟨some d, op, ty, pos, after, g⟩) hg)]
  unfold Oper.still
  rw [he a ha (some d) pos after g]
  exact ⟨rfl, h _ (ha.put hd v)⟩
theorem HW.pass {d : Nat} {op : Op} {ty : TypeId} {pos : String} {after : Array Edge} {g : Option (Nat × Bool)} (hg : wantS ops σ g = some false) (hd : Nat.blt d n = true)
    (h : HW P R ops rest N k n ((d, undef) :: σ) w) : HW P R ops (⟨some d, op, ty, pos, after, g⟩ :: rest) (N + 1) k n σ w := fun a ha => by
  show wpStill P ops w _ (_ :: rest.take N) a
  unfold wpStill
  rw [if_neg (by rw [wantS_spec ha (o := ⟨some d, op, ty, pos, after, g⟩) hg]; simp)]
  exact h _ (ha.put hd undef)
theorem HW.as (t : Nat) (v' : Value) {v : Value} (ht : lk σ t = some v) (e : v = v') (h : HW P R ops l N k n ((t, v') :: σ) w) : HW P R ops l N k n σ w := fun a ha =>
  h a ⟨ha.size, fun i u hu => by
    rw [lk_cons] at hu
    by_cases e' : t = i
    · subst e'
      simp at hu
      subst hu
      rw [← e]
      exact ha.val t _ ht
    · simp [e'] at hu
      exact ha.val i u hu, ha.df⟩
theorem HW.splitD (t : Nat) {p : Prop} [Decidable p] (ht : lk σ t = some (.bool (decide p))) (h1 : p → HW P R ops l N k n ((t, .bool true) :: σ) w) (h2 : ¬ p → HW P R ops l N k n ((t, .bool false) :: σ) w) : HW P R ops l N k n σ w := by
  by_cases hp : p
  · exact HW.as t _ ht (by rw [decide_eq_true hp]) (h1 hp)
  · exact HW.as t _ ht (by rw [decide_eq_false hp]) (h2 hp)
theorem HW.call {d : Nat} {f : FuncId} {xs : List Operand} {ats : Array TypeId} {ty : TypeId} {pos : String} {after : Array Edge} {g : Option (Nat × Bool)} {vs : List Value} {v : Value}
    (hg : wantS ops σ g = some true) (hd : Nat.blt d n = true) (hx : evs σ xs = some vs) (hc : Ret P f vs w fun v' w' => v' = v ∧ w' = w) (h : HW P R ops rest N k n ((d, v) :: σ) w) :
    HW P R ops (⟨some d, .call { callee := .value (.func f), args := xs.toArray, argTypes := ats }, ty, pos, after, g⟩ :: rest) (N + 1) k n σ w := fun a ha => by
  show wpStill P ops w _ (_ :: rest.take N) a
  unfold wpStill
  rw [if_pos (wantS_spec ha (o := ⟨some d, .call { callee := .value (.func f), args := xs.toArray, argTypes := ats }, ty, pos, after, g⟩) hg)]
  unfold Oper.still
  obtain ⟨⟨fn, h1, h2⟩, hcc⟩ := hc
  rw [EC.go (n := n) h1 h2 hx a ha (some d) pos after g]
  refine ⟨rfl, v, hcc.mono ?_, h _ (ha.put hd v)⟩
  rintro e w'' ⟨v', rfl, rfl, rfl⟩
  exact ⟨rfl, rfl⟩
end
def argSig : Nat → List Value → Sig
  | _, [] => []
  | i, v :: r => (i, v) :: argSig (i + 1) r
theorem argSig_lk : ∀ (l : List Value) (i t : Nat) (v : Value), lk (argSig i l) t = some v → i ≤ t ∧ l[t - i]? = some v
  | [], _, _, _, h => by simp [argSig, lk] at h
  | u :: r, i, t, v, h => by
    simp only [argSig] at h
    rw [lk_cons] at h
    by_cases e : i = t
    · subst e
      simp at h
      subst h
      simp
    · simp [e] at h
      obtain ⟨h1, h2⟩ := argSig_lk r (i + 1) t v h
      refine ⟨by omega, ?_⟩
      rw [show t - i = (t - (i + 1)) + 1 by omega]
      simpa using h2
theorem Fr.start (args : List Value) (m : Nat) : Fr (args.length + m) (argSig 0 args) { tmps := args.toArray ++ Array.replicate m undef, defers := [] } :=
  ⟨by simp, fun t v h => by
    obtain ⟨_, h2⟩ := argSig_lk args 0 t v h
    have hlt : t < args.length := by
      rcases Nat.lt_or_ge t args.length with h' | h'
      · exact h'
      · simp [List.getElem?_eq_none h'] at h2
    rw [Array.getElem?_append_left (by simpa using hlt)]
    simpa using h2, rfl⟩
theorem Ret.enter {P : Program} {f : FuncId} {fn : Func} {c : Code} {args : List Value} {w : World} {Q : Value → World → Prop} {n : Nat} (hf : P.funcs[f]? = some fn) (hb : fn.body = some c) (hnt : fn.ntmps = n)
    (hn : (!(fn.name == "runtime.NumGoroutine") && fn.body.isSome) = true) (hl : args.length + (n - args.length) = n)
    (h : KW P (fun a w' => bodyPost P fn (fun e w' => ∃ v, e = .returned v ∧ Q v w') .ret a w') [.code c] n (argSig 0 args) w) : Ret P f args w Q := by
  refine ⟨⟨fn, hf, hn⟩, calls_of_wp hf hb ?_⟩
  have hfr : Fr n (argSig 0 args) { tmps := args.toArray ++ Array.replicate (fn.ntmps - args.toArray.size) undef, defers := [] } := by
    have := Fr.start args (n - args.length)
    rw [hl] at this
    simpa [hnt] using this
  have h1 := h _ hfr
  simp only [pst] at h1
  refine Code.wp_mono (fun e a' w' q => ?_) h1
  cases e with
  | normal => exact q
  | ret => exact q
  | _ => exact q.elim
section
variable {P : Program} {fn : Func} {Q : Value → World → Prop} {n : Nat} {σ : Sig} {w : World} {k : List KI}
theorem ret_of {v : Value} (hr : ∀ a, Fr n σ a → (results fn a.tmps).run P w = .ok v w) (hq : Q v w) : ∀ a, Fr n σ a → bodyPost P fn (fun e w' => ∃ v, e = .returned v ∧ Q v w') .ret a w :=
  fun a ha => ⟨ha.df, v, hr a ha, v, rfl, hq⟩
theorem ret1 {t : Nat} {v : Value} (hs : fn.results = #[.tmp t]) (hv : lk σ t = some v) (hq : Q v w) : ∀ a, Fr n σ a → bodyPost P fn (fun e w' => ∃ v, e = .returned v ∧ Q v w') .ret a w :=
  ret_of (fun a ha => by rw [results_tmp hs]; simp [ha.val t v hv]) hq
theorem ret2 {t u : Nat} {v x : Value} (hs : fn.results = #[.tmp t, .tmp u]) (hv : lk σ t = some v) (hx : lk σ u = some x) (hq : Q (.tuple #[v, x]) w) : ∀ a, Fr n σ a → bodyPost P fn (fun e w' => ∃ v, e = .returned v ∧ Q v w') .ret a w :=
  ret_of (fun a ha => by rw [results_tmp2 hs]; simp [ha.val t v hv, ha.val u x hx]) hq
theorem ret3 {t u s : Nat} {v x y : Value} (hs : fn.results = #[.tmp t, .tmp u, .tmp s]) (hv : lk σ t = some v) (hx : lk σ u = some x) (hy : lk σ s = some y) (hq : Q (.tuple #[v, x, y]) w) :
    ∀ a, Fr n σ a → bodyPost P fn (fun e w' => ∃ v, e = .returned v ∧ Q v w') .ret a w :=
  ret_of (fun a ha => by rw [results_tmp3 hs]; simp [ha.val t v hv, ha.val u x hx, ha.val s y hy]) hq
end
end Go.Proofs.YtlpnoogcdnfllaaGreatDoor
namespace Go.Proofs.YtlpnoogcdnfllaaGreatDoor
open Go.RowKit
def maxN : IntKind → Nat
  | .i8 => 127 | .i16 => 32767 | .i32 => 2147483647 | .i64 => 9223372036854775807
  | .u8 => 255 | .u16 => 65535 | .u32 => 4294967295 | .u64 => 18446744073709551615
def modN : IntKind → Nat
  | .u8 => 256 | .u16 => 65536 | .u32 => 4294967296 | .u64 => 18446744073709551616 | _ => 0
theorem wrap_fit {k : IntKind} {m a : Nat} (hm : maxN k = m) (h : a ≤ m) : k.wrap (a : Int) = a := by
  subst hm
  cases k <;> simp only [maxN] at h <;> first
    | exact IntWalk.i8_in _ (by omega) | exact IntWalk.i16_in _ (by omega) | exact IntWalk.i32_in _ (by omega) | exact IntWalk.i64_in _ (by omega)
    | exact IntWalk.u8_in _ (by omega) | exact IntWalk.u16_in _ (by omega) | exact IntWalk.u32_in _ (by omega) | exact IntWalk.u64_in _ (by omega)
theorem wrap_mod {k : IntKind} {m a : Nat} (hm : modN k = m) (hp : 0 < m) : k.wrap (a : Int) = ((a % m : Nat) : Int) := by
  subst hm
  cases k <;> simp [modN] at hp <;> simp [modN, IntKind.wrap, IntKind.bits, IntKind.signed]
theorem wrap_fitZ {k : IntKind} {m : Nat} {a : Int} (hs : k.signed = true) (hm : maxN k = m) (h : -((m : Int) + 1) ≤ a ∧ a ≤ m) : k.wrap a = a := by
  subst hm
  cases k <;> simp [IntKind.signed] at hs <;> simp only [maxN] at h <;> first
    | exact IntWalk.i8_in _ (by omega) | exact IntWalk.i16_in _ (by omega) | exact IntWalk.i32_in _ (by omega) | exact IntWalk.i64_in _ (by omega)
theorem maxN_lt (k : IntKind) : maxN k < 2 ^ k.bits := by cases k <;> decide
abbrev str (l : List UInt8) : Value := .string ⟨⟨l⟩⟩
section
variable {P : Program} {n : Nat} {σ : Sig} {w : World} {t t' : TypeId} {ty : TypeId} {x y : Operand} {k : IntKind} {a b m : Nat} {c d : Int}
theorem EX.move {v : Value} (hx : ev σ x = some v) : EX P n σ (.move x) ty w v w := fun a ha dst pos after g => by
  simp only [execOp, ha.ev hx]; rfl
theorem EX.assign {v : Value} (hx : ev σ x = some v) : EX P n σ (.assign x) ty w v w := fun a ha dst pos after g => by
  simp only [execOp, ha.ev hx]; rfl
theorem EX.pickT {z : Operand} {v : Value} (hx : ev σ x = some (.bool true)) (hy : ev σ y = some v) : EX P n σ (.pick x y z) ty w v w := fun a ha dst pos after g => by
  simp only [execOp, ha.ev hx, ha.ev hy]; rfl
theorem EX.pickF {z : Operand} {v : Value} (hx : ev σ x = some (.bool false)) (hz : ev σ z = some v) : EX P n σ (.pick x y z) ty w v w := fun a ha dst pos after g => by
  simp only [execOp, ha.ev hx, ha.ev hz]; rfl
theorem EX.bin {op : BinOp} {u v r : Value} (hx : ev σ x = some u) (hy : ev σ y = some v) (hg : (eqGuard op t x y u v).run P w = .ok () w) (hr : (binOp op t u v).run P w = .ok r w) : EX P n σ (.binOp op t x y t') ty w r w := fun a ha dst pos after g => by
  simp only [execOp, ha.ev hx, ha.ev hy, Sem.run_bind, hg, hr, Result.andThen_ok]; rfl
theorem guard_int (op : BinOp) (i j : Int) : (eqGuard op t x y (.int k i) (.int k j)).run P w = .ok () w := by
  unfold eqGuard; cases op <;> rfl
theorem guard_str (op : BinOp) (i j : ByteArray) : (eqGuard op t x y (.string i) (.string j)).run P w = .ok () w := by
  unfold eqGuard; cases op <;> rfl
theorem EX.binI {op : BinOp} {i j : Int} {r : Value} (hx : ev σ x = some (.int k i)) (hy : ev σ y = some (.int k j)) (hr : (binOp op t (.int k i) (.int k j)).run P w = .ok r w) : EX P n σ (.binOp op t x y t') ty w r w :=
  EX.bin hx hy (guard_int op i j) hr
theorem EX.addN (hx : ev σ x = some (.int k (a : Int))) (hy : ev σ y = some (.int k (b : Int))) (hm : maxN k = m) (h : a + b ≤ m) : EX P n σ (.binOp .add t x y t') ty w (.int k ((a + b : Nat) : Int)) w :=
  EX.binI hx hy (by
    have := wrap_fit hm h
    simp only [Int.natCast_add] at this ⊢
    simp [binOp, Op.intArith, this])
theorem EX.subN (hx : ev σ x = some (.int k (a : Int))) (hy : ev σ y = some (.int k (b : Int))) (hm : maxN k = m) (h : b ≤ a ∧ a ≤ m) : EX P n σ (.binOp .sub t x y t') ty w (.int k ((a - b : Nat) : Int)) w :=
  EX.binI hx hy (by
    have := wrap_fit hm (show a - b ≤ m by omega)
    rw [Int.natCast_sub h.1] at this ⊢
    simp [binOp, Op.intArith, this])
theorem EX.mulN (hx : ev σ x = some (.int k (a : Int))) (hy : ev σ y = some (.int k (b : Int))) (hm : maxN k = m) (h : a * b ≤ m) : EX P n σ (.binOp .mul t x y t') ty w (.int k ((a * b : Nat) : Int)) w :=
  EX.binI hx hy (by
    have := wrap_fit hm h
    simp only [Int.natCast_mul] at this ⊢
    simp [binOp, Op.intArith, this])
theorem EX.quoN (hx : ev σ x = some (.int k (a : Int))) (hy : ev σ y = some (.int k (b : Int))) (hm : maxN k = m) (h : 0 < b ∧ a ≤ m) : EX P n σ (.binOp .quo t x y t') ty w (.int k ((a / b : Nat) : Int)) w :=
  EX.binI hx hy (by
    have hle : a / b ≤ a := Nat.div_le_self _ _
    have := wrap_fit hm (show a / b ≤ m by omega)
    have hb : ¬ (b : Int) = 0 := by omega
    have hq : (a : Int).tdiv b = ((a / b : Nat) : Int) := rfl
    unfold binOp
    simp only [ne_eq, not_true_eq_false, if_false, Op.intDiv, if_neg hb, hq, this]
    rfl)
theorem EX.remN (hx : ev σ x = some (.int k (a : Int))) (hy : ev σ y = some (.int k (b : Int))) (h : 0 < b) : EX P n σ (.binOp .rem t x y t') ty w (.int k ((a % b : Nat) : Int)) w :=
  EX.binI hx hy (by
    have hb : ¬ (b : Int) = 0 := by omega
    have hq : (a : Int).tmod b = ((a % b : Nat) : Int) := rfl
    unfold binOp
    simp only [ne_eq, not_true_eq_false, if_false, Op.intDiv, if_neg hb, hq]
    rfl)
theorem ofInt_fit {k : IntKind} {a : Nat} (h : a ≤ maxN k) : (BitVec.ofInt k.bits (a : Int)).toNat = a := by
  rw [BitVec.ofInt_natCast, BitVec.toNat_ofNat]
  exact Nat.mod_eq_of_lt (Nat.lt_of_le_of_lt h (maxN_lt k))
theorem mod_fit {k : IntKind} {a : Nat} (h : a ≤ maxN k) : a % 2 ^ k.bits = a := Nat.mod_eq_of_lt (Nat.lt_of_le_of_lt h (maxN_lt k))
theorem bits_le (k : IntKind) : ∃ j, maxN k + 1 = 2 ^ j := by cases k <;> first | exact ⟨7, rfl⟩ | exact ⟨15, rfl⟩ | exact ⟨31, rfl⟩ | exact ⟨63, rfl⟩ | exact ⟨8, rfl⟩ | exact ⟨16, rfl⟩ | exact ⟨32, rfl⟩ | exact ⟨64, rfl⟩
theorem EX.andN (hx : ev σ x = some (.int k (a : Int))) (hy : ev σ y = some (.int k (b : Int))) (hm : maxN k = m) (h : a ≤ m ∧ b ≤ m) : EX P n σ (.binOp .and t x y t') ty w (.int k ((a &&& b : Nat) : Int)) w :=
  EX.binI hx hy (by
    subst hm
    have hle : a &&& b ≤ a := Nat.and_le_left
    have := wrap_fit rfl (show a &&& b ≤ maxN k by omega)
    simp [binOp, Op.intBits, mod_fit h.1, mod_fit h.2, this])
theorem EX.orN (hx : ev σ x = some (.int k (a : Int))) (hy : ev σ y = some (.int k (b : Int))) (hm : maxN k = m) (h : a ≤ m ∧ b ≤ m) : EX P n σ (.binOp .or t x y t') ty w (.int k ((a ||| b : Nat) : Int)) w :=
  EX.binI hx hy (by
    subst hm
    obtain ⟨j, hj⟩ := bits_le k
    have hlt : a ||| b < 2 ^ j := Nat.or_lt_two_pow (by omega) (by omega)
    have := wrap_fit rfl (show a ||| b ≤ maxN k by omega)
    simp [binOp, Op.intBits, mod_fit h.1, mod_fit h.2, this])
theorem EX.xorN (hx : ev σ x = some (.int k (a : Int))) (hy : ev σ y = some (.int k (b : Int))) (hm : maxN k = m) (h : a ≤ m ∧ b ≤ m) : EX P n σ (.binOp .xor t x y t') ty w (.int k ((a ^^^ b : Nat) : Int)) w :=
  EX.binI hx hy (by
    subst hm
    obtain ⟨j, hj⟩ := bits_le k
    have hlt : a ^^^ b < 2 ^ j := Nat.xor_lt_two_pow (by omega) (by omega)
    have := wrap_fit rfl (show a ^^^ b ≤ maxN k by omega)
    simp [binOp, Op.intBits, mod_fit h.1, mod_fit h.2, this])
theorem EX.maskN {j p : Nat} (hx : ev σ x = some (.int k (a : Int))) (hy : ev σ y = some (.int k (b : Int))) (hp : 2 ^ j = p) (hb : b + 1 = p) (hm : maxN k = m) (h : a ≤ m ∧ b ≤ m) : EX P n σ (.binOp .and t x y t') ty w (.int k ((a % p : Nat) : Int)) w := by
  have h1 := EX.andN (P := P) (n := n) (w := w) (t := t) (t' := t') (ty := ty) hx hy hm h
  have : a &&& b = a % p := by
    rw [show b = p - 1 by omega, ← hp]
    exact Nat.and_two_pow_sub_one_eq_mod a j
  rwa [this] at h1
theorem EX.shlN {s p : Nat} {k' : IntKind} (hx : ev σ x = some (.int k (a : Int))) (hy : ev σ y = some (.int k' (s : Int))) (hp : 2 ^ s = p) (hs : s ≤ k.bits) (hm : maxN k = m) (h : a * p ≤ m) :
    EX P n σ (.binOp .shl t x y t') ty w (.int k ((a * p : Nat) : Int)) w :=
  EX.bin hx hy (by unfold eqGuard; rfl) (by
    subst hp
    have := wrap_fit hm h
    have hn : ¬ (s : Int) < 0 := by omega
    simp only [Int.natCast_mul, Int.natCast_pow, Int.cast_ofNat_Int] at this ⊢
    simp [binOp, Op.shift, hn, Nat.min_eq_left hs, this])
theorem EX.shlW {s p : Nat} {k' : IntKind} (hx : ev σ x = some (.int k (a : Int))) (hy : ev σ y = some (.int k' (s : Int))) (hp : 2 ^ s = p) (hs : s ≤ k.bits) (hm : modN k = m) (h : 0 < m) :
    EX P n σ (.binOp .shl t x y t') ty w (.int k (((a * p) % m : Nat) : Int)) w :=
  EX.bin hx hy (by unfold eqGuard; rfl) (by
    subst hp
    have := wrap_mod (a := a * 2 ^ s) hm h
    have hn : ¬ (s : Int) < 0 := by omega
    rw [← this]
    simp only [Int.natCast_mul, Int.natCast_pow, Int.cast_ofNat_Int]
    simp [binOp, Op.shift, hn, Nat.min_eq_left hs])
theorem EX.shrN {s p : Nat} {k' : IntKind} (hx : ev σ x = some (.int k (a : Int))) (hy : ev σ y = some (.int k' (s : Int))) (hp : 2 ^ s = p) (hs : s ≤ k.bits) :
    EX P n σ (.binOp .shr t x y t') ty w (.int k ((a / p : Nat) : Int)) w :=
  EX.bin hx hy (by unfold eqGuard; rfl) (by
    subst hp
    have hn : ¬ (s : Int) < 0 := by omega
    have hf : (a : Int).fdiv (2 ^ s) = ((a / 2 ^ s : Nat) : Int) := by
      rw [Int.fdiv_eq_ediv_of_nonneg _ (by exact_mod_cast Nat.zero_le _)]
      simp
    simp [binOp, Op.shift, hn, Nat.min_eq_left hs, hf])
theorem run_cmp {op : BinOp} {i j : Int} {q : Bool} (h : (Op.intCmp op i j).run P w = .ok (.bool q) w) (ho : (match op with | .eql | .neq | .lss | .leq | .gtr | .geq => true | _ => false) = true) : (binOp op t (.int k i) (.int k j)).run P w = .ok (.bool q) w := by
  cases op <;> simp at ho <;> simpa [binOp] using h
theorem EX.lssN (hx : ev σ x = some (.int k (a : Int))) (hy : ev σ y = some (.int k (b : Int))) : EX P n σ (.binOp .lss t x y t') ty w (.bool (decide (a < b))) w :=
  EX.binI hx hy (run_cmp (by simp [Op.intCmp]) rfl)
theorem EX.leqN (hx : ev σ x = some (.int k (a : Int))) (hy : ev σ y = some (.int k (b : Int))) : EX P n σ (.binOp .leq t x y t') ty w (.bool (decide (a ≤ b))) w :=
  EX.binI hx hy (run_cmp (by simp [Op.intCmp]) rfl)
theorem EX.gtrN (hx : ev σ x = some (.int k (a : Int))) (hy : ev σ y = some (.int k (b : Int))) : EX P n σ (.binOp .gtr t x y t') ty w (.bool (decide (b < a))) w :=
  EX.binI hx hy (run_cmp (by simp [Op.intCmp]) rfl)
theorem EX.geqN (hx : ev σ x = some (.int k (a : Int))) (hy : ev σ y = some (.int k (b : Int))) : EX P n σ (.binOp .geq t x y t') ty w (.bool (decide (b ≤ a))) w :=
  EX.binI hx hy (run_cmp (by simp [Op.intCmp]) rfl)
theorem EX.eqlN (hx : ev σ x = some (.int k (a : Int))) (hy : ev σ y = some (.int k (b : Int))) : EX P n σ (.binOp .eql t x y t') ty w (.bool (decide (a = b))) w :=
  EX.binI hx hy (run_cmp (by
    have : ((a : Int) == (b : Int)) = decide (a = b) := by rw [Bool.eq_iff_iff]; simp; omega
    simp only [Op.intCmp, this]; rfl) rfl)
theorem EX.neqN (hx : ev σ x = some (.int k (a : Int))) (hy : ev σ y = some (.int k (b : Int))) : EX P n σ (.binOp .neq t x y t') ty w (.bool (decide (a ≠ b))) w :=
  EX.binI hx hy (run_cmp (by
    have : ((a : Int) != (b : Int)) = decide (a ≠ b) := by rw [Bool.eq_iff_iff]; simp; omega
    simp only [Op.intCmp, this]; rfl) rfl)
theorem EX.lssZ (hx : ev σ x = some (.int k c)) (hy : ev σ y = some (.int k d)) : EX P n σ (.binOp .lss t x y t') ty w (.bool (decide (c < d))) w :=
  EX.binI hx hy (run_cmp (by simp [Op.intCmp]) rfl)
theorem EX.leqZ (hx : ev σ x = some (.int k c)) (hy : ev σ y = some (.int k d)) : EX P n σ (.binOp .leq t x y t') ty w (.bool (decide (c ≤ d))) w :=
  EX.binI hx hy (run_cmp (by simp [Op.intCmp]) rfl)
theorem EX.gtrZ (hx : ev σ x = some (.int k c)) (hy : ev σ y = some (.int k d)) : EX P n σ (.binOp .gtr t x y t') ty w (.bool (decide (d < c))) w :=
  EX.binI hx hy (run_cmp (by simp [Op.intCmp]) rfl)
theorem EX.geqZ (hx : ev σ x = some (.int k c)) (hy : ev σ y = some (.int k d)) : EX P n σ (.binOp .geq t x y t') ty w (.bool (decide (d ≤ c))) w :=
  EX.binI hx hy (run_cmp (by simp [Op.intCmp]) rfl)
theorem EX.eqlZ (hx : ev σ x = some (.int k c)) (hy : ev σ y = some (.int k d)) : EX P n σ (.binOp .eql t x y t') ty w (.bool (decide (c = d))) w :=
  EX.binI hx hy (run_cmp (by simp [Op.intCmp, BEq.beq]) rfl)
theorem EX.neqZ (hx : ev σ x = some (.int k c)) (hy : ev σ y = some (.int k d)) : EX P n σ (.binOp .neq t x y t') ty w (.bool (decide (c ≠ d))) w :=
  EX.binI hx hy (run_cmp (by simp [Op.intCmp, bne, BEq.beq]) rfl)
theorem EX.addZ (hx : ev σ x = some (.int k c)) (hy : ev σ y = some (.int k d)) (hs : k.signed = true) (hm : maxN k = m) (h : -((m : Int) + 1) ≤ c + d ∧ c + d ≤ m) : EX P n σ (.binOp .add t x y t') ty w (.int k (c + d)) w :=
  EX.binI hx hy (by simp [binOp, Op.intArith, wrap_fitZ hs hm h])
theorem EX.subZ (hx : ev σ x = some (.int k c)) (hy : ev σ y = some (.int k d)) (hs : k.signed = true) (hm : maxN k = m) (h : -((m : Int) + 1) ≤ c - d ∧ c - d ≤ m) : EX P n σ (.binOp .sub t x y t') ty w (.int k (c - d)) w :=
  EX.binI hx hy (by simp [binOp, Op.intArith, wrap_fitZ hs hm h])
theorem EX.mulZ (hx : ev σ x = some (.int k c)) (hy : ev σ y = some (.int k d)) (hs : k.signed = true) (hm : maxN k = m) (h : -((m : Int) + 1) ≤ c * d ∧ c * d ≤ m) : EX P n σ (.binOp .mul t x y t') ty w (.int k (c * d)) w :=
  EX.binI hx hy (by simp [binOp, Op.intArith, wrap_fitZ hs hm h])
theorem EX.notN (hx : ev σ x = some (.int k (a : Int))) (hs : k.signed = false) (hm : maxN k = m) (h : a ≤ m) : EX P n σ (.unOp .xor t x) ty w (.int k ((m - a : Nat) : Int)) w := fun A ha dst pos after g => by
  subst hm
  have hk : (maxN k : Int) = k.max := by cases k <;> first | rfl | simp [IntKind.signed] at hs
  have h1 : (BitVec.ofInt k.bits k.max ^^^ BitVec.ofInt k.bits (a : Int)).toNat = maxN k - a := by
    have hall : BitVec.ofInt k.bits k.max = BitVec.allOnes k.bits := by cases k <;> first | rfl | simp [IntKind.signed] at hs
    rw [hall, BitVec.allOnes_xor, BitVec.toNat_not, ofInt_fit h]
    have : maxN k + 1 = 2 ^ k.bits := by cases k <;> first | rfl | simp [IntKind.signed] at hs
    omega
  have := wrap_fit rfl (show maxN k - a ≤ maxN k by omega)
  simp only [execOp, ha.ev hx]
  simp only [Op.unary, Op.intBits, hs, Bool.false_eq_true, if_false, h1, this]
  rfl
theorem EX.convN {s e : TypeId} {k' : IntKind} {dd : TypeDesc} (hu : P.underlying s = some dd) (hv : P.underlying e = some (.int k)) (hx : ev σ x = some (.int k' (a : Int))) (hm : maxN k = m) (h : a ≤ m) : EX P n σ (.convert s e x) ty w (.int k (a : Int)) w := fun A ha dst pos after g => by
  have := wrap_fit hm h
  simp only [execOp, ha.ev hx]
  simp [convert, run_underlying hu, run_underlying hv, Sem.run_bind, Conv.intToInt, this]
theorem EX.convW {s e : TypeId} {k' : IntKind} {dd : TypeDesc} (hu : P.underlying s = some dd) (hv : P.underlying e = some (.int k)) (hx : ev σ x = some (.int k' (a : Int))) (hm : modN k = m) (h : 0 < m) : EX P n σ (.convert s e x) ty w (.int k ((a % m : Nat) : Int)) w := fun A ha dst pos after g => by
  have := wrap_mod (a := a) hm h
  simp only [execOp, ha.ev hx]
  simp [convert, run_underlying hu, run_underlying hv, Sem.run_bind, Conv.intToInt, this]
theorem EX.convZ {s e : TypeId} {k' : IntKind} {dd : TypeDesc} (hu : P.underlying s = some dd) (hv : P.underlying e = some (.int k)) (hx : ev σ x = some (.int k' c)) : EX P n σ (.convert s e x) ty w (.int k (k.wrap c)) w := fun A ha dst pos after g => by
  simp only [execOp, ha.ev hx]
  simp [convert, run_underlying hu, run_underlying hv, Sem.run_bind, Conv.intToInt]
theorem EX.extract {i : Nat} {vs : Array Value} {v : Value} (hx : ev σ x = some (.tuple vs)) (hi : vs[i]? = some v) : EX P n σ (.extract x i) ty w v w := fun A ha dst pos after g => by
  simp only [execOp, ha.ev hx]
  simp [Instr.extract, hi]
theorem EX.notB {p : Bool} (hx : ev σ x = some (.bool p)) : EX P n σ (.unOp .not t x) ty w (.bool !p) w := fun A ha dst pos after g => by
  simp only [execOp, ha.ev hx]; rfl
end
section
variable {P : Program} {n : Nat} {σ : Sig} {w : World} {t t' : TypeId} {ty : TypeId} {x y : Operand} {s r : List UInt8}
theorem EX.lenS (ht : P.underlying t = some .string) (hx : ev σ x = some (str s)) : EX P n σ (.call { callee := .builtin .len, args := #[x], argTypes := #[t] }) ty w (.int .i64 (s.length : Int)) w := fun A ha dst pos after g => by
  simp only [execOp, resolve, invoke, builtin, Sem.run_bind, Sem.run_pure, Result.andThen_ok, List.map_toArray, List.map_cons, List.map_nil, ha.ev hx]
  simp [Builtin.len_, run_underlying ht, goInt]
  rfl
theorem EX.lenA {e : TypeId} {A : Option Addr} {l c : Nat} (ht : P.underlying t = some (.slice e)) (hx : ev σ x = some (.slice A l c)) : EX P n σ (.call { callee := .builtin .len, args := #[x], argTypes := #[t] }) ty w (.int .i64 (l : Int)) w := fun A ha dst pos after g => by
  simp only [execOp, resolve, invoke, builtin, Sem.run_bind, Sem.run_pure, Result.andThen_ok, List.map_toArray, List.map_cons, List.map_nil, ha.ev hx]
  simp [Builtin.len_, run_underlying ht, goInt]
theorem EX.indexS {i : Nat} {k : IntKind} {c : UInt8} (ht : P.underlying t = some .string) (hx : ev σ x = some (str s)) (hy : ev σ y = some (.int k (i : Int))) (hi : s[i]? = some c) : EX P n σ (.index t x y) ty w (.int .u8 (c.toNat : Int)) w := fun A ha dst pos after g => by
  obtain ⟨hlt, he⟩ := List.getElem?_eq_some_iff.1 hi
  have h1 : (⟨⟨s⟩⟩ : ByteArray)[i]? = some c := by
    have hsz : i < (⟨⟨s⟩⟩ : ByteArray).size := hlt
    have h2 : (⟨⟨s⟩⟩ : ByteArray)[i] = c := he
    rw [getElem?_pos (⟨⟨s⟩⟩ : ByteArray) i hsz, h2]
  simp only [execOp, ha.ev hx, ha.ev hy]
  simp [Instr.index, asIntOf, run_underlying ht, Sem.run_bind, h1]
theorem EX.eqlS (hx : ev σ x = some (str s)) (hy : ev σ y = some (str r)) : EX P n σ (.binOp .eql t x y t') ty w (.bool (decide (s = r))) w :=
  EX.bin hx hy (guard_str _ _ _) (by
    have : (ByteArray.toList ⟨⟨s⟩⟩ == ByteArray.toList ⟨⟨r⟩⟩) = decide (s = r) := by
      rw [Bool.eq_iff_iff]; simp
    simp only [binOp, Op.stringOp, this]
    rfl)
theorem EX.neqS (hx : ev σ x = some (str s)) (hy : ev σ y = some (str r)) : EX P n σ (.binOp .neq t x y t') ty w (.bool (decide (s ≠ r))) w :=
  EX.bin hx hy (guard_str _ _ _) (by
    have : (!(ByteArray.toList ⟨⟨s⟩⟩ == ByteArray.toList ⟨⟨r⟩⟩)) = decide (s ≠ r) := by
      rw [Bool.eq_iff_iff]; simp
    simp only [binOp, Op.stringOp, this]
    rfl)
def lessB : List UInt8 → List UInt8 → Bool := Op.bytesLess
theorem EX.lssS (hx : ev σ x = some (str s)) (hy : ev σ y = some (str r)) : EX P n σ (.binOp .lss t x y t') ty w (.bool (lessB s r)) w :=
  EX.bin hx hy (guard_str _ _ _) (by
    have h1 : ByteArray.toList ⟨⟨s⟩⟩ = s := by simp
    have h2 : ByteArray.toList ⟨⟨r⟩⟩ = r := by simp
    simp only [binOp, Op.stringOp, h1, h2]
    rfl)
theorem EX.gtrS (hx : ev σ x = some (str s)) (hy : ev σ y = some (str r)) : EX P n σ (.binOp .gtr t x y t') ty w (.bool !(lessB s r || s == r)) w :=
  EX.bin hx hy (guard_str _ _ _) (by
    have h1 : ByteArray.toList ⟨⟨s⟩⟩ = s := by simp
    have h2 : ByteArray.toList ⟨⟨r⟩⟩ = r := by simp
    simp only [binOp, Op.stringOp, h1, h2]
    rfl)
theorem EX.addS (hx : ev σ x = some (str s)) (hy : ev σ y = some (str r)) (h : s.length + r.length ≤ 9223372036854775807) : EX P n σ (.binOp .add t x y t') ty w (str (s ++ r)) w :=
  EX.bin hx hy (guard_str _ _ _) (by
    have h0 : ¬ (((ByteArray.size ⟨⟨s⟩⟩ + ByteArray.size ⟨⟨r⟩⟩ : Nat) : Int) > IntKind.i64.max) := by
      show ¬ (((s.length + r.length : Nat) : Int) > 9223372036854775807)
      omega
    have h1 : ((⟨⟨s⟩⟩ : ByteArray) ++ ⟨⟨r⟩⟩) = ⟨⟨s ++ r⟩⟩ := by
      apply ByteArray.ext
      rw [ByteArray.data_append]
      simp
    unfold binOp
    simp only [Op.stringOp, if_neg h0, h1]
    rfl)
theorem EX.notD {p : Prop} [Decidable p] (hx : ev σ x = some (.bool (decide p))) : EX P n σ (.unOp .not t x) ty w (.bool (decide (¬ p))) w := fun A ha dst pos after g => by
  simp only [execOp, ha.ev hx, decide_not]; rfl
theorem extract_str (s : List UInt8) (i j : Nat) : (⟨⟨s⟩⟩ : ByteArray).extract i j = ⟨⟨(s.drop i).take (j - i)⟩⟩ := by
  apply ByteArray.ext
  rw [ByteArray.data_extract]
  apply Array.ext'
  simp [List.extract_eq_take_drop]
theorem run_sliceBound {k : IntKind} {i : Nat} (y : Nat) (c : BoundsCode) (h : i ≤ y) : (Instr.sliceBound (.int k (i : Int)) y c).run P w = .ok i w := by
  have h1 : (0 : Int) ≤ (i : Int) ∧ (i : Int) ≤ (y : Int) := by omega
  simp [Instr.sliceBound, asIntOf, Sem.run_bind, h]
section
variable {k k' : IntKind} {i j : Nat} {lo hi : Operand}
theorem EX.sliceLH (ht : P.underlying t = some .string) (hx : ev σ x = some (str s)) (hl : ev σ lo = some (.int k (i : Int))) (hh : ev σ hi = some (.int k' (j : Int))) (h : i ≤ j ∧ j ≤ s.length) :
    EX P n σ (.slice t x (some lo) (some hi) none) ty w (str ((s.drop i).take (j - i))) w := fun A ha dst pos after g => by
  have hj : j ≤ ByteArray.size ⟨⟨s⟩⟩ := h.2
  simp only [execOp, ha.ev hx, ha.ev hl, ha.ev hh, Option.map_some, Option.map_none]
  simp [Instr.sliceAt, run_underlying ht, Instr.slice, Instr.sliceBounds, Sem.run_bind, run_sliceBound _ _ hj, run_sliceBound _ _ h.1, extract_str]
theorem EX.sliceLE (ht : P.underlying t = some .string) (hx : ev σ x = some (str s)) (hl : ev σ lo = some (.int k (i : Int))) (h : i ≤ s.length) :
    EX P n σ (.slice t x (some lo) none none) ty w (str (s.drop i)) w := fun A ha dst pos after g => by
  have hj : i ≤ ByteArray.size ⟨⟨s⟩⟩ := h
  have e : (s.drop i).take (ByteArray.size ⟨⟨s⟩⟩ - i) = s.drop i := List.take_of_length_le (by rw [List.length_drop]; exact Nat.le_refl _)
  simp only [execOp, ha.ev hx, ha.ev hl, Option.map_some, Option.map_none]
  simp [Instr.sliceAt, run_underlying ht, Instr.slice, Instr.sliceBounds, Sem.run_bind, run_sliceBound _ _ hj, extract_str, e]
theorem EX.sliceFH (ht : P.underlying t = some .string) (hx : ev σ x = some (str s)) (hh : ev σ hi = some (.int k' (j : Int))) (h : j ≤ s.length) :
    EX P n σ (.slice t x none (some hi) none) ty w (str (s.take j)) w := fun A ha dst pos after g => by
  have hj : j ≤ ByteArray.size ⟨⟨s⟩⟩ := h
  simp only [execOp, ha.ev hx, ha.ev hh, Option.map_some, Option.map_none]
  simp [Instr.sliceAt, run_underlying ht, Instr.slice, Instr.sliceBounds, Sem.run_bind, run_sliceBound _ _ hj, extract_str]
end
theorem EX.minN {k : IntKind} {a b : Nat} {ats : Array TypeId} (hx : ev σ x = some (.int k (a : Int))) (hy : ev σ y = some (.int k (b : Int))) : EX P n σ (.call { callee := .builtin .min, args := #[x, y], argTypes := ats }) ty w (.int k ((min a b : Nat) : Int)) w := fun A ha dst pos after g => by
  simp only [execOp, resolve, invoke, builtin, Sem.run_bind, Sem.run_pure, Result.andThen_ok, List.map_toArray, List.map_cons, List.map_nil, ha.ev hx, ha.ev hy]
  have : (if (b : Int) < a then (b : Int) else a) = ((min a b : Nat) : Int) := by split <;> omega
  simp only [Builtin.min_, Builtin.min2, List.foldlM, Sem.run_bind, Sem.run_pure, Result.andThen_ok, this]
end
end Go.Proofs.YtlpnoogcdnfllaaGreatDoor
namespace Go.Proofs.YtlpnoogcdnfllaaGreatDoor
open Go.RowKit
def Bk (w : World) (b : Nat) (T : TypeId) (l : List Value) : Prop := ∃ fr : Nat × Nat, w.heap[b]? = some (.cells l.toArray T fr) ∧ (l.length ≤ fr.1 ∨ fr.2 ≤ fr.1)
abbrev Ext (w w' : World) : Prop := Below w.heap.size w w'
section
variable {w w' : World} {b : Nat} {T : TypeId} {l : List Value}
theorem Bk.lt (h : Bk w b T l) : b < w.heap.size := by
  obtain ⟨fr, h, _⟩ := h
  rcases Nat.lt_or_ge b w.heap.size with h' | h'
  · exact h'
  · simp [Array.getElem?_eq_none h'] at h
theorem Bk.cell (h : Bk w b T l) (i : Nat) : w.cell? ⟨b, i, none⟩ = l[i]? := by
  obtain ⟨fr, h, _⟩ := h
  simp [World.cell?, h]
theorem Bk.cell_of (h : Bk w b T l) {i : Nat} {v : Value} (hi : l[i]? = some v) : w.cell? ⟨b, i, none⟩ = some v := (h.cell i).trans hi
theorem Bk.free (h : Bk w b T l) (i : Nat) (hi : i < l.length) : w.frozen? ⟨b, i, none⟩ = false := by
  obtain ⟨⟨lo, hi'⟩, h, hf⟩ := h
  simp only [World.frozen?, h]
  simp only [Bool.and_eq_false_iff, decide_eq_false_iff_not]
  simp only at hf
  omega
theorem Bk.of_block (h : Bk w b T l) (hb : w'.heap[b]? = w.heap[b]?) : Bk w' b T l := by
  obtain ⟨fr, h, hf⟩ := h
  exact ⟨fr, by rw [hb]; exact h, hf⟩
theorem Bk.new (w : World) (T : TypeId) (l : List Value) : Bk (w.alloc (.cells l.toArray T)) w.heap.size T l := ⟨(0, 0), heap_alloc_new w _, .inr (Nat.le_refl _)⟩
theorem Bk.alloc (h : Bk w b T l) (o : Obj) : Bk (w.alloc o) b T l := h.of_block (Below.heap_alloc w o b h.lt)
theorem Bk.drew (h : Bk w b T l) : Bk w.drew b T l := h
theorem Bk.drewN (h : Bk w b T l) (m : Nat) : Bk (w.drewN m) b T l := h
theorem Bk.below {B : Nat} (h : Bk w b T l) (hb : Below B w w') (hlt : b < B) : Bk w' b T l := h.of_block (hb.block b hlt)
theorem Bk.ext (h : Bk w b T l) (hb : Ext w w') : Bk w' b T l := h.below hb h.lt
theorem Bk.far (h : Bk w b T l) {p : Addr} (hp : b ≠ p.block) (u : Value) : Bk (w.setCell p u) b T l := h.of_block (Below.heap_setCell w p u b hp)
theorem Bk.grown {row : Option Nat} (h : Bk w b T l) (hg : w.grownBy w' row) (hne : some b ≠ row) : Bk w' b T l := h.of_block (hg.block b h.lt hne)
theorem Bk.set (h : Bk w b T l) (i : Nat) (u : Value) : Bk (w.setCell ⟨b, i, none⟩ u) b T (l.set i u) := by
  have hlt := h.lt
  obtain ⟨fr, h, hf⟩ := h
  have hv : w.heap[b] = .cells l.toArray T fr := (Array.getElem?_eq_some_iff.1 h).2
  refine ⟨fr, ?_, by simpa using hf⟩
  simp only [World.setCell, Array.getElem?_modify, if_true, h, Option.map_some]
  simp
theorem Bk.ne {b' : Nat} {T' : TypeId} {l' : List Value} (h : Bk w b T l) (h' : Bk w b' T' l') (hne : T ≠ T') : b ≠ b' := by
  rintro rfl
  obtain ⟨fr, h, _⟩ := h
  obtain ⟨fr', h', _⟩ := h'
  rw [h] at h'
  simp at h'
  exact hne h'.2.1
theorem Bk.det {l' : List Value} {T' : TypeId} (h : Bk w b T l) (h' : Bk w b T' l') : T = T' ∧ l = l' := by
  obtain ⟨fr, h, _⟩ := h
  obtain ⟨fr', h', _⟩ := h'
  rw [h] at h'
  simp at h'
  exact ⟨h'.2.1, h'.1⟩
theorem Ext.refl (w : World) : Ext w w := Below.refl _ _
theorem Ext.trans {a b c : World} (h : Ext a b) (k : Ext b c) : Ext a c := Below.trans h (k.mono h.size)
theorem Ext.alloc (w : World) (o : Obj) : Ext w (w.alloc o) := (Below.refl _ _).alloc (Nat.le_refl _) o
theorem Ext.drew (w : World) : Ext w w.drew := (Below.refl _ _).drew
theorem below_drewN {B : Nat} {a w : World} (h : Below B a w) (m : Nat) : Below B a (w.drewN m) := ⟨h.os, h.tape, h.output, h.size, h.block⟩
theorem Ext.drewN (w : World) (m : Nat) : Ext w (w.drewN m) := below_drewN (Below.refl _ _) m
theorem Below.ext {B : Nat} {a w w' : World} (h : Below B a w) (hx : Ext w w') (hB : B ≤ w.heap.size) : Below B a w' := h.trans (hx.mono hB)
theorem run_storeCells_bk (P : Program) (w : World) (b o : Nat) (T : TypeId) : ∀ (vs : List Value) (i : Nat) (l : List Value) (w : World), Bk w b T l → o + i + vs.length ≤ l.length → (∀ v ∈ vs, v.oneCell' = true) →
    ∃ w', (storeCells ⟨b, o, none⟩ vs i).run P w = .ok () w' ∧ Bk w' b T (l.take (o + i) ++ vs ++ l.drop (o + i + vs.length)) ∧ w.grownBy w' (some b)
  | [], i, l, w, h, _, _ => ⟨w, rfl, by simpa using h, ⟨rfl, rfl, rfl, Nat.le_refl _, fun _ _ _ => rfl⟩⟩
  | v :: vs, i, l, w, h, hl, h1 => by
    simp only [List.length_cons] at hl
    have hlt : o + i < l.length := by omega
    have hc : w.cell? ⟨b, o + i, none⟩ = some l[o + i] := h.cell_of (List.getElem?_eq_getElem hlt)
    have hf := h.free (o + i) hlt
    have hadd : (⟨b, o, none⟩ : Addr).add i = ⟨b, o + i, none⟩ := by unfold Addr.add; split <;> simp_all
    obtain ⟨w', hr, hb, hg⟩ := run_storeCells_bk P w b o T vs (i + 1) (l.set (o + i) v) (w.setCell ⟨b, o + i, none⟩ v) (h.set (o + i) v) (by simp; omega) (fun u hu => h1 u (by simp [hu]))
    have hv1 := h1 v (by simp)
    have hst : (store ⟨b, o + i, none⟩ v).run P w = .ok () (w.setCell ⟨b, o + i, none⟩ v) := by
      cases v <;> simp [Value.oneCell'] at hv1 <;> simp [store, Sem.run, hc, hf]
    refine ⟨w', ?_, ?_, ⟨hg.os, hg.tape, hg.output, by have := hg.size; simpa using this, fun k hk hne => ?_⟩⟩
    · simp only [storeCells, Sem.run_bind, hadd, hst, Result.andThen_ok]
      exact hr
    · have e1 : (l.set (o + i) v).take (o + (i + 1)) = l.take (o + i) ++ [v] := by
        rw [show o + (i + 1) = (o + i) + 1 by omega, List.take_add_one]
        rw [List.take_set_of_le (Nat.le_refl _)]
        simp [hlt]
      have e2 : (l.set (o + i) v).drop (o + (i + 1) + vs.length) = l.drop (o + i + (vs.length + 1)) := by
        rw [List.drop_set_of_lt (by omega)]
        congr 1
        omega
      rw [e1, e2] at hb
      simpa using hb
    · rw [hg.block k (by simpa using hk) hne]
      exact Below.heap_setCell w _ v k (fun e => hne (by rw [e]))
end
def TI (P : Program) (T : TypeId) (z : Value) (s b : Nat) : Prop := (P.info? T).map (fun i => (i.zero, i.size, i.bytes)) = some (some z, s, b)
theorem TI.at {P : Program} {T : TypeId} {z : Value} {s b : Nat} (h : TI P T z s b) : ∃ i, P.info? T = some i ∧ i.zero = some z ∧ i.size = s ∧ i.bytes = b := by
  unfold TI at h
  cases hq : P.info? T with
  | none => simp [hq] at h
  | some i => exact ⟨i, rfl, by simpa [hq] using h⟩
def flat : TypeDesc → Bool
  | .struct _ | .array _ _ => false
  | _ => true
section
variable {P : Program} {n : Nat} {σ : Sig} {w w' : World} {t t' e : TypeId} {ty : TypeId} {x y : Operand} {b o : Nat} {l : List Value} {T : TypeId} {z v : Value} {s bs : Nat}
theorem run_isAgg {d : TypeDesc} (hu : P.underlying t = some d) : (isAgg t).run P w = .ok (!flat d) w := by
  unfold isAgg
  rw [Sem.run_bind, run_underlying hu w]
  cases d <;> rfl
theorem run_sizeOf (h : TI P t z s bs) : (sizeOf t).run P w = .ok s w := by
  obtain ⟨i, hi, _, rfl, _⟩ := h.at
  simp [sizeOf, typeInfo, hi, Sem.run_bind]
theorem run_zeroValue (h : TI P t z s bs) : (zeroValue t).run P w = .ok z w := by
  obtain ⟨i, hi, hz, _⟩ := h.at
  simp [zeroValue, typeInfo, hi, hz, Sem.run_bind]
theorem EX.alloc (h : TI P t z s bs) (hl : z.cells.toList = l) : EX P n σ (.alloc t) ty w (.pointer (some ⟨w.heap.size, 0, none⟩)) (w.alloc (.cells l.toArray t)) := fun A ha dst pos after g => by
  subst hl
  simp only [execOp, Instr.alloc, Sem.run_bind, run_zeroValue h, Result.andThen_ok]
  simp [newVar, newRow, newObj, Sem.run_bind, Sem.run]
theorem EX.box (hx : ev σ x = some v) (hl : v.cells.toList = l) : EX P n σ (.box t x) ty w (.pointer (some ⟨w.heap.size, 0, none⟩)) (w.alloc (.cells l.toArray t)) := fun A ha dst pos after g => by
  subst hl
  simp only [execOp, Instr.box, ha.ev hx, Sem.run_bind]
  simp [newVar, newRow, newObj, Sem.run_bind, Sem.run]
theorem EX.load {d : TypeDesc} {a : Addr} (hu : P.underlying t = some d) (hd : flat d = true) (hx : ev σ x = some (.pointer (some a))) (hc : w.cell? a = some v) : EX P n σ (.load t x) ty w v w := fun A ha dst pos after g => by
  simp only [execOp, Instr.loadAt, Instr.sureAddr, ha.ev hx, Sem.run_bind, Sem.run_pure, Result.andThen_ok, loadVar, run_isAgg hu, hd]
  simp [load, Sem.run, hc]
theorem EX.loadA {d : TypeDesc} (hu : P.underlying t = some d) (hd : flat d = false) (h : TI P t z s bs) (hx : ev σ x = some (.pointer (some ⟨b, o, none⟩))) (hs : l.length = s)
    (hc : ∀ j u, l[j]? = some u → w.cell? ⟨b, o + j, none⟩ = some u) : EX P n σ (.load t x) ty w (.agg l.toArray) w := fun A ha dst pos after g => by
  have hl := run_loadCells_list (P := P) w ⟨b, o, none⟩ l (fun j u hj => by
    have hadd : (⟨b, o, none⟩ : Addr).add j = ⟨b, o + j, none⟩ := by unfold Addr.add; split <;> simp_all
    rw [hadd]; exact hc j u hj)
  simp only [execOp, Instr.loadAt, Instr.sureAddr, ha.ev hx, Sem.run_bind, Sem.run_pure, Result.andThen_ok, loadVar, run_isAgg hu, hd, run_sizeOf h]
  rw [hs] at hl
  simp [run_sizeOf h, hl, Sem.run_bind]
theorem EX.loadBk {d : TypeDesc} (hu : P.underlying t = some d) (hd : flat d = false) (h : TI P t z s bs) (hx : ev σ x = some (.pointer (some ⟨b, 0, none⟩))) (hb : Bk w b T l) (hs : l.length = s) : EX P n σ (.load t x) ty w (.agg l.toArray) w :=
  EX.loadA hu hd h hx hs fun j u hj => by rw [Nat.zero_add]; exact hb.cell_of hj
theorem EU.store {a : Addr} {u : Value} (h : TI P t z 1 bs) (hx : ev σ x = some (.pointer (some a))) (hy : ev σ y = some v) (h1 : v.oneCell' = true) (hc : w.cell? a = some u) (hf : w.frozen? a = false) : EU P n σ (.store t x y) ty w (w.setCell a v) := fun A ha dst pos after g => by
  have hst : (Go.store a v).run P w = .ok () (w.setCell a v) := by
    cases v <;> simp [Value.oneCell'] at h1 <;> simp [Go.store, Sem.run, hc, hf]
  have hcs : v.cells = #[v] := by cases v <;> simp [Value.oneCell'] at h1 <;> rfl
  have hadd : a.add 0 = a := by unfold Addr.add; simp
  simp only [execOp, Instr.storeAt, Instr.sureAddr, ha.ev hx, ha.ev hy, Sem.run_bind, Sem.run_pure, Result.andThen_ok, storeVar, run_sizeOf h, hcs]
  simp [storeCells, Sem.run_bind, hadd, hst]
theorem EU.storeBk {i : Nat} (h : TI P t z 1 bs) (hx : ev σ x = some (.pointer (some ⟨b, i, none⟩))) (hy : ev σ y = some v) (h1 : v.oneCell' = true) (hb : Bk w b T l) (hi : i < l.length) : EU P n σ (.store t x y) ty w (w.setCell ⟨b, i, none⟩ v) :=
  EU.store h hx hy h1 (hb.cell_of (List.getElem?_eq_getElem hi)) (hb.free i hi)
theorem oneCell_cells {v : Value} (h : v.oneCell' = true) : v.cells = #[v] := by cases v <;> simp [Value.oneCell'] at h <;> rfl
theorem EU.storeA {vs : List Value} (h : TI P t z s bs) (hx : ev σ x = some (.pointer (some ⟨b, o, none⟩))) (hy : ev σ y = some (.agg vs.toArray)) (hs : vs.length = s) (h1 : vs.all (·.oneCell') = true) (hb : Bk w b T l) (hl : o + vs.length ≤ l.length) :
    ∃ w', EU P n σ (.store t x y) ty w w' ∧ Bk w' b T (l.take o ++ vs ++ l.drop (o + vs.length)) ∧ w.grownBy w' (some b) := by
  obtain ⟨w', hr, hb', hg⟩ := run_storeCells_bk P w b o T vs 0 l w hb (by simpa using hl) (fun v hv => List.all_eq_true.1 h1 v hv)
  refine ⟨w', fun A ha dst pos after g => ?_, by simpa using hb', hg⟩
  simp only [execOp, Instr.storeAt, Instr.sureAddr, ha.ev hx, ha.ev hy, Sem.run_bind, Sem.run_pure, Result.andThen_ok, storeVar, run_sizeOf h, Value.cells]
  simp [hs, hr]
theorem EX.indexAddrA {m : Nat} {k : IntKind} {i : Nat} (hu : P.underlying t = some (.array m e)) (h : TI P e z s bs) (hx : ev σ x = some (.pointer (some ⟨b, o, none⟩))) (hy : ev σ y = some (.int k (i : Int))) (hi : i < m) :
    EX P n σ (.indexAddr t x y) ty w (.pointer (some ⟨b, o + i * s, none⟩)) w := fun A ha dst pos after g => by
  have h1 : (0 : Int) ≤ (i : Int) ∧ (i : Int) < (m : Int) := by omega
  have hadd : (⟨b, o, none⟩ : Addr).add (i * s) = ⟨b, o + i * s, none⟩ := by unfold Addr.add; split <;> simp_all
  simp only [execOp, ha.ev hx, ha.ev hy]
  simp [Instr.indexAt, asIntOf, run_underlying hu, Sem.run_bind, Instr.sureAddr, hi, run_sizeOf h, hadd]
theorem EX.indexAddrS {k : IntKind} {i len cap : Nat} (hu : P.underlying t = some (.slice e)) (h : TI P e z s bs) (hx : ev σ x = some (.slice (some ⟨b, o, none⟩) len cap)) (hy : ev σ y = some (.int k (i : Int))) (hi : i < len) :
    EX P n σ (.indexAddr t x y) ty w (.pointer (some ⟨b, o + i * s, none⟩)) w := fun A ha dst pos after g => by
  have h1 : (0 : Int) ≤ (i : Int) ∧ (i : Int) < (len : Int) := by omega
  have hadd : (⟨b, o, none⟩ : Addr).add (i * s) = ⟨b, o + i * s, none⟩ := by unfold Addr.add; split <;> simp_all
  simp only [execOp, ha.ev hx, ha.ev hy]
  simp [Instr.indexAt, asIntOf, run_underlying hu, Sem.run_bind, Instr.sureAddr, hi, run_sizeOf h, hadd]
theorem EX.indexAddrA1 {m : Nat} {k : IntKind} {i : Nat} (hu : P.underlying t = some (.array m e)) (h : TI P e z 1 bs) (hx : ev σ x = some (.pointer (some ⟨b, o, none⟩))) (hy : ev σ y = some (.int k (i : Int))) (hi : i < m) :
    EX P n σ (.indexAddr t x y) ty w (.pointer (some ⟨b, o + i, none⟩)) w := by simpa using EX.indexAddrA (ty := ty) (w := w) (n := n) hu h hx hy hi
theorem EX.indexAddrS1 {k : IntKind} {i len cap : Nat} (hu : P.underlying t = some (.slice e)) (h : TI P e z 1 bs) (hx : ev σ x = some (.slice (some ⟨b, o, none⟩) len cap)) (hy : ev σ y = some (.int k (i : Int))) (hi : i < len) :
    EX P n σ (.indexAddr t x y) ty w (.pointer (some ⟨b, o + i, none⟩)) w := by simpa using EX.indexAddrS (ty := ty) (w := w) (n := n) hu h hx hy hi
theorem EX.indexAddrA0 {m : Nat} {k : IntKind} {i : Nat} (hu : P.underlying t = some (.array m e)) (h : TI P e z 1 bs) (hx : ev σ x = some (.pointer (some ⟨b, 0, none⟩))) (hy : ev σ y = some (.int k (i : Int))) (hi : i < m) :
    EX P n σ (.indexAddr t x y) ty w (.pointer (some ⟨b, i, none⟩)) w := by simpa using EX.indexAddrA (ty := ty) (w := w) (n := n) hu h hx hy hi
theorem EX.indexAddrS0 {k : IntKind} {i len cap : Nat} (hu : P.underlying t = some (.slice e)) (h : TI P e z 1 bs) (hx : ev σ x = some (.slice (some ⟨b, 0, none⟩) len cap)) (hy : ev σ y = some (.int k (i : Int))) (hi : i < len) :
    EX P n σ (.indexAddr t x y) ty w (.pointer (some ⟨b, i, none⟩)) w := by simpa using EX.indexAddrS (ty := ty) (w := w) (n := n) hu h hx hy hi
theorem EX.nilCheck {a : Addr} (hx : ev σ x = some (.pointer (some a))) : EX P n σ (.nilCheck x) ty w (.pointer (some a)) w := fun A ha dst pos after g => by
  simp only [execOp, ha.ev hx]; rfl
end
end Go.Proofs.YtlpnoogcdnfllaaGreatDoor
namespace Go.Proofs.YtlpnoogcdnfllaaGreatDoor
open Go.RowKit
def Sl (w : World) (B : Nat) (A : Option Addr) (xs : List Value) : Prop :=
  xs = [] ∨ ∃ b o, A = some ⟨b, o, none⟩ ∧ b < B ∧ ∀ j u, xs[j]? = some u → w.cell? ⟨b, o + j, none⟩ = some u
def bytesV (l : List UInt8) : List Value := l.map fun c => Value.int .u8 (c.toNat : Int)
def Own (w : World) (B : Nat) (T : TypeId) (s : Nat) (v : Value) (n : Nat) (xs : List Value) : Prop :=
  xs.length = n * s ∧ ((v = .slice none 0 0 ∧ n = 0) ∨
    ∃ g cap rest, v = .slice (some ⟨g, 0, none⟩) n cap ∧ B ≤ g ∧ Bk w g T (xs ++ rest) ∧ xs.length + rest.length = cap * s ∧ n ≤ cap ∧ cap ≤ maxLen)
section
variable {w w' : World} {B B' : Nat} {A : Option Addr} {xs : List Value} {T : TypeId} {s n : Nat} {v : Value}
theorem Sl.at_ (h : Sl w B A xs) (hx : 0 < xs.length) : ∃ b o, A = some ⟨b, o, none⟩ ∧ b < B ∧ ∀ j u, xs[j]? = some u → w.cell? ⟨b, o + j, none⟩ = some u := by
  rcases h with h | h
  · subst h; simp at hx
  · exact h
theorem Sl.keep (h : Sl w B A xs) (hk : ∀ p : Addr, p.block < B → w'.cell? p = w.cell? p) : Sl w' B A xs := by
  rcases h with h | ⟨b, o, h1, h2, h3⟩
  · exact .inl h
  · exact .inr ⟨b, o, h1, h2, fun j u hu => (hk _ h2).trans (h3 j u hu)⟩
theorem Sl.more (h : Sl w B A xs) (hB : B ≤ B') : Sl w B' A xs := by
  rcases h with h | ⟨b, o, h1, h2, h3⟩
  · exact .inl h
  · exact .inr ⟨b, o, h1, by omega, h3⟩
theorem Sl.below (h : Sl w B A xs) (hb : Below B w w') : Sl w' B A xs := h.keep fun _ hp => hb.cell hp
theorem Sl.ext (h : Sl w B A xs) (hb : Ext w w') : Sl w' B A xs := by
  rcases h with h | ⟨b, o, h1, h2, h3⟩
  · exact .inl h
  · exact .inr ⟨b, o, h1, h2, fun j u hu => (hb.cell (p := ⟨b, o + j, none⟩) (block_lt_of_cell (h3 j u hu))).trans (h3 j u hu)⟩
theorem Sl.drewN (h : Sl w B A xs) (m : Nat) : Sl (w.drewN m) B A xs := h
theorem Sl.pre (h : Sl w B A xs) (m : Nat) : Sl w B A (xs.take m) := by
  rcases h with h | ⟨b, o, h1, h2, h3⟩
  · subst h; left; simp
  · exact .inr ⟨b, o, h1, h2, fun j u hu => h3 j u (by
      rw [List.getElem?_take] at hu
      split at hu
      · exact hu
      · cases hu)⟩
theorem Sl.of_bk {b : Nat} {l : List Value} (h : Bk w b T l) (hB : b < B) : Sl w B (some ⟨b, 0, none⟩) l := .inr ⟨b, 0, rfl, hB, fun j u hu => by rw [Nat.zero_add]; exact h.cell_of hu⟩
theorem Bk.sl {b : Nat} {l : List Value} (h : Bk w b T l) : Sl w w.heap.size (some ⟨b, 0, none⟩) l := Sl.of_bk h h.lt
theorem Own.nil (w : World) (B : Nat) (T : TypeId) (s : Nat) : Own w B T s (.slice none 0 0) 0 [] := ⟨by simp, .inl ⟨rfl, rfl⟩⟩
theorem Own.lt (h : Own w B T s v n xs) : ∀ k, v.ownBlock = some k → B ≤ k ∧ k < w.heap.size := by
  intro k hk
  rcases h.2 with ⟨rfl, _⟩ | ⟨g, cap, rest, rfl, hb, hg, _⟩
  · simp [Value.ownBlock] at hk
  · simp [Value.ownBlock] at hk
    subst hk
    exact ⟨hb, hg.lt⟩
theorem Own.of_blocks (h : Own w B T s v n xs) (hk : ∀ k, v.ownBlock = some k → w'.heap[k]? = w.heap[k]?) : Own w' B T s v n xs := by
  refine ⟨h.1, ?_⟩
  rcases h.2 with hn | ⟨g, cap, rest, rfl, hb, hg, r⟩
  · exact .inl hn
  · exact .inr ⟨g, cap, rest, rfl, hb, hg.of_block (hk g rfl), r⟩
theorem Own.ext (h : Own w B T s v n xs) (hx : Ext w w') : Own w' B T s v n xs := h.of_blocks fun k hk => hx.block k (h.lt k hk).2
theorem Own.grown {row : Option Nat} (h : Own w B T s v n xs) (hg : w.grownBy w' row) (hne : v.ownBlock = none ∨ v.ownBlock ≠ row) : Own w' B T s v n xs :=
  h.of_blocks fun k hk => hg.block k (h.lt k hk).2 (by rw [← hk]; rcases hne with e | e <;> simp_all)
theorem Own.alloc (h : Own w B T s v n xs) (o : Obj) : Own (w.alloc o) B T s v n xs := h.ext (Ext.alloc w o)
theorem Own.drewN (h : Own w B T s v n xs) (m : Nat) : Own (w.drewN m) B T s v n xs := h.ext (Ext.drewN w m)
theorem Own.far (h : Own w B T s v n xs) {p : Addr} (hp : v.ownBlock ≠ some p.block) (u : Value) : Own (w.setCell p u) B T s v n xs :=
  h.of_blocks fun k hk => Below.heap_setCell w p u k (fun e => hp (by rw [hk, e]))
theorem Own.more (h : Own w B T s v n xs) (hB : B' ≤ B) : Own w B' T s v n xs := by
  refine ⟨h.1, ?_⟩
  rcases h.2 with hn | ⟨g, cap, rest, rfl, hb, r⟩
  · exact .inl hn
  · exact .inr ⟨g, cap, rest, rfl, by omega, r⟩
theorem Own.slice (h : Own w B T s v n xs) : ∃ A c, v = .slice A n c ∧ n ≤ c ∧ Sl w w.heap.size A xs := by
  rcases h.2 with ⟨rfl, rfl⟩ | ⟨g, cap, rest, rfl, hb, hg, hl, hn, _⟩
  · exact ⟨none, 0, rfl, Nat.le_refl _, .inl (List.eq_nil_of_length_eq_zero (by simpa using h.1))⟩
  · refine ⟨_, cap, rfl, hn, .inr ⟨g, 0, rfl, hg.lt, fun j u hu => ?_⟩⟩
    rw [Nat.zero_add]
    refine hg.cell_of ?_
    rw [List.getElem?_append_left]
    · exact hu
    · rcases Nat.lt_or_ge j xs.length with h' | h'
      · exact h'
      · simp [List.getElem?_eq_none h'] at hu
theorem Own.blk (h : Own w B T s v n xs) (hx : 0 < xs.length) : ∃ g cap rest, v = .slice (some ⟨g, 0, none⟩) n cap ∧ B ≤ g ∧ Bk w g T (xs ++ rest) ∧ xs.length + rest.length = cap * s ∧ n ≤ cap ∧ cap ≤ maxLen := by
  rcases h.2 with ⟨rfl, rfl⟩ | h2
  · have := h.1; omega
  · exact h2
theorem Own.of_bk {g cap : Nat} {l : List Value} (hg : Bk w g T l) (hB : B ≤ g) (hl : l.length = cap * s) (hm : cap ≤ maxLen) : Own w B T s (.slice (some ⟨g, 0, none⟩) cap cap) cap l :=
  ⟨hl, .inr ⟨g, cap, [], rfl, hB, by simpa using hg, by simpa using hl, Nat.le_refl _, hm⟩⟩
theorem Own.set {g cap : Nat} (h : Own w B T s (.slice (some ⟨g, 0, none⟩) n cap) n xs) (i : Nat) (hi : i < xs.length) (u : Value) :
    Own (w.setCell ⟨g, i, none⟩ u) B T s (.slice (some ⟨g, 0, none⟩) n cap) n (xs.set i u) ∧ w.grownBy (w.setCell ⟨g, i, none⟩ u) (some g) := by
  obtain ⟨g', cap', rest, hv, hb, hg, hr⟩ := h.blk (by omega)
  simp only [Value.slice.injEq, Option.some.injEq, Addr.mk.injEq, and_true, true_and] at hv
  obtain ⟨rfl, rfl⟩ := hv
  refine ⟨⟨by simpa using h.1, .inr ⟨g, cap, rest, rfl, hb, ?_, by simpa using hr.1, hr.2⟩⟩, ⟨rfl, rfl, rfl, by simp, fun k _ hk => Below.heap_setCell w _ u k (fun e => hk (by rw [e]))⟩⟩
  have := hg.set i u
  rwa [List.set_append_left _ _ hi] at this
end
section
variable {P : Program} {w : World}
theorem size_zeroCells' (z : Array Value) (n : Nat) : (Builtin.zeroCells z n).size = n * z.size := by simp [Builtin.zeroCells]
theorem run_append (B : Nat) (t tx ty e : TypeId) {z : Value} {s bs : Nat} (ht : P.underlying t = some (.slice e)) (hi : TI P e z s bs) (hzs : z.cells.size = s) (hs0 : 0 < s)
    {v : Value} {n : Nat} {xs : List Value} (hown : Own w B e s v n xs) {x : Value} {m : Nat} {news : List Value} (hsrc : Src P s tx x m news w)
    (h63 : n + m ≤ maxLen) (hbytes : (n + m) * bs ≤ 140737488355328) (hB : B ≤ w.heap.size) :
    ∃ v' w', (Builtin.append_ #[t, tx] ty #[v, x]).run P w = .ok v' w' ∧ Own w' B e s v' (n + m) (xs ++ news) ∧ w.grownBy w' v.ownBlock ∧ (v'.ownBlock = v.ownBlock ∨ v'.ownBlock = some w.heap.size) := by
  obtain ⟨i, hq, hz, rfl, rfl⟩ := hi.at
  have hlen : (xs ++ news).length = (n + m) * i.size := by rw [List.length_append, hown.1, hsrc.newsLen, Nat.add_mul]
  have grow : ∀ (A : Option Addr) (cap : Nat), v = .slice A n cap → cap < n + m → (Builtin.firstCells i.size n (.slice A n cap)).run P w.drew = .ok xs.toArray w.drew →
      ∃ v' w', (Builtin.append_ #[t, tx] ty #[v, x]).run P w = .ok v' w' ∧ Own w' B e i.size v' (n + m) (xs ++ news) ∧ w.grownBy w' v.ownBlock ∧ (v'.ownBlock = v.ownBlock ∨ v'.ownBlock = some w.heap.size) := by
    intro A cap hv hc hold
    subst hv
    have hr := run_append_grow_src (P := P) w t tx ty e i z ht hq hz A n cap xs hold x m news hsrc hc (by simp only [maxLen] at h63; omega) (growslice_fits (by omega) hbytes)
    have hge := grownCap_ge w (n + m) cap e
    have hcm : grownCap w (n + m) cap e ≤ maxLen := grownCap_le_maxLen w (n + m) cap e h63
    refine ⟨_, _, hr, ⟨hlen, .inr ⟨w.heap.size, _, (Builtin.zeroCells z.cells (grownCap w (n + m) cap e - (n + m))).toList, rfl, hB, ?_, ?_, hge, hcm⟩⟩, ⟨rfl, rfl, rfl, by simp, fun k hk _ => Below.heap_alloc w.drew _ k hk⟩, .inr rfl⟩
    · have := Bk.new w.drew e ((xs ++ news) ++ (Builtin.zeroCells z.cells (grownCap w (n + m) cap e - (n + m))).toList)
      rw [show ((xs ++ news) ++ (Builtin.zeroCells z.cells (grownCap w (n + m) cap e - (n + m))).toList).toArray = (xs ++ news).toArray ++ Builtin.zeroCells z.cells (grownCap w (n + m) cap e - (n + m)) by simp] at this
      exact this
    · rw [hlen, Array.length_toList, size_zeroCells', hzs, ← Nat.add_mul]
      congr 1
      omega
  rcases hown.2 with ⟨rfl, rfl⟩ | ⟨g, cap, rest, rfl, hb, hg, hl, hn, hcm⟩
  · have hx : xs = [] := List.eq_nil_of_length_eq_zero (by simpa using hown.1)
    subst hx
    by_cases hm : m = 0
    · subst hm
      have hn : news = [] := List.eq_nil_of_length_eq_zero (by simpa using hsrc.newsLen)
      subst hn
      refine ⟨.slice none 0 0, w, ?_, Own.nil _ _ _ _, ⟨rfl, rfl, rfl, Nat.le_refl _, fun _ _ _ => rfl⟩, .inl rfl⟩
      have hc := hsrc.cells
      rcases hsrc.kind with ⟨e', hk⟩ | hk <;> simp [Builtin.append_, run_underlying ht, run_underlying hk, sizeOf, typeInfo, hq, hsrc.len, hc]
    · exact grow none 0 rfl (by omega) (by simp [Builtin.firstCells])
  · by_cases hroom : n + m ≤ cap
    · have hfit : n * i.size + news.length ≤ (xs ++ rest).length := by
        rw [List.length_append, hl, hsrc.newsLen, ← Nat.add_mul]
        exact Nat.mul_le_mul_right _ hroom
      obtain ⟨w', hst, hb', hg'⟩ := run_storeCells_bk P w g (n * i.size) e news 0 (xs ++ rest) w hg (by simpa using hfit) hsrc.one
      refine ⟨.slice (some ⟨g, 0, none⟩) (n + m) cap, w', ?_, ⟨hlen, .inr ⟨g, cap, rest.drop news.length, rfl, hb, ?_, ?_, hroom, hcm⟩⟩, by simpa [Value.ownBlock] using hg', .inl rfl⟩
      · rcases hsrc.kind with ⟨e', hk⟩ | hk <;> simp [Builtin.append_, run_underlying ht, run_underlying hk, sizeOf, typeInfo, hq, hsrc.len, hroom, hsrc.cells, Addr.add_lit, hst]
      · have e1 : (xs ++ rest).take (n * i.size) = xs := by rw [← hown.1]; exact List.take_left
        have e2 : (xs ++ rest).drop (n * i.size + news.length) = rest.drop news.length := by
          rw [← hown.1, ← List.drop_drop, List.drop_left]
        simp only [Nat.add_zero] at hb'
        rw [e1, e2] at hb'
        exact hb'
      · rw [List.length_drop, hlen]
        have h1 : (xs.length + rest.length) = cap * i.size := hl
        rw [hown.1] at h1
        have h2 : (n + m) * i.size ≤ cap * i.size := Nat.mul_le_mul_right _ hroom
        have h3 := hsrc.newsLen
        rw [Nat.add_mul] at h2 ⊢
        omega
    · refine grow _ cap rfl (by omega) ?_
      have : (loadCells ⟨g, 0, none⟩ (n * i.size)).run P w.drew = .ok xs.toArray w.drew := by
        have := run_loadCells_list (P := P) w.drew ⟨g, 0, none⟩ xs (fun j u hj => by
          have hadd : (⟨g, 0, none⟩ : Addr).add j = ⟨g, j, none⟩ := by unfold Addr.add; split <;> simp_all
          rw [hadd]
          refine (hg.drew).cell_of ?_
          rw [List.getElem?_append_left]
          · exact hj
          · rcases Nat.lt_or_ge j xs.length with h' | h'
            · exact h'
            · simp [List.getElem?_eq_none h'] at hj)
        rwa [hown.1] at this
      simpa [Builtin.firstCells] using this
theorem Src.of_sl {tx e' : TypeId} {s : Nat} (hk : P.underlying tx = some (.slice e')) {B : Nat} {A : Option Addr} {m c : Nat} {news : List Value} (h : Sl w B A news) (hl : news.length = m * s) (h1 : ∀ u ∈ news, u.oneCell' = true) (hs0 : 0 < s) : Src P s tx (.slice A m c) m news w := by
  have cells : ∀ w1 : World, (∀ a, w1.cell? a = w.cell? a) → (Builtin.firstCells s m (.slice A m c)).run P w1 = .ok news.toArray w1 := by
    intro w1 hw1
    rcases h with h | ⟨b, o, rfl, _, hc⟩
    · subst h
      have hm : m * s = 0 := by simpa using hl.symm
      cases A with
      | none => simp [Builtin.firstCells]
      | some a => simp [Builtin.firstCells, hm, loadCells, loadCellsFrom]
    · have := run_loadCells_list (P := P) w1 ⟨b, o, none⟩ news (fun j u hj => by
        have hadd : (⟨b, o, none⟩ : Addr).add j = ⟨b, o + j, none⟩ := by unfold Addr.add; split <;> simp_all
        rw [hadd, hw1]
        exact hc j u hj)
      rw [hl] at this
      simpa [Builtin.firstCells] using this
  exact ⟨.inl ⟨e', hk⟩, fun _ => rfl, cells w fun _ => rfl, cells w.drew fun _ => rfl, hl, h1⟩
theorem Src.of_str {tx : TypeId} (hk : P.underlying tx = some .string) (l : List UInt8) : Src P 1 tx (str l) l.length (bytesV l) w := Src.ofString w hk ⟨⟨l⟩⟩
theorem bytesV_one {l : List UInt8} : ∀ u ∈ bytesV l, u.oneCell' = true := by
  intro u hu
  obtain ⟨_, _, rfl⟩ := List.mem_map.1 hu
  rfl
theorem bytesV_length (l : List UInt8) : (bytesV l).length = l.length := by simp [bytesV]
theorem bytesV_append (l m : List UInt8) : bytesV (l ++ m) = bytesV l ++ bytesV m := by simp [bytesV]
end
section
variable {P : Program} {R : Act → World → Prop} {ops : Array Oper} {rest : List Oper} {k : List KI} {n : Nat} {σ : Sig} {w : World} {x y : Operand} {t t' e ty : TypeId} {pos : String} {after : Array Edge} {gd : Option (Nat × Bool)} {d : Nat}
theorem OW.append (B : Nat) {z : Value} {s bs : Nat} (hg : wantS ops σ gd = some true) (hd : Nat.blt d n = true) (ht : P.underlying t = some (.slice e)) (hi : TI P e z s bs) (hzs : z.cells.size = s) (hs0 : 0 < s)
    {v xv : Value} {m l : Nat} {xs news : List Value} (hx : ev σ x = some v) (hy : ev σ y = some xv) (hown : Own w B e s v l xs) (hsrc : Src P s t' xv m news w)
    (h63 : l + m ≤ maxLen) (hbytes : (l + m) * bs ≤ 140737488355328) (hB : B ≤ w.heap.size)
    (h : ∀ v' w', Own w' B e s v' (l + m) (xs ++ news) → w.grownBy w' v.ownBlock → (v'.ownBlock = v.ownBlock ∨ v'.ownBlock = some w.heap.size) → OW P R ops rest k n ((d, v') :: σ) w') :
    OW P R ops (⟨some d, .call { callee := .builtin .append, args := #[x, y], argTypes := #[t, t'] }, ty, pos, after, gd⟩ :: rest) k n σ w := by
  obtain ⟨v', w', hr, h2, h3, h4⟩ := run_append (P := P) B t t' ty e ht hi hzs hs0 hown hsrc h63 hbytes hB
  refine OW.val hg hd (v := v') (w' := w') ?_ (h v' w' h2 h3 h4)
  intro A ha dst pos after g
  simp only [execOp, resolve, invoke, builtin, Sem.run_bind, Sem.run_pure, Result.andThen_ok, List.map_toArray, List.map_cons, List.map_nil, ha.ev hx, ha.ev hy, hr]
theorem fill_one : ∀ (vs : List Value) (i : Nat) (pre post : List Value), pre.length = i → (∀ v ∈ vs, v.oneCell' = true) → post.length = vs.length →
    Instr.fill (fun i => some (i * 1, 1)) (pre ++ post).toArray ((vs.zipIdx i).map fun (v, j) => (j, v)) = some (pre ++ vs).toArray
  | [], i, pre, post, hp, _, hl => by
    have : post = [] := List.eq_nil_of_length_eq_zero (by simpa using hl)
    subst this
    simp [Instr.fill]
  | v :: vs, i, pre, post, hp, h1, hl => by
    cases post with
    | nil => simp at hl
    | cons p post =>
      have hc := oneCell_cells (h1 v (by simp))
      have ih := fill_one vs (i + 1) (pre ++ [v]) post (by simp [hp]) (fun u hu => h1 u (by simp [hu])) (by simpa using hl)
      have hset : (pre ++ p :: post).toArray.setIfInBounds (i + 0) v = ((pre ++ [v]) ++ post).toArray := by
        simp [← hp]
      simp only [List.zipIdx_cons, List.map_cons, Instr.fill, hc, List.size_toArray, List.length_cons, List.length_nil, Nat.mul_one]
      have hn : ¬ (0 + 1 ≠ 1 ∨ i + (0 + 1) > (pre ++ p :: post).length) := by simp [hp]
      simp only [ne_eq, Bool.or_eq_true, decide_eq_true_eq]
      rw [if_neg (by simpa using hn)]
      have hz : (#[v] : Array Value).zipIdx.foldl (fun cs (x : Value × Nat) => cs.setIfInBounds (i + x.2) x.1) (pre ++ p :: post).toArray = ((pre ++ [v]) ++ post).toArray := by
        rw [← hset]; rfl
      rw [hz]
      simpa using ih
theorem run_buildSlice {z : Value} {bs : Nat} {pv : Array (Nat × Value)} {vs : List Value} (len : Nat) (ht : P.underlying t = some (.slice e)) (hi : TI P e z 1 bs) (hz1 : z.oneCell' = true)
    (hpv : pv.toList = vs.zipIdx.map fun (v, j) => (j, v)) (hl : vs.length = len) (h1 : ∀ v ∈ vs, v.oneCell' = true) (hlen : len ≤ 16777216) :
    (Instr.buildSlice t len pv).run P w = .ok (.slice (some ⟨w.heap.size, 0, none⟩) len len) (w.alloc (.cells vs.toArray e)) := by
  have hf := fill_one vs 0 [] (List.replicate len z) rfl h1 (by simp [hl])
  simp only [List.nil_append] at hf
  have hzc := oneCell_cells hz1
  have hrep : ((Array.range (len * 1)).map fun j => #[z][j % (#[z] : Array Value).size]!) = (List.replicate len z).toArray := by
    apply Array.ext'
    apply List.ext_getElem?
    intro j
    by_cases hj : j < len
    · simp [hj, Nat.mod_one]
    · simp [hj]
  have hn : ¬ (len * 1 > 2 ^ 24) := by omega
  simp only [Instr.buildSlice, Sem.run_bind, run_underlying ht, run_sizeOf hi, Result.andThen_ok, if_neg hn, hpv, Sem.run_pure]
  by_cases h0 : len * 1 = 0
  · have h0' : len = 0 := by omega
    subst h0'
    have : vs = [] := List.eq_nil_of_length_eq_zero hl
    subst this
    simp [Instr.fill, newRow, newObj, Sem.run_bind, Sem.run, Array.range_zero']
  · rw [if_neg h0]
    simp only [Sem.run_bind, run_zeroValue hi, Result.andThen_ok, Sem.run_pure, hzc, hrep, hf]
    simp [newRow, newObj, Sem.run_bind, Sem.run]
theorem EX.buildSlice {z : Value} {bs : Nat} {parts : Array (Nat × Operand)} {vs : List Value} (len : Nat) (ht : P.underlying t = some (.slice e)) (hi : TI P e z 1 bs) (hz1 : z.oneCell' = true)
    (hv : evs σ (parts.toList.map (·.2)) = some vs) (hp : parts.toList.map (·.1) = List.range' 0 parts.toList.length) (hl : vs.length = len) (h1 : vs.all (·.oneCell') = true) (hlen : len ≤ 16777216) :
    EX P n σ (.buildSlice t len parts) ty w (.slice (some ⟨w.heap.size, 0, none⟩) len len) (w.alloc (.cells vs.toArray e)) := fun A ha dst pos after g => by
  have hpv : (parts.map fun (p : Nat × Operand) => (p.1, A.eval p.2)).toList = vs.zipIdx.map fun (v, j) => (j, v) := by
    have h2 := ha.evs hv
    apply List.ext_getElem?
    intro j
    have e1 := congrArg (·[j]?) h2
    have e2 := congrArg (·[j]?) hp
    simp only [List.getElem?_map] at e1 e2
    simp only [Array.toList_map, List.getElem?_map, List.getElem?_zipIdx]
    cases hq : parts.toList[j]? with
    | none => simp [hq] at e1; simp [List.getElem?_eq_none e1]
    | some p =>
      have hlt : j < parts.toList.length := (List.getElem?_eq_some_iff.1 hq).1
      simp [hq] at e1
      rw [hq, List.getElem?_range' hlt] at e2
      simp at e2
      simp [← e1, e2]
  have := run_buildSlice (P := P) (w := w) len ht hi hz1 hpv hl (fun v hv => List.all_eq_true.1 h1 v hv) hlen
  simp only [execOp, Sem.run_bind]
  rw [show (parts.map fun (x : Nat × Operand) => match x with | (i, x) => (i, A.eval x)) = parts.map fun (p : Nat × Operand) => (p.1, A.eval p.2) from rfl, this]
  rfl
theorem EX.makeSlice {z : Value} {bs len : Nat} {kl kc : IntKind} (ht : P.underlying t = some (.slice e)) (hi : TI P e z 1 bs) (hz1 : z.oneCell' = true) (hx : ev σ x = some (.int kl (len : Int))) (hy : ev σ y = some (.int kc (len : Int)))
    (hb : bs * len ≤ 281474976710656) (h63 : len ≤ 9223372036854775807) :
    EX P n σ (.makeSlice t x y) ty w (.slice (some ⟨w.heap.size, 0, none⟩) len len) (w.alloc (.cells (List.replicate len z).toArray e)) := fun A ha dst pos after g => by
  obtain ⟨i, hq, hz, hs, rfl⟩ := hi.at
  have hb' : (i.bytes : Int) * (len : Int) ≤ 281474976710656 := by
    have h : ((i.bytes * len : Nat) : Int) ≤ 281474976710656 := by omega
    rwa [Int.natCast_mul] at h
  have hr := run_make (P := P) w t e i z ht hq hz kl kc len len (by omega) (Int.le_refl _) hb' (by omega)
  simp only [Int.toNat_natCast, hs, Nat.mul_one, oneCell_cells hz1] at hr
  have hl : madeCells #[z] len = (List.replicate len z).toArray := by
    apply Array.ext'
    rw [toList_madeCells_one]
  rw [hl] at hr
  simp only [execOp, ha.ev hx, ha.ev hy, Sem.run_bind, hr]
  rfl
theorem EX.bytesOf {s : List UInt8} (ht : P.underlying t = some .string) (ht' : P.underlying t' = some (.slice e)) (he : P.underlying e = some (.int .u8)) (hx : ev σ x = some (str s)) (hs : s.length ≤ 9223372036854775807) :
    ∃ v w', EX P n σ (.convert t t' x) ty w v w' ∧ Own w' w.heap.size e 1 v s.length (bytesV s) ∧ v.ownBlock = some w.heap.size ∧ Ext w w' := by
  let cap := Question.cut (.appendCap s.length 0 e) (w.tape w.drawn (.appendCap s.length 0 e))
  have hge : s.length ≤ cap := by simp [cap, Question.cut]
  have hle : cap ≤ maxLen := by
    have hlt := Nat.mod_lt (w.tape w.drawn (.appendCap s.length 0 e)) (show 0 < 2 ^ 63 - s.length by omega)
    simp only [cap, Question.cut, maxLen]
    omega
  let l := bytesV s ++ List.replicate (cap - s.length) (Value.int .u8 0)
  have hll : l.length = cap := by simp [l, bytesV]; omega
  let w1 := w.drew.alloc (.cells l.toArray e)
  let w2 := w1.freeze ⟨w.heap.size, cap, none⟩ 1
  have hrow : (s.toArray.map fun b => Value.int .u8 (b.toNat : Int)) ++ Array.replicate (cap - s.length) (Value.int .u8 0) = l.toArray := by
    apply Array.ext'
    simp [l, bytesV]
  have hb1 : w1.heap[w.heap.size]? = some (.cells l.toArray e (0, 0)) := heap_alloc_new w.drew _
  have hsh : w1.shape? w.heap.size = some (e, cap) := by simp [World.shape?, hb1, hll]
  have hb2 : w2.heap[w.heap.size]? = some (.cells l.toArray e (cap, cap + 1)) := by
    simp only [w2, World.freeze]
    simp [Array.getElem?_modify, hb1]
  have hrun : (Conv.stringToBytes e ⟨⟨s⟩⟩).run P w = .ok (.slice (some ⟨w.heap.size, 0, none⟩) s.length cap) w2 := by
    have hsz : ByteArray.size ⟨⟨s⟩⟩ = s.length := rfl
    have hf : Question.forced (.appendCap s.length 0 e) = false := rfl
    have e2 : (({ w with drawn := w.drawn + 1 } : World).heap.push (.cells l.toArray e)) = w1.heap := rfl
    simp only [Conv.stringToBytes, hsz, Sem.run_bind, choose, Sem.run, hf, Bool.false_eq_true, if_false, Result.andThen_ok, newRow, newObj, Sem.run_pure]
    rw [show ((⟨⟨s⟩⟩ : ByteArray).data.map fun b => Value.int .u8 (b.toNat : Int)) = s.toArray.map fun b => Value.int .u8 (b.toNat : Int) from rfl, hrow]
    have hsh' : World.shape? { w with drawn := w.drawn + 1, heap := w.heap.push (.cells l.toArray e) } w.heap.size = some (e, cap) := hsh
    simp only [markStringish, shape, Sem.run_bind, Sem.run, hsh', Result.andThen_ok, freeze]
    rfl
  refine ⟨.slice (some ⟨w.heap.size, 0, none⟩) s.length cap, w2, fun A ha dst pos after g => ?_, ⟨by simp [bytesV], .inr ⟨w.heap.size, cap, _, rfl, Nat.le_refl _, ⟨(cap, cap + 1), hb2, .inl (by show l.length ≤ cap; omega)⟩, by simpa [l] using hll, hge, hle⟩⟩, rfl, ⟨rfl, rfl, rfl, ?_, fun k hk => ?_⟩⟩
  · simp only [execOp, ha.ev hx, convert, run_underlying ht, run_underlying ht', run_underlying he, Sem.run_bind, Result.andThen_ok, hrun]
    rfl
  · simp [w2, w1, World.freeze]
  · have : w2.heap[k]? = w1.heap[k]? := by
      simp only [w2, World.freeze]
      simp [Array.getElem?_modify, Nat.ne_of_gt hk]
    rw [this]
    exact Below.heap_alloc w.drew _ k hk
theorem strOf_bytes (s : List UInt8) : strOfNums (s.map fun c => (c.toNat : Int)) = ⟨⟨s⟩⟩ := by
  have h : s.map ((fun n : Int => UInt8.ofNat n.toNat) ∘ fun c : UInt8 => (c.toNat : Int)) = s := by
    have h2 : ∀ c ∈ s, ((fun n : Int => UInt8.ofNat n.toNat) ∘ fun c : UInt8 => (c.toNat : Int)) c = id c := fun c _ => by simp
    rw [List.map_congr_left h2, List.map_id]
  simp [strOfNums, h]
theorem EX.strOf {B : Nat} {A : Option Addr} {len cap : Nat} {s : List UInt8} (ht : P.underlying t = some (.slice e)) (he : P.underlying e = some (.int .u8)) (ht' : P.underlying t' = some .string) (hx : ev σ x = some (.slice A len cap)) (h : Sl w B A (bytesV s)) (hl : s.length = len) :
    EX P n σ (.convert t t' x) ty w (str s) w := fun Ac ha dst pos after g => by
  have hr : (convert t t' (.slice A len cap)).run P w = .ok (str s) w := by
    rcases h with h | ⟨b, o, rfl, _, hc⟩
    · have hs0 : s = [] := by
        have := congrArg List.length h
        simp [bytesV] at this
        exact this
      subst hs0
      simp only [List.length_nil] at hl
      subst hl
      cases A with
      | none => exact run_convert_bytes_nil (P := P) w t e ht he 0 cap t' ht'
      | some a =>
        obtain ⟨b, o, sp⟩ := a
        rw [run_convert_bytes_string w t t' e _ 0 cap ht he ht', run_bytesToString w _ 0 cap [] (by simp [loadCells, loadCellsFrom])]
        rfl
    · have := run_convert_bytes_arg (P := P) w t e ht he b o len cap (s.map fun c => (c.toNat : Int)) (by simpa using hl) (fun i hi => by
        have hi' : i < s.length := by omega
        have := hc i (.int .u8 (s[i].toNat : Int)) (by simp [bytesV, hi'])
        rw [this]
        simp [List.getD, hi']) t' ht'
      rw [strOf_bytes] at this
      exact this
  simp only [execOp, ha.ev hx, Sem.run_bind, hr]
  rfl
end
end Go.Proofs.YtlpnoogcdnfllaaGreatDoor
namespace Go.Proofs.YtlpnoogcdnfllaaGreatDoor
open Go.RowKit
section
variable {P : Program} {R : Act → World → Prop} {ops : Array Oper} {rest : List Oper} {k : List KI} {n : Nat} {σ : Sig} {w w0 : World} {x y : Operand} {t t' e ty ty1 : TypeId} {pos pos1 : String} {after after1 : Array Edge} {gd gd1 : Option (Nat × Bool)} {d d1 : Nat}
theorem Ext.grown {row : Option Nat} {w' : World} (h : Ext w0 w) (hg : w.grownBy w' row) (hr : ∀ g, row = some g → w0.heap.size ≤ g) : Ext w0 w' := Below.grown h hg h.size hr
theorem OW.appendX {z : Value} {s bs : Nat} (hg : wantS ops σ gd = some true) (hd : Nat.blt d n = true) (ht : P.underlying t = some (.slice e)) (hi : TI P e z s bs) (hzs : z.cells.size = s) (hs0 : 0 < s)
    {v xv : Value} {m l : Nat} {xs news : List Value} (hx : ev σ x = some v) (hy : ev σ y = some xv) (hext : Ext w0 w) (hown : Own w w0.heap.size e s v l xs) (hsrc : Src P s t' xv m news w)
    (h63 : l + m ≤ maxLen) (hbytes : (l + m) * bs ≤ 140737488355328)
    (h : ∀ v' w', Own w' w0.heap.size e s v' (l + m) (xs ++ news) → Ext w0 w' → w.grownBy w' v.ownBlock → (v'.ownBlock = v.ownBlock ∨ v'.ownBlock = some w.heap.size) → OW P R ops rest k n ((d, v') :: σ) w') :
    OW P R ops (⟨some d, .call { callee := .builtin .append, args := #[x, y], argTypes := #[t, t'] }, ty, pos, after, gd⟩ :: rest) k n σ w :=
  OW.append w0.heap.size hg hd ht hi hzs hs0 hx hy hown hsrc h63 hbytes hext.size fun v' w' h1 h2 h3 => h v' w' h1 (hext.grown h2 fun g hg => (hown.lt g hg).1) h2 h3
theorem OW.push {z : Value} {bs : Nat} (hg1 : wantS ops σ gd1 = some true) (hd1 : Nat.blt d1 n = true) (hg : ∀ u, wantS ops ((d1, u) :: σ) gd = some true) (hd : Nat.blt d n = true) (ht : P.underlying t = some (.slice e)) (hi : TI P e z 1 bs) (hz1 : z.oneCell' = true)
    {v u : Value} {l : Nat} {xs : List Value} (hy : ev σ y = some u) (hx : ∀ q, ev ((d1, q) :: σ) x = some v) (hu : u.oneCell' = true) (hext : Ext w0 w) (hown : Own w w0.heap.size e 1 v l xs)
    (h63 : l + 1 ≤ maxLen) (hbytes : (l + 1) * bs ≤ 140737488355328)
    (h : ∀ q v' w', Own w' w0.heap.size e 1 v' (l + 1) (xs ++ [u]) → Ext w0 w' → w.grownBy w' v.ownBlock → (v'.ownBlock = v.ownBlock ∨ ∃ g, v'.ownBlock = some g ∧ w.heap.size ≤ g) → OW P R ops rest k n ((d, v') :: (d1, q) :: σ) w') :
    OW P R ops (⟨some d1, .buildSlice t 1 #[(0, y)], ty1, pos1, after1, gd1⟩ :: ⟨some d, .call { callee := .builtin .append, args := #[x, .tmp d1], argTypes := #[t, t] }, ty, pos, after, gd⟩ :: rest) k n σ w := by
  refine OW.val hg1 hd1 (EX.buildSlice (vs := [u]) 1 ht hi hz1 (by simp [evs, hy]) rfl rfl (by simp [hu]) (by decide)) ?_
  have hx1 : Ext w0 (w.alloc (.cells [u].toArray e)) := hext.trans (Ext.alloc w _)
  have hb := Bk.new w e [u]
  refine OW.appendX (hg _) hd ht hi (by rw [oneCell_cells hz1]; rfl) (by decide) (hx _) (lk_cons_same _ _ _) hx1 (hown.alloc _) (Src.of_sl ht (Sl.of_bk hb hb.lt) rfl (by simpa using hu) (by decide)) h63 hbytes ?_
  intro v' w' h1 h2 h3 h4
  refine h _ v' w' h1 h2 ⟨h3.os, h3.tape, h3.output, by have := h3.size; simp at this; omega, fun j hj hne => ?_⟩ ?_
  · rw [h3.block j (by simp; omega) hne]
    exact Below.heap_alloc w _ j hj
  · rcases h4 with h4 | h4
    · exact .inl h4
    · exact .inr ⟨_, h4, by simp⟩
theorem zeroCells_one {z : Value} (hz1 : z.oneCell' = true) (m : Nat) : (Builtin.zeroCells z.cells m).toList = List.replicate m z := by
  rw [oneCell_cells hz1]
  apply List.ext_getElem?
  intro j
  by_cases hj : j < m
  · simp [Builtin.zeroCells, hj, Nat.mod_one]
  · simp [Builtin.zeroCells, hj]
theorem run_append_zeros (B : Nat) (tx : TypeId) {kx : IntKind} (hk : P.underlying tx = some (.int kx)) {z : Value} {bs : Nat} (ht : P.underlying t = some (.slice e)) (hi : TI P e z 1 bs) (hz1 : z.oneCell' = true)
    {v : Value} {l : Nat} {xs : List Value} (hown : Own w B e 1 v l xs) {m : Nat} {ki : IntKind} (h63 : l + m ≤ maxLen) (hbytes : (l + m) * bs ≤ 140737488355328) (hB : B ≤ w.heap.size) (hm : 0 < m) :
    ∃ v' w', (Builtin.append_ #[t, tx] ty #[v, .int ki (m : Int)]).run P w = .ok v' w' ∧ Own w' B e 1 v' (l + m) (xs ++ List.replicate m z) ∧ w.grownBy w' v.ownBlock ∧ (v'.ownBlock = v.ownBlock ∨ v'.ownBlock = some w.heap.size) := by
  obtain ⟨i, hq, hz, hs, rfl⟩ := hi.at
  have hzc := zeroCells_one hz1
  have hw : IntKind.i64.wrap (m : Int) = m := by rw [IntKind.wrap_i64]; simp only [maxLen] at h63; omega
  have hn0 : ¬ ((m : Int) < 0) := by omega
  have hnb : ¬ ((m : Int) * (i.bytes : Int) > 2 ^ 48) := by
    have h1 : m * i.bytes ≤ (l + m) * i.bytes := Nat.mul_le_mul_right _ (by omega)
    have h2 : ((m * i.bytes : Nat) : Int) ≤ 140737488355328 := by omega
    rw [Int.natCast_mul] at h2
    omega
  have hm0 : ¬ (m * 1 = 0) := by omega
  have hlen : (xs ++ List.replicate m z).length = (l + m) * 1 := by rw [List.length_append, hown.1, List.length_replicate, Nat.add_mul, Nat.mul_one m]
  have grow : ∀ (A : Option Addr) (cap : Nat), v = .slice A l cap → cap < l + m → (∀ w1 : World, (∀ a, w1.cell? a = w.cell? a) → (Builtin.firstCells 1 l (.slice A l cap)).run P w1 = .ok xs.toArray w1) →
      ∃ v' w', (Builtin.append_ #[t, tx] ty #[v, .int ki (m : Int)]).run P w = .ok v' w' ∧ Own w' B e 1 v' (l + m) (xs ++ List.replicate m z) ∧ w.grownBy w' v.ownBlock ∧ (v'.ownBlock = v.ownBlock ∨ v'.ownBlock = some w.heap.size) := by
    intro A cap hv hc hold
    subst hv
    have hge := grownCap_ge w (l + m) cap e
    have hcm : grownCap w (l + m) cap e ≤ maxLen := grownCap_le_maxLen w (l + m) cap e h63
    have hfits := growslice_fits (bytes := i.bytes) (need := l + m) (old := cap) (by omega) hbytes
    have hmb : m * i.bytes ≤ (l + m) * i.bytes := Nat.mul_le_mul_right _ (by omega)
    have hr := Lib.run_append_grow_zeros (P := P) w t tx ty e i z ki kx ht hk hq hz A l cap xs (by rw [hs]; exact hold w.drew fun _ => rfl) m hm (by omega) hc (by simp only [maxLen] at h63; omega) (by omega) hfits
    refine ⟨_, _, hr, ⟨hlen, .inr ⟨w.heap.size, _, (Builtin.zeroCells z.cells (grownCap w (l + m) cap e - (l + m))).toList, rfl, hB, ?_, ?_, hge, hcm⟩⟩, ⟨rfl, rfl, rfl, by simp, fun k hk _ => Below.heap_alloc w.drew _ k hk⟩, .inr rfl⟩
    · have := Bk.new w.drew e ((xs ++ List.replicate m z) ++ (Builtin.zeroCells z.cells (grownCap w (l + m) cap e - (l + m))).toList)
      rw [show ((xs ++ List.replicate m z) ++ (Builtin.zeroCells z.cells (grownCap w (l + m) cap e - (l + m))).toList).toArray = xs.toArray ++ Builtin.zeroCells z.cells m ++ Builtin.zeroCells z.cells (grownCap w (l + m) cap e - (l + m)) by
        apply Array.ext'; simp [← hzc]] at this
      exact this
    · rw [hlen, hzc, List.length_replicate]
      omega
  rcases hown.2 with ⟨rfl, rfl⟩ | ⟨g, cap, rest, rfl, hb, hg, hl, hn, hcm⟩
  · have hx : xs = [] := List.eq_nil_of_length_eq_zero (by simpa using hown.1)
    subst hx
    exact grow none 0 rfl (by omega) (fun w1 _ => by simp [Builtin.firstCells])
  · by_cases hroom : l + m ≤ cap
    · have hfit : l + (List.replicate m z).length ≤ (xs ++ rest).length := by
        rw [List.length_append, hl, List.length_replicate]; omega
      obtain ⟨w', hst, hb', hg'⟩ := run_storeCells_bk P w g l e (List.replicate m z) 0 (xs ++ rest) w hg (by simpa using hfit) (fun v hv => by rw [(List.mem_replicate.1 hv).2]; exact hz1)
      refine ⟨.slice (some ⟨g, 0, none⟩) (l + m) cap, w', ?_, ⟨hlen, .inr ⟨g, cap, rest.drop m, rfl, hb, ?_, ?_, hroom, hcm⟩⟩, by simpa [Value.ownBlock] using hg', .inl rfl⟩
      · rw [← hzc] at hst
        have h63' : (m : Int) ≤ 9223372036854775807 := by simp only [maxLen] at h63; omega
        have hne : m ≠ 0 := by omega
        simp [Builtin.append_, run_underlying ht, run_underlying hk, sizeOf, typeInfo, zeroValue, hq, hz, hs, asInt, asIntOf, hw, hn0, hne, hroom, Addr.add_lit, hst, show ¬ (281474976710656 < (m : Int) * (i.bytes : Int)) by omega]
      · have hxl : xs.length = l := by have := hown.1; omega
        have e1 : (xs ++ rest).take (l + 0) = xs := by rw [Nat.add_zero, ← hxl]; exact List.take_left
        have e2 : (xs ++ rest).drop (l + 0 + (List.replicate m z).length) = rest.drop m := by
          rw [Nat.add_zero, List.length_replicate, ← hxl, ← List.drop_drop, List.drop_left]
        rw [e1, e2] at hb'
        exact hb'
      · rw [List.length_drop, hlen]
        have := hown.1
        omega
    · refine grow _ cap rfl (by omega) (fun w1 hw1 => ?_)
      have : (loadCells ⟨g, 0, none⟩ (l * 1)).run P w1 = .ok xs.toArray w1 := by
        have := run_loadCells_list (P := P) w1 ⟨g, 0, none⟩ xs (fun j u hj => by
          have hadd : (⟨g, 0, none⟩ : Addr).add j = ⟨g, j, none⟩ := by unfold Addr.add; split <;> simp_all
          rw [hadd, hw1]
          refine hg.cell_of ?_
          rw [List.getElem?_append_left]
          · exact hj
          · rcases Nat.lt_or_ge j xs.length with h' | h'
            · exact h'
            · simp [List.getElem?_eq_none h'] at hj)
        rwa [hown.1] at this
      simpa [Builtin.firstCells] using this
theorem OW.storeA {z : Value} {s bs b o : Nat} {vs l : List Value} {T : TypeId} (hg : wantS ops σ gd = some true) (h : TI P t z s bs) (hx : ev σ x = some (.pointer (some ⟨b, o, none⟩))) (hy : ev σ y = some (.agg vs.toArray)) (hs : vs.length = s) (h1 : vs.all (·.oneCell') = true) (hb : Bk w b T l) (hl : o + vs.length ≤ l.length)
    (hn : ∀ w', Bk w' b T (l.take o ++ vs ++ l.drop (o + vs.length)) → w.grownBy w' (some b) → OW P R ops rest k n σ w') : OW P R ops (⟨none, .store t x y, ty, pos, after, gd⟩ :: rest) k n σ w := by
  obtain ⟨w', he, h2, h3⟩ := EU.storeA (P := P) (n := n) (ty := ty) h hx hy hs h1 hb hl
  exact OW.eff hg he (hn w' h2 h3)
theorem OW.storeW {z : Value} {s bs b : Nat} {vs l : List Value} {T : TypeId} (hg : wantS ops σ gd = some true) (h : TI P t z s bs) (hx : ev σ x = some (.pointer (some ⟨b, 0, none⟩))) (hy : ev σ y = some (.agg vs.toArray)) (hs : vs.length = s) (h1 : vs.all (·.oneCell') = true) (hb : Bk w b T l) (hl : l.length = s)
    (hn : ∀ w', Bk w' b T vs → w.grownBy w' (some b) → OW P R ops rest k n σ w') : OW P R ops (⟨none, .store t x y, ty, pos, after, gd⟩ :: rest) k n σ w :=
  OW.storeA hg h hx hy hs h1 hb (by omega) fun w' h2 h3 => hn w' (by
    have e : l.take 0 ++ vs ++ l.drop (0 + vs.length) = vs := by rw [List.drop_of_length_le (by omega)]; simp
    rwa [e] at h2) h3
theorem retA {fn : Func} {Q : Value → World → Prop} {p : Nat} {z : Value} {s bs g : Nat} {l : List Value} {T : TypeId} {dd : TypeDesc} (hs : fn.results = #[.cell p t]) (hp : lk σ p = some (.pointer (some ⟨g, 0, none⟩))) (hu : P.underlying t = some dd) (hd : flat dd = false) (h : TI P t z s bs) (hb : Bk w g T l) (hl : l.length = s) (hq : Q (.agg l.toArray) w) :
    ∀ a, Fr n σ a → bodyPost P fn (fun e w' => ∃ v, e = .returned v ∧ Q v w') .ret a w :=
  ret_of (fun a ha => by
    have hp' := ha.val p _ hp
    have hld := run_loadCells_list (P := P) w ⟨g, 0, none⟩ l (fun j u hj => by
      have hadd : (⟨g, 0, none⟩ : Addr).add j = ⟨g, j, none⟩ := by unfold Addr.add; split <;> simp_all
      rw [hadd]; exact hb.cell_of hj)
    rw [hl] at hld
    simp [results, hs, hp', asAddr, loadVar, run_isAgg hu, hd, run_sizeOf h, hld, Sem.run_bind]) hq
theorem run_sliceBoundI {kk : IntKind} {i : Nat} (y : Nat) (c : BoundsCode) (h : i ≤ y) : (Instr.sliceBound (.int kk (i : Int)) y c).run P w = .ok i w := run_sliceBound y c h
theorem Sl.cut {B : Nat} {A : Option Addr} {xs : List Value} (h : Sl w B A xs) {i c : Nat} (hc : xs.length ≤ c) : Sl w B (if c = i then A else A.map (·.add (i * 1))) (xs.drop i) := by
  rcases h with h | ⟨b, o, rfl, hb, hcell⟩
  · subst h; left; simp
  · by_cases hi : xs.length ≤ i
    · left; exact List.drop_of_length_le hi
    · rw [if_neg (by omega)]
      refine .inr ⟨b, o + i, by simp [Addr.add_lit, Nat.mul_one], hb, fun j u hu => ?_⟩
      rw [List.getElem?_drop] at hu
      rw [Nat.add_assoc]
      exact hcell (i + j) u hu
theorem OW.bytesOf {s : List UInt8} (hg : wantS ops σ gd = some true) (hd : Nat.blt d n = true) (ht : P.underlying t = some .string) (ht' : P.underlying t' = some (.slice e)) (he : P.underlying e = some (.int .u8)) (hx : ev σ x = some (str s)) (hs : s.length ≤ 9223372036854775807)
    (hn : ∀ cap rs w', Bk w' w.heap.size e (bytesV s ++ rs) → s.length ≤ cap → cap ≤ maxLen → s.length + rs.length = cap → Ext w w' → OW P R ops rest k n ((d, .slice (some ⟨w.heap.size, 0, none⟩) s.length cap) :: σ) w') :
    OW P R ops (⟨some d, .convert t t' x, ty, pos, after, gd⟩ :: rest) k n σ w := by
  obtain ⟨v, w', h1, h2, h3, h4⟩ := EX.bytesOf (P := P) (n := n) (ty := ty) (w := w) ht ht' he hx hs
  rcases h2.2 with ⟨rfl, _⟩ | ⟨g, cap, rs, rfl, _, hb, hl, hc, hm⟩
  · simp [Value.ownBlock] at h3
  · simp [Value.ownBlock] at h3
    subst h3
    exact OW.val hg hd h1 (hn cap rs w' hb hc hm (by rw [bytesV_length] at hl; omega) h4)
end
end Go.Proofs.YtlpnoogcdnfllaaGreatDoor
namespace Go.Proofs.YtlpnoogcdnfllaaGreatDoor
open Go.RowKit
structure Mo (w w' : World) (S : List Nat) : Prop where
  os : w'.os = w.os
  tape : w'.tape = w.tape
  output : w'.output = w.output
  size : w.heap.size ≤ w'.heap.size
  block : ∀ k, k < w.heap.size → k ∉ S → w'.heap[k]? = w.heap[k]?
section
variable {w w' w'' : World} {S S' : List Nat} {b B : Nat} {T : TypeId} {l : List Value}
theorem Mo.refl (w : World) (S : List Nat) : Mo w w S := ⟨rfl, rfl, rfl, Nat.le_refl _, fun _ _ _ => rfl⟩
theorem Mo.trans (h : Mo w w' S) (k : Mo w' w'' S) : Mo w w'' S :=
  ⟨k.os.trans h.os, k.tape.trans h.tape, k.output.trans h.output, Nat.le_trans h.size k.size, fun i hi hS => (k.block i (Nat.lt_of_lt_of_le hi h.size) hS).trans (h.block i hi hS)⟩
theorem Mo.mono (h : Mo w w' S) (hs : ∀ k ∈ S, k ∈ S') : Mo w w' S' := ⟨h.os, h.tape, h.output, h.size, fun i hi hS => h.block i hi fun hk => hS (hs i hk)⟩
theorem Mo.fresh (h : Mo w w' S) (hs : ∀ k ∈ S, k < w.heap.size → k ∈ S') : Mo w w' S' := ⟨h.os, h.tape, h.output, h.size, fun i hi hS => h.block i hi fun hk => hS (hs i hk hi)⟩
theorem Mo.of_ext (h : Ext w w') (S : List Nat) : Mo w w' S := ⟨h.os, h.tape, h.output, h.size, fun i hi _ => h.block i hi⟩
theorem Mo.ext (h : Mo w w' []) : Ext w w' := ⟨h.os, h.tape, h.output, h.size, fun i hi => h.block i hi (by simp)⟩
theorem Mo.set (w : World) (b i : Nat) (u : Value) : Mo w (w.setCell ⟨b, i, none⟩ u) [b] := ⟨rfl, rfl, rfl, by simp, fun k _ hk => Below.heap_setCell w _ u k (fun e => hk (by simp [e]))⟩
theorem Mo.grown {row : Option Nat} (h : w.grownBy w' row) (hr : ∀ k, row = some k → k ∈ S) : Mo w w' S := ⟨h.os, h.tape, h.output, h.size, fun i hi hS => h.block i hi (fun e => hS (hr i e.symm))⟩
theorem below_mo {a : World} (h : Below B a w) (hm : Mo w w' S) (hB : B ≤ w.heap.size) (hs : ∀ k ∈ S, B ≤ k) : Below B a w' :=
  ⟨hm.os.trans h.os, hm.tape.trans h.tape, hm.output.trans h.output, Nat.le_trans h.size hm.size, fun i hi => (hm.block i (by omega) (fun hk => by have := hs i hk; omega)).trans (h.block i hi)⟩
theorem Bk.mo (h : Bk w b T l) (hm : Mo w w' S) (hb : b ∉ S) : Bk w' b T l := h.of_block (hm.block b h.lt hb)
theorem Own.mo {s n : Nat} {v : Value} {xs : List Value} (h : Own w B T s v n xs) (hm : Mo w w' S) (hb : ∀ k, v.ownBlock = some k → k ∉ S) : Own w' B T s v n xs :=
  h.of_blocks fun k hk => hm.block k (h.lt k hk).2 (hb k hk)
theorem Sl.mo {A : Option Addr} {xs : List Value} (h : Sl w B A xs) (hm : Mo w w' S) (hB : B ≤ w.heap.size) (hb : ∀ k ∈ S, B ≤ k) : Sl w' B A xs := by
  rcases h with h | ⟨b, o, h1, h2, h3⟩
  · exact .inl h
  · refine .inr ⟨b, o, h1, h2, fun j u hu => ?_⟩
    have hc := h3 j u hu
    have hk := hm.block b (by omega) (fun hk => by have := hb b hk; omega)
    unfold World.cell? at hc ⊢
    rwa [hk]
end
section
variable {P : Program} {R : Act → World → Prop} {ops : Array Oper} {rest : List Oper} {k : List KI} {n : Nat} {σ : Sig} {w : World} {x y t : Operand} {T T' e ty : TypeId} {pos : String} {after : Array Edge} {gd : Option (Nat × Bool)} {d : Nat} {v z : Value} {s bs : Nat} {l : List Value}
theorem EX.box1 (hx : ev σ x = some v) (h1 : v.oneCell' = true) : EX P n σ (.box T x) ty w (.pointer (some ⟨w.heap.size, 0, none⟩)) (w.alloc (.cells [v].toArray T)) :=
  EX.box hx (by rw [oneCell_cells h1])
theorem OW.boxB (hg : wantS ops σ gd = some true) (hd : Nat.blt d n = true) (hx : ev σ x = some v) (h1 : v.oneCell' = true)
    (h : ∀ b w', w.heap.size ≤ b → Bk w' b T [v] → Ext w w' → OW P R ops rest k n ((d, .pointer (some ⟨b, 0, none⟩)) :: σ) w') :
    OW P R ops (⟨some d, .box T x, ty, pos, after, gd⟩ :: rest) k n σ w :=
  OW.val hg hd (EX.box1 hx h1) (h _ _ (Nat.le_refl _) (Bk.new w T [v]) (Ext.alloc w _))
theorem OW.allocB (hg : wantS ops σ gd = some true) (hd : Nat.blt d n = true) (hi : TI P T z s bs) (hl : z.cells.toList = l)
    (h : ∀ b w', w.heap.size ≤ b → Bk w' b T l → Ext w w' → OW P R ops rest k n ((d, .pointer (some ⟨b, 0, none⟩)) :: σ) w') :
    OW P R ops (⟨some d, .alloc T, ty, pos, after, gd⟩ :: rest) k n σ w :=
  OW.val hg hd (EX.alloc hi hl) (h _ _ (Nat.le_refl _) (Bk.new w T l) (Ext.alloc w _))
theorem OW.storeB {b i : Nat} (hg : wantS ops σ gd = some true) (hi : TI P T z 1 bs) (hx : ev σ x = some (.pointer (some ⟨b, i, none⟩))) (hy : ev σ y = some v) (h1 : v.oneCell' = true) (hb : Bk w b T' l) (hlt : i < l.length)
    (h : ∀ w', Bk w' b T' (l.set i v) → Mo w w' [b] → OW P R ops rest k n σ w') :
    OW P R ops (⟨none, .store T x y, ty, pos, after, gd⟩ :: rest) k n σ w :=
  OW.eff hg (EU.storeBk hi hx hy h1 hb hlt) (h _ (hb.set i v) (Mo.set w b i v))
theorem OW.makeB {len : Nat} {kl kc : IntKind} (hg : wantS ops σ gd = some true) (hd : Nat.blt d n = true) (ht : P.underlying T = some (.slice e)) (hi : TI P e z 1 bs) (hz1 : z.oneCell' = true) (hx : ev σ x = some (.int kl (len : Int))) (hy : ev σ y = some (.int kc (len : Int)))
    (hb : bs * len ≤ 281474976710656) (h63 : len ≤ 9223372036854775807)
    (h : ∀ b w', w.heap.size ≤ b → Bk w' b e (List.replicate len z) → Ext w w' → OW P R ops rest k n ((d, .slice (some ⟨b, 0, none⟩) len len) :: σ) w') :
    OW P R ops (⟨some d, .makeSlice T x y, ty, pos, after, gd⟩ :: rest) k n σ w :=
  OW.val hg hd (EX.makeSlice ht hi hz1 hx hy hb h63) (h _ _ (Nat.le_refl _) (Bk.new w e _) (Ext.alloc w _))
theorem OW.buildB {parts : Array (Nat × Operand)} {vs : List Value} (len : Nat) (hg : wantS ops σ gd = some true) (hd : Nat.blt d n = true) (ht : P.underlying T = some (.slice e)) (hi : TI P e z 1 bs) (hz1 : z.oneCell' = true)
    (hv : evs σ (parts.toList.map (·.2)) = some vs) (hp : parts.toList.map (·.1) = List.range' 0 parts.toList.length) (hl : vs.length = len) (h1 : vs.all (·.oneCell') = true) (hlen : len ≤ 16777216)
    (h : ∀ b w', w.heap.size ≤ b → Bk w' b e vs → Ext w w' → OW P R ops rest k n ((d, .slice (some ⟨b, 0, none⟩) len len) :: σ) w') :
    OW P R ops (⟨some d, .buildSlice T len parts, ty, pos, after, gd⟩ :: rest) k n σ w :=
  OW.val hg hd (EX.buildSlice len ht hi hz1 hv hp hl h1 hlen) (h _ _ (Nat.le_refl _) (Bk.new w e vs) (Ext.alloc w _))
theorem EX.makeFunc {f : FuncId} {fs cs : List Operand} {fv cv : List Value} (hf : evs σ fs = some fv) (hc : evs σ cs = some cv) :
    EX P n σ (.makeFunc (.func f) fs.toArray cs.toArray) ty w (.func (.func f) fv.toArray cv.toArray) w := fun A ha dst pos after g => by
  have e1 : fs.toArray.map A.eval = fv.toArray := by simp [ha.evs hf]
  have e2 : cs.toArray.map A.eval = cv.toArray := by simp [ha.evs hc]
  simp only [execOp, e1, e2]
  rfl
theorem EC.val {f : FuncId} {xs : List Operand} {vs fv cv args : List Value} {ats : Array TypeId} {fn : Func} (hf : P.funcs[f]? = some fn) (hn : (!(fn.name == "runtime.NumGoroutine") && fn.body.isSome) = true)
    (ht : ev σ t = some (.func (.func f) fv.toArray cv.toArray)) (hx : evs σ xs = some vs) (he : fv ++ vs ++ cv = args) :
    EC P n σ (.call { callee := .value t, args := xs.toArray, argTypes := ats }) ty w f args.toArray := fun A ha dst pos after g => by
  subst he
  have e1 : xs.toArray.map A.eval = vs.toArray := by simp [ha.evs hx]
  simp only [execOp, resolve, Deferred.ofValue, ha.ev ht, Sem.run_bind, Sem.run_pure, Result.andThen_ok, invoke, e1]
  have := run_callFunc (P := P) (w := w) hf hn (fv ++ vs ++ cv).toArray
  simpa using this
theorem OW.callV {f : FuncId} {xs : List Operand} {ats : Array TypeId} {vs fv cv args : List Value} {Q : Value → World → Prop}
    (hg : wantS ops σ gd = some true) (hd : Nat.blt d n = true) (ht : ev σ t = some (.func (.func f) fv.toArray cv.toArray)) (hx : evs σ xs = some vs) (he : fv ++ vs ++ cv = args) (hc : Ret P f args w Q)
    (h : ∀ v w', Q v w' → OW P R ops rest k n ((d, v) :: σ) w') :
    OW P R ops (⟨some d, .call { callee := .value t, args := xs.toArray, argTypes := ats }, ty, pos, after, gd⟩ :: rest) k n σ w := by
  obtain ⟨⟨fn, h1, h2⟩, _⟩ := id hc
  exact OW.callE hg hd (EC.val h1 h2 ht hx he) hc h
end
theorem Ret.of_calls {P : Program} {f : FuncId} {fn : Func} {args : List Value} {w : World} {v : Value} {W : World → Prop} (hf : P.funcs[f]? = some fn) (hn : (!(fn.name == "runtime.NumGoroutine") && fn.body.isSome) = true)
    (h : Calls P f args.toArray w fun e w' => e = .returned v ∧ W w') : Ret P f args w fun v' w' => v' = v ∧ W w' :=
  ⟨⟨fn, hf, hn⟩, h.mono fun e w' ⟨he, hw⟩ => ⟨v, he, rfl, hw⟩⟩
end Go.Proofs.YtlpnoogcdnfllaaGreatDoor
namespace Go.Proofs.YtlpnoogcdnfllaaGreatDoor.Pth
abbrev Txts := List (List UInt8)
def parts : List UInt8 → Txts
  | [] => [[]]
  | c :: s => if c = 47 then [] :: parts s else match parts s with
    | p :: r => (c :: p) :: r
    | [] => [[c]]
theorem parts_cons (c : UInt8) (s : List UInt8) : parts (c :: s) = if c = 47 then [] :: parts s else match parts s with
    | p :: r => (c :: p) :: r
    | [] => [[c]] := rfl
theorem parts_ne : ∀ s, parts s ≠ []
  | [] => by simp [parts]
  | c :: s => by
    unfold parts
    split
    · simp
    · split <;> simp
theorem parts_slash : ∀ a b : List UInt8, (∀ c ∈ a, c ≠ 47) → parts (a ++ 47 :: b) = a :: parts b
  | [], b, _ => by simp [parts]
  | c :: a, b, h => by
    have hc : c ≠ 47 := h c (by simp)
    rw [List.cons_append, parts_cons, if_neg hc, parts_slash a b (fun x hx => h x (by simp [hx]))]
theorem parts_whole : ∀ a : List UInt8, (∀ c ∈ a, c ≠ 47) → parts a = [a]
  | [], _ => rfl
  | c :: a, h => by
    have hc : c ≠ 47 := h c (by simp)
    rw [parts_cons, if_neg hc, parts_whole a (fun x hx => h x (by simp [hx]))]
def wt : Txts → Nat
  | [] => 0
  | x :: l => x.length + 1 + wt l
theorem wt_parts : ∀ s, wt (parts s) = s.length + 1
  | [] => rfl
  | c :: s => by
    have ih := wt_parts s
    unfold parts
    split
    · simp [wt, ih]; omega
    · split
      · rename_i p r e
        rw [e] at ih
        simp [wt] at ih ⊢
        omega
      · rename_i e
        exact absurd e (parts_ne s)
theorem wt_len : ∀ l : Txts, l.length ≤ wt l
  | [] => by simp [wt]
  | x :: l => by have := wt_len l; simp [wt]; omega
theorem wt_append : ∀ a b : Txts, wt (a ++ b) = wt a + wt b
  | [], b => by simp [wt]
  | x :: a, b => by simp [wt, wt_append a b]; omega
theorem wt_filter (q : List UInt8 → Bool) : ∀ l : Txts, wt (l.filter q) ≤ wt l
  | [] => by simp [wt]
  | x :: l => by
    have := wt_filter q l
    rw [List.filter_cons]
    split <;> simp [wt] <;> omega
def joinS : Txts → List UInt8
  | [] => []
  | [x] => x
  | x :: y :: l => x ++ 47 :: joinS (y :: l)
theorem joinS_eq : ∀ l : Txts, Go.Lib.join l [47] = joinS l
  | [] => rfl
  | [x] => by simp [Go.Lib.join, List.intercalate, joinS]
  | x :: y :: l => by
    have ih := joinS_eq (y :: l)
    simp only [Go.Lib.join, List.intercalate, joinS] at ih ⊢
    rw [← ih]
    simp [List.intersperse]
theorem joinS_wt : ∀ l : Txts, (joinS l).length ≤ wt l
  | [] => by simp [joinS]
  | [x] => by simp [joinS, wt]
  | x :: y :: l => by
    have := joinS_wt (y :: l)
    simp [joinS, wt] at this ⊢
    omega
def keepB (x : List UInt8) : Bool := decide (x ≠ [] ∧ x ≠ [46])
def kept (l : Txts) : Txts := l.filter keepB
theorem kept_snoc (l : Txts) (x : List UInt8) : kept (l ++ [x]) = if keepB x = true then kept l ++ [x] else kept l := by
  unfold kept
  rw [List.filter_append, List.filter_cons]
  split <;> simp_all
def dd : List UInt8 := [46, 46]
def fits (s : List UInt8) : Prop := ∀ c ∈ s, 32 ≤ c.toNat ∧ c.toNat ≤ 126
instance (s : List UInt8) : Decidable (fits s) := by unfold fits; infer_instance
def cleanP (s : List UInt8) : List UInt8 × Nat :=
  if fits s ∧ dd ∉ parts s ∧ joinS (kept (parts s)) ≠ [] ∧ (joinS (kept (parts s))).length ≤ 120 then (joinS (kept (parts s)), 0) else ([], 140)
def checkP (s : List UInt8) : Nat := if cleanP s = (s, 0) then 0 else 140
end Go.Proofs.YtlpnoogcdnfllaaGreatDoor.Pth
namespace Go.Proofs.YtlpnoogcdnfllaaGreatDoor.Rec
open Go.Proofs.YtlpnoogcdnfllaaGreatDoor
def be : Nat → Nat → List UInt8
  | 0, _ => []
  | w + 1, n => be w (n / 256) ++ [UInt8.ofNat (n % 256)]
theorem be_length : ∀ w n, (be w n).length = w
  | 0, _ => rfl
  | w + 1, n => by simp [be, be_length w]
def nb (s : List UInt8) : Nat := s.foldl (fun v c => v * 256 + c.toNat) 0
theorem nb_snoc (s : List UInt8) (c : UInt8) : nb (s ++ [c]) = nb s * 256 + c.toNat := by simp [nb]
theorem nb_lt : ∀ (k : Nat) (s : List UInt8), s.length = k → nb s < 256 ^ k
  | 0, s, h => by rw [List.eq_nil_of_length_eq_zero h]; decide
  | k + 1, s, h => by
    have hne : s ≠ [] := by intro e; subst e; simp at h
    rw [← List.dropLast_concat_getLast hne, nb_snoc]
    have ih := nb_lt k s.dropLast (by simp [h])
    have hc := (s.getLast hne).toNat_lt
    rw [Nat.pow_succ]
    omega
theorem nb_be : ∀ w n, n < 256 ^ w → nb (be w n) = n
  | 0, n, h => by simp at h; subst h; rfl
  | w + 1, n, h => by
    simp only [be, nb_snoc]
    rw [nb_be w (n / 256) (by rw [Nat.pow_succ] at h; omega)]
    have : (UInt8.ofNat (n % 256)).toNat = n % 256 := by simp
    rw [this]
    omega
def body (kind gen index : Nat) (data : List UInt8) : List UInt8 := [75, 73, 83, 84] ++ [UInt8.ofNat kind] ++ be 8 gen ++ be 4 index ++ be 2 data.length ++ (data ++ List.replicate (489 - data.length) 0)
theorem body_length (kind gen index : Nat) (data : List UInt8) (h : data.length ≤ 486) : (body kind gen index data).length = 508 := by
  simp [body, be_length]; omega
def text (kind gen index : Nat) (data : List UInt8) : List UInt8 := body kind gen index data ++ be 4 (cieee (body kind gen index data))
theorem text_length (kind gen index : Nat) (data : List UInt8) (h : data.length ≤ 486) : (text kind gen index data).length = 512 := by
  unfold text; rw [List.length_append, body_length _ _ _ _ h, be_length]
def bad (kind : Nat) (gen index : Int) (data : List UInt8) : Prop := kind = 0 ∨ gen < 0 ∨ 4611686018427387904 < gen ∨ index < 0 ∨ 2147483647 < index ∨ 486 < data.length
instance (kind : Nat) (gen index : Int) (data : List UInt8) : Decidable (bad kind gen index data) := by unfold bad; infer_instance
def encodeR (kind : Nat) (gen index : Int) (data : List UInt8) : List UInt8 × Nat := if bad kind gen index data then ([], 200) else (text kind gen.toNat index.toNat data, 0)
structure R where
  kind : Nat
  gen : Int
  index : Int
  data : List UInt8
  deriving DecidableEq
def R0 : R := ⟨0, 0, 0, []⟩
def numI (s : List UInt8) : Int := if nb s < 9223372036854775808 then nb s else (nb s : Int) - 18446744073709551616
def decR (s : List UInt8) : R := ⟨(s.getD 4 0).toNat, numI ((s.drop 5).take 8), numI ((s.drop 13).take 4), (s.drop 19).take (nb ((s.drop 17).take 2))⟩
def decodeR (s : List UInt8) : R × Nat :=
  if s.length = 512 ∧ nb ((s.drop 17).take 2) ≤ 486 ∧ encodeR (decR s).kind (decR s).gen (decR s).index (decR s).data = (s, 0) then (decR s, 0) else (R0, 200)
end Go.Proofs.YtlpnoogcdnfllaaGreatDoor.Rec
namespace Go.Proofs.YtlpnoogcdnfllaaGreatDoor
theorem ti3 : TI Tryz.prog 3 (.int .i64 0) 1 8 := by unfold TI; kernel_rfl
theorem ti4 : TI Tryz.prog 4 (.bool false) 1 1 := by unfold TI; kernel_rfl
theorem ti5 : TI Tryz.prog 5 (.int .u8 0) 1 1 := by unfold TI; kernel_rfl
theorem ti9 : TI Tryz.prog 9 (str []) 1 16 := by unfold TI; kernel_rfl
theorem ti23 : TI Tryz.prog 23 (.slice none 0 0) 1 24 := by unfold TI; kernel_rfl
theorem ti25 : TI Tryz.prog 25 (.int .u32 0) 1 4 := by unfold TI; kernel_rfl
theorem ti27 : TI Tryz.prog 27 (.agg #[str [], .int .i64 0, .int .i64 0, .int .i64 0, .int .u32 0]) 5 48 := by unfold TI; kernel_rfl
theorem ti39 : TI Tryz.prog 39 (.agg #[.int .i64 0, str [], .int .i64 0, .int .i64 0, .int .i64 0, .int .u32 0]) 6 56 := by unfold TI; kernel_rfl
theorem ti54 : TI Tryz.prog 54 (.slice none 0 0) 1 24 := by unfold TI; kernel_rfl
theorem ti59 : TI Tryz.prog 59 (.slice none 0 0) 1 24 := by unfold TI; kernel_rfl
theorem ti64 : TI Tryz.prog 64 (.agg #[.int .u8 0, .int .i64 0, .int .i64 0, str []]) 4 40 := by unfold TI; kernel_rfl
theorem ti69 : TI Tryz.prog 69 (.slice none 0 0) 1 24 := by unfold TI; kernel_rfl
theorem ti70 : TI Tryz.prog 70 (.slice none 0 0) 1 24 := by unfold TI; kernel_rfl
theorem ti72 : TI Tryz.prog 72 (.agg #[.int .i64 0, .slice none 0 0]) 2 32 := by unfold TI; kernel_rfl
theorem ti74 : TI Tryz.prog 74 (.agg #[.int .i64 0, .slice none 0 0, .slice none 0 0, .slice none 0 0, .int .i64 0, .slice none 0 0, .bool false, .int .i64 0]) 8 128 := by unfold TI; kernel_rfl
theorem ti89 : TI Tryz.prog 89 (.agg #[str []]) 1 16 := by unfold TI; kernel_rfl
theorem ti91 : TI Tryz.prog 91 (.agg #[str []]) 1 16 := by unfold TI; kernel_rfl
theorem ti124 : TI Tryz.prog 124 (.nilFunc) 1 8 := by unfold TI; kernel_rfl
end Go.Proofs.YtlpnoogcdnfllaaGreatDoor
namespace Go.Proofs.YtlpnoogcdnfllaaGreatDoor
open Go.RowKit
theorem turned_s (v n : Nat) (hv : v < 4294967296) (hn : n ≤ 64) (w : World) :
    Ret Tryz.prog 69 [.int .u32 v, .int .i64 n] w fun r w' => r = .int .u32 (trn n v 0 : Nat) ∧ w = w' := by
  refine Ret.enter Tryz.func69 rfl Tryz.ntmps69 (by kernel_rfl) rfl ?_
  refine KW.seq (KW.region ?_)
  refine OW.val rfl rfl (EX.assign rfl) ?_
  refine OW.nil ?_
  refine KW.seq (KW.region ?_)
  refine OW.val rfl rfl (EX.assign rfl) ?_
  refine OW.nil ?_
  refine KW.seq (KW.seq (KW.region ?_))
  refine OW.val rfl rfl (EX.move rfl) ?_
  refine OW.val rfl rfl (EX.move rfl) ?_
  refine OW.nil ?_
  refine KW.block ?_
  refine KW.loop3 (fun (k : Nat) (x : Nat) (o : Nat) => k ≤ n ∧ x < 4294967296 ∧ o < 4294967296 ∧ trn (n - k) x o = trn n v 0) (fun (k : Nat) (x : Nat) (o : Nat) => [(0, .int .u32 ((x : Nat) : Int)), (5, .int .u32 ((o : Nat) : Int)), (6, .int .i64 ((n : Nat) : Int)), (7, .int .i64 ((k : Nat) : Int))]) (fun (k : Nat) (x : Nat) (o : Nat) => w) (fun (k : Nat) (x : Nat) (o : Nat) => n - k) (0) (v) (0) ⟨rfl, rfl, rfl, rfl, trivial⟩ rfl ?_ ?_
  · exact ⟨by omega, hv, by omega, rfl⟩
  · rintro k x o ⟨hk, hx, ho, hr⟩
    refine KW.seq (KW.region ?_)
    refine OW.val rfl rfl (by first | exact EX.lssN rfl rfl | exact EX.lssZ rfl rfl) ?_
    refine OW.nil ?_
    refine KW.seq ?_
    refine KW.condD rfl (fun h => ?_) (fun h => ?_)
    · refine KW.skip (KW.seq (KW.block (KW.seq (KW.region ?_))))
      refine OW.val rfl rfl (EX.move rfl) ?_
      refine OW.val rfl rfl (by first | exact EX.shlN (s := 1) (p := 2) (m := 4294967295) rfl rfl (by decide) (by decide) rfl (by omega) | exact EX.shlW (s := 1) (p := 2) (m := 4294967296) rfl rfl (by decide) (by decide) rfl (by decide)) ?_
      refine OW.val rfl rfl (EX.move rfl) ?_
      refine OW.val rfl rfl (EX.maskN (b := 1) (j := 1) (p := 2) (m := 4294967295) rfl rfl (by decide) (by decide) rfl (by omega)) ?_
      refine OW.val rfl rfl (EX.orN (m := 4294967295) rfl rfl rfl (by omega)) ?_
      refine OW.val rfl rfl (EX.assign rfl) ?_
      refine OW.nil ?_
      refine KW.region ?_
      refine OW.val rfl rfl (EX.move rfl) ?_
      refine OW.val rfl rfl (EX.shrN (s := 1) (p := 2) rfl rfl (by decide) (by decide)) ?_
      refine OW.val rfl rfl (EX.assign rfl) ?_
      refine OW.nil ?_
      refine KW.leave (KW.region ?_)
      refine OW.val rfl rfl (by first | exact EX.addN (b := 1) (m := 9223372036854775807) rfl rfl rfl (by omega) | exact EX.addZ (m := 9223372036854775807) rfl rfl rfl rfl (by omega)) ?_
      refine OW.val rfl rfl (EX.move rfl) ?_
      refine OW.nil ?_
      refine KW.back3 (k + 1) (x / 2) (o * 2 % 4294967296 ||| x % 2) ⟨rfl, rfl, rfl, rfl, trivial⟩ rfl ?_ (by omega)
      exact ⟨by omega, by omega, Nat.or_lt_two_pow (n := 32) (by omega) (by omega), by
        rw [show n - k = (n - (k + 1)) + 1 by omega] at hr
        exact hr⟩
    · refine KW.exit rfl (KW.seq (KW.region ?_))
      refine OW.val rfl rfl (EX.move rfl) ?_
      refine OW.val rfl rfl (EX.assign rfl) ?_
      refine OW.nil ?_
      refine KW.ret (ret1 rfl rfl ?_)
      obtain rfl : k = n := by omega
      rw [Nat.sub_self] at hr
      exact ⟨by rw [← hr]; rfl, rfl⟩
def zt256 : List Value := List.replicate 256 (.int .u32 0)
theorem ti_tab : TI Tryz.prog 121 (.agg zt256.toArray) 256 1024 := by unfold TI zt256; kernel_rfl
def tabV : List Value := (List.range 256).map fun i => Value.int .u32 (ctab i : Nat)
theorem tabV_get (i : Nat) (h : i < 256) : tabV[i]? = some (.int .u32 (ctab i : Nat)) := by simp [tabV, h]
theorem tabV_length : tabV.length = 256 := by simp [tabV]
theorem table_s (w : World) : Ret Tryz.prog 68 [] w fun r w' => r = .agg tabV.toArray ∧ Ext w w' := by
  refine Ret.enter Tryz.func68 rfl Tryz.ntmps68 (by kernel_rfl) rfl ?_
  refine KW.seq (KW.region ?_)
  refine OW.val rfl rfl (EX.alloc (l := zt256) ti_tab rfl) ?_
  refine OW.nil ?_
  refine KW.seq (KW.region ?_)
  refine OW.val rfl rfl (EX.alloc (l := zt256) ti_tab rfl) ?_
  refine OW.nil ?_
  refine KW.seq (KW.seq (KW.region ?_))
  refine OW.val rfl rfl (EX.move rfl) ?_
  refine OW.nil ?_
  refine KW.block ?_
  refine KW.as 1 (.pointer (some ⟨w.heap.size + 1, 0, none⟩)) rfl (by simp) ?_
  refine KW.loop3 (fun (k : Nat) (l : List Value) (wr : World) => k ≤ 256 ∧ l.length = 256 ∧ (∀ j, j < k → l[j]? = some (.int .u32 (ctab j : Nat))) ∧ Bk wr (w.heap.size + 1) 121 l ∧ Bk wr w.heap.size 121 zt256 ∧ Ext w wr) (fun (k : Nat) (l : List Value) (wr : World) => [(0, .pointer (some ⟨w.heap.size, 0, none⟩)), (1, .pointer (some ⟨w.heap.size + 1, 0, none⟩)), (4, .int .i64 ((k : Nat) : Int))]) (fun (k : Nat) (l : List Value) (wr : World) => wr) (fun (k : Nat) (l : List Value) (wr : World) => 256 - k) (0) (zt256) (_) ⟨rfl, rfl, rfl, trivial⟩ rfl ?_ ?_
  · refine ⟨by omega, List.length_replicate, fun j h => absurd h (by omega), ?_, (Bk.new w _ _).alloc _, (Ext.alloc _ _).trans (Ext.alloc _ _)⟩
    have := Bk.new (w.alloc (.cells zt256.toArray 121)) 121 zt256
    simpa using this
  · rintro k l wr ⟨hk, hl, hj, hb1, hb0, hx⟩
    refine KW.seq (KW.region ?_)
    refine OW.val rfl rfl (by first | exact EX.lssN (b := 256) rfl rfl | exact EX.lssZ rfl rfl) ?_
    refine OW.nil ?_
    refine KW.seq ?_
    refine KW.condD rfl (fun h => ?_) (fun h => ?_)
    · refine KW.skip (KW.seq (KW.block (KW.seq (KW.region ?_))))
      refine OW.val rfl rfl (EX.move rfl) ?_
      refine OW.val rfl rfl (EX.assign rfl) ?_
      refine OW.nil ?_
      refine KW.seq (KW.region ?_)
      refine OW.val rfl rfl (EX.move rfl) ?_
      refine OW.val rfl rfl (by first | exact EX.convN (m := 4294967295) Tryz.underlying3 Tryz.underlying25 rfl rfl (by omega) | exact EX.convW (m := 4294967296) Tryz.underlying3 Tryz.underlying25 rfl rfl (by decide) | exact EX.convZ Tryz.underlying3 Tryz.underlying25 rfl) ?_
      refine OW.val rfl rfl (by first | exact EX.shlN (s := 24) (p := 16777216) (m := 4294967295) rfl rfl (by decide) (by decide) rfl (by omega) | exact EX.shlW (s := 24) (p := 16777216) (m := 4294967296) rfl rfl (by decide) (by decide) rfl (by decide)) ?_
      refine OW.val rfl rfl (EX.assign rfl) ?_
      refine OW.nil ?_
      refine KW.seq (KW.seq (KW.region ?_))
      refine OW.val rfl rfl (EX.move rfl) ?_
      refine OW.nil ?_
      refine KW.block ?_
      refine KW.loop2 (fun (m : Nat) (r : Nat) => m ≤ 8 ∧ r < 4294967296 ∧ r = citer m (k * 16777216)) (fun (m : Nat) (r : Nat) => [(0, .pointer (some ⟨w.heap.size, 0, none⟩)), (1, .pointer (some ⟨w.heap.size + 1, 0, none⟩)), (2, .int .i64 ((k : Nat) : Int)), (3, .int .u32 ((r : Nat) : Int)), (4, .int .i64 ((k : Nat) : Int)), (10, .int .i64 ((m : Nat) : Int))]) (fun (m : Nat) (r : Nat) => wr) (fun (m : Nat) (r : Nat) => 8 - m) (0) (k * 16777216) ⟨rfl, rfl, rfl, rfl, rfl, rfl, trivial⟩ rfl ?_ ?_
      · exact ⟨by omega, by omega, rfl⟩
      · rintro m r ⟨hm, hr, hrc⟩
        refine KW.seq (KW.region ?_)
        refine OW.val rfl rfl (by first | exact EX.lssN (b := 8) rfl rfl | exact EX.lssZ rfl rfl) ?_
        refine OW.nil ?_
        refine KW.seq ?_
        refine KW.condD rfl (fun h8 => ?_) (fun h8 => ?_)
        · refine KW.skip (KW.seq (KW.block (KW.seq (KW.region ?_))))
          refine OW.val rfl rfl (EX.move rfl) ?_
          refine OW.val rfl rfl (EX.andN (b := 2147483648) (m := 4294967295) rfl rfl rfl (by omega)) ?_
          refine OW.val rfl rfl (by first | exact EX.neqN (b := 0) rfl rfl | exact EX.neqZ rfl rfl) ?_
          refine OW.nil ?_
          refine KW.condD rfl (fun hb => ?_) (fun hb => ?_)
          · refine KW.region ?_
            refine OW.val rfl rfl (EX.move rfl) ?_
            refine OW.val rfl rfl (by first | exact EX.shlN (s := 1) (p := 2) (m := 4294967295) rfl rfl (by decide) (by decide) rfl (by omega) | exact EX.shlW (s := 1) (p := 2) (m := 4294967296) rfl rfl (by decide) (by decide) rfl (by decide)) ?_
            refine OW.val rfl rfl (EX.xorN (b := 79764919) (m := 4294967295) rfl rfl rfl (by omega)) ?_
            refine OW.val rfl rfl (EX.assign rfl) ?_
            refine OW.nil ?_
            refine KW.leave (KW.region ?_)
            refine OW.val rfl rfl (by first | exact EX.addN (b := 1) (m := 9223372036854775807) rfl rfl rfl (by omega) | exact EX.addZ (m := 9223372036854775807) rfl rfl rfl rfl (by omega)) ?_
            refine OW.val rfl rfl (EX.move rfl) ?_
            refine OW.nil ?_
            refine KW.back2 (m + 1) ((r * 2 % 4294967296) ^^^ 79764919) ⟨rfl, rfl, rfl, rfl, rfl, rfl, trivial⟩ rfl ?_ (by omega)
            refine ⟨by omega, Nat.xor_lt_two_pow (n := 32) (by omega) (by omega), ?_⟩
            rw [citer_succ, ← hrc, cstep, if_pos hb]
          · refine KW.region ?_
            refine OW.val rfl rfl (EX.move rfl) ?_
            refine OW.val rfl rfl (by first | exact EX.shlN (s := 1) (p := 2) (m := 4294967295) rfl rfl (by decide) (by decide) rfl (by omega) | exact EX.shlW (s := 1) (p := 2) (m := 4294967296) rfl rfl (by decide) (by decide) rfl (by decide)) ?_
            refine OW.val rfl rfl (EX.assign rfl) ?_
            refine OW.nil ?_
            refine KW.leave (KW.region ?_)
            refine OW.val rfl rfl (by first | exact EX.addN (b := 1) (m := 9223372036854775807) rfl rfl rfl (by omega) | exact EX.addZ (m := 9223372036854775807) rfl rfl rfl rfl (by omega)) ?_
            refine OW.val rfl rfl (EX.move rfl) ?_
            refine OW.nil ?_
            refine KW.back2 (m + 1) (r * 2 % 4294967296) ⟨rfl, rfl, rfl, rfl, rfl, rfl, trivial⟩ rfl ?_ (by omega)
            refine ⟨by omega, by omega, ?_⟩
            rw [citer_succ, ← hrc, cstep, if_neg hb]
        · refine KW.exit rfl (KW.region ?_)
          refine OW.val rfl rfl (EX.move rfl) ?_
          refine OW.val rfl rfl (EX.move rfl) ?_
          refine OW.val rfl rfl (by first | exact EX.indexAddrA0 Tryz.underlying121 ti25 rfl rfl (by omega) | exact EX.indexAddrA1 Tryz.underlying121 ti25 rfl rfl (by omega)) ?_
          refine OW.eff rfl (EU.storeBk ti25 rfl rfl rfl (hb1) (by omega)) ?_
          refine OW.nil ?_
          refine KW.leave (KW.region ?_)
          refine OW.val rfl rfl (by first | exact EX.addN (b := 1) (m := 9223372036854775807) rfl rfl rfl (by omega) | exact EX.addZ (m := 9223372036854775807) rfl rfl rfl rfl (by omega)) ?_
          refine OW.val rfl rfl (EX.move rfl) ?_
          refine OW.nil ?_
          obtain rfl : m = 8 := by omega
          refine KW.back3 (k + 1) (l.set k (.int .u32 r)) (_) ⟨rfl, rfl, rfl, trivial⟩ rfl ?_ (by omega)
          refine ⟨by omega, by simpa using hl, fun j hjk => ?_, hb1.set k _, hb0.far (by simp) _, Below.setCell hx (by simp) _⟩
          rcases Nat.lt_or_ge j k with h1 | h1
          · rw [List.getElem?_set_ne (by omega)]; exact hj j h1
          · obtain rfl : j = k := by omega
            rw [List.getElem?_set_self (by omega), hrc]; rfl
    · refine KW.exit rfl (KW.seq (KW.region ?_))
      obtain rfl : k = 256 := by omega
      have hlt : l = tabV := by
        apply List.ext_getElem?
        intro j
        rcases Nat.lt_or_ge j 256 with h1 | h1
        · rw [hj j h1, tabV_get j h1]
        · rw [List.getElem?_eq_none (by omega), List.getElem?_eq_none (by rw [tabV_length]; exact h1)]
      subst hlt
      refine OW.val rfl rfl (EX.loadBk Tryz.underlying121 rfl ti_tab rfl hb1 tabV_length) ?_
      refine OW.storeW rfl ti_tab rfl rfl tabV_length (List.all_eq_true.2 fun v hv => by obtain ⟨_, _, rfl⟩ := List.mem_map.1 hv; rfl) hb0 List.length_replicate ?_
      intro w' hb' hg
      refine OW.nil ?_
      refine KW.ret (retA rfl rfl Tryz.underlying121 rfl ti_tab hb' tabV_length ?_)
      exact ⟨rfl, hx.grown hg (fun g hg => by cases hg; omega)⟩
end Go.Proofs.YtlpnoogcdnfllaaGreatDoor
namespace Go.Proofs.YtlpnoogcdnfllaaGreatDoor
open Go.RowKit
theorem u8_lt (c : UInt8) : c.toNat < 256 := c.toNat_lt
theorem ieee_s (s : List UInt8) (hs : s.length ≤ 9223372036854775807) (w : World) :
    Ret Tryz.prog 40 [str s] w fun v w' => v = .int .u32 (cieee s : Nat) ∧ Ext w w' := by
  refine Ret.enter Tryz.func40 rfl Tryz.ntmps40 (by kernel_rfl) rfl ?_
  refine KW.seq (KW.region ?_)
  refine OW.val rfl rfl (EX.assign rfl) ?_
  refine OW.nil ?_
  refine KW.seq (KW.region ?_)
  refine OW.call rfl rfl rfl (table_s w) ?_
  rintro _ w1 ⟨rfl, hx1⟩
  refine OW.val rfl rfl (EX.alloc (l := zt256) ti_tab rfl) ?_
  have hb0 := Bk.new w1 121 zt256
  have hx2 := hx1.trans (Ext.alloc w1 (.cells zt256.toArray 121))
  refine OW.storeW rfl ti_tab rfl rfl tabV_length (List.all_eq_true.2 fun v hv => by obtain ⟨_, _, rfl⟩ := List.mem_map.1 hv; rfl) hb0 List.length_replicate ?_
  intro w2 hb hg
  refine OW.nil ?_
  refine KW.seq (KW.region ?_)
  refine OW.val rfl rfl (EX.assign rfl) ?_
  refine OW.nil ?_
  refine KW.seq (KW.seq (KW.region ?_))
  refine OW.val rfl rfl (EX.move rfl) ?_
  refine OW.val rfl rfl (EX.lenS Tryz.underlying9 rfl) ?_
  refine OW.val rfl rfl (EX.move rfl) ?_
  refine OW.nil ?_
  refine KW.block ?_
  have hx := hx2.grown hg (fun g hg => by cases hg; exact hx1.size)
  refine KW.loop2 (fun (k : Nat) (x : Nat) => k ≤ s.length ∧ x < 4294967296 ∧ x = cieeeR (s.take k)) (fun (k : Nat) (x : Nat) => [(0, str (s)), (3, .pointer (some ⟨w1.heap.size, 0, none⟩)), (4, .int .u32 ((x : Nat) : Int)), (8, .int .i64 ((s.length : Nat) : Int)), (9, .int .i64 ((k : Nat) : Int))]) (fun (k : Nat) (x : Nat) => w2) (fun (k : Nat) (x : Nat) => s.length - k) (0) (4294967295) ⟨rfl, rfl, rfl, rfl, rfl, trivial⟩ rfl ?_ ?_
  · exact ⟨by omega, by omega, rfl⟩
  · rintro k x ⟨hk, hx1, hxe⟩
    refine KW.seq (KW.region ?_)
    refine OW.val rfl rfl (by first | exact EX.lssN rfl rfl | exact EX.lssZ rfl rfl) ?_
    refine OW.nil ?_
    refine KW.seq ?_
    refine KW.condD rfl (fun h => ?_) (fun h => ?_)
    · have hc := u8_lt s[k]
      have ht8 := trn8_lt s[k].toNat
      have hxor : x / 16777216 ^^^ trn 8 s[k].toNat 0 < 256 := Nat.xor_lt_two_pow (n := 8) (by omega) ht8
      have hct := ctab_lt (x / 16777216 ^^^ trn 8 s[k].toNat 0)
      refine KW.skip (KW.seq (KW.block (KW.seq (KW.region ?_))))
      refine OW.val rfl rfl (EX.move rfl) ?_
      refine OW.val rfl rfl (EX.assign rfl) ?_
      refine OW.nil ?_
      refine KW.region ?_
      refine OW.val rfl rfl (EX.move rfl) ?_
      refine OW.val rfl rfl (by first | exact EX.shlN (s := 8) (p := 256) (m := 4294967295) rfl rfl (by decide) (by decide) rfl (by omega) | exact EX.shlW (s := 8) (p := 256) (m := 4294967296) rfl rfl (by decide) (by decide) rfl (by decide)) ?_
      refine OW.val rfl rfl (EX.move rfl) ?_
      refine OW.val rfl rfl (EX.shrN (s := 24) (p := 16777216) rfl rfl (by decide) (by decide)) ?_
      refine OW.val rfl rfl (by first | exact EX.convN (m := 255) Tryz.underlying25 Tryz.underlying5 rfl rfl (by omega) | exact EX.convW (m := 256) Tryz.underlying25 Tryz.underlying5 rfl rfl (by decide) | exact EX.convZ Tryz.underlying25 Tryz.underlying5 rfl) ?_
      refine OW.val rfl rfl (EX.move rfl) ?_
      refine OW.val rfl rfl (EX.move rfl) ?_
      refine OW.val rfl rfl (EX.indexS Tryz.underlying9 rfl rfl (List.getElem?_eq_getElem (by omega))) ?_
      refine OW.val rfl rfl (by first | exact EX.convN (m := 4294967295) Tryz.underlying5 Tryz.underlying25 rfl rfl (by omega) | exact EX.convW (m := 4294967296) Tryz.underlying5 Tryz.underlying25 rfl rfl (by decide) | exact EX.convZ Tryz.underlying5 Tryz.underlying25 rfl) ?_
      refine OW.call rfl rfl rfl (turned_s s[k].toNat 8 (by omega) (by omega) w2) ?_
      rintro _ _ ⟨rfl, rfl⟩
      refine OW.val rfl rfl (by first | exact EX.convN (m := 255) Tryz.underlying25 Tryz.underlying5 rfl rfl (by omega) | exact EX.convW (m := 256) Tryz.underlying25 Tryz.underlying5 rfl rfl (by decide) | exact EX.convZ Tryz.underlying25 Tryz.underlying5 rfl) ?_
      refine OW.val rfl rfl (EX.xorN (m := 255) rfl rfl rfl (by omega)) ?_
      refine OW.val rfl rfl (by first | exact EX.indexAddrA0 Tryz.underlying121 ti25 rfl rfl (by omega) | exact EX.indexAddrA1 Tryz.underlying121 ti25 rfl rfl (by omega)) ?_
      refine OW.val rfl rfl (EX.load Tryz.underlying25 rfl rfl (hb.cell_of (tabV_get _ hxor))) ?_
      refine OW.val rfl rfl (EX.xorN (m := 4294967295) rfl rfl rfl (by omega)) ?_
      refine OW.val rfl rfl (EX.assign rfl) ?_
      refine OW.nil ?_
      refine KW.leave (KW.region ?_)
      refine OW.val rfl rfl (by first | exact EX.addN (b := 1) (m := 9223372036854775807) rfl rfl rfl (by omega) | exact EX.addZ (m := 9223372036854775807) rfl rfl rfl rfl (by omega)) ?_
      refine OW.val rfl rfl (EX.move rfl) ?_
      refine OW.nil ?_
      refine KW.back2 (k + 1) (cnext x (trn 8 s[k].toNat 0)) ⟨rfl, rfl, rfl, rfl, rfl, trivial⟩ rfl ?_ (by omega)
      exact ⟨by omega, cnext_lt _ _, by rw [take_snoc s k h, cieeeR_snoc, ← hxe]⟩
    · refine KW.exit rfl (KW.seq (KW.region ?_))
      refine OW.val rfl rfl (EX.move rfl) ?_
      refine OW.val rfl rfl (EX.notN (m := 4294967295) rfl rfl rfl (by omega)) ?_
      refine OW.call rfl rfl rfl (turned_s (4294967295 - x) 32 (by omega) (by omega) w2) ?_
      rintro _ _ ⟨rfl, rfl⟩
      refine OW.val rfl rfl (EX.assign rfl) ?_
      refine OW.nil ?_
      refine KW.ret (ret1 rfl rfl ?_)
      rw [List.take_of_length_le (by omega)] at hxe
      exact ⟨by rw [hxe]; rfl, hx⟩
end Go.Proofs.YtlpnoogcdnfllaaGreatDoor
namespace Go.Proofs.YtlpnoogcdnfllaaGreatDoor
open Go.RowKit
structure RP where
  round : Option Nat
  m : Nat
  ds : List Deferred
  post : Exit → Act → World → Prop
def RP.F (R : RP) : Fence := { Fence.wide with round := R.round }
structure FrD (R : RP) (n : Nat) (σ : Sig) (a : Act) : Prop where
  fr : Fr n σ { a with defers := [] }
  df : a.defers = R.ds
section
variable {R : RP} {n : Nat} {σ σ' : Sig} {a : Act}
theorem FrD.ev (h : FrD R n σ a) {x : Operand} {v : Value} (hx : ev σ x = some v) : a.eval x = v := by
  have := h.fr.ev hx
  cases x <;> exact this
theorem FrD.sub (h : FrD R n σ a) (hs : Subs σ' σ) : FrD R n σ' a := ⟨h.fr.sub hs, h.df⟩
theorem FrD.put (h : FrD R n σ a) {d : Nat} (hd : Nat.blt d n = true) (v : Value) : FrD R n ((d, v) :: σ) (a.put (some d) v) := ⟨h.fr.put hd v, h.df⟩
end
def psr (P : Program) (R : RP) : List KI → Exit → Act → World → Prop
  | [], e => R.post e
  | .code c :: k, e => match e with | .normal => fun a w => c.wpIn R.F R.m P (psr P R k) a w | e => psr P R k e
  | .blk id :: k, e => match e with | .exit i => fun a w => if i = id then psr P R k .normal a w else psr P R k (.exit i) a w | e => psr P R k e
  | .asr I :: k, e => match e with | .normal => I | e => psr P R k e
def KR (P : Program) (R : RP) (k : List KI) (n : Nat) (σ : Sig) (w : World) : Prop := ∀ a, FrD R n σ a → psr P R k .normal a w
section
variable {P : Program} {R : RP} {k : List KI} {n : Nat} {σ : Sig} {w : World}
theorem psr_then (c : Code) (k : List KI) : psr P R (.code c :: k) = Exit.then (fun a w => c.wpIn R.F R.m P (psr P R k) a w) (psr P R k) := by
  funext e a w
  cases e <;> simp [psr, Exit.then]
theorem psr_blk (id : Nat) (k : List KI) : psr P R (.blk id :: k) = Exit.inBlock id (psr P R k) := by
  funext e a w
  cases e <;> simp [psr, Exit.inBlock]
theorem psr_exit {id : Nat} : ∀ {k k' : List KI}, popTo id k = some k' → ∀ a w, psr P R k (.exit id) a w = psr P R k' .normal a w
  | [], _, h, _, _ => by simp [popTo] at h
  | .code c :: k, k', h, a, w => by simp only [popTo] at h; simp only [psr]; exact psr_exit h a w
  | .asr I :: k, k', h, a, w => by simp only [popTo] at h; simp only [psr]; exact psr_exit h a w
  | .blk i :: k, k', h, a, w => by
    simp only [popTo] at h
    simp only [psr]
    by_cases e : id = i
    · subst e
      have : Nat.beq id id = true := by simp
      rw [this] at h
      injection h with h
      subst h
      simp
    · have : Nat.beq id i = false := by
        cases hb : Nat.beq id i with
        | false => rfl
        | true => exact absurd (Nat.eq_of_beq_eq_true hb) e
      rw [this] at h
      rw [if_neg e]
      exact psr_exit h a w
theorem psr_ret : ∀ (k : List KI) (a : Act) (w : World), psr P R k .ret a w = R.post .ret a w
  | [], _, _ => rfl
  | .code _ :: k, a, w => psr_ret k a w
  | .blk _ :: k, a, w => psr_ret k a w
  | .asr _ :: k, a, w => psr_ret k a w
theorem KR.seq {x y : Code} (h : KR P R (.code x :: .code y :: k) n σ w) : KR P R (.code (.seq x y) :: k) n σ w := fun a ha => by
  have := h a ha
  simp only [psr] at this ⊢
  refine wpIn_seq ?_
  rw [← psr_then]
  exact this
theorem KR.block {id : Nat} {c : Code} (h : KR P R (.code c :: .blk id :: k) n σ w) : KR P R (.code (.block id c) :: k) n σ w := fun a ha => by
  have := h a ha
  simp only [psr] at this ⊢
  refine wpIn_block ?_
  rw [← psr_blk]
  exact this
theorem KR.leave {id : Nat} (h : KR P R k n σ w) : KR P R (.blk id :: k) n σ w := fun a ha => h a ha
theorem KR.skip (h : KR P R k n σ w) : KR P R (.code .skip :: k) n σ w := fun a ha => wpIn_skip (h a ha)
theorem KR.label {l : Nat} (h : KR P R k n σ w) : KR P R (.code (.label l) :: k) n σ w := fun a ha => wpIn_label (h a ha)
theorem KR.exit {id : Nat} {k' : List KI} (hk : popTo id k = some k') (h : KR P R k' n σ w) : KR P R (.code (.exit id) :: k) n σ w := fun a ha =>
  wpIn_exit (by rw [psr_exit hk]; exact h a ha)
theorem KR.ret (h : ∀ a, FrD R n σ a → R.post .ret a w) : KR P R (.code .ret :: k) n σ w := fun a ha => wpIn_ret (by rw [psr_ret]; exact h a ha)
theorem KR.done (h : ∀ a, FrD R n σ a → R.post .normal a w) : KR P R [] n σ w := h
theorem KR.sub {σ' : Sig} (hs : Subs σ' σ) (h : KR P R k n σ' w) : KR P R k n σ w := fun a ha => h a (ha.sub hs)
theorem KR.cond {c : Operand} {x y : Code} {b : Bool} (hc : ev σ c = some (.bool b)) (ht : b = true → KR P R (.code x :: k) n σ w) (hf : b = false → KR P R (.code y :: k) n σ w) :
    KR P R (.code (.cond c x y) :: k) n σ w := fun a ha =>
  wpIn_cond_split (ha.ev hc) (fun e => ht e a ha) (fun e => hf e a ha)
theorem KR.condD {c : Operand} {x y : Code} {p : Prop} [Decidable p] (hc : ev σ c = some (.bool (decide p))) (ht : p → KR P R (.code x :: k) n σ w) (hf : ¬ p → KR P R (.code y :: k) n σ w) :
    KR P R (.code (.cond c x y) :: k) n σ w :=
  KR.cond hc (fun e => ht (of_decide_eq_true e)) (fun e => hf (of_decide_eq_false e))
theorem KR.condT {c : Operand} {x y : Code} (hc : ev σ c = some (.bool true)) (h : KR P R (.code x :: k) n σ w) : KR P R (.code (.cond c x y) :: k) n σ w :=
  KR.cond hc (fun _ => h) (fun e => by cases e)
theorem KR.condF {c : Operand} {x y : Code} (hc : ev σ c = some (.bool false)) (h : KR P R (.code y :: k) n σ w) : KR P R (.code (.cond c x y) :: k) n σ w :=
  KR.cond hc (fun e => by cases e) (fun _ => h)
def MetR {ι : Type} (R : RP) (n : Nat) (I : ι → Prop) (S : ι → Sig) (W : ι → World) (a : Act) (w : World) : Prop := ∃ i, I i ∧ FrD R n (S i) a ∧ w = W i
theorem KR.cut {ι : Type} (I : ι → Prop) (S : ι → Sig) (W : ι → World) {c : Code} (h : KR P R (.code c :: .asr (MetR R n I S W) :: k) n σ w) (h2 : ∀ i, I i → KR P R k n (S i) (W i)) :
    KR P R (.code c :: k) n σ w := fun a ha => by
  have h1 := h a ha
  simp only [psr] at h1 ⊢
  refine Code.wpIn_mono (fun e a' w' q => ?_) h1
  cases e with
  | normal => obtain ⟨i, hi, hf, rfl⟩ := q; exact h2 i hi a' hf
  | _ => exact q
theorem KR.meet {ι : Type} {I : ι → Prop} {S : ι → Sig} {W : ι → World} (i : ι) (hs : Subs (S i) σ) (hw : w = W i) (hi : I i) : KR P R (.asr (MetR R n I S W) :: k) n σ w :=
  fun _ ha => ⟨i, hi, ha.sub hs, hw⟩
def BackR {ι : Type} (R : RP) (n : Nat) (I : ι → Prop) (S : ι → Sig) (W : ι → World) (μ : ι → Nat) (i : ι) (a : Act) (w : World) : Prop := ∃ j, I j ∧ μ j < μ i ∧ FrD R n (S j) a ∧ w = W j
theorem KR.back {ι : Type} {I : ι → Prop} {S : ι → Sig} {W : ι → World} {μ : ι → Nat} {i : ι} (j : ι) (hs : Subs (S j) σ) (hw : w = W j) (hi : I j) (hm : μ j < μ i) :
    KR P R (.asr (BackR R n I S W μ i) :: k) n σ w := fun _ ha => ⟨j, hi, hm, ha.sub hs, hw⟩
theorem KR.loop {ι : Type} (I : ι → Prop) (S : ι → Sig) (W : ι → World) (μ : ι → Nat) {c : Code} (i : ι) (hs : Subs (S i) σ) (hw : w = W i) (hi : I i)
    (round : ∀ i, I i → KR P R (.code c :: .asr (BackR R n I S W μ i) :: k) n (S i) (W i)) : KR P R (.code (.loop c) :: k) n σ w := fun a ha => by
  let M (a : Act) (w : World) (m : Nat) : Prop := ∃ i, I i ∧ FrD R n (S i) a ∧ w = W i ∧ μ i = m
  have hex : ∀ a w, (∃ m, M a w m) → ∃ m, M a w m ∧ ∀ m', M a w m' → m ≤ m' := fun a w ⟨m, hm⟩ => least_nat _ m hm
  let ν (a : Act) (w : World) : Nat := Classical.epsilon fun m => M a w m ∧ ∀ m', M a w m' → m ≤ m'
  have hν : ∀ a w, (∃ m, M a w m) → M a w (ν a w) ∧ ∀ m', M a w m' → ν a w ≤ m' := fun a w h => Classical.epsilon_spec (hex a w h)
  simp only [psr]
  refine wpIn_loop (fun a w => ∃ m, M a w m) ν ⟨μ i, i, hi, ha.sub hs, hw, rfl⟩ fun a' w' hm => ?_
  obtain ⟨⟨j, hj, hf, hw', hmu⟩, _⟩ := hν a' w' hm
  have h := round j hj a' hf
  simp only [psr] at h
  subst hw'
  refine Code.wpIn_mono (fun e a'' w'' q => ?_) h
  cases e with
  | normal =>
    obtain ⟨j', h1, h2, h3, h4⟩ := q
    refine ⟨⟨μ j', j', h1, h3, h4, rfl⟩, ?_⟩
    have := (hν a'' w'' ⟨μ j', j', h1, h3, h4, rfl⟩).2 (μ j') ⟨j', h1, h3, h4, rfl⟩
    omega
  | _ => exact q
end
section
variable {P : Program} {R : RP} {k : List KI} {n : Nat} {σ : Sig} {w : World}
def BackR1 {α : Type} (R : RP) (n : Nat) (I : α → Prop) (S : α → Sig) (W : α → World) (μ : α → Nat) (x0 : α) : Act → World → Prop :=
  BackR R n (fun p : α => I p) (fun p => S p) (fun p => W p) (fun p => μ p) x0
def MetR1 {α : Type} (R : RP) (n : Nat) (I : α → Prop) (S : α → Sig) (W : α → World) : Act → World → Prop :=
  MetR R n (fun p : α => I p) (fun p => S p) (fun p => W p)
theorem KR.loop1 {α : Type} (I : α → Prop) (S : α → Sig) (W : α → World) (μ : α → Nat) {c : Code} (x0 : α) (hs : Subs (S x0) σ) (hw : w = W x0) (hi : I x0)
    (round : ∀ x0, I x0 → KR P R (.code c :: .asr (BackR1 R n I S W μ x0) :: k) n (S x0) (W x0)) : KR P R (.code (.loop c) :: k) n σ w :=
  KR.loop (fun p : α => I p) (fun p => S p) (fun p => W p) (fun p => μ p) x0 hs hw hi fun p hp => round p hp
theorem KR.back1 {α : Type} {I : α → Prop} {S : α → Sig} {W : α → World} {μ : α → Nat} {y0 : α} (x0 : α) (hs : Subs (S x0) σ) (hw : w = W x0) (hi : I x0) (hm : μ x0 < μ y0) :
    KR P R (.asr (BackR1 R n I S W μ y0) :: k) n σ w :=
  KR.back (I := fun p : α => I p) (S := fun p => S p) (W := fun p => W p) (μ := fun p => μ p) x0 hs hw hi hm
theorem KR.cut1 {α : Type} (I : α → Prop) (S : α → Sig) (W : α → World) {c : Code} (h : KR P R (.code c :: .asr (MetR1 R n I S W) :: k) n σ w)
    (h2 : ∀ x0, I x0 → KR P R k n (S x0) (W x0)) : KR P R (.code c :: k) n σ w :=
  KR.cut (fun p : α => I p) (fun p => S p) (fun p => W p) h fun p hp => h2 p hp
theorem KR.meet1 {α : Type} {I : α → Prop} {S : α → Sig} {W : α → World} (x0 : α) (hs : Subs (S x0) σ) (hw : w = W x0) (hi : I x0) :
    KR P R (.asr (MetR1 R n I S W) :: k) n σ w :=
  KR.meet (I := fun p : α => I p) (S := fun p => S p) (W := fun p => W p) x0 hs hw hi
def BackR2 {α β : Type} (R : RP) (n : Nat) (I : α → β → Prop) (S : α → β → Sig) (W : α → β → World) (μ : α → β → Nat) (x0 : α) (x1 : β) : Act → World → Prop :=
  BackR R n (fun p : α × β => I p.1 p.2) (fun p => S p.1 p.2) (fun p => W p.1 p.2) (fun p => μ p.1 p.2) (x0, x1)
def MetR2 {α β : Type} (R : RP) (n : Nat) (I : α → β → Prop) (S : α → β → Sig) (W : α → β → World) : Act → World → Prop :=
  MetR R n (fun p : α × β => I p.1 p.2) (fun p => S p.1 p.2) (fun p => W p.1 p.2)
theorem KR.loop2 {α β : Type} (I : α → β → Prop) (S : α → β → Sig) (W : α → β → World) (μ : α → β → Nat) {c : Code} (x0 : α) (x1 : β) (hs : Subs (S x0 x1) σ) (hw : w = W x0 x1) (hi : I x0 x1)
    (round : ∀ x0 x1, I x0 x1 → KR P R (.code c :: .asr (BackR2 R n I S W μ x0 x1) :: k) n (S x0 x1) (W x0 x1)) : KR P R (.code (.loop c) :: k) n σ w :=
  KR.loop (fun p : α × β => I p.1 p.2) (fun p => S p.1 p.2) (fun p => W p.1 p.2) (fun p => μ p.1 p.2) (x0, x1) hs hw hi fun p hp => round p.1 p.2 hp
theorem KR.back2 {α β : Type} {I : α → β → Prop} {S : α → β → Sig} {W : α → β → World} {μ : α → β → Nat} {y0 : α} {y1 : β} (x0 : α) (x1 : β) (hs : Subs (S x0 x1) σ) (hw : w = W x0 x1) (hi : I x0 x1) (hm : μ x0 x1 < μ y0 y1) :
    KR P R (.asr (BackR2 R n I S W μ y0 y1) :: k) n σ w :=
  KR.back (I := fun p : α × β => I p.1 p.2) (S := fun p => S p.1 p.2) (W := fun p => W p.1 p.2) (μ := fun p => μ p.1 p.2) (x0, x1) hs hw hi hm
theorem KR.cut2 {α β : Type} (I : α → β → Prop) (S : α → β → Sig) (W : α → β → World) {c : Code} (h : KR P R (.code c :: .asr (MetR2 R n I S W) :: k) n σ w)
    (h2 : ∀ x0 x1, I x0 x1 → KR P R k n (S x0 x1) (W x0 x1)) : KR P R (.code c :: k) n σ w :=
  KR.cut (fun p : α × β => I p.1 p.2) (fun p => S p.1 p.2) (fun p => W p.1 p.2) h fun p hp => h2 p.1 p.2 hp
theorem KR.meet2 {α β : Type} {I : α → β → Prop} {S : α → β → Sig} {W : α → β → World} (x0 : α) (x1 : β) (hs : Subs (S x0 x1) σ) (hw : w = W x0 x1) (hi : I x0 x1) :
    KR P R (.asr (MetR2 R n I S W) :: k) n σ w :=
  KR.meet (I := fun p : α × β => I p.1 p.2) (S := fun p => S p.1 p.2) (W := fun p => W p.1 p.2) (x0, x1) hs hw hi
def BackR3 {α β γ : Type} (R : RP) (n : Nat) (I : α → β → γ → Prop) (S : α → β → γ → Sig) (W : α → β → γ → World) (μ : α → β → γ → Nat) (x0 : α) (x1 : β) (x2 : γ) : Act → World → Prop :=
  BackR R n (fun p : α × β × γ => I p.1 p.2.1 p.2.2) (fun p => S p.1 p.2.1 p.2.2) (fun p => W p.1 p.2.1 p.2.2) (fun p => μ p.1 p.2.1 p.2.2) (x0, x1, x2)
def MetR3 {α β γ : Type} (R : RP) (n : Nat) (I : α → β → γ → Prop) (S : α → β → γ → Sig) (W : α → β → γ → World) : Act → World → Prop :=
  MetR R n (fun p : α × β × γ => I p.1 p.2.1 p.2.2) (fun p => S p.1 p.2.1 p.2.2) (fun p => W p.1 p.2.1 p.2.2)
theorem KR.loop3 {α β γ : Type} (I : α → β → γ → Prop) (S : α → β → γ → Sig) (W : α → β → γ → World) (μ : α → β → γ → Nat) {c : Code} (x0 : α) (x1 : β) (x2 : γ) (hs : Subs (S x0 x1 x2) σ) (hw : w = W x0 x1 x2) (hi : I x0 x1 x2)
    (round : ∀ x0 x1 x2, I x0 x1 x2 → KR P R (.code c :: .asr (BackR3 R n I S W μ x0 x1 x2) :: k) n (S x0 x1 x2) (W x0 x1 x2)) : KR P R (.code (.loop c) :: k) n σ w :=
  KR.loop (fun p : α × β × γ => I p.1 p.2.1 p.2.2) (fun p => S p.1 p.2.1 p.2.2) (fun p => W p.1 p.2.1 p.2.2) (fun p => μ p.1 p.2.1 p.2.2) (x0, x1, x2) hs hw hi fun p hp => round p.1 p.2.1 p.2.2 hp
theorem KR.back3 {α β γ : Type} {I : α → β → γ → Prop} {S : α → β → γ → Sig} {W : α → β → γ → World} {μ : α → β → γ → Nat} {y0 : α} {y1 : β} {y2 : γ} (x0 : α) (x1 : β) (x2 : γ) (hs : Subs (S x0 x1 x2) σ) (hw : w = W x0 x1 x2) (hi : I x0 x1 x2) (hm : μ x0 x1 x2 < μ y0 y1 y2) :
    KR P R (.asr (BackR3 R n I S W μ y0 y1 y2) :: k) n σ w :=
  KR.back (I := fun p : α × β × γ => I p.1 p.2.1 p.2.2) (S := fun p => S p.1 p.2.1 p.2.2) (W := fun p => W p.1 p.2.1 p.2.2) (μ := fun p => μ p.1 p.2.1 p.2.2) (x0, x1, x2) hs hw hi hm
theorem KR.cut3 {α β γ : Type} (I : α → β → γ → Prop) (S : α → β → γ → Sig) (W : α → β → γ → World) {c : Code} (h : KR P R (.code c :: .asr (MetR3 R n I S W) :: k) n σ w)
    (h2 : ∀ x0 x1 x2, I x0 x1 x2 → KR P R k n (S x0 x1 x2) (W x0 x1 x2)) : KR P R (.code c :: k) n σ w :=
  KR.cut (fun p : α × β × γ => I p.1 p.2.1 p.2.2) (fun p => S p.1 p.2.1 p.2.2) (fun p => W p.1 p.2.1 p.2.2) h fun p hp => h2 p.1 p.2.1 p.2.2 hp
theorem KR.meet3 {α β γ : Type} {I : α → β → γ → Prop} {S : α → β → γ → Sig} {W : α → β → γ → World} (x0 : α) (x1 : β) (x2 : γ) (hs : Subs (S x0 x1 x2) σ) (hw : w = W x0 x1 x2) (hi : I x0 x1 x2) :
    KR P R (.asr (MetR3 R n I S W) :: k) n σ w :=
  KR.meet (I := fun p : α × β × γ => I p.1 p.2.1 p.2.2) (S := fun p => S p.1 p.2.1 p.2.2) (W := fun p => W p.1 p.2.1 p.2.2) (x0, x1, x2) hs hw hi
def BackR4 {α β γ δ : Type} (R : RP) (n : Nat) (I : α → β → γ → δ → Prop) (S : α → β → γ → δ → Sig) (W : α → β → γ → δ → World) (μ : α → β → γ → δ → Nat) (x0 : α) (x1 : β) (x2 : γ) (x3 : δ) : Act → World → Prop :=
  BackR R n (fun p : α × β × γ × δ => I p.1 p.2.1 p.2.2.1 p.2.2.2) (fun p => S p.1 p.2.1 p.2.2.1 p.2.2.2) (fun p => W p.1 p.2.1 p.2.2.1 p.2.2.2) (fun p => μ p.1 p.2.1 p.2.2.1 p.2.2.2) (x0, x1, x2, x3)
theorem KR.loop4 {α β γ δ : Type} (I : α → β → γ → δ → Prop) (S : α → β → γ → δ → Sig) (W : α → β → γ → δ → World) (μ : α → β → γ → δ → Nat) {c : Code} (x0 : α) (x1 : β) (x2 : γ) (x3 : δ) (hs : Subs (S x0 x1 x2 x3) σ) (hw : w = W x0 x1 x2 x3) (hi : I x0 x1 x2 x3)
    (round : ∀ x0 x1 x2 x3, I x0 x1 x2 x3 → KR P R (.code c :: .asr (BackR4 R n I S W μ x0 x1 x2 x3) :: k) n (S x0 x1 x2 x3) (W x0 x1 x2 x3)) : KR P R (.code (.loop c) :: k) n σ w :=
  KR.loop (fun p : α × β × γ × δ => I p.1 p.2.1 p.2.2.1 p.2.2.2) (fun p => S p.1 p.2.1 p.2.2.1 p.2.2.2) (fun p => W p.1 p.2.1 p.2.2.1 p.2.2.2) (fun p => μ p.1 p.2.1 p.2.2.1 p.2.2.2) (x0, x1, x2, x3) hs hw hi fun p hp => round p.1 p.2.1 p.2.2.1 p.2.2.2 hp
theorem KR.back4 {α β γ δ : Type} {I : α → β → γ → δ → Prop} {S : α → β → γ → δ → Sig} {W : α → β → γ → δ → World} {μ : α → β → γ → δ → Nat} {y0 : α} {y1 : β} {y2 : γ} {y3 : δ} (x0 : α) (x1 : β) (x2 : γ) (x3 : δ) (hs : Subs (S x0 x1 x2 x3) σ) (hw : w = W x0 x1 x2 x3) (hi : I x0 x1 x2 x3) (hm : μ x0 x1 x2 x3 < μ y0 y1 y2 y3) :
    KR P R (.asr (BackR4 R n I S W μ y0 y1 y2 y3) :: k) n σ w :=
  KR.back (I := fun p : α × β × γ × δ => I p.1 p.2.1 p.2.2.1 p.2.2.2) (S := fun p => S p.1 p.2.1 p.2.2.1 p.2.2.2) (W := fun p => W p.1 p.2.1 p.2.2.1 p.2.2.2) (μ := fun p => μ p.1 p.2.1 p.2.2.1 p.2.2.2) (x0, x1, x2, x3) hs hw hi hm
def BackR5 {α β γ δ ε : Type} (R : RP) (n : Nat) (I : α → β → γ → δ → ε → Prop) (S : α → β → γ → δ → ε → Sig) (W : α → β → γ → δ → ε → World) (μ : α → β → γ → δ → ε → Nat) (x0 : α) (x1 : β) (x2 : γ) (x3 : δ) (x4 : ε) : Act → World → Prop :=
  BackR R n (fun p : α × β × γ × δ × ε => I p.1 p.2.1 p.2.2.1 p.2.2.2.1 p.2.2.2.2) (fun p => S p.1 p.2.1 p.2.2.1 p.2.2.2.1 p.2.2.2.2) (fun p => W p.1 p.2.1 p.2.2.1 p.2.2.2.1 p.2.2.2.2) (fun p => μ p.1 p.2.1 p.2.2.1 p.2.2.2.1 p.2.2.2.2) (x0, x1, x2, x3, x4)
theorem KR.loop5 {α β γ δ ε : Type} (I : α → β → γ → δ → ε → Prop) (S : α → β → γ → δ → ε → Sig) (W : α → β → γ → δ → ε → World) (μ : α → β → γ → δ → ε → Nat) {c : Code} (x0 : α) (x1 : β) (x2 : γ) (x3 : δ) (x4 : ε) (hs : Subs (S x0 x1 x2 x3 x4) σ) (hw : w = W x0 x1 x2 x3 x4) (hi : I x0 x1 x2 x3 x4)
    (round : ∀ x0 x1 x2 x3 x4, I x0 x1 x2 x3 x4 → KR P R (.code c :: .asr (BackR5 R n I S W μ x0 x1 x2 x3 x4) :: k) n (S x0 x1 x2 x3 x4) (W x0 x1 x2 x3 x4)) : KR P R (.code (.loop c) :: k) n σ w :=
  KR.loop (fun p : α × β × γ × δ × ε => I p.1 p.2.1 p.2.2.1 p.2.2.2.1 p.2.2.2.2) (fun p => S p.1 p.2.1 p.2.2.1 p.2.2.2.1 p.2.2.2.2) (fun p => W p.1 p.2.1 p.2.2.1 p.2.2.2.1 p.2.2.2.2) (fun p => μ p.1 p.2.1 p.2.2.1 p.2.2.2.1 p.2.2.2.2) (x0, x1, x2, x3, x4) hs hw hi fun p hp => round p.1 p.2.1 p.2.2.1 p.2.2.2.1 p.2.2.2.2 hp
theorem KR.back5 {α β γ δ ε : Type} {I : α → β → γ → δ → ε → Prop} {S : α → β → γ → δ → ε → Sig} {W : α → β → γ → δ → ε → World} {μ : α → β → γ → δ → ε → Nat} {y0 : α} {y1 : β} {y2 : γ} {y3 : δ} {y4 : ε} (x0 : α) (x1 : β) (x2 : γ) (x3 : δ) (x4 : ε) (hs : Subs (S x0 x1 x2 x3 x4) σ) (hw : w = W x0 x1 x2 x3 x4) (hi : I x0 x1 x2 x3 x4) (hm : μ x0 x1 x2 x3 x4 < μ y0 y1 y2 y3 y4) :
    KR P R (.asr (BackR5 R n I S W μ y0 y1 y2 y3 y4) :: k) n σ w :=
  KR.back (I := fun p : α × β × γ × δ × ε => I p.1 p.2.1 p.2.2.1 p.2.2.2.1 p.2.2.2.2) (S := fun p => S p.1 p.2.1 p.2.2.1 p.2.2.2.1 p.2.2.2.2) (W := fun p => W p.1 p.2.1 p.2.2.1 p.2.2.2.1 p.2.2.2.2) (μ := fun p => μ p.1 p.2.1 p.2.2.1 p.2.2.2.1 p.2.2.2.2) (x0, x1, x2, x3, x4) hs hw hi hm
def BackR7 {α β γ δ ε ζ η : Type} (R : RP) (n : Nat) (I : α → β → γ → δ → ε → ζ → η → Prop) (S : α → β → γ → δ → ε → ζ → η → Sig) (W : α → β → γ → δ → ε → ζ → η → World) (μ : α → β → γ → δ → ε → ζ → η → Nat) (x0 : α) (x1 : β) (x2 : γ) (x3 : δ) (x4 : ε) (x5 : ζ) (x6 : η) : Act → World → Prop :=
  BackR R n (fun p : α × β × γ × δ × ε × ζ × η => I p.1 p.2.1 p.2.2.1 p.2.2.2.1 p.2.2.2.2.1 p.2.2.2.2.2.1 p.2.2.2.2.2.2) (fun p => S p.1 p.2.1 p.2.2.1 p.2.2.2.1 p.2.2.2.2.1 p.2.2.2.2.2.1 p.2.2.2.2.2.2) (fun p => W p.1 p.2.1 p.2.2.1 p.2.2.2.1 p.2.2.2.2.1 p.2.2.2.2.2.1 p.2.2.2.2.2.2) (fun p => μ p.1 p.2.1 p.2.2.1 p.2.2.2.1 p.2.2.2.2.1 p.2.2.2.2.2.1 p.2.2.2.2.2.2) (x0, x1, x2, x3, x4, x5, x6)
theorem KR.loop7 {α β γ δ ε ζ η : Type} (I : α → β → γ → δ → ε → ζ → η → Prop) (S : α → β → γ → δ → ε → ζ → η → Sig) (W : α → β → γ → δ → ε → ζ → η → World) (μ : α → β → γ → δ → ε → ζ → η → Nat) {c : Code} (x0 : α) (x1 : β) (x2 : γ) (x3 : δ) (x4 : ε) (x5 : ζ) (x6 : η) (hs : Subs (S x0 x1 x2 x3 x4 x5 x6) σ) (hw : w = W x0 x1 x2 x3 x4 x5 x6) (hi : I x0 x1 x2 x3 x4 x5 x6)
    (round : ∀ x0 x1 x2 x3 x4 x5 x6, I x0 x1 x2 x3 x4 x5 x6 → KR P R (.code c :: .asr (BackR7 R n I S W μ x0 x1 x2 x3 x4 x5 x6) :: k) n (S x0 x1 x2 x3 x4 x5 x6) (W x0 x1 x2 x3 x4 x5 x6)) : KR P R (.code (.loop c) :: k) n σ w :=
  KR.loop (fun p : α × β × γ × δ × ε × ζ × η => I p.1 p.2.1 p.2.2.1 p.2.2.2.1 p.2.2.2.2.1 p.2.2.2.2.2.1 p.2.2.2.2.2.2) (fun p => S p.1 p.2.1 p.2.2.1 p.2.2.2.1 p.2.2.2.2.1 p.2.2.2.2.2.1 p.2.2.2.2.2.2) (fun p => W p.1 p.2.1 p.2.2.1 p.2.2.2.1 p.2.2.2.2.1 p.2.2.2.2.2.1 p.2.2.2.2.2.2) (fun p => μ p.1 p.2.1 p.2.2.1 p.2.2.2.1 p.2.2.2.2.1 p.2.2.2.2.2.1 p.2.2.2.2.2.2) (x0, x1, x2, x3, x4, x5, x6) hs hw hi fun p hp => round p.1 p.2.1 p.2.2.1 p.2.2.2.1 p.2.2.2.2.1 p.2.2.2.2.2.1 p.2.2.2.2.2.2 hp
theorem KR.back7 {α β γ δ ε ζ η : Type} {I : α → β → γ → δ → ε → ζ → η → Prop} {S : α → β → γ → δ → ε → ζ → η → Sig} {W : α → β → γ → δ → ε → ζ → η → World} {μ : α → β → γ → δ → ε → ζ → η → Nat} {y0 : α} {y1 : β} {y2 : γ} {y3 : δ} {y4 : ε} {y5 : ζ} {y6 : η} (x0 : α) (x1 : β) (x2 : γ) (x3 : δ) (x4 : ε) (x5 : ζ) (x6 : η) (hs : Subs (S x0 x1 x2 x3 x4 x5 x6) σ) (hw : w = W x0 x1 x2 x3 x4 x5 x6) (hi : I x0 x1 x2 x3 x4 x5 x6) (hm : μ x0 x1 x2 x3 x4 x5 x6 < μ y0 y1 y2 y3 y4 y5 y6) :
    KR P R (.asr (BackR7 R n I S W μ y0 y1 y2 y3 y4 y5 y6) :: k) n σ w :=
  KR.back (I := fun p : α × β × γ × δ × ε × ζ × η => I p.1 p.2.1 p.2.2.1 p.2.2.2.1 p.2.2.2.2.1 p.2.2.2.2.2.1 p.2.2.2.2.2.2) (S := fun p => S p.1 p.2.1 p.2.2.1 p.2.2.2.1 p.2.2.2.2.1 p.2.2.2.2.2.1 p.2.2.2.2.2.2) (W := fun p => W p.1 p.2.1 p.2.2.1 p.2.2.2.1 p.2.2.2.2.1 p.2.2.2.2.2.1 p.2.2.2.2.2.2) (μ := fun p => μ p.1 p.2.1 p.2.2.1 p.2.2.2.1 p.2.2.2.2.1 p.2.2.2.2.2.1 p.2.2.2.2.2.2) (x0, x1, x2, x3, x4, x5, x6) hs hw hi hm
end
def OR (P : Program) (R : RP) (ops : Array Oper) (l : List Oper) (k : List KI) (n : Nat) (σ : Sig) (w : World) : Prop := ∀ a, FrD R n σ a → wpListIn R.F R.m P ops (psr P R k) l a w
section
variable {P : Program} {R : RP} {ops : Array Oper} {l rest : List Oper} {k : List KI} {n : Nat} {σ : Sig} {w w' : World}
theorem KR.region {id : Nat} (h : OR P R l.toArray l k n σ w) : KR P R (.code (.region id l.toArray false) :: k) n σ w := fun a ha => wpIn_region_lit (h a ha)
theorem OR.nil (h : KR P R k n σ w) : OR P R ops [] k n σ w := h
theorem OR.sub {σ' : Sig} (hs : Subs σ' σ) (h : OR P R ops l k n σ' w) : OR P R ops l k n σ w := fun a ha => h a (ha.sub hs)
theorem FrD.as {a : Act} (t : Nat) (v' : Value) {v : Value} (ht : lk σ t = some v) (e : v = v') (ha : FrD R n σ a) : FrD R n ((t, v') :: σ) a :=
  ⟨⟨ha.fr.size, fun i u hu => by
    rw [lk_cons] at hu
    by_cases e' : t = i
    · subst e'
      simp at hu
      subst hu
      rw [← e]
      exact ha.fr.val t _ ht
    · simp [e'] at hu
      exact ha.fr.val i u hu, ha.fr.df⟩, ha.df⟩
theorem OR.as (t : Nat) (v' : Value) {v : Value} (ht : lk σ t = some v) (e : v = v') (h : OR P R ops l k n ((t, v') :: σ) w) : OR P R ops l k n σ w := fun a ha => h a (ha.as t v' ht e)
theorem KR.as (t : Nat) (v' : Value) {v : Value} (ht : lk σ t = some v) (e : v = v') (h : KR P R k n ((t, v') :: σ) w) : KR P R k n σ w := fun a ha => h a (ha.as t v' ht e)
theorem OR.split (t : Nat) {b : Bool} (ht : lk σ t = some (.bool b)) (h1 : b = true → OR P R ops l k n ((t, .bool true) :: σ) w) (h2 : b = false → OR P R ops l k n ((t, .bool false) :: σ) w) : OR P R ops l k n σ w := by
  cases b with
  | true => exact OR.as t _ ht rfl (h1 rfl)
  | false => exact OR.as t _ ht rfl (h2 rfl)
theorem OR.splitD (t : Nat) {p : Prop} [Decidable p] (ht : lk σ t = some (.bool (decide p))) (h1 : p → OR P R ops l k n ((t, .bool true) :: σ) w) (h2 : ¬ p → OR P R ops l k n ((t, .bool false) :: σ) w) : OR P R ops l k n σ w :=
  OR.split t ht (fun e => h1 (of_decide_eq_true e)) (fun e => h2 (of_decide_eq_false e))
theorem wantD {a : Act} (ha : FrD R n σ a) {o : Oper} {b : Bool} (h : wantS ops σ o.guard = some b) : Region.wanted o (yielded ops a.tmps) = b := wantS_spec ha.fr h
theorem RP.semAt (R : RP) {ρ : Operand → Value} {o : Oper} {r : Result Next} {w : World} (h : (execOp ρ o).run P w = r) (hd : ∀ c, o.op ≠ .defer c) : (o.semAt R.F.round ρ).run P w = r := by rw [Oper.semAt_eq _ _ _ hd]; exact h
theorem EX.noDefer {op : Op} {ty : TypeId} {v : Value} (he : EX P n σ op ty w v w') {a : Act} (ha : Fr n σ a) : ∀ c, op ≠ .defer c := fun c e => by
  subst e
  have h := he a ha none "" #[] none
  unfold execOp at h
  simp only [Sem.run_bind] at h
  unfold Result.andThen at h
  split at h <;> simp at h
theorem EU.noDefer {op : Op} {ty : TypeId} (he : EU P n σ op ty w w') {a : Act} (ha : Fr n σ a) : ∀ c, op ≠ .defer c := fun c e => by
  subst e
  have h := he a ha none "" #[] none
  unfold execOp at h
  simp only [Sem.run_bind] at h
  unfold Result.andThen at h
  split at h <;> simp at h
theorem EC.noDefer {op : Op} {ty : TypeId} {f : FuncId} {args : Array Value} (he : EC P n σ op ty w f args) {a : Act} (ha : Fr n σ a) : ∀ c, op ≠ .defer c := fun c e => by
  subst e
  have h := he a ha none "" #[] none
  unfold execOp at h
  simp only [Sem.run_bind] at h
  unfold Result.andThen at h
  split at h <;> simp at h
theorem evalD (a : Act) : ({ a with defers := [] } : Act).eval = a.eval := by funext x; cases x <;> rfl
theorem OR.val {d : Nat} {op : Op} {ty : TypeId} {pos : String} {after : Array Edge} {g : Option (Nat × Bool)} {v : Value} (hg : wantS ops σ g = some true) (hd : Nat.blt d n = true) (he : EX P n σ op ty w v w')
    (h : OR P R ops rest k n ((d, v) :: σ) w') : OR P R ops (⟨some d, op, ty, pos, after, g⟩ :: rest) k n σ w := fun a ha => by
  have h1 := he _ ha.fr (some d) pos after g
  rw [evalD] at h1
  unfold wpListIn
  rw [if_pos (wantD ha (o := ⟨some d, op, ty, pos, after, g⟩) hg)]
  refine ⟨fun _ _ => trivial, ?_⟩
  rw [R.semAt h1 (he.noDefer ha.fr)]
  exact h _ (ha.put hd v)
theorem OR.eff {op : Op} {ty : TypeId} {pos : String} {after : Array Edge} {g : Option (Nat × Bool)} (hg : wantS ops σ g = some true) (he : EU P n σ op ty w w')
    (h : OR P R ops rest k n σ w') : OR P R ops (⟨none, op, ty, pos, after, g⟩ :: rest) k n σ w := fun a ha => by
  have h1 := he _ ha.fr none pos after g
  rw [evalD] at h1
  unfold wpListIn
  rw [if_pos (wantD ha (o := ⟨none, op, ty, pos, after, g⟩) hg)]
  refine ⟨fun _ _ => trivial, ?_⟩
  rw [R.semAt h1 (he.noDefer ha.fr)]
  exact h _ ha
theorem OR.pass {d : Nat} {op : Op} {ty : TypeId} {pos : String} {after : Array Edge} {g : Option (Nat × Bool)} (hg : wantS ops σ g = some false) (hd : Nat.blt d n = true)
    (h : OR P R ops rest k n ((d, undef) :: σ) w) : OR P R ops (⟨some d, op, ty, pos, after, g⟩ :: rest) k n σ w := fun a ha => by
  unfold wpListIn
  rw [if_neg (by rw [wantD ha (o := ⟨some d, op, ty, pos, after, g⟩) hg]; simp)]
  exact ⟨fun _ _ => trivial, h _ (ha.put hd undef)⟩
theorem callsIn_round {r : Option Nat} {m : Nat} {f : FuncId} {args : Array Value} {Q : Ending → World → Prop} (h : Calls P f args w Q) : CallsIn { Fence.wide with round := r } m P f args w Q := by
  have h1 : CallsIn Fence.wide m P f args w Q := callsIn_wide.2 h
  exact h1
theorem OR.callE {d : Nat} {op : Op} {ty : TypeId} {pos : String} {after : Array Edge} {g : Option (Nat × Bool)} {f : FuncId} {args : List Value} {Q : Value → World → Prop} (hg : wantS ops σ g = some true) (hd : Nat.blt d n = true)
    (he : EC P n σ op ty w f args.toArray) (hc : Ret P f args w Q) (h : ∀ v w', Q v w' → OR P R ops rest k n ((d, v) :: σ) w') : OR P R ops (⟨some d, op, ty, pos, after, g⟩ :: rest) k n σ w := fun a ha => by
  have h1 := he _ ha.fr (some d) pos after g
  rw [evalD] at h1
  unfold wpListIn
  rw [if_pos (wantD ha (o := ⟨some d, op, ty, pos, after, g⟩) hg)]
  refine ⟨fun _ _ => trivial, ?_⟩
  rw [R.semAt h1 (he.noDefer ha.fr)]
  refine ⟨fun q => (by cases q), ?_⟩
  refine callsIn_round (hc.2.mono fun e w'' ⟨v, he, q⟩ => ?_)
  subst he
  exact h v w'' q _ (ha.put hd v)
theorem OR.call {d : Nat} {f : FuncId} {xs : List Operand} {ats : Array TypeId} {ty : TypeId} {pos : String} {after : Array Edge} {g : Option (Nat × Bool)} {vs : List Value} {Q : Value → World → Prop}
    (hg : wantS ops σ g = some true) (hd : Nat.blt d n = true) (hx : evs σ xs = some vs) (hc : Ret P f vs w Q) (h : ∀ v w', Q v w' → OR P R ops rest k n ((d, v) :: σ) w') :
    OR P R ops (⟨some d, .call { callee := .value (.func f), args := xs.toArray, argTypes := ats }, ty, pos, after, g⟩ :: rest) k n σ w := by
  obtain ⟨⟨fn, h1, h2⟩, _⟩ := id hc
  exact OR.callE hg hd (EC.go h1 h2 hx) hc h
def YieldR (P : Program) (m l : Nat) (args : List Value) (W : World) (Q : Value → World → Prop) : Prop := YieldAt Fence.wide m P l args.toArray W fun e W' => ∃ v, e = .returned v ∧ Q v W'
theorem OR.yield {d : Nat} {x t : Operand} {ats : Array TypeId} {ty : TypeId} {pos : String} {after : Array Edge} {g : Option (Nat × Bool)} {lr : Nat} {v : Value} {Q : Value → World → Prop} (hr : R.round = none)
    (hg : wantS ops σ g = some true) (hd : Nat.blt d n = true) (ht : ev σ t = some (.func (.yield lr) #[] #[])) (hx : ev σ x = some v) (hc : YieldR P (R.m - 1) lr [v] w Q)
    (h : ∀ u w', Q u w' → OR P R ops rest k n ((d, u) :: σ) w') :
    OR P R ops (⟨some d, .call { callee := .value t, args := #[x], argTypes := ats }, ty, pos, after, g⟩ :: rest) k n σ w := fun a ha => by
  obtain ⟨ro, m, ds, post⟩ := R
  simp only at hr
  subst hr
  obtain ⟨fn, tmps, assign, body, hy, hR⟩ := hc
  have et : a.eval t = .func (.yield lr) #[] #[] := by have := ha.fr.ev ht; rwa [evalD] at this
  have ex : a.eval x = v := by have := ha.fr.ev hx; rwa [evalD] at this
  unfold wpListIn
  rw [if_pos (wantD ha (o := ⟨some d, .call { callee := .value t, args := #[x], argTypes := ats }, ty, pos, after, g⟩) hg)]
  refine ⟨fun _ _ => trivial, ?_⟩
  have h1 : (execOp a.eval ⟨some d, .call { callee := .value t, args := #[x], argTypes := ats }, ty, pos, after, g⟩).run P w = .ok (.round lr fn tmps assign body) w := by
    simp only [execOp, resolve, Deferred.ofValue, et, Sem.run_bind, Sem.run_pure, Result.andThen_ok, invoke]
    simpa [ex] using hy
  rw [RP.semAt _ h1 (by simp)]
  refine ⟨fun q => (by cases q), ?_⟩
  have hR' : RoundIn (RP.F ⟨none, m, ds, post⟩) (m - 1) P lr fn tmps assign body w _ := hR
  refine hR'.mono fun e w'' ⟨u, he, q⟩ => ?_
  subst he
  exact h u w'' q _ (ha.put hd u)
end
section
variable {P : Program} {R : RP} {ops : Array Oper} {rest : List Oper} {k : List KI} {n : Nat} {σ : Sig} {w : World} {x y t : Operand} {T T' e ty : TypeId} {pos : String} {after : Array Edge} {gd : Option (Nat × Bool)} {d : Nat} {v z : Value} {s bs : Nat} {l : List Value}
theorem OR.boxB (hg : wantS ops σ gd = some true) (hd : Nat.blt d n = true) (hx : ev σ x = some v) (h1 : v.oneCell' = true)
    (h : ∀ b w', w.heap.size ≤ b → Bk w' b T [v] → Ext w w' → OR P R ops rest k n ((d, .pointer (some ⟨b, 0, none⟩)) :: σ) w') :
    OR P R ops (⟨some d, .box T x, ty, pos, after, gd⟩ :: rest) k n σ w :=
  OR.val hg hd (EX.box1 hx h1) (h _ _ (Nat.le_refl _) (Bk.new w T [v]) (Ext.alloc w _))
theorem OR.allocB (hg : wantS ops σ gd = some true) (hd : Nat.blt d n = true) (hi : TI P T z s bs) (hl : z.cells.toList = l)
    (h : ∀ b w', w.heap.size ≤ b → Bk w' b T l → Ext w w' → OR P R ops rest k n ((d, .pointer (some ⟨b, 0, none⟩)) :: σ) w') :
    OR P R ops (⟨some d, .alloc T, ty, pos, after, gd⟩ :: rest) k n σ w :=
  OR.val hg hd (EX.alloc hi hl) (h _ _ (Nat.le_refl _) (Bk.new w T l) (Ext.alloc w _))
theorem OR.storeB {b i : Nat} (hg : wantS ops σ gd = some true) (hi : TI P T z 1 bs) (hx : ev σ x = some (.pointer (some ⟨b, i, none⟩))) (hy : ev σ y = some v) (h1 : v.oneCell' = true) (hb : Bk w b T' l) (hlt : i < l.length)
    (h : ∀ w', Bk w' b T' (l.set i v) → Mo w w' [b] → OR P R ops rest k n σ w') :
    OR P R ops (⟨none, .store T x y, ty, pos, after, gd⟩ :: rest) k n σ w :=
  OR.eff hg (EU.storeBk hi hx hy h1 hb hlt) (h _ (hb.set i v) (Mo.set w b i v))
theorem OR.buildB {parts : Array (Nat × Operand)} {vs : List Value} (len : Nat) (hg : wantS ops σ gd = some true) (hd : Nat.blt d n = true) (ht : P.underlying T = some (.slice e)) (hi : TI P e z 1 bs) (hz1 : z.oneCell' = true)
    (hv : evs σ (parts.toList.map (·.2)) = some vs) (hp : parts.toList.map (·.1) = List.range' 0 parts.toList.length) (hl : vs.length = len) (h1 : vs.all (·.oneCell') = true) (hlen : len ≤ 16777216)
    (h : ∀ b w', w.heap.size ≤ b → Bk w' b e vs → Ext w w' → OR P R ops rest k n ((d, .slice (some ⟨b, 0, none⟩) len len) :: σ) w') :
    OR P R ops (⟨some d, .buildSlice T len parts, ty, pos, after, gd⟩ :: rest) k n σ w :=
  OR.val hg hd (EX.buildSlice len ht hi hz1 hv hp hl h1 hlen) (h _ _ (Nat.le_refl _) (Bk.new w e vs) (Ext.alloc w _))
theorem OR.callV {f : FuncId} {xs : List Operand} {ats : Array TypeId} {vs fv cv args : List Value} {Q : Value → World → Prop}
    (hg : wantS ops σ gd = some true) (hd : Nat.blt d n = true) (ht : ev σ t = some (.func (.func f) fv.toArray cv.toArray)) (hx : evs σ xs = some vs) (he : fv ++ vs ++ cv = args) (hc : Ret P f args w Q)
    (h : ∀ v w', Q v w' → OR P R ops rest k n ((d, v) :: σ) w') :
    OR P R ops (⟨some d, .call { callee := .value t, args := xs.toArray, argTypes := ats }, ty, pos, after, gd⟩ :: rest) k n σ w := by
  obtain ⟨⟨fn, h1, h2⟩, _⟩ := id hc
  exact OR.callE hg hd (EC.val h1 h2 ht hx he) hc h
end
section
variable {P : Program} {R : RP} {ops : Array Oper} {rest : List Oper} {k : List KI} {n : Nat} {σ : Sig} {w : World} {x y : Operand} {t t' e ty : TypeId} {pos : String} {after : Array Edge} {gd : Option (Nat × Bool)} {d : Nat}
theorem OR.append (B : Nat) {z : Value} {s bs : Nat} (hg : wantS ops σ gd = some true) (hd : Nat.blt d n = true) (ht : P.underlying t = some (.slice e)) (hi : TI P e z s bs) (hzs : z.cells.size = s) (hs0 : 0 < s)
    {v xv : Value} {m l : Nat} {xs news : List Value} (hx : ev σ x = some v) (hy : ev σ y = some xv) (hown : Own w B e s v l xs) (hsrc : Src P s t' xv m news w)
    (h63 : l + m ≤ maxLen) (hbytes : (l + m) * bs ≤ 140737488355328) (hB : B ≤ w.heap.size)
    (h : ∀ v' w', Own w' B e s v' (l + m) (xs ++ news) → w.grownBy w' v.ownBlock → (v'.ownBlock = v.ownBlock ∨ v'.ownBlock = some w.heap.size) → OR P R ops rest k n ((d, v') :: σ) w') :
    OR P R ops (⟨some d, .call { callee := .builtin .append, args := #[x, y], argTypes := #[t, t'] }, ty, pos, after, gd⟩ :: rest) k n σ w := by
  obtain ⟨v', w', hr, h2, h3, h4⟩ := run_append (P := P) B t t' ty e ht hi hzs hs0 hown hsrc h63 hbytes hB
  refine OR.val hg hd (v := v') (w' := w') ?_ (h v' w' h2 h3 h4)
  intro A ha dst pos after g
  simp only [execOp, resolve, invoke, builtin, Sem.run_bind, Sem.run_pure, Result.andThen_ok, List.map_toArray, List.map_cons, List.map_nil, ha.ev hx, ha.ev hy, hr]
end
section
variable {P : Program} {R : RP} {ops : Array Oper} {rest : List Oper} {k : List KI} {n : Nat} {σ : Sig} {w w0 : World} {x y : Operand} {t t' e ty ty1 : TypeId} {pos pos1 : String} {after after1 : Array Edge} {gd gd1 : Option (Nat × Bool)} {d d1 : Nat}
theorem OR.appendX {z : Value} {s bs : Nat} (hg : wantS ops σ gd = some true) (hd : Nat.blt d n = true) (ht : P.underlying t = some (.slice e)) (hi : TI P e z s bs) (hzs : z.cells.size = s) (hs0 : 0 < s)
    {v xv : Value} {m l : Nat} {xs news : List Value} (hx : ev σ x = some v) (hy : ev σ y = some xv) (hext : Ext w0 w) (hown : Own w w0.heap.size e s v l xs) (hsrc : Src P s t' xv m news w)
    (h63 : l + m ≤ maxLen) (hbytes : (l + m) * bs ≤ 140737488355328)
    (h : ∀ v' w', Own w' w0.heap.size e s v' (l + m) (xs ++ news) → Ext w0 w' → w.grownBy w' v.ownBlock → (v'.ownBlock = v.ownBlock ∨ v'.ownBlock = some w.heap.size) → OR P R ops rest k n ((d, v') :: σ) w') :
    OR P R ops (⟨some d, .call { callee := .builtin .append, args := #[x, y], argTypes := #[t, t'] }, ty, pos, after, gd⟩ :: rest) k n σ w :=
  OR.append w0.heap.size hg hd ht hi hzs hs0 hx hy hown hsrc h63 hbytes hext.size fun v' w' h1 h2 h3 => h v' w' h1 (hext.grown h2 fun g hg => (hown.lt g hg).1) h2 h3
theorem OR.push {z : Value} {bs : Nat} (hg1 : wantS ops σ gd1 = some true) (hd1 : Nat.blt d1 n = true) (hg : ∀ u, wantS ops ((d1, u) :: σ) gd = some true) (hd : Nat.blt d n = true) (ht : P.underlying t = some (.slice e)) (hi : TI P e z 1 bs) (hz1 : z.oneCell' = true)
    {v u : Value} {l : Nat} {xs : List Value} (hy : ev σ y = some u) (hx : ∀ q, ev ((d1, q) :: σ) x = some v) (hu : u.oneCell' = true) (hext : Ext w0 w) (hown : Own w w0.heap.size e 1 v l xs)
    (h63 : l + 1 ≤ maxLen) (hbytes : (l + 1) * bs ≤ 140737488355328)
    (h : ∀ q v' w', Own w' w0.heap.size e 1 v' (l + 1) (xs ++ [u]) → Ext w0 w' → w.grownBy w' v.ownBlock → (v'.ownBlock = v.ownBlock ∨ ∃ g, v'.ownBlock = some g ∧ w.heap.size ≤ g) → OR P R ops rest k n ((d, v') :: (d1, q) :: σ) w') :
    OR P R ops (⟨some d1, .buildSlice t 1 #[(0, y)], ty1, pos1, after1, gd1⟩ :: ⟨some d, .call { callee := .builtin .append, args := #[x, .tmp d1], argTypes := #[t, t] }, ty, pos, after, gd⟩ :: rest) k n σ w := by
  refine OR.val hg1 hd1 (EX.buildSlice (vs := [u]) 1 ht hi hz1 (by simp [evs, hy]) rfl rfl (by simp [hu]) (by decide)) ?_
  have hx1 : Ext w0 (w.alloc (.cells [u].toArray e)) := hext.trans (Ext.alloc w _)
  have hb := Bk.new w e [u]
  refine OR.appendX (hg _) hd ht hi (by rw [oneCell_cells hz1]; rfl) (by decide) (hx _) (lk_cons_same _ _ _) hx1 (hown.alloc _) (Src.of_sl ht (Sl.of_bk hb hb.lt) rfl (by simpa using hu) (by decide)) h63 hbytes ?_
  intro v' w' h1 h2 h3 h4
  refine h _ v' w' h1 h2 ⟨h3.os, h3.tape, h3.output, by have := h3.size; simp at this; omega, fun j hj hne => ?_⟩ ?_
  · rw [h3.block j (by simp; omega) hne]
    exact Below.heap_alloc w _ j hj
  · rcases h4 with h4 | h4
    · exact .inl h4
    · exact .inr ⟨_, h4, by simp⟩
end
def RP.mark (R : RP) (D : Nat) : RP := { R with ds := { target := .collected D, args := #[] } :: R.ds }
theorem psr_mark {P : Program} {R : RP} {D : Nat} : ∀ (k : List KI) (e : Exit), psr P (R.mark D) k e = psr P R k e
  | [], e => rfl
  | .code c :: k, e => by
    have ih : psr P (R.mark D) k = psr P R k := funext (psr_mark k)
    cases e <;> (simp only [psr, ih]; try rfl)
  | .blk id :: k, e => by
    have ih : psr P (R.mark D) k = psr P R k := funext (psr_mark k)
    cases e <;> simp only [psr, ih]
  | .asr I :: k, e => by
    have ih : psr P (R.mark D) k = psr P R k := funext (psr_mark k)
    cases e <;> simp only [psr, ih]
section
variable {P : Program} {R : RP} {k : List KI} {n : Nat} {σ : Sig} {w : World}
theorem stepR_scope {b : Frame} {a : Act} {c : Code} {k : List Item} {cs : List Frame} : step P (lone (b.atR a (.code (.scope c) :: k)) cs w) = .next (lone (b.atR a (.code c :: .inScope c :: k)) cs w) :=
  step_lone_go (by simp [stepG, stepG.exec, Frame.atR])
theorem stepR_inScope {b : Frame} {a : Act} {c : Code} {k : List Item} {cs : List Frame} : step P (lone (b.atR a (.inScope c :: k)) cs w) = .next (lone (b.atR a k) cs w) :=
  step_lone_go (by simp [stepG, stepG.exec, Frame.atR])
theorem wpIn_scope {F : Fence} {n : Nat} {a : Act} {Q : Exit → Act → World → Prop} {c : Code} (h : c.wpIn F n P Q a w) (hg : ∀ l a w, Q (.goto l) a w → False) : (Code.scope c).wpIn F n P Q a w := by
  intro b k cs hro hb hr
  have h0 : (lone (b.atR a (.code (.scope c) :: k)) cs w).fenced P F := fenced_calm hb hr rfl
  obtain ⟨e, a₁, w₁, hq, harr⟩ := h b (.inScope c :: k) cs hro hb hr
  cases e with
  | normal => exact ⟨.normal, a₁, w₁, hq, .head h0 stepR_scope (StepsIn.trans harr (.one (fenced_calm hb hr rfl) stepR_inScope))⟩
  | exit id =>
    have hx : exitTo id (.inScope c :: k) = exitTo id k := by simp [exitTo]
    exact ⟨_, a₁, w₁, hq, fun k' hk => .head h0 stepR_scope (harr.1 k' (by rw [hx]; exact hk)),
      fun hr' hk => let ⟨k₁, h1, h2⟩ := harr.2 hr' (by rw [hx]; exact hk); ⟨k₁, h1, .head h0 stepR_scope h2⟩⟩
  | goto l => exact (hg _ _ _ hq).elim
  | ret => exact ⟨_, a₁, w₁, hq, .of_steps (.one h0 stepR_scope) harr⟩
  | panic ch => exact ⟨_, a₁, w₁, hq, .of_steps (.one h0 stepR_scope) harr⟩
  | outgrown => exact ⟨_, a₁, w₁, hq, .of_steps (.one h0 stepR_scope) harr⟩
theorem psr_goto {l : Nat} : ∀ (k : List KI) (a : Act) (w : World), psr P R k (.goto l) a w = R.post (.goto l) a w
  | [], _, _ => rfl
  | .code _ :: k, a, w => psr_goto k a w
  | .blk _ :: k, a, w => psr_goto k a w
  | .asr _ :: k, a, w => psr_goto k a w
theorem KR.scope {c : Code} (hg : ∀ l a w, R.post (.goto l) a w → False) (h : KR P R (.code c :: k) n σ w) : KR P R (.code (.scope c) :: k) n σ w := fun a ha =>
  wpIn_scope (h a ha) (fun l a w q => hg l a w (by rw [psr_goto] at q; exact q))
theorem KR.exitOut {id : Nat} (hk : popTo id k = none) (h : ∀ a, FrD R n σ a → R.post (.exit id) a w) : KR P R (.code (.exit id) :: k) n σ w := fun a ha => by
  refine wpIn_exit ?_
  have key : ∀ k, popTo id k = none → psr P R k (.exit id) a w = R.post (.exit id) a w := by
    intro k
    induction k with
    | nil => intro _; rfl
    | cons x k ih =>
      intro hk
      cases x with
      | code c => exact ih hk
      | asr I => exact ih hk
      | blk i =>
        simp only [popTo] at hk
        by_cases e : id = i
        · subst e
          have : Nat.beq id id = true := by simp
          rw [this] at hk
          cases hk
        · have : Nat.beq id i = false := by
            cases hb : Nat.beq id i with
            | false => rfl
            | true => exact absurd (Nat.eq_of_beq_eq_true hb) e
          rw [this] at hk
          simp only [psr]
          rw [if_neg e]
          exact ih hk
  rw [key k hk]
  exact h a ha
theorem KR.rangeF {α : Type} (hr : R.round = none) (hm : 1 ≤ R.m) {g : Operand} {p d id : Nat} {op : Op} {ty : TypeId} {pos : String} {after : Array Edge} {body : Code} {gf : Nat} {lb : List Value} {fn : Func}
    (hf : P.funcs[gf]? = some fn) (hn : (!(fn.name == "runtime.NumGoroutine") && fn.body.isSome) = true)
    (hg : ev σ g = some (.func (.func gf) #[] lb.toArray)) (hp : Nat.blt p n = true) (hd : Nat.blt d n = true)
    (hop : ∀ (a : Act) (W : World), (execOp a.eval ⟨some d, op, ty, pos, after, none⟩).run P W = .ok (.value (a.eval (.tmp p))) W) (hopd : ∀ c, op ≠ .defer c)
    {enc : α → Value} {Kp : World → World → Prop} {S Sp : List α → Prop} {N : Nat} (hseq : SeqStopsK Fence.wide (R.m - 1) P gf lb.toArray (fun x => #[enc x]) Kp S Sp N w)
    (hKt : ∀ {A B C : World}, Kp A B → Kp B C → Kp A C) (hKb : ∀ (W : World) (l : Nat) (o o' : Obj), w.heap.size ≤ l → W.heap[l]? = some o → o.isCells = false → o.isWalk = false → Kp W (W.putObj l o'))
    (I : List α → World → Prop) (Ix : Code → List α → World → Prop) (hI : OwnFrom w.heap.size I) (hIx : ∀ c, OwnFrom w.heap.size (Ix c)) (h0 : I [] w)
    (hbody : ∀ (l : Nat) (pre : List α) (x : α) (W : World), I pre W → pre.length < N → KR P ⟨some l, R.m - 1 - 1, [], ownPostK Kp I Ix (pre ++ [x]) W⟩ [.code body] n ((d, enc x) :: (p, enc x) :: σ) W)
    (hdone : ∀ (D : Nat) (xs : List α) (W : World), w.heap.size ≤ D → S xs → I xs W → W.heap[D]? = some (.deferred (some [])) → KR P (R.mark D) k n σ W)
    (hstop : ∀ (D : Nat) (c : Code) (pre : List α) (W : World), w.heap.size ≤ D → Sp pre → Ix c pre W → W.heap[D]? = some (.deferred (some [])) → KR P (R.mark D) (.code c :: k) n σ W) :
    KR P R (.code (.rangeFunc g #[p] (.region id #[⟨some d, op, ty, pos, after, none⟩] false) body) :: k) n σ w := fun a ha => by
  obtain ⟨ro, m, ds, post⟩ := R
  simp only at hr
  subst hr
  have hge : a.eval g = .func (.func gf) #[] lb.toArray := ha.ev hg
  have hps : p < a.tmps.size := by have := ha.fr.size; simp only at this; rw [this]; simpa [Nat.blt_eq] using hp
  show Code.wpIn Fence.wide m P _ (psr P _ k) a w
  refine wpIn_rangeFunc_ownF (F := Fence.wide) (n := m) rfl hm (lb := lb.toArray) hge trivial (fun args w => run_callFunc hf hn args) hseq hKt hKb (Below.refl _ _) (fun _ => rfl) I Ix hI hIx h0
    (fun x => { tmps := (a.tmps.setIfInBounds p (enc x)).setIfInBounds d (enc x), defers := [] }) ?_ ?_ ?_ ?_
  · intro l x W K hK
    refine wpIn_region_lit (l := [⟨some d, op, ty, pos, after, none⟩]) ?_
    have ez : ∀ f : Array Value → Tmp × Value → Array Value, ((#[p] : Array Tmp).zip #[enc x]).foldl f a.tmps = f a.tmps (p, enc x) := fun f => by simp
    rw [ez]
    unfold wpListIn
    rw [if_pos (by rfl)]
    refine ⟨fun _ _ => trivial, ?_⟩
    rw [Oper.semAt_eq _ _ _ hopd, hop]
    have e : (({ tmps := a.tmps.setIfInBounds p (enc x), defers := [] } : Act).eval (.tmp p)) = enc x := by simp [Act.eval, hps]
    show K (Act.put { tmps := a.tmps.setIfInBounds p (enc x), defers := [] } (some d) (Act.eval { tmps := a.tmps.setIfInBounds p (enc x), defers := [] } (.tmp p))) W
    rw [e]
    exact hK
  · intro l pre x W hi hl
    exact hbody l pre x W hi hl _ ⟨(ha.fr.put hp (enc x)).put hd (enc x), rfl⟩
  · intro D xs W hD hS hi hK
    have h := hdone D xs W hD hS hi hK { a with defers := { target := .collected D, args := #[] } :: a.defers } ⟨ha.fr, by show _ :: a.defers = _ :: ds; rw [ha.df]⟩
    rw [psr_mark] at h
    exact h
  · intro D c pre W hD hS hi hK
    have h := hstop D c pre W hD hS hi hK { a with defers := { target := .collected D, args := #[] } :: a.defers } ⟨ha.fr, by show _ :: a.defers = _ :: ds; rw [ha.df]⟩
    rw [psr_mark] at h
    exact h
end
theorem Ret.enterR {P : Program} {f : FuncId} {fn : Func} {c : Code} {args : List Value} {w : World} {Q : Value → World → Prop} {n : Nat} (m : Nat) (hf : P.funcs[f]? = some fn) (hb : fn.body = some c) (hnt : fn.ntmps = n)
    (hn : (!(fn.name == "runtime.NumGoroutine") && fn.body.isSome) = true) (hl : args.length + (n - args.length) = n)
    (h : KR P ⟨none, m, [], bodyPostM Fence.wide m P fn (fun e w' => ∃ v, e = .returned v ∧ Q v w')⟩ [.code c] n (argSig 0 args) w) : Ret P f args w Q := by
  refine ⟨⟨fn, hf, hn⟩, (callsIn_wide (n := m)).1 (callsIn_of_wp_marks hf hb trivial ?_)⟩
  have hfr : Fr n (argSig 0 args) { tmps := args.toArray ++ Array.replicate (fn.ntmps - args.toArray.size) undef, defers := [] } := by
    have := Fr.start args (n - args.length)
    rw [hl] at this
    simpa [hnt] using this
  exact h _ ⟨hfr, rfl⟩
section
variable {P : Program} {fn : Func} {Q : Value → World → Prop} {n m D : Nat} {σ : Sig} {w : World} {R : RP}
theorem retR_of {v : Value} {e : Exit} (he : e = .normal ∨ e = .ret) (hds : R.ds = []) (hp : R.post = bodyPostM Fence.wide m P fn (fun e w' => ∃ v, e = .returned v ∧ Q v w')) (hr : ∀ a, FrD R n σ a → (results fn a.tmps).run P w = .ok v w) (hq : Q v w) :
    ∀ a, FrD R n σ a → R.post e a w := fun a ha => by
  rw [hp]
  have h1 : LeavesInM Fence.wide m P fn a.tmps (fun e w' => ∃ v, e = .returned v ∧ Q v w') a.defers .returning w := by
    rw [ha.df, hds]
    exact ⟨v, hr a ha, v, rfl, hq⟩
  rcases he with rfl | rfl <;> exact h1
theorem retM_of {v : Value} {e : Exit} (he : e = .normal ∨ e = .ret) (hds : R.ds = [{ target := .collected D, args := #[] }]) (hp : R.post = bodyPostM Fence.wide m P fn (fun e w' => ∃ v, e = .returned v ∧ Q v w')) (hK : w.heap[D]? = some (.deferred (some [])))
    (hr : ∀ a w, FrD R n σ a → (results fn a.tmps).run P w = .ok v w) (hq : Q v (w.putObj D (.deferred none))) :
    ∀ a, FrD R n σ a → R.post e a w := fun a ha => by
  rw [hp]
  have h1 : LeavesInM Fence.wide m P fn a.tmps (fun e w' => ∃ v, e = .returned v ∧ Q v w') a.defers .returning w := by
    rw [ha.df, hds]
    exact ⟨by simp, .inl ⟨D, _, rfl, run_takeDeferred hK, v, hr a _ ha, v, rfl, hq⟩⟩
  rcases he with rfl | rfl <;> exact h1
theorem retR0 {e : Exit} (he : e = .normal ∨ e = .ret) (hds : R.ds = []) (hp : R.post = bodyPostM Fence.wide m P fn (fun e w' => ∃ v, e = .returned v ∧ Q v w')) (hs : fn.results = #[]) (hq : Q (.tuple #[]) w) : ∀ a, FrD R n σ a → R.post e a w :=
  retR_of he hds hp (fun _ _ => results_none hs _ _ _) hq
theorem retR2 {e : Exit} (he : e = .normal ∨ e = .ret) {t u : Nat} {v x : Value} (hds : R.ds = []) (hp : R.post = bodyPostM Fence.wide m P fn (fun e w' => ∃ v, e = .returned v ∧ Q v w')) (hs : fn.results = #[.tmp t, .tmp u]) (hv : lk σ t = some v) (hx : lk σ u = some x) (hq : Q (.tuple #[v, x]) w) :
    ∀ a, FrD R n σ a → R.post e a w :=
  retR_of he hds hp (fun a ha => by rw [results_tmp2 hs]; have h1 := ha.fr.val t v hv; have h2 := ha.fr.val u x hx; simp only at h1 h2; simp [h1, h2]) hq
theorem retM2 {e : Exit} (he : e = .normal ∨ e = .ret) {t u : Nat} {v x : Value} (hds : R.ds = [{ target := .collected D, args := #[] }]) (hp : R.post = bodyPostM Fence.wide m P fn (fun e w' => ∃ v, e = .returned v ∧ Q v w')) (hK : w.heap[D]? = some (.deferred (some []))) (hs : fn.results = #[.tmp t, .tmp u]) (hv : lk σ t = some v) (hx : lk σ u = some x) (hq : Q (.tuple #[v, x]) (w.putObj D (.deferred none))) :
    ∀ a, FrD R n σ a → R.post e a w :=
  retM_of he hds hp hK (fun a w ha => by rw [results_tmp2 hs]; have h1 := ha.fr.val t v hv; have h2 := ha.fr.val u x hx; simp only at h1 h2; simp [h1, h2]) hq
end
theorem Ext.putObj {w W : World} (h : Ext w W) {D : Nat} (hD : w.heap.size ≤ D) (o : Obj) : Ext w (W.putObj D o) :=
  ⟨h.os, h.tape, h.output, by simpa using h.size, fun k hk => (World.putObj_heap_other (by omega)).trans (h.block k hk)⟩
theorem Bk.putObj {w : World} {b D : Nat} {T : TypeId} {l : List Value} (h : Bk w b T l) (hD : b ≠ D) (o : Obj) : Bk (w.putObj D o) b T l := h.of_block (World.putObj_heap_other hD)
end Go.Proofs.YtlpnoogcdnfllaaGreatDoor
namespace Go.Proofs.YtlpnoogcdnfllaaGreatDoor
open Go.RowKit
section
variable {P : Program} {n : Nat} {σ : Sig} {w : World} {x y : Operand} {t e ty T T' : TypeId} {b o : Nat} {z v : Value} {s bs : Nat} {l : List Value}
def places (P : Program) (fs : List Field) : Option (List (Nat × Nat)) :=
  match fs with
  | [] => some []
  | f :: r => match P.info? f.type, places P r with
    | some i, some l => some ((f.offset, i.size) :: l)
    | _, _ => none
theorem run_places : ∀ (fs : List Field) (l : List (Nat × Nat)), places P fs = some l → (fs.mapM fun f => (do pure (f.offset, ← sizeOf f.type) : Sem (Nat × Nat))).run P w = .ok l w
  | [], l, h => by
    simp only [places, Option.some.injEq] at h
    subst h
    simp
  | f :: r, l, h => by
    simp only [places] at h
    split at h
    · rename_i i l' hi hl
      injection h with h
      subst h
      have ih := run_places r l' hl
      have hs : (sizeOf f.type).run P w = .ok i.size w := by simp [sizeOf, typeInfo, hi, Sem.run_bind]
      simp only [List.mapM_cons, Sem.run_bind, hs, Result.andThen_ok, Sem.run_pure, ih]
    · cases h
def setAll : List Value → List Nat → List Value → List Value
  | cs, i :: is, v :: vs => setAll (cs.set i v) is vs
  | cs, _, _ => cs
theorem fill_setAll (pl : List (Nat × Nat)) : ∀ (pv : List (Nat × Value)) (is : List Nat) (cs : List Value), pv.length = is.length → (∀ (j : Nat) (p : Nat × Value) (i : Nat), pv[j]? = some p → is[j]? = some i → pl[p.1]? = some (i, 1) ∧ i < cs.length ∧ p.2.oneCell' = true) →
    Instr.fill (pl.toArray[·]?) cs.toArray pv = some (setAll cs is (pv.map (·.2))).toArray
  | [], is, cs, hl, _ => by
    cases is with
    | nil => simp [Instr.fill, setAll]
    | cons _ _ => simp at hl
  | (k, v) :: pv, is, cs, hl, h => by
    cases is with
    | nil => simp at hl
    | cons i is =>
      obtain ⟨h1, h2, h3⟩ := h 0 (k, v) i rfl rfl
      have hc := oneCell_cells h3
      have ih := fill_setAll pl pv is (cs.set i v) (by simpa using hl) (fun j p i' hp hi' => by
        have := h (j + 1) p i' (by simpa using hp) (by simpa using hi')
        simpa using this)
      simp only [List.map_cons, setAll]
      simp only [Instr.fill]
      have e1 : pl.toArray[k]? = some (i, 1) := by simpa using h1
      rw [e1]
      simp only [hc]
      have hn : ¬ ((#[v] : Array Value).size ≠ 1 ∨ i + (#[v] : Array Value).size > cs.toArray.size) := by simp; omega
      have hz : (#[v] : Array Value).zipIdx.foldl (fun cs (x : Value × Nat) => cs.setIfInBounds (i + x.2) x.1) cs.toArray = (cs.set i v).toArray := by
        have : (#[v] : Array Value).zipIdx.foldl (fun cs (x : Value × Nat) => cs.setIfInBounds (i + x.2) x.1) cs.toArray = cs.toArray.setIfInBounds (i + 0) v := rfl
        rw [this]
        simp
      simp only [ne_eq, Bool.or_eq_true, decide_eq_true_eq]
      rw [if_neg (by simpa using hn), hz]
      exact ih
def placed (pl : List (Nat × Nat)) (m : Nat) : List Nat → List Nat → Bool
  | k :: ks, i :: is => (match pl[k]? with | some (i', 1) => Nat.beq i' i | _ => false) && Nat.blt i m && placed pl m ks is
  | [], [] => true
  | _, _ => false
theorem placed_at {pl : List (Nat × Nat)} {m : Nat} : ∀ {ks is : List Nat}, placed pl m ks is = true → ks.length = is.length ∧ ∀ (j k i : Nat), ks[j]? = some k → is[j]? = some i → pl[k]? = some (i, 1) ∧ i < m
  | [], [], _ => ⟨rfl, fun j k i hk _ => by simp at hk⟩
  | [], i :: is, h => by simp [placed] at h
  | k :: ks, [], h => by simp [placed] at h
  | k :: ks, i :: is, h => by
    simp only [placed, Bool.and_eq_true] at h
    obtain ⟨⟨h1, h2⟩, h3⟩ := h
    obtain ⟨e, f⟩ := placed_at h3
    refine ⟨by simp [e], fun j k' i' hk hi => ?_⟩
    cases j with
    | zero =>
      simp at hk hi
      subst hk; subst hi
      split at h1
      · rename_i i' hp
        rw [hp, Nat.eq_of_beq_eq_true h1]
        refine ⟨rfl, ?_⟩
        have h2' : Nat.ble (i + 1) m = true := h2
        exact Nat.le_of_ble_eq_true h2'
      · cases h1
    | succ j => exact f j k' i' (by simpa using hk) (by simpa using hi)
theorem EX.buildS {fs : Array Field} {parts : Array (Nat × Operand)} {pl : List (Nat × Nat)} {ks is : List Nat} {vs zs : List Value} (hu : P.underlying t = some (.struct fs)) (hi : TI P t (.agg zs.toArray) s bs) (hp : places P fs.toList = some pl)
    (hk : parts.toList.map (·.1) = ks) (hv : evs σ (parts.toList.map (·.2)) = some vs) (hc : placed pl zs.length ks is = true) (h1 : vs.all (·.oneCell') = true) (hl : setAll zs is vs = l) :
    EX P n σ (.build t parts) ty w (.agg l.toArray) w := fun A ha dst pos after g => by
  subst hl
  obtain ⟨i, hq, hz, _, _⟩ := hi.at
  have hev := ha.evs hv
  have hpv : (parts.map fun (p : Nat × Operand) => (p.1, A.eval p.2)).toList = ks.zip vs := by
    rw [← hk, ← hev]
    simp only [Array.toList_map, List.map_map, List.zip_map']
    rfl
  obtain ⟨e1, e2⟩ := placed_at hc
  have hlen : ks.length = vs.length := by rw [← hk, ← hev]; simp
  have hf := fill_setAll pl (ks.zip vs) is zs (by simp [hlen]; omega) (fun j p i' hp' hi' => by
    rw [List.getElem?_zip_eq_some] at hp'
    obtain ⟨h2, h3⟩ := hp'
    obtain ⟨h4, h5⟩ := e2 j p.1 i' h2 hi'
    exact ⟨h4, h5, List.all_eq_true.1 h1 _ (List.mem_of_getElem? h3)⟩)
  have hsnd : (ks.zip vs).map (·.2) = vs := by
    rw [← List.unzip_snd, List.unzip_zip_right]
    omega
  rw [hsnd] at hf
  have hm : (fs.mapM fun f => (do pure (f.offset, ← sizeOf f.type) : Sem (Nat × Nat))).run P w = .ok pl.toArray w := by
    have := run_places (P := P) (w := w) fs.toList pl hp
    obtain ⟨fl⟩ := fs
    rw [List.mapM_toArray, map_eq_pure_bind, Sem.run_bind, this]
    rfl
  simp only [execOp, Instr.build, Sem.run_bind, run_zeroValue hi, Result.andThen_ok, run_underlying hu, hm]
  rw [show (parts.map fun (x : Nat × Operand) => match x with | (i, x) => (i, A.eval x)).toList = ks.zip vs from hpv]
  rw [show ((Value.agg zs.toArray).cells) = zs.toArray from rfl, hf]
  rfl
theorem EX.fieldAddr {fs : Array Field} {fd : Field} {f off : Nat} (hu : P.underlying t = some (.struct fs)) (hf : fs[f]? = some fd) (ho : fd.offset = off) (hi : TI P fd.type z s bs) (hs : Nat.blt 0 s = true) (hx : ev σ x = some (.pointer (some ⟨b, o, none⟩))) :
    EX P n σ (.fieldAddr t x f) ty w (.pointer (some ⟨b, o + off, none⟩)) w := fun A ha dst pos after g => by
  subst ho
  have hs' : s ≠ 0 := by have : 1 ≤ s := Nat.le_of_ble_eq_true hs; omega
  have hadd : (⟨b, o, none⟩ : Addr).add fd.offset = ⟨b, o + fd.offset, none⟩ := by unfold Addr.add; split <;> simp_all
  simp only [execOp, ha.ev hx]
  simp [Instr.fieldAt, run_underlying hu, Sem.run_bind, hf, Instr.sureAddr, fieldPlace, run_sizeOf hi, hs', hadd]
theorem run_eq {u v : Value} {q : Bool} (e : binOp .eql t u v = (do pure (.bool (← Op.equal t u v)))) (h : ∀ d, (Op.equalIn (d + 1) t u v).run P w = .ok q w) : (binOp .eql t u v).run P w = .ok (.bool q) w := by
  have h1 : (Op.equal t u v).run P w = .ok q w := h 9999
  rw [e, Sem.run_bind, h1]
  rfl
theorem run_ne {u v : Value} {q : Bool} (e : binOp .neq t u v = (do pure (.bool !(← Op.equal t u v)))) (h : ∀ d, (Op.equalIn (d + 1) t u v).run P w = .ok (!q) w) : (binOp .neq t u v).run P w = .ok (.bool q) w := by
  have h1 : (Op.equal t u v).run P w = .ok (!q) w := h 9999
  rw [e, Sem.run_bind, h1]
  simp
theorem guard_ptr (op : BinOp) (i j : Option Addr) : (eqGuard op t x y (.pointer i) (.pointer j)).run P w = .ok () w := by
  unfold eqGuard; cases op <;> rfl
theorem EX.eqlP0 (hu : P.underlying t = some (.pointer e)) (hx : ev σ x = some (.pointer none)) (hy : ev σ y = some (.pointer none)) : EX P n σ (.binOp .eql t x y T) ty w (.bool true) w :=
  EX.bin hx hy (guard_ptr _ _ _) (run_eq rfl (fun d => by simp [Op.equalIn, run_underlying hu, Sem.run_bind]))
theorem EX.eqlP1 {a : Addr} (hu : P.underlying t = some (.pointer e)) (hx : ev σ x = some (.pointer (some a))) (hy : ev σ y = some (.pointer none)) : EX P n σ (.binOp .eql t x y T) ty w (.bool false) w :=
  EX.bin hx hy (guard_ptr _ _ _) (run_eq rfl (fun d => by simp [Op.equalIn, run_underlying hu, Sem.run_bind]))
theorem EX.neqF0 {p q : Array TypeId} {vd : Bool} (hu : P.underlying t = some (.func p q vd)) (hx : ev σ x = some .nilFunc) (hy : ev σ y = some .nilFunc) : EX P n σ (.binOp .neq t x y T) ty w (.bool false) w :=
  EX.bin hx hy (by unfold eqGuard; rfl) (run_ne rfl (fun d => by simp [Op.equalIn, run_underlying hu, Sem.run_bind]))
theorem EX.neqF1 {p q : Array TypeId} {vd : Bool} {f : Fn} {fi ca : Array Value} (hu : P.underlying t = some (.func p q vd)) (hx : ev σ x = some (.func f fi ca)) (hy : ev σ y = some .nilFunc) : EX P n σ (.binOp .neq t x y T) ty w (.bool true) w :=
  EX.bin hx hy (by unfold eqGuard; rfl) (run_ne rfl (fun d => by simp [Op.equalIn, run_underlying hu, Sem.run_bind]))
theorem EX.neqFb {p q : Array TypeId} {vd r : Bool} (hu : P.underlying t = some (.func p q vd)) (hx : ev σ x = some v) (hy : ev σ y = some .nilFunc) (hq : v = .nilFunc ∧ r = false ∨ ∃ f fi ca, v = .func f fi ca ∧ r = true) : EX P n σ (.binOp .neq t x y T) ty w (.bool r) w := by
  rcases hq with ⟨rfl, rfl⟩ | ⟨f, fi, ca, rfl, rfl⟩
  · exact EX.neqF0 hu hx hy
  · exact EX.neqF1 hu hx hy
end
section
variable {P : Program} {R : Act → World → Prop} {ops : Array Oper} {rest : List Oper} {k : List KI} {n : Nat} {σ : Sig} {w : World} {x y : Operand} {T T' e ty : TypeId} {pos : String} {after : Array Edge} {gd : Option (Nat × Bool)} {d : Nat} {v z : Value} {s bs : Nat} {l : List Value}
theorem OW.boxS (hg : wantS ops σ gd = some true) (hd : Nat.blt d n = true) (hx : ev σ x = some (.agg l.toArray))
    (h : ∀ b w', w.heap.size ≤ b → Bk w' b T l → Ext w w' → OW P R ops rest k n ((d, .pointer (some ⟨b, 0, none⟩)) :: σ) w') :
    OW P R ops (⟨some d, .box T x, ty, pos, after, gd⟩ :: rest) k n σ w :=
  OW.val hg hd (EX.box (l := l) hx (by simp [Value.cells])) (h _ _ (Nat.le_refl _) (Bk.new w T l) (Ext.alloc w _))
theorem OW.storeS {b o : Nat} {vs : List Value} (hg : wantS ops σ gd = some true) (hi : TI P T z s bs) (hx : ev σ x = some (.pointer (some ⟨b, o, none⟩))) (hy : ev σ y = some (.agg vs.toArray)) (hs : vs.length = s) (h1 : vs.all (·.oneCell') = true) (hb : Bk w b T' l) (hlt : o + vs.length ≤ l.length)
    (h : ∀ w', Bk w' b T' (l.take o ++ vs ++ l.drop (o + vs.length)) → Mo w w' [b] → OW P R ops rest k n σ w') :
    OW P R ops (⟨none, .store T x y, ty, pos, after, gd⟩ :: rest) k n σ w := by
  obtain ⟨w', he, hb', hg'⟩ := EU.storeA (P := P) (n := n) (ty := ty) hi hx hy hs h1 hb hlt
  exact OW.eff hg he (h w' hb' (Mo.grown hg' (fun k e => by simp at e; simp [e])))
end
end Go.Proofs.YtlpnoogcdnfllaaGreatDoor
namespace Go.Proofs.YtlpnoogcdnfllaaGreatDoor
open Go.Shelf
def Tryz.lays156_ren : Go.Shelf.Ren := ⟨fun | 156 => 79 | 165 => 64 | 166 => 65 | 169 => 67 | 240 => 83 | 241 => 84 | 276 => 89 | 277 => 90 | n => n, fun | 31 => 54 | 9 => 9 | 3 => 3 | 4 => 4 | 0 => 0 | 20 => 20 | 72 => 114 | 76 => 118 | 70 => 112 | 37 => 59 | 75 => 117 | 127 => 140 | 164 => 145 | 5 => 5 | 80 => 120 | n => n, fun | n => n⟩
theorem Tryz.lays156 : Go.Proofs.Lays.n156 Tryz.prog Tryz.lays156_ren := {
  mixed := by kernel_rfl
  f156 := Tryz.func79.trans (congrArg some (by kernel_rfl))
  f165 := Tryz.func64.trans (congrArg some (by kernel_rfl))
  f166 := Tryz.func65.trans (congrArg some (by kernel_rfl))
  f169 := Tryz.func67.trans (congrArg some (by kernel_rfl))
  f240 := Tryz.func83.trans (congrArg some (by kernel_rfl))
  f241 := Tryz.func84.trans (congrArg some (by kernel_rfl))
  f276 := Tryz.func89.trans (congrArg some (by kernel_rfl))
  f277 := Tryz.func90.trans (congrArg some (by kernel_rfl))
  t0 := Tryz.underlying0
  a0 := Tryz.isAgg0
  z0 := Tryz.sizeOf0
  v0 := Tryz.zeroValue0
  t3 := Tryz.underlying3
  a3 := Tryz.isAgg3
  z3 := Tryz.sizeOf3
  v3 := Tryz.zeroValue3
  t4 := Tryz.underlying4
  a4 := Tryz.isAgg4
  z4 := Tryz.sizeOf4
  v4 := Tryz.zeroValue4
  t9 := Tryz.underlying9
  a9 := Tryz.isAgg9
  z9 := Tryz.sizeOf9
  v9 := Tryz.zeroValue9
  t20 := Tryz.underlying20
  a20 := Tryz.isAgg20
  z20 := Tryz.sizeOf20
  v20 := Tryz.zeroValue20
  t31 := Tryz.underlying54
  a31 := Tryz.isAgg54
  z31 := Tryz.sizeOf54
  v31 := Tryz.zeroValue54
  t37 := Tryz.underlying59
  a37 := Tryz.isAgg59
  z37 := Tryz.sizeOf59
  v37 := Tryz.zeroValue59
  t70 := Tryz.underlying112
  a70 := Tryz.isAgg112
  z70 := Tryz.sizeOf112
  v70 := Tryz.zeroValue112
  t72 := Tryz.underlying114
  a72 := Tryz.isAgg114
  z72 := Tryz.sizeOf114
  v72 := Tryz.zeroValue114
  t75 := Tryz.underlying117
  a75 := Tryz.isAgg117
  z75 := Tryz.sizeOf117
  v75 := Tryz.zeroValue117
  t76 := Tryz.underlying118
  a76 := Tryz.isAgg118
  z76 := Tryz.sizeOf118
  v76 := Tryz.zeroValue118
  t127 := Tryz.underlying140
  a127 := Tryz.isAgg140
  z127 := Tryz.sizeOf140
  v127 := Tryz.zeroValue140
  t164 := Tryz.underlying145
  a164 := Tryz.isAgg145
  z164 := Tryz.sizeOf145
  v164 := Tryz.zeroValue145 }
theorem Tryz.Builder_Extra_156 : Builder.Extra Tryz.prog Tryz.lays156_ren := {
  sizeBuilder := by kernel_rfl
  liesBuilder := by kernel_rfl
  t5 := Tryz.underlying5
  a5 := Tryz.isAgg5
  z5 := Tryz.sizeOf5
  v5 := Tryz.zeroValue5
  infoByte := by kernel_rfl
  cellsByte := by kernel_rfl
  sizeByte := by kernel_rfl
  neB5 := by decide }
open Go.RowKit in
theorem Tryz.strings_Join_none (a : Option Addr) (c : Nat) (sep : ByteArray) (w : World) :
    Calls Tryz.prog 79 #[.slice a 0 c, .string sep] w fun e w' => e = .returned (.string ⟨#[]⟩) ∧ w' = w := Any.strings_Join_none Tryz.lays156 Tryz.Builder_Extra_156 a c sep w
open Go.RowKit in
theorem Tryz.strings_Join (bk o c : Nat) (xs : List ByteArray) (sep : ByteArray) (w : World) (hcells : ∀ (j : Nat) x, xs[j]? = some x → w.cell? ⟨bk, o + j, none⟩ = some (.string x)) (hbk : bk < w.heap.size) (hN : xs.length ≤ 140737488355328) (hcap : xs.length ≤ c) (hlen : (Lib.join (xs.map (·.data.toList)) sep.data.toList).length ≤ 140737488355328) :
    Calls Tryz.prog 79 #[.slice (some ⟨bk, o, none⟩) xs.length c, .string sep] w fun e w' => e = .returned (.string ⟨(Lib.join (xs.map (·.data.toList)) sep.data.toList).toArray⟩) ∧ Below w.heap.size w w' := Any.strings_Join Tryz.lays156 Tryz.Builder_Extra_156 bk o c xs sep w hcells hbk hN hcap hlen
def Tryz.lays106_ren : Go.Shelf.Ren := ⟨fun | 106 => 34 | 213 => 58 | 265 => 77 | n => n, fun | 9 => 9 | 3 => 3 | n => n, fun | n => n⟩
theorem Tryz.lays106 : Go.Proofs.Lays.n106 Tryz.prog Tryz.lays106_ren := {
  mixed := by kernel_rfl
  f106 := Tryz.func34.trans (congrArg some (by kernel_rfl))
  f213 := Tryz.func58.trans (congrArg some (by kernel_rfl))
  f265 := Tryz.func77.trans (congrArg some (by kernel_rfl))
  t3 := Tryz.underlying3
  a3 := Tryz.isAgg3
  z3 := Tryz.sizeOf3
  v3 := Tryz.zeroValue3
  t9 := Tryz.underlying9
  a9 := Tryz.isAgg9
  z9 := Tryz.sizeOf9
  v9 := Tryz.zeroValue9 }
open Go.RowKit in
theorem Tryz.strings_Compare (a b : ByteArray) (w : World) :
    Calls Tryz.prog 34 #[.string a, .string b] w fun e w' => e = .returned (.int .i64 (Lib.compareBytes a.data.toList b.data.toList)) ∧ w' = w := Any.strings_Compare Tryz.lays106 a b w
def Tryz.laysM219_ren : Go.Shelf.Ren := ⟨fun | 219 => 94 | 217 => 96 | 225 => 97 | 224 => 98 | 267 => 99 | 266 => 100 | 314 => 101 | n => n, fun | 9 => 9 | 3 => 3 | 4 => 4 | 5 => 5 | 46 => 77 | 146 => 136 | 51 => 25 | n => n, fun | 1 => 0 | n => n⟩
theorem Tryz.laysM219 : Go.Proofs.LaysM.n219 Tryz.prog Tryz.laysM219_ren := {
  mixed := by kernel_rfl
  f217 := Tryz.func96.trans (congrArg some (by kernel_rfl))
  f219 := Tryz.func94.trans (congrArg some (by kernel_rfl))
  f224 := Tryz.func98.trans (congrArg some (by kernel_rfl))
  f225 := Tryz.func97.trans (congrArg some (by kernel_rfl))
  f266 := Tryz.func100.trans (congrArg some (by kernel_rfl))
  f267 := Tryz.func99.trans (congrArg some (by kernel_rfl))
  f314 := Tryz.func101.trans (congrArg some (by kernel_rfl))
  t3 := Tryz.underlying3
  a3 := Tryz.isAgg3
  z3 := Tryz.sizeOf3
  v3 := Tryz.zeroValue3
  t4 := Tryz.underlying4
  a4 := Tryz.isAgg4
  z4 := Tryz.sizeOf4
  v4 := Tryz.zeroValue4
  t5 := Tryz.underlying5
  a5 := Tryz.isAgg5
  z5 := Tryz.sizeOf5
  v5 := Tryz.zeroValue5
  t9 := Tryz.underlying9
  a9 := Tryz.isAgg9
  z9 := Tryz.sizeOf9
  v9 := Tryz.zeroValue9
  t46 := Tryz.underlying77
  a46 := Tryz.isAgg77
  z46 := Tryz.sizeOf77
  v46 := Tryz.zeroValue77
  t51 := Tryz.underlying25
  a51 := Tryz.isAgg25
  z51 := Tryz.sizeOf25
  v51 := Tryz.zeroValue25
  t146 := Tryz.underlying136
  a146 := Tryz.isAgg136
  z146 := Tryz.sizeOf136
  v146 := Tryz.zeroValue136
  g1 := by kernel_rfl
  i3 := by kernel_rfl
  i4 := by kernel_rfl
  i5 := by kernel_rfl
  i9 := by kernel_rfl
  i46 := by kernel_rfl
  i51 := by kernel_rfl
  i146 := by kernel_rfl
  m1 := by kernel_rfl
  s1_3 := fun w h => Go.Proofs.cell_of_shapedOpen_int (zero := #[.int .i64 0]) (t := 3) h (of_decide_eq_true (by kernel_rfl)) (by kernel_rfl) rfl (by kernel_rfl) (by kernel_rfl) Tryz.underlying3 }
def Tryz.lays146_ren : Go.Shelf.Ren := ⟨fun | 146 => 57 | 221 => 76 | 268 => 86 | 138 => 87 | 143 => 88 | 195 => 91 | 197 => 92 | 218 => 93 | 219 => 94 | 260 => 95 | 217 => 96 | 225 => 97 | 224 => 98 | 267 => 99 | 266 => 100 | 314 => 101 | n => n, fun | 9 => 9 | 31 => 54 | 3 => 3 | 4 => 4 | 0 => 0 | 105 => 149 | 21 => 21 | 5 => 5 | 46 => 77 | 119 => 152 | 139 => 155 | 138 => 154 | 146 => 136 | 51 => 25 | n => n, fun | 1 => 0 | 3 => 1 | 4 => 2 | n => n⟩
theorem Tryz.lays146 : Go.Proofs.Lays.n146 Tryz.prog Tryz.lays146_ren := {
  mixed := by kernel_rfl
  f138 := Tryz.func87.trans (congrArg some (by kernel_rfl))
  f143 := Tryz.func88.trans (congrArg some (by kernel_rfl))
  f146 := Tryz.func57.trans (congrArg some (by kernel_rfl))
  f195 := Tryz.func91.trans (congrArg some (by kernel_rfl))
  f197 := Tryz.func92.trans (congrArg some (by kernel_rfl))
  f217 := Tryz.func96.trans (congrArg some (by kernel_rfl))
  f218 := Tryz.func93.trans (congrArg some (by kernel_rfl))
  f219 := Tryz.func94.trans (congrArg some (by kernel_rfl))
  f221 := Tryz.func76.trans (congrArg some (by kernel_rfl))
  f224 := Tryz.func98.trans (congrArg some (by kernel_rfl))
  f225 := Tryz.func97.trans (congrArg some (by kernel_rfl))
  f260 := Tryz.func95.trans (congrArg some (by kernel_rfl))
  f266 := Tryz.func100.trans (congrArg some (by kernel_rfl))
  f267 := Tryz.func99.trans (congrArg some (by kernel_rfl))
  f268 := Tryz.func86.trans (congrArg some (by kernel_rfl))
  f314 := Tryz.func101.trans (congrArg some (by kernel_rfl))
  t0 := Tryz.underlying0
  a0 := Tryz.isAgg0
  z0 := Tryz.sizeOf0
  v0 := Tryz.zeroValue0
  t3 := Tryz.underlying3
  a3 := Tryz.isAgg3
  z3 := Tryz.sizeOf3
  v3 := Tryz.zeroValue3
  t4 := Tryz.underlying4
  a4 := Tryz.isAgg4
  z4 := Tryz.sizeOf4
  v4 := Tryz.zeroValue4
  t5 := Tryz.underlying5
  a5 := Tryz.isAgg5
  z5 := Tryz.sizeOf5
  v5 := Tryz.zeroValue5
  t9 := Tryz.underlying9
  a9 := Tryz.isAgg9
  z9 := Tryz.sizeOf9
  v9 := Tryz.zeroValue9
  t21 := Tryz.underlying21
  a21 := Tryz.isAgg21
  z21 := Tryz.sizeOf21
  v21 := Tryz.zeroValue21
  t31 := Tryz.underlying54
  a31 := Tryz.isAgg54
  z31 := Tryz.sizeOf54
  v31 := Tryz.zeroValue54
  t46 := Tryz.underlying77
  a46 := Tryz.isAgg77
  z46 := Tryz.sizeOf77
  v46 := Tryz.zeroValue77
  t51 := Tryz.underlying25
  a51 := Tryz.isAgg25
  z51 := Tryz.sizeOf25
  v51 := Tryz.zeroValue25
  t105 := Tryz.underlying149
  a105 := Tryz.isAgg149
  z105 := Tryz.sizeOf149
  v105 := Tryz.zeroValue149
  t119 := Tryz.underlying152
  a119 := Tryz.isAgg152
  z119 := Tryz.sizeOf152
  t138 := Tryz.underlying154
  a138 := Tryz.isAgg154
  z138 := Tryz.sizeOf154
  v138 := Tryz.zeroValue154
  t139 := Tryz.underlying155
  a139 := Tryz.isAgg155
  z139 := Tryz.sizeOf155
  v139 := Tryz.zeroValue155
  t146 := Tryz.underlying136
  a146 := Tryz.isAgg136
  z146 := Tryz.sizeOf136
  v146 := Tryz.zeroValue136
  g1 := by kernel_rfl
  g3 := by kernel_rfl
  g4 := by kernel_rfl }
open Go.RowKit Go.Lib in
theorem Tryz.strings_Split (s sep : ByteArray) (m : Int) (w : World) (hs : s.size < 4294967281) (hm : w.cell? ⟨0, 0, none⟩ = some (.int .i64 m)) (h1 : 1 ≤ sep.size) :
    Calls Tryz.prog 57 #[.string s, .string sep] w fun e w' =>
      e = .returned (.slice (some ⟨w.heap.size, 0, none⟩) (Lib.countB s sep + 1) (Lib.countB s sep + 1)) ∧ w' = w.alloc (.cells ((Lib.splitB sep 0 (Lib.countB s sep) s).map Value.string).toArray 9) := Any.strings_Split Tryz.lays146 (by kernel_rfl) s sep m w hs hm h1
def Tryz.lays105_ren : Go.Shelf.Ren := ⟨fun | 105 => 39 | 212 => 62 | 99 => 63 | 165 => 64 | 166 => 65 | 170 => 66 | 169 => 67 | 263 => 80 | 264 => 81 | 206 => 82 | 240 => 83 | 241 => 84 | 276 => 89 | 277 => 90 | n => n, fun | 9 => 9 | 3 => 3 | 4 => 4 | 20 => 20 | 0 => 0 | 46 => 77 | 109 => 109 | 5 => 5 | 72 => 114 | 76 => 118 | 51 => 25 | 146 => 136 | 53 => 82 | 148 => 138 | 70 => 112 | 37 => 59 | 75 => 117 | 127 => 140 | 164 => 145 | 80 => 120 | n => n, fun | n => n⟩
theorem Tryz.lays105 : Go.Proofs.Lays.n105 Tryz.prog Tryz.lays105_ren := {
  mixed := by kernel_rfl
  f99 := Tryz.func63.trans (congrArg some (by kernel_rfl))
  f105 := Tryz.func39.trans (congrArg some (by kernel_rfl))
  f165 := Tryz.func64.trans (congrArg some (by kernel_rfl))
  f166 := Tryz.func65.trans (congrArg some (by kernel_rfl))
  f169 := Tryz.func67.trans (congrArg some (by kernel_rfl))
  f170 := Tryz.func66.trans (congrArg some (by kernel_rfl))
  f206 := Tryz.func82.trans (congrArg some (by kernel_rfl))
  f212 := Tryz.func62.trans (congrArg some (by kernel_rfl))
  f240 := Tryz.func83.trans (congrArg some (by kernel_rfl))
  f241 := Tryz.func84.trans (congrArg some (by kernel_rfl))
  f263 := Tryz.func80.trans (congrArg some (by kernel_rfl))
  f264 := Tryz.func81.trans (congrArg some (by kernel_rfl))
  f276 := Tryz.func89.trans (congrArg some (by kernel_rfl))
  f277 := Tryz.func90.trans (congrArg some (by kernel_rfl))
  t0 := Tryz.underlying0
  a0 := Tryz.isAgg0
  z0 := Tryz.sizeOf0
  v0 := Tryz.zeroValue0
  t3 := Tryz.underlying3
  a3 := Tryz.isAgg3
  z3 := Tryz.sizeOf3
  v3 := Tryz.zeroValue3
  t4 := Tryz.underlying4
  a4 := Tryz.isAgg4
  z4 := Tryz.sizeOf4
  v4 := Tryz.zeroValue4
  t5 := Tryz.underlying5
  a5 := Tryz.isAgg5
  z5 := Tryz.sizeOf5
  v5 := Tryz.zeroValue5
  t9 := Tryz.underlying9
  a9 := Tryz.isAgg9
  z9 := Tryz.sizeOf9
  v9 := Tryz.zeroValue9
  t20 := Tryz.underlying20
  a20 := Tryz.isAgg20
  z20 := Tryz.sizeOf20
  v20 := Tryz.zeroValue20
  t37 := Tryz.underlying59
  a37 := Tryz.isAgg59
  z37 := Tryz.sizeOf59
  v37 := Tryz.zeroValue59
  t46 := Tryz.underlying77
  a46 := Tryz.isAgg77
  z46 := Tryz.sizeOf77
  v46 := Tryz.zeroValue77
  t51 := Tryz.underlying25
  a51 := Tryz.isAgg25
  z51 := Tryz.sizeOf25
  v51 := Tryz.zeroValue25
  t53 := Tryz.underlying82
  a53 := Tryz.isAgg82
  z53 := Tryz.sizeOf82
  v53 := Tryz.zeroValue82
  t70 := Tryz.underlying112
  a70 := Tryz.isAgg112
  z70 := Tryz.sizeOf112
  v70 := Tryz.zeroValue112
  t72 := Tryz.underlying114
  a72 := Tryz.isAgg114
  z72 := Tryz.sizeOf114
  v72 := Tryz.zeroValue114
  t75 := Tryz.underlying117
  a75 := Tryz.isAgg117
  z75 := Tryz.sizeOf117
  v75 := Tryz.zeroValue117
  t76 := Tryz.underlying118
  a76 := Tryz.isAgg118
  z76 := Tryz.sizeOf118
  v76 := Tryz.zeroValue118
  t109 := Tryz.underlying109
  a109 := Tryz.isAgg109
  z109 := Tryz.sizeOf109
  v109 := Tryz.zeroValue109
  t127 := Tryz.underlying140
  a127 := Tryz.isAgg140
  z127 := Tryz.sizeOf140
  v127 := Tryz.zeroValue140
  t146 := Tryz.underlying136
  a146 := Tryz.isAgg136
  z146 := Tryz.sizeOf136
  v146 := Tryz.zeroValue136
  t148 := Tryz.underlying138
  a148 := Tryz.isAgg138
  z148 := Tryz.sizeOf138
  v148 := Tryz.zeroValue138
  t164 := Tryz.underlying145
  a164 := Tryz.isAgg145
  z164 := Tryz.sizeOf145
  v164 := Tryz.zeroValue145 }
theorem Tryz.Builder_Extra_105 : Builder.Extra Tryz.prog Tryz.lays105_ren := {
  sizeBuilder := by kernel_rfl
  liesBuilder := by kernel_rfl
  t5 := Tryz.underlying5
  a5 := Tryz.isAgg5
  z5 := Tryz.sizeOf5
  v5 := Tryz.zeroValue5
  infoByte := by kernel_rfl
  cellsByte := by kernel_rfl
  sizeByte := by kernel_rfl
  neB5 := by decide }
open Go.RowKit Go.Lib in
theorem Tryz.strings_Repeat (s : ByteArray) (c : Nat) (w : World) (hc : c ≤ 9223372036854775807) (hlen : s.size * c ≤ 140737488355328) :
    Calls Tryz.prog 39 #[.string s, .int .i64 c] w fun e w' => e = .returned (.string ⟨(Lib.repeatL s.data.toList c).toArray⟩) ∧ Below w.heap.size w w' := Any.strings_Repeat Tryz.lays105 Tryz.Builder_Extra_105 s c w hc hlen
end Go.Proofs.YtlpnoogcdnfllaaGreatDoor
namespace Go.Proofs.YtlpnoogcdnfllaaGreatDoor
open Go.RowKit Pth
def txtsV (l : Txts) : List Value := l.map fun s => str s
theorem txtsV_length (l : Txts) : (txtsV l).length = l.length := by simp [txtsV]
theorem txtsV_snoc (l : Txts) (x : List UInt8) : txtsV (l ++ [x]) = txtsV l ++ [str x] := by simp [txtsV]
theorem join_c (A : Option Addr) (c : Nat) (l : Txts) (B : Nat) (w : World) (hs : Sl w B A (txtsV l)) (hB : B ≤ w.heap.size) (hc : l.length ≤ c) (hl : wt l ≤ 140737488355328) :
    Ret Tryz.prog 79 [.slice A l.length c, str [47]] w fun v w' => v = str (joinS l) ∧ Ext w w' := by
  have hn : (!(Tryz.f79.name == "runtime.NumGoroutine") && Tryz.f79.body.isSome) = true := by kernel_rfl
  by_cases h0 : l = []
  · subst h0
    refine (Ret.of_calls Tryz.func79 hn ((Tryz.strings_Join_none A c ⟨#[47]⟩ w).mono (fun e w' h => ⟨h.1, (show Ext w w' by rw [h.2]; exact Ext.refl _)⟩))).mono ?_
    rintro v w' ⟨rfl, hx⟩
    exact ⟨rfl, hx⟩
  · rcases hs with hs | ⟨bk, o, rfl, hbk, hcell⟩
    · exact absurd (by simpa [txtsV] using hs) h0
    · have hml : (l.map fun s => (⟨s.toArray⟩ : ByteArray)).map (·.data.toList) = l := by
        rw [List.map_map]
        exact List.map_id l
      have hln : (l.map fun s => (⟨s.toArray⟩ : ByteArray)).length = l.length := by simp
      have h := Tryz.strings_Join bk o c (l.map fun s => (⟨s.toArray⟩ : ByteArray)) ⟨#[47]⟩ w (fun j x hj => by
        have : (txtsV l)[j]? = some (.string x) := by
          simp only [txtsV, List.getElem?_map] at hj ⊢
          obtain ⟨s, h1, rfl⟩ := Option.map_eq_some_iff.1 hj
          rw [h1]; rfl
        exact hcell j _ this) (by omega) (by rw [hln]; have := wt_len l; omega) (by rw [hln]; exact hc) (by rw [hml]; show (Go.Lib.join l [47]).length ≤ _; rw [joinS_eq]; have := joinS_wt l; omega)
      rw [hml, hln] at h
      have e : Go.Lib.join l (⟨#[47]⟩ : ByteArray).data.toList = joinS l := joinS_eq l
      rw [e] at h
      refine (Ret.of_calls Tryz.func79 hn (h.mono (fun e w' q => q))).mono ?_
      rintro v w' ⟨rfl, hx⟩
      exact ⟨rfl, hx⟩
def KpS (sb : Nat) (W W' : World) : Prop := W'.heap[sb]? = W.heap[sb]?
theorem piece_step {s : List UInt8} {i fr : Nat} (h : i ≤ s.length) (hf : fr ≤ i) : s.drop fr = (s.drop fr).take (i - fr) ++ s.drop i := by
  have := List.take_append_drop (i - fr) (s.drop fr)
  rw [List.drop_drop, show fr + (i - fr) = i by omega] at this
  exact this.symm
theorem iter_s (sb : Nat) (s : List UInt8) (hs : s.length ≤ 1000000000000) (w : World) (hsb : Bk w sb 9 [str s]) :
    SeqStopsK Fence.wide 2 Tryz.prog 78 [Value.pointer (some ⟨sb, 0, none⟩)].toArray (fun x => #[str x]) (KpS sb) (fun xs => xs = parts s) (fun pre => pre <+: parts s) (s.length + 1) w := fun l J Jx W hW hJ hJx hY h0 => by
  have hb0 : Bk W sb 9 [str s] := hsb.ext hW
  have hret : Ret Tryz.prog 78 [.func (.yield l) #[] #[], .pointer (some ⟨sb, 0, none⟩)] W fun v W' => (∃ xs, xs = parts s ∧ J xs W') ∨ (∃ pre, pre <+: parts s ∧ Jx pre W') := by
    have hpl : (parts s).length ≤ s.length + 1 := by have := wt_len (parts s); rw [wt_parts] at this; exact this
    refine Ret.enterR 2 Tryz.func78 rfl Tryz.ntmps78 (by kernel_rfl) rfl ?_
    refine KR.seq (KR.region ?_)
    refine OR.val rfl rfl (EX.assign rfl) ?_
    refine OR.nil ?_
    refine KR.seq (KR.region ?_)
    refine OR.val rfl rfl (EX.assign rfl) ?_
    refine OR.nil ?_
    refine KR.block ?_
    refine KR.loop4 (fun (i : Nat) (fr : Nat) (pre : Txts) (wr : World) => i ≤ s.length + 1 ∧ fr ≤ i ∧ (i ≤ s.length → parts s = pre ++ parts (s.drop fr) ∧ ∀ c ∈ (s.drop fr).take (i - fr), c ≠ 47) ∧ (i = s.length + 1 → pre = parts s) ∧ J pre wr ∧ Bk wr sb 9 [str s]) (fun (i : Nat) (fr : Nat) (pre : Txts) (wr : World) => [(0, .func (.yield l) #[] #[]), (1, .pointer (some ⟨sb, 0, none⟩)), (3, .int .i64 ((fr : Nat) : Int)), (4, .int .i64 ((i : Nat) : Int))]) (fun (i : Nat) (fr : Nat) (pre : Txts) (wr : World) => wr) (fun (i : Nat) (fr : Nat) (pre : Txts) (wr : World) => s.length + 1 - i) (0) (0) ([]) (W) ⟨rfl, rfl, rfl, rfl, trivial⟩ rfl ?_ ?_
    · exact ⟨by omega, by omega, fun _ => ⟨rfl, by simp⟩, fun h => by omega, h0, hb0⟩
    · rintro i fr pre wr ⟨hi, hf, hp, hend, hj, hb⟩
      refine KR.seq (KR.seq (KR.region ?_))
      refine OR.val rfl rfl (EX.move rfl) ?_
      refine OR.val rfl rfl (EX.load Tryz.underlying9 rfl rfl (hb.cell_of rfl)) ?_
      refine OR.val rfl rfl (EX.lenS Tryz.underlying9 rfl) ?_
      refine OR.val rfl rfl (by first | exact EX.leqN rfl rfl | exact EX.leqZ rfl rfl) ?_
      refine OR.nil ?_
      refine KR.condD rfl (fun hle => ?_) (fun hle => ?_)
      · obtain ⟨hp1, hp2⟩ := hp hle
        have hpre : pre.length < s.length + 1 := by
          have h1 := List.length_pos_iff.2 (parts_ne (s.drop fr))
          have h2 := congrArg List.length hp1
          rw [List.length_append] at h2
          omega
        have hyl : ∀ x : List UInt8, YieldR Tryz.prog 1 l [str x] wr fun v W' => ∃ b, v = .bool b ∧ ((b = true ∧ J (pre ++ [x]) W' ∧ KpS sb wr W') ∨ (b = false ∧ Jx (pre ++ [x]) W')) := fun x =>
          YieldAt.mono (hY pre x wr hj hpre) (by
            rintro e W' (⟨rfl, h1, h2⟩ | ⟨rfl, h1⟩)
            · exact ⟨_, rfl, true, rfl, .inl ⟨rfl, h1, h2⟩⟩
            · exact ⟨_, rfl, false, rfl, .inr ⟨rfl, h1⟩⟩)
        refine KR.skip (KR.seq (KR.block (KR.seq (KR.region ?_))))
        refine OR.val rfl rfl (EX.move rfl) ?_
        refine OR.val rfl rfl (EX.load Tryz.underlying9 rfl rfl (hb.cell_of rfl)) ?_
        refine OR.val rfl rfl (EX.lenS Tryz.underlying9 rfl) ?_
        refine OR.val rfl rfl (by first | exact EX.eqlN rfl rfl | exact EX.eqlZ rfl rfl) ?_
        refine OR.val rfl rfl (EX.move rfl) ?_
        refine OR.splitD 15 rfl (fun he => ?_) (fun he => ?_)
        · have hpe : parts s = pre ++ [(s.drop fr).take (i - fr)] := by
            have e : (s.drop fr).take (i - fr) = s.drop fr := List.take_of_length_le (by simp; omega)
            rw [e] at hp2 ⊢
            rw [hp1, parts_whole _ hp2]
          refine OR.pass rfl rfl ?_
          refine OR.pass rfl rfl ?_
          refine OR.pass rfl rfl ?_
          refine OR.pass rfl rfl ?_
          refine OR.val rfl rfl (EX.pickT rfl rfl) ?_
          refine OR.nil ?_
          refine KR.condT rfl (KR.seq (KR.seq (KR.region ?_)))
          refine OR.val rfl rfl (EX.move rfl) ?_
          refine OR.val rfl rfl (EX.load Tryz.underlying9 rfl rfl (hb.cell_of rfl)) ?_
          refine OR.val rfl rfl (EX.move rfl) ?_
          refine OR.val rfl rfl (EX.move rfl) ?_
          refine OR.val rfl rfl (EX.sliceLH Tryz.underlying9 rfl rfl rfl (by omega)) ?_
          refine OR.yield rfl rfl rfl rfl rfl (hyl _) ?_
          rintro _ w1 ⟨y, rfl, hv⟩
          refine OR.val rfl rfl (by first | exact EX.notD rfl | exact EX.notB rfl) ?_
          refine OR.nil ?_
          refine KR.cond rfl (fun hy => ?_) (fun hy => ?_)
          · obtain ⟨rfl, hj1⟩ : y = false ∧ Jx (pre ++ [(s.drop fr).take (i - fr)]) w1 := by
              rcases hv with ⟨rfl, _⟩ | h
              · cases hy
              · exact h
            refine KR.ret (retR0 (.inr rfl) rfl rfl rfl ?_)
            exact .inr ⟨_, ⟨[], by rw [List.append_nil, hpe]⟩, hj1⟩
          · obtain ⟨rfl, hj1, hk⟩ : y = true ∧ J (pre ++ [(s.drop fr).take (i - fr)]) w1 ∧ KpS sb wr w1 := by
              rcases hv with h | ⟨rfl, _⟩
              · exact h
              · cases hy
            refine KR.skip (KR.region ?_)
            refine OR.val rfl rfl (EX.move rfl) ?_
            refine OR.val rfl rfl (by first | exact EX.addN (b := 1) (m := 9223372036854775807) rfl rfl rfl (by omega) | exact EX.addZ (m := 9223372036854775807) rfl rfl rfl rfl (by omega)) ?_
            refine OR.val rfl rfl (EX.assign rfl) ?_
            refine OR.nil ?_
            refine KR.leave (KR.region ?_)
            refine OR.val rfl rfl (EX.move rfl) ?_
            refine OR.val rfl rfl (by first | exact EX.addN (b := 1) (m := 9223372036854775807) rfl rfl rfl (by omega) | exact EX.addZ (m := 9223372036854775807) rfl rfl rfl rfl (by omega)) ?_
            refine OR.val rfl rfl (EX.assign rfl) ?_
            refine OR.nil ?_
            have hb1 : Bk w1 sb 9 [str s] := hb.of_block hk
            refine KR.back4 (i + 1) (i + 1) (pre ++ [(s.drop fr).take (i - fr)]) (w1) ⟨rfl, rfl, rfl, rfl, trivial⟩ rfl ?_ (by omega)
            exact ⟨by omega, by omega, fun h => by omega, fun _ => hpe.symm, hj1, hb1⟩
        · skip
          refine OR.val rfl rfl (EX.load Tryz.underlying9 rfl rfl (hb.cell_of rfl)) ?_
          refine OR.val rfl rfl (EX.move rfl) ?_
          refine OR.val rfl rfl (EX.indexS Tryz.underlying9 rfl rfl (List.getElem?_eq_getElem (by omega))) ?_
          refine OR.val rfl rfl (by first | exact EX.eqlN (b := 47) rfl rfl | exact EX.eqlZ rfl rfl) ?_
          refine OR.val rfl rfl (EX.pickF rfl rfl) ?_
          refine OR.nil ?_
          refine KR.condD rfl (fun hc => ?_) (fun hc => ?_)
          · refine KR.seq (KR.seq (KR.region ?_))
            refine OR.val rfl rfl (EX.move rfl) ?_
            refine OR.val rfl rfl (EX.load Tryz.underlying9 rfl rfl (hb.cell_of rfl)) ?_
            refine OR.val rfl rfl (EX.move rfl) ?_
            refine OR.val rfl rfl (EX.move rfl) ?_
            refine OR.val rfl rfl (EX.sliceLH Tryz.underlying9 rfl rfl rfl (by omega)) ?_
            have hlt : i < s.length := by omega
            have hd : s.drop i = 47 :: s.drop (i + 1) := by
              rw [List.drop_eq_getElem_cons hlt]
              congr 1
              exact UInt8.toNat_inj.1 hc
            have hpe : parts s = (pre ++ [(s.drop fr).take (i - fr)]) ++ parts (s.drop (i + 1)) := by
              rw [hp1, piece_step hle hf, hd, parts_slash _ _ hp2, ← hd, ← piece_step hle hf]
              simp
            refine OR.yield rfl rfl rfl rfl rfl (hyl _) ?_
            rintro _ w1 ⟨y, rfl, hv⟩
            refine OR.val rfl rfl (by first | exact EX.notD rfl | exact EX.notB rfl) ?_
            refine OR.nil ?_
            refine KR.cond rfl (fun hy => ?_) (fun hy => ?_)
            · obtain ⟨rfl, hj1⟩ : y = false ∧ Jx (pre ++ [(s.drop fr).take (i - fr)]) w1 := by
                rcases hv with ⟨rfl, _⟩ | h
                · cases hy
                · exact h
              refine KR.ret (retR0 (.inr rfl) rfl rfl rfl ?_)
              exact .inr ⟨_, ⟨parts (s.drop (i + 1)), hpe.symm⟩, hj1⟩
            · obtain ⟨rfl, hj1, hk⟩ : y = true ∧ J (pre ++ [(s.drop fr).take (i - fr)]) w1 ∧ KpS sb wr w1 := by
                rcases hv with h | ⟨rfl, _⟩
                · exact h
                · cases hy
              refine KR.skip (KR.region ?_)
              refine OR.val rfl rfl (EX.move rfl) ?_
              refine OR.val rfl rfl (by first | exact EX.addN (b := 1) (m := 9223372036854775807) rfl rfl rfl (by omega) | exact EX.addZ (m := 9223372036854775807) rfl rfl rfl rfl (by omega)) ?_
              refine OR.val rfl rfl (EX.assign rfl) ?_
              refine OR.nil ?_
              refine KR.leave (KR.region ?_)
              refine OR.val rfl rfl (EX.move rfl) ?_
              refine OR.val rfl rfl (by first | exact EX.addN (b := 1) (m := 9223372036854775807) rfl rfl rfl (by omega) | exact EX.addZ (m := 9223372036854775807) rfl rfl rfl rfl (by omega)) ?_
              refine OR.val rfl rfl (EX.assign rfl) ?_
              refine OR.nil ?_
              have hb1 : Bk w1 sb 9 [str s] := hb.of_block hk
              refine KR.back4 (i + 1) (i + 1) (pre ++ [(s.drop fr).take (i - fr)]) (w1) ⟨rfl, rfl, rfl, rfl, trivial⟩ rfl ?_ (by omega)
              exact ⟨by omega, by omega, fun _ => ⟨hpe, by simp⟩, fun h => by omega, hj1, hb1⟩
          · have hlt : i < s.length := by omega
            refine KR.skip (KR.leave (KR.region ?_))
            refine OR.val rfl rfl (EX.move rfl) ?_
            refine OR.val rfl rfl (by first | exact EX.addN (b := 1) (m := 9223372036854775807) rfl rfl rfl (by omega) | exact EX.addZ (m := 9223372036854775807) rfl rfl rfl rfl (by omega)) ?_
            refine OR.val rfl rfl (EX.assign rfl) ?_
            refine OR.nil ?_
            refine KR.back4 (i + 1) (fr) (pre) (wr) ⟨rfl, rfl, rfl, rfl, trivial⟩ rfl ?_ (by omega)
            refine ⟨by omega, by omega, fun _ => ⟨hp1, ?_⟩, fun h => by omega, hj, hb⟩
            have e : (s.drop fr).take (i + 1 - fr) = (s.drop fr).take (i - fr) ++ [s[i]] := by
              rw [show i + 1 - fr = i - fr + 1 by omega, List.take_add_one, List.getElem?_drop, show fr + (i - fr) = i by omega, List.getElem?_eq_getElem hlt]
              rfl
            rw [e]
            intro c hcm
            rcases List.mem_append.1 hcm with hcm | hcm
            · exact hp2 c hcm
            · simp only [List.mem_singleton] at hcm
              subst hcm
              exact fun q => hc (by rw [q]; rfl)
      · obtain rfl : i = s.length + 1 := by omega
        refine KR.exit rfl ?_
        refine KR.done (retR0 (.inl rfl) rfl rfl rfl ?_)
        exact .inl ⟨_, hend rfl, hj⟩
  exact callsIn_wide.2 (hret.2.mono fun e W' ⟨v, he, hq⟩ => ⟨⟨v, he⟩, hq⟩)
end Go.Proofs.YtlpnoogcdnfllaaGreatDoor
