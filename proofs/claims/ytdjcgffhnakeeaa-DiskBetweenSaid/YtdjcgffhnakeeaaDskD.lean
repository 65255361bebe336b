/-
  disk, in plain words: a device that may lose power. No program is spoken of.
-/
import Derived.Test.YtdjcgffhnakeeaaKq
namespace Go.Proofs.Ytdjcgffhnakeeaa.Dsk
open Go.Proofs.Ytdjcgffhnakeeaa
set_option linter.unusedSimpArgs false
set_option linter.unusedVariables false

inductive Ch where
  | write (i : Nat) (s : List UInt8)
  | cut (n : Nat)
def zeros (n : Nat) : List UInt8 := List.replicate n 0
def Ch.ap : Ch → List UInt8 → List UInt8
  | .write i s, all =>
    (all ++ zeros ((i + 1) * 512 - all.length)).take (i * 512) ++ s ++ (all ++ zeros ((i + 1) * 512 - all.length)).drop (i * 512 + s.length)
  | .cut n, all => all.take (min all.length (n * 512))
/-- a change that a device of so many sectors takes -/
def Ch.ok (cap : Nat) : Ch → Prop
  | .write i s => i < cap ∧ s.length = 512
  | .cut n => n ≤ cap
theorem zeros_length (n : Nat) : (zeros n).length = n := by simp [zeros]
theorem ap_length {cap : Nat} {c : Ch} (h : c.ok cap) {all : List UInt8} (ha : all.length ≤ 512 * cap) : (c.ap all).length ≤ 512 * cap := by
  cases c with
  | write i s =>
    obtain ⟨h1, h2⟩ := h
    simp only [Ch.ap, List.length_append, List.length_take, List.length_drop, zeros_length]
    omega
  | cut n => simp only [Ch.ap, List.length_take]; omega
theorem ap_mod {cap : Nat} {c : Ch} (h : c.ok cap) {all : List UInt8} (ha : all.length % 512 = 0) : (c.ap all).length % 512 = 0 := by
  cases c with
  | write i s =>
    obtain ⟨h1, h2⟩ := h
    simp only [Ch.ap, List.length_append, List.length_take, List.length_drop, zeros_length]
    omega
  | cut n => simp only [Ch.ap, List.length_take]; omega
structure Dv where
  cap : Nat
  kept : List UInt8
  now : List UInt8
  pend : List Ch
  at_ : Nat
  keep : List Bool
  dead : Bool
  calls : Nat
/-- whole: what a device is at any time -/
structure Dv.Ok (D : Dv) : Prop where
  cap : 1 ≤ D.cap ∧ D.cap ≤ 4096
  kept : D.kept.length ≤ 512 * D.cap
  now : D.now.length ≤ 512 * D.cap
  keptM : D.kept.length % 512 = 0
  nowM : D.now.length % 512 = 0
  pend : ∀ c ∈ D.pend, c.ok D.cap
/-- what falls: the pending changes that are kept are done -/
def fallen : List Ch → List Bool → List UInt8 → List UInt8
  | [], _, all => all
  | c :: cs, [], all => all
  | c :: cs, b :: bs, all => fallen cs bs (if b then c.ap all else all)
def Dv.pushed (D : Dv) (c : Option Ch) : Dv := match c with
  | some c => { D with pend := D.pend ++ [c] }
  | none => D
def Dv.done (D : Dv) (c : Option Ch) : Dv := match c with
  | some c => { D with now := c.ap D.now, calls := D.calls + 1 }
  | none => { D with kept := D.now, pend := [], calls := D.calls + 1 }
def Dv.does (D : Dv) (c : Option Ch) : Dv × Nat :=
  let E := D.pushed c
  if E.at_ = 0 then (E.done c, 0)
  else if E.at_ = 1 then ({ E with kept := fallen E.pend E.keep E.kept, now := fallen E.pend E.keep E.kept, pend := [], at_ := 0, keep := [], dead := true }, 190)
  else (Dv.done { E with at_ := E.at_ - 1 } c, 0)
theorem fallen_length {cap : Nat} : ∀ (cs : List Ch) (bs : List Bool) (all : List UInt8), (∀ c ∈ cs, c.ok cap) → all.length ≤ 512 * cap → all.length % 512 = 0 → (fallen cs bs all).length ≤ 512 * cap ∧ (fallen cs bs all).length % 512 = 0
  | [], _, all, _, h1, h2 => ⟨h1, h2⟩
  | c :: cs, [], all, _, h1, h2 => ⟨h1, h2⟩
  | c :: cs, b :: bs, all, h, h1, h2 => by
    simp only [fallen]
    refine fallen_length cs bs _ (fun c' hc => h c' (by simp [hc])) ?_ ?_
    · split
      · exact ap_length (h c (by simp)) h1
      · exact h1
    · split
      · exact ap_mod (h c (by simp)) h2
      · exact h2
/-- one more pending change -/
theorem fallen_snoc : ∀ (cs : List Ch) (c : Ch) (bs : List Bool) (all : List UInt8), fallen (cs ++ [c]) bs all = if bs.getD cs.length false then c.ap (fallen cs bs all) else fallen cs bs all
  | [], c, [], all => by simp [fallen]
  | [], c, b :: bs, all => by simp [fallen]
  | d :: cs, c, [], all => by simp [fallen]
  | d :: cs, c, b :: bs, all => by
    simp only [List.cons_append, fallen, fallen_snoc cs c bs _, List.length_cons, List.getD_cons_succ]
theorem pushed_ok {D : Dv} (h : D.Ok) {c : Option Ch} (hc : ∀ d, c = some d → d.ok D.cap) : (D.pushed c).Ok := by
  cases c with
  | none => exact h
  | some c =>
    refine ⟨h.cap, h.kept, h.now, h.keptM, h.nowM, fun d hd => ?_⟩
    simp only [Dv.pushed, List.mem_append, List.mem_singleton] at hd
    rcases hd with hd | rfl
    · exact h.pend d hd
    · exact hc _ rfl
theorem done_ok {D : Dv} (h : D.Ok) {c : Option Ch} (hc : ∀ d, c = some d → d.ok D.cap) : (D.done c).Ok := by
  cases c with
  | none => exact ⟨h.cap, h.now, h.now, h.nowM, h.nowM, fun d hd => by simp [Dv.done] at hd⟩
  | some c => exact ⟨h.cap, h.kept, ap_length (hc c rfl) h.now, h.keptM, ap_mod (hc c rfl) h.nowM, h.pend⟩
theorem pushed_cap (D : Dv) (c : Option Ch) : (D.pushed c).cap = D.cap := by cases c <;> rfl
theorem does_ok {D : Dv} (h : D.Ok) {c : Option Ch} (hc : ∀ d, c = some d → d.ok D.cap) : (D.does c).1.Ok := by
  have h1 := pushed_ok h hc
  have hc1 : ∀ d, c = some d → d.ok (D.pushed c).cap := fun d hd => by rw [pushed_cap]; exact hc d hd
  unfold Dv.does
  simp only
  split
  · exact done_ok h1 hc1
  · split
    · obtain ⟨q1, q2⟩ := fallen_length (cap := (D.pushed c).cap) (D.pushed c).pend (D.pushed c).keep (D.pushed c).kept h1.pend h1.kept h1.keptM
      exact ⟨h1.cap, q1, q1, q2, q2, fun d hd => by simp at hd⟩
    · exact done_ok (D := { D.pushed c with at_ := (D.pushed c).at_ - 1 }) ⟨h1.cap, h1.kept, h1.now, h1.keptM, h1.nowM, h1.pend⟩ hc1
def sector (b : Nat) (odd : Bool) : List UInt8 := List.replicate (if odd then 511 else 512) (UInt8.ofNat b)
end Go.Proofs.Ytdjcgffhnakeeaa.Dsk
