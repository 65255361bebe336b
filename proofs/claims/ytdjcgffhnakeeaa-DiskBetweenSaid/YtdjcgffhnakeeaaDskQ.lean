/-
  disk, in plain words: each sector is one that was written there, or was there, or is all noughts. No program is spoken of.
-/
import Derived.Test.YtdjcgffhnakeeaaDskP
namespace Go.Proofs.Ytdjcgffhnakeeaa
open Go.RowKit Dsk
set_option linter.unusedVariables false
set_option linter.unusedSimpArgs false
def sec (s : List UInt8) (j : Nat) : List UInt8 := (s.drop (j * 512)).take 512
def InW (wn : List Ac) : Ch → Prop
  | .write i s => ∃ a ∈ wn, a.n = (i : Int) ∧ s = sector a.fill false
  | .cut _ => True
def Gd (was : List UInt8) (wn : List Ac) (s : List UInt8) : Prop :=
  ∀ j : Nat, j * 512 < s.length → sec s j = sector 0 false ∨ (j * 512 < was.length ∧ sec s j = sec was j) ∨ ∃ a ∈ wn, a.n = (j : Int) ∧ sec s j = sector a.fill false
theorem sec_take {s : List UInt8} {m j : Nat} (h : j * 512 + 512 ≤ m) : sec (s.take m) j = sec s j := by
  unfold sec
  rw [List.drop_take, List.take_take]
  congr 1
  omega
theorem sec_zeros {s : List UInt8} {pad j : Nat} (h1 : s.length ≤ j * 512) (h2 : j * 512 + 512 ≤ s.length + pad) : sec (s ++ zeros pad) j = sector 0 false := by
  unfold sec zeros
  rw [List.drop_append, List.drop_of_length_le h1, List.nil_append, List.drop_replicate, List.take_replicate, Nat.min_eq_left (by omega)]
  rfl
theorem sec_left {s t : List UInt8} {j : Nat} (h : j * 512 + 512 ≤ s.length) : sec (s ++ t) j = sec s j := by
  unfold sec
  rw [List.drop_append, List.take_append_of_le_length (by rw [List.length_drop]; omega)]
set_option maxRecDepth 20000 in
theorem gd_ap {was s : List UInt8} {wn : List Ac} {cap : Nat} {c : Ch} (hm : s.length % 512 = 0) (hc : InW wn c) (hok : c.ok cap) (h : Gd was wn s) : Gd was wn (c.ap s) := by
  intro j hj
  cases c with
  | cut n =>
    simp only [Ch.ap] at hj ⊢
    rw [List.length_take] at hj
    rw [sec_take (by omega)]
    exact h j (by omega)
  | write i d =>
    obtain ⟨hi, hd⟩ := hok
    have hap := ap_length (c := .write i d) (cap := cap) ⟨hi, hd⟩ (all := s)
    simp only [Ch.ap] at hj ⊢
    generalize hL : s ++ zeros ((i + 1) * 512 - s.length) = L at hj ⊢
    have hLl : L.length = s.length + ((i + 1) * 512 - s.length) := by rw [← hL, List.length_append, zeros_length]
    rw [List.length_append, List.length_append, List.length_take, List.length_drop, hd] at hj
    have hsecL : ∀ j, j * 512 < L.length → sec L j = sector 0 false ∨ (j * 512 < was.length ∧ sec L j = sec was j) ∨ ∃ a ∈ wn, a.n = (j : Int) ∧ sec L j = sector a.fill false := fun j hj => by
      by_cases hs : j * 512 < s.length
      · have e : sec L j = sec s j := by rw [← hL]; exact sec_left (by omega)
        rw [e]
        exact h j hs
      · rw [← hL]
        exact .inl (sec_zeros (by omega) (by omega))
    rw [List.append_assoc]
    by_cases h1 : j < i
    · have e : sec (L.take (i * 512) ++ (d ++ L.drop (i * 512 + d.length))) j = sec L j := by
        rw [sec_left (by rw [List.length_take]; omega), sec_take (by omega)]
      rw [e]
      exact hsecL j (by omega)
    · have hlt : (L.take (i * 512)).length = i * 512 := by rw [List.length_take]; omega
      by_cases h2 : j = i
      · subst h2
        obtain ⟨a, ha, hn, hs⟩ := hc
        refine .inr (.inr ⟨a, ha, hn, ?_⟩)
        unfold sec
        rw [List.drop_left' hlt, List.take_left' hd, hs]
      · have e : sec (L.take (i * 512) ++ (d ++ L.drop (i * 512 + d.length))) j = sec L j := by
          unfold sec
          rw [List.drop_append, List.drop_of_length_le (by omega), List.nil_append, hlt, List.drop_append, List.drop_of_length_le (by omega), List.nil_append, List.drop_drop, hd]
          congr 2
          omega
        rw [e]
        exact hsecL j (by omega)
theorem gd_mono {was s : List UInt8} {wn wn' : List Ac} (h : Gd was wn s) (hs : ∀ a ∈ wn, a ∈ wn') : Gd was wn' s := fun j hj => by
  rcases h j hj with h | h | ⟨a, ha, h⟩
  · exact .inl h
  · exact .inr (.inl h)
  · exact .inr (.inr ⟨a, hs a ha, h⟩)
theorem inW_mono {wn wn' : List Ac} (hs : ∀ a ∈ wn, a ∈ wn') : ∀ {c : Ch}, InW wn c → InW wn' c
  | .write i s, ⟨a, ha, h⟩ => ⟨a, hs a ha, h⟩
  | .cut _, _ => trivial
/-- between two syncs -/
structure Bt (was : List UInt8) (wn : List Ac) (D : Dv) : Prop where
  now : Gd was wn D.now
  kept : Gd was wn D.kept
  pend : ∀ c ∈ D.pend, InW wn c
theorem Bt.mono {was : List UInt8} {wn wn' : List Ac} {D : Dv} (h : Bt was wn D) (hs : ∀ a ∈ wn, a ∈ wn') : Bt was wn' D :=
  ⟨gd_mono h.now hs, gd_mono h.kept hs, fun c hc => inW_mono hs (h.pend c hc)⟩
theorem gd_fallen {was : List UInt8} {wn : List Ac} {cap : Nat} : ∀ (cs : List Ch) (bs : List Bool) (s : List UInt8), (∀ c ∈ cs, InW wn c ∧ c.ok cap) → s.length % 512 = 0 → Gd was wn s → Gd was wn (fallen cs bs s)
  | [], _, s, _, _, h => by simpa [fallen] using h
  | c :: cs, [], s, _, _, h => by simpa [fallen] using h
  | c :: cs, b :: bs, s, hc, hm, h => by
    simp only [fallen]
    obtain ⟨h1, h2⟩ := hc c (by simp)
    cases b
    · exact gd_fallen cs bs s (fun x hx => hc x (by simp [hx])) hm h
    · exact gd_fallen cs bs (c.ap s) (fun x hx => hc x (by simp [hx])) (ap_mod h2 hm) (gd_ap hm h1 h2 h)
theorem bt_done {was : List UInt8} {wn : List Ac} {D : Dv} (h : Bt was wn D) (hD : D.Ok) {c : Ch} (hc : InW wn c) (hok : c.ok D.cap) : Bt was wn (D.done (some c)) :=
  ⟨gd_ap hD.nowM hc hok h.now, h.kept, h.pend⟩
theorem bt_does {was : List UInt8} {wn : List Ac} {D : Dv} (h : Bt was wn D) (hD : D.Ok) {c : Ch} (hc : InW wn c) (hok : c.ok D.cap) : Bt was wn (D.does (some c)).1 := by
  have hp : Bt was wn (D.pushed (some c)) := ⟨h.now, h.kept, fun x hx => by
    simp only [Dv.pushed, List.mem_append, List.mem_singleton] at hx
    rcases hx with hx | rfl
    · exact h.pend x hx
    · exact hc⟩
  have hpo : (D.pushed (some c)).Ok := pushed_ok hD (fun d hd => by cases hd; exact hok)
  unfold Dv.does
  simp only
  split
  · exact bt_done hp hpo hc hok
  · split
    · have hf := gd_fallen (cap := (D.pushed (some c)).cap) (D.pushed (some c)).pend (D.pushed (some c)).keep (D.pushed (some c)).kept (fun x hx => ⟨hp.pend x hx, hpo.pend x hx⟩) hpo.keptM hp.kept
      exact ⟨hf, hf, fun x hx => by simp at hx⟩
    · exact bt_done (D := { D.pushed (some c) with at_ := (D.pushed (some c)).at_ - 1 }) ⟨hp.now, hp.kept, hp.pend⟩ ⟨hpo.cap, hpo.kept, hpo.now, hpo.keptM, hpo.nowM, hpo.pend⟩ hc hok
theorem gd_self (s : List UInt8) : Gd s [] s := fun j hj => .inr (.inl ⟨hj, rfl⟩)
/-- a sync: it is done, or the power fell -/
theorem bt_sync {was : List UInt8} {wn : List Ac} {D : Dv} (h : Bt was wn D) (hD : D.Ok) (hd : D.dead = false) : (D.sync.2 = 0 → Bt D.sync.1.now [] D.sync.1) ∧ (D.sync.2 ≠ 0 → Bt was wn D.sync.1) := by
  by_cases a0 : D.at_ = 0
  · rw [sync_live hd a0]
    exact ⟨fun _ => ⟨gd_self _, gd_self _, fun c hc => by simp at hc⟩, fun q => absurd rfl q⟩
  · by_cases a1 : D.at_ = 1
    · rw [sync_falls hd a1]
      refine ⟨fun q => by simp at q, fun _ => ?_⟩
      have hf := gd_fallen (cap := D.cap) D.pend D.keep D.kept (fun x hx => ⟨h.pend x hx, hD.pend x hx⟩) hD.keptM h.kept
      exact ⟨hf, hf, fun x hx => by simp at hx⟩
    · have e : D.sync = ({ D with kept := D.now, pend := [], calls := D.calls + 1, at_ := D.at_ - 1 }, 0) := by
        unfold Dv.sync Dv.does
        simp [hd, Dv.pushed, a0, a1, Dv.done]
      rw [e]
      exact ⟨fun _ => ⟨gd_self _, gd_self _, fun c hc => by simp at hc⟩, fun q => absurd rfl q⟩
/-- is it an act that writes a sector -/
def isW (cap : Int) (a : Ac) : Prop := a.kind = 1 ∧ 0 ≤ a.n ∧ a.n < cap ∧ a.odd = false
instance (cap : Int) (a : Ac) : Decidable (isW cap a) := by unfold isW; infer_instance
def wnAfter (cap : Int) (wn : List Ac) (a : Ac) : List Ac := if isW cap a then wn ++ [a] else wn
set_option maxRecDepth 20000 in
theorem bt_act {was : List UInt8} {wn : List Ac} {D : Dv} (h : Bt was wn D) (hD : D.Ok) (hd : D.dead = false) (a : Ac) (h3 : ¬ (a.kind = 3 ∧ (D.act a).2.2 = 0)) : Bt was (wnAfter (D.cap : Int) wn a) (D.act a).1 := by
  have hmon : Bt was (wnAfter (D.cap : Int) wn a) D := h.mono fun x hx => by unfold wnAfter; split <;> simp [hx]
  unfold Dv.act at h3 ⊢
  by_cases k0 : a.kind = 0
  · rw [if_pos k0]
    unfold Dv.read
    split
    · exact hmon
    · split
      · exact hmon
      · exact ⟨hmon.now, hmon.kept, hmon.pend⟩
  · rw [if_neg k0] at h3 ⊢
    by_cases k1 : a.kind = 1
    · rw [if_pos k1]
      show Bt was _ (D.write a.n (sector a.fill a.odd)).1
      unfold Dv.write
      rw [hd, if_neg (by simp)]
      split
      · exact hmon
      · rename_i hr
        split
        · exact hmon
        · rename_i hl
          have ho : a.odd = false := by
            cases ho : a.odd with
            | false => rfl
            | true => rw [ho] at hl; simp [sector] at hl
          have hw : isW (D.cap : Int) a := ⟨k1, by omega, by omega, ho⟩
          refine bt_does hmon hD ⟨a, ?_, ?_, by rw [ho]⟩ ⟨by omega, ?_⟩
          · unfold wnAfter
            rw [if_pos hw]
            simp
          · omega
          · rw [ho]; exact sector_length _
    · rw [if_neg k1] at h3 ⊢
      by_cases k2 : a.kind = 2
      · rw [if_pos k2]
        show Bt was _ (D.cut a.n).1
        unfold Dv.cut
        rw [hd, if_neg (by simp)]
        split
        · exact hmon
        · rename_i hr
          refine bt_does hmon hD trivial ?_
          have h1 := hD.now
          show a.n.toNat ≤ D.cap
          omega
      · rw [if_neg k2] at h3 ⊢
        by_cases k3 : a.kind = 3
        · rw [if_pos k3] at h3 ⊢
          exact (bt_sync hmon hD hd).2 (fun q => h3 ⟨k3, q⟩)
        · rw [if_neg k3]
          exact hmon
end Go.Proofs.Ytdjcgffhnakeeaa
