/-
  The engine's laws for slices of structs that are written out. No program is spoken of.
-/
import Derived.Test.YtieojdkblakchaaDoorKg
import Derived.Test.YtieojdkblakchaaDoorKe
namespace Go.Proofs.YtieojdkblakchaaDoor
open Go.RowKit
set_option linter.unusedSimpArgs false
set_option linter.unusedVariables false
theorem flat_get {α : Type} {cells : α → List Value} {c : Nat} (hc : ∀ a, (cells a).length = c) : ∀ (l : List α) (i j : Nat) (hi : i < l.length) (u : Value), (cells l[i])[j]? = some u → (l.flatMap cells)[i * c + j]? = some u
  | a :: l, 0, j, hi, u, hu => by
    have hj : j < (cells a).length := (List.getElem?_eq_some_iff.1 hu).1
    rw [Nat.zero_mul, Nat.zero_add, List.flatMap_cons, List.getElem?_append_left hj]
    exact hu
  | a :: l, i + 1, j, hi, u, hu => by
    rw [List.flatMap_cons, List.getElem?_append_right (by rw [hc, Nat.succ_mul]; omega), hc, show (i + 1) * c + j - c = i * c + j by rw [Nat.succ_mul]; omega]
    exact flat_get hc l i j (by simpa using hi) u hu
/-- a slice's element of some cells -/
theorem Sl.flat {α : Type} {cells : α → List Value} {c : Nat} {w : World} {B : Nat} {A : Option Addr} {l : List α} (h : Sl w B A (l.flatMap cells)) (hc : ∀ a, (cells a).length = c) (h0 : 0 < c) {i : Nat} (hi : i < l.length) :
    ∃ b o, A = some ⟨b, o, none⟩ ∧ b < B ∧ ∀ j u, (cells l[i])[j]? = some u → w.cell? ⟨b, o + i * c + j, none⟩ = some u := by
  have hlt : 0 < (cells l[i]).length := by rw [hc]; exact h0
  have hp : 0 < (l.flatMap cells).length := by
    have := (List.getElem?_eq_some_iff.1 (flat_get hc l i 0 hi _ (List.getElem?_eq_getElem hlt))).1
    omega
  obtain ⟨b, o, e, hb, hcell⟩ := h.at_ hp
  exact ⟨b, o, e, hb, fun j u hu => by rw [Nat.add_assoc]; exact hcell _ _ (flat_get hc l i j hi u hu)⟩
theorem fold_at (off : Nat) : ∀ (vs : List Value) (k : Nat) (pre post : List Value), pre.length = off + k → vs.length ≤ post.length →
    (vs.zipIdx k).foldl (fun (cs : Array Value) (x : Value × Nat) => cs.setIfInBounds (off + x.2) x.1) (pre ++ post).toArray = (pre ++ vs ++ post.drop vs.length).toArray
  | [], k, pre, post, _, _ => by simp
  | v :: vs, k, pre, p :: post, hp, h => by
    have ih := fold_at off vs (k + 1) (pre ++ [v]) post (by simp [hp]; omega) (by simpa using h)
    have hset : (pre ++ p :: post).toArray.setIfInBounds (off + k) v = ((pre ++ [v]) ++ post).toArray := by simp [← hp]
    simp only [List.zipIdx_cons, List.foldl_cons]
    rw [hset, ih]
    simp
  | v :: vs, k, pre, [], hp, h => by simp at h
theorem fill_agg (s : Nat) : ∀ (vss : List (List Value)) (i : Nat) (pre post : List Value), pre.length = i * s → (∀ v ∈ vss, v.length = s) → post.length = vss.length * s →
    Instr.fill (fun i => some (i * s, s)) (pre ++ post).toArray ((vss.zipIdx i).map fun (v, j) => (j, Value.agg v.toArray)) = some (pre ++ vss.flatten).toArray
  | [], i, pre, post, hp, _, hl => by
    have : post = [] := List.eq_nil_of_length_eq_zero (by simpa using hl)
    subst this
    simp [Instr.fill]
  | v :: vss, i, pre, post, hp, h1, hl => by
    have hv := h1 v (by simp)
    have hl' : post.length = vss.length * s + s := by rw [hl, List.length_cons, Nat.succ_mul]
    have ih := fill_agg s vss (i + 1) (pre ++ v) (post.drop s) (by rw [List.length_append, hp, hv, Nat.succ_mul]) (fun u hu => h1 u (by simp [hu])) (by rw [List.length_drop]; omega)
    have hf := fold_at (i * s) v 0 pre post (by omega) (by omega)
    simp only [List.zipIdx_cons, List.map_cons, Instr.fill, Value.cells, List.size_toArray]
    have hn : ¬ (v.length ≠ s ∨ i * s + v.length > (pre ++ post).length) := by rw [List.length_append]; omega
    simp only [ne_eq, Bool.or_eq_true, decide_eq_true_eq]
    rw [if_neg (by simpa using hn)]
    have hz : v.toArray.zipIdx.foldl (fun cs (x : Value × Nat) => cs.setIfInBounds (i * s + x.2) x.1) (pre ++ post).toArray = ((pre ++ v) ++ post.drop s).toArray := by
      rw [← Array.foldl_toList, Array.toList_zipIdx]
      rw [hv] at hf
      exact hf
    rw [hz]
    simpa using ih
section
variable {P : Program} {n : Nat} {σ : Sig} {w w0 : World} {x y : Operand} {t e ty T : TypeId} {s bs : Nat} {R : Act → World → Prop} {ops : Array Oper} {rest : List Oper} {k : List KI} {pos : String} {after : Array Edge} {g : Option (Nat × Bool)} {d fuel : Nat} {S : World → Prop} {listed : Array Bool}
theorem EX.buildSliceG {z : Value} {parts : Array (Nat × Operand)} (len : Nat) (vss : List (List Value)) (ht : P.underlying t = some (.slice e)) (hi : TI P e z s bs) (hzs : z.cells.size = s) (hs0 : 0 < s)
    (hv : evs σ (parts.toList.map (·.2)) = some (vss.map fun v => Value.agg v.toArray)) (hp : parts.toList.map (·.1) = List.range' 0 parts.toList.length) (hl : vss.length = len) (h1 : ∀ v ∈ vss, v.length = s) (hlen : len * s ≤ 16777216) :
    EX P n σ (.buildSlice t len parts) ty w (.slice (some ⟨w.heap.size, 0, none⟩) len len) (w.alloc (.cells vss.flatten.toArray e)) := fun A ha dst pos after g => by
  have hpv : (parts.map fun (p : Nat × Operand) => (p.1, A.eval p.2)).toList = vss.zipIdx.map fun (v, j) => (j, Value.agg v.toArray) := by
    have h2 := ha.evs hv
    apply List.ext_getElem?
    intro j
    have e1 := congrArg (·[j]?) h2
    have e2 := congrArg (·[j]?) hp
    simp only [List.getElem?_map] at e1 e2
    simp only [Array.toList_map, List.getElem?_map, List.getElem?_zipIdx]
    have hlp : parts.toList.length = vss.length := by
      have := congrArg List.length h2
      simpa using this
    by_cases hj : j < vss.length
    · rw [List.getElem?_eq_getElem (by omega : j < parts.toList.length)] at e1 e2 ⊢
      rw [List.getElem?_eq_getElem hj] at e1 ⊢
      simp only [Option.map_some, Option.some.injEq] at e1 e2 ⊢
      rw [List.getElem?_range' (by omega)] at e2
      simp only [Option.some.injEq] at e2
      rw [e1, e2]
      simp
    · rw [List.getElem?_eq_none (by omega : parts.toList.length ≤ j), List.getElem?_eq_none (by omega : vss.length ≤ j)]
      rfl
  have hn : ¬ (len * s > 2 ^ 24) := by omega
  generalize hzz : ((Array.range (len * s)).map fun j => z.cells[j % z.cells.size]!) = zz
  have hzl : zz.size = len * s := by rw [← hzz]; simp
  obtain ⟨zl⟩ := zz
  have hf := fill_agg s vss 0 [] zl (by simp) h1 (by rw [hl]; simpa using hzl)
  simp only [List.nil_append] at hf
  simp only [execOp, Sem.run_bind]
  have hb : (Instr.buildSlice t len (parts.map fun (p : Nat × Operand) => (p.1, A.eval p.2))).run P w = .ok (.slice (some ⟨w.heap.size, 0, none⟩) len len) (w.alloc (.cells vss.flatten.toArray e)) := by
    simp only [Instr.buildSlice, Sem.run_bind, run_underlying ht, run_sizeOf hi, Result.andThen_ok, if_neg hn, hpv, Sem.run_pure]
    by_cases h0 : len * s = 0
    · have hlen0 : len = 0 := by
        rcases Nat.mul_eq_zero.1 h0 with h | h
        · exact h
        · omega
      subst hlen0
      have hv0 : vss = [] := List.eq_nil_of_length_eq_zero hl
      subst hv0
      simp [Instr.fill, newRow, newObj, Sem.run_bind, Sem.run, Array.range_zero']
    · rw [if_neg h0]
      simp only [Sem.run_bind, run_zeroValue hi, Result.andThen_ok, Sem.run_pure, hzz, hf]
      simp [newRow, newObj, Sem.run_bind, Sem.run]
  rw [show (parts.map fun (x : Nat × Operand) => match x with | (i, x) => (i, A.eval x)) = (parts.map fun (x : Nat × Operand) => (x.1, A.eval x.2)) from rfl, hb]
  rfl
theorem OW.buildG {z : Value} {parts : Array (Nat × Operand)} (len : Nat) (vss : List (List Value)) (hg : wantS ops σ g = some true) (hd : Nat.blt d n = true) (ht : P.underlying T = some (.slice e)) (hi : TI P e z s bs) (hzs : z.cells.size = s) (hs0 : 0 < s)
    (hv : evs σ (parts.toList.map (·.2)) = some (vss.map fun v => Value.agg v.toArray)) (hp : parts.toList.map (·.1) = List.range' 0 parts.toList.length) (hl : vss.length = len) (h1 : ∀ v ∈ vss, v.length = s) (hlen : len * s ≤ 16777216)
    (h : ∀ b w', w.heap.size ≤ b → Bk w' b e vss.flatten → Ext w w' → OW P R ops rest k n ((d, .slice (some ⟨b, 0, none⟩) len len) :: σ) w') : OW P R ops (⟨some d, .buildSlice T len parts, ty, pos, after, g⟩ :: rest) k n σ w :=
  OW.val hg hd (EX.buildSliceG len vss ht hi hzs hs0 hv hp hl h1 hlen) (h _ _ (Nat.le_refl _) (Bk.new w e _) (Ext.alloc w _))
theorem GW.buildG (i : Nat) {z : Value} {parts : Array (Nat × Operand)} (len : Nat) (vss : List (List Value)) (hi' : ops[i]? = some ⟨some d, .buildSlice T len parts, ty, pos, after, g⟩) (hr : Region.ready .any ops listed = [i]) (hg : wantS ops σ g = some true) (hd : Nat.blt d n = true) (ht : P.underlying T = some (.slice e)) (hi : TI P e z s bs) (hzs : z.cells.size = s) (hs0 : 0 < s)
    (hv : evs σ (parts.toList.map (·.2)) = some (vss.map fun v => Value.agg v.toArray)) (hp : parts.toList.map (·.1) = List.range' 0 parts.toList.length) (hl : vss.length = len) (h1 : ∀ v ∈ vss, v.length = s) (hlen : len * s ≤ 16777216)
    (h : ∀ b w', w.heap.size ≤ b → Bk w' b e vss.flatten → Ext w w' → S w' ∧ (S w' → GW P R ops S fuel (listed.setIfInBounds i true) k n ((d, .slice (some ⟨b, 0, none⟩) len len) :: σ) w')) : GW P R ops S (fuel + 1) listed k n σ w :=
  GW.new i hi' hr hg hd (EX.buildSliceG len vss ht hi hzs hs0 hv hp hl h1 hlen) (h _ _ (Nat.le_refl _) (Bk.new w e _) (Ext.alloc w _))
theorem GO.buildG (i : Nat) {z : Value} {parts : Array (Nat × Operand)} (len : Nat) (vss : List (List Value)) (hi' : ops[i]? = some ⟨some d, .buildSlice T len parts, ty, pos, after, g⟩) (hg : wantS ops σ g = some true) (hd : Nat.blt d n = true) (ht : P.underlying T = some (.slice e)) (hi : TI P e z s bs) (hzs : z.cells.size = s) (hs0 : 0 < s)
    (hv : evs σ (parts.toList.map (·.2)) = some (vss.map fun v => Value.agg v.toArray)) (hp : parts.toList.map (·.1) = List.range' 0 parts.toList.length) (hl : vss.length = len) (h1 : ∀ v ∈ vss, v.length = s) (hlen : len * s ≤ 16777216)
    (h : ∀ b w', w.heap.size ≤ b → Bk w' b e vss.flatten → Ext w w' → S w' ∧ (S w' → GW P R ops S fuel (listed.setIfInBounds i true) k n ((d, .slice (some ⟨b, 0, none⟩) len len) :: σ) w')) : GO P R ops S fuel listed k n σ w i :=
  GO.new i hi' hg hd (EX.buildSliceG len vss ht hi hzs hs0 hv hp hl h1 hlen) (h _ _ (Nat.le_refl _) (Bk.new w e _) (Ext.alloc w _))
end
section
variable {P : Program} {fn : Func} {Q : Value → World → Prop} {n : Nat} {σ : Sig} {w : World}
theorem retC1 {t : Nat} {T T' : TypeId} {b s bs : Nat} {z : Value} {d : TypeDesc} {l : List Value} (hs : fn.results = #[.cell t T]) (hu : P.underlying T = some d) (hd : flat d = false) (hi : TI P T z s bs) (hv : lk σ t = some (.pointer (some ⟨b, 0, none⟩)))
    (hb : Bk w b T' l) (hl : l.length = s) (hq : Q (.agg l.toArray) w) : ∀ a, Fr n σ a → bodyPost P fn (fun e w' => ∃ v, e = .returned v ∧ Q v w') .ret a w :=
  ret_of (fun a ha => by
    have h := EX.loadBk (P := P) (n := n) (σ := σ) (x := .tmp t) (ty := 0) hu hd hi hv hb hl a ha none "" #[] none
    have h1 : (loadVar T ⟨b, 0, none⟩).run P w = .ok (.agg l.toArray) w := by
      have et : a.eval (.tmp t) = .pointer (some ⟨b, 0, none⟩) := ha.ev (x := .tmp t) hv
      simp only [execOp, et, Instr.loadAt, Instr.sureAddr, Sem.run_bind, Sem.run_pure, Result.andThen_ok] at h
      cases hr : (loadVar T ⟨b, 0, none⟩).run P w with
      | ok v w' => rw [hr] at h; simpa using h
      | halt q w' => rw [hr] at h; simp at h
    have e1 := ha.val t _ hv
    simp only [results, hs]
    simp [Sem.run_bind, e1, asAddr, h1]) hq
end
end Go.Proofs.YtieojdkblakchaaDoor
