/-
  The engine's laws for memory: blocks, slices that the call owns, slices that are read.
-/
import Derived.Test.YtieojdkblakchaaDoorKx
import Derived.Deep.AppendSrc
namespace Go.Proofs.YtieojdkblakchaaDoor
open Go.RowKit
set_option linter.unusedSimpArgs false
set_option linter.unusedVariables false

/-! ### Blocks -/
/-- block b holds the cells l, none of them frozen -/
def Bk (w : World) (b : Nat) (T : TypeId) (l : List Value) : Prop := ∃ fr : Nat × Nat, w.heap[b]? = some (.cells l.toArray T fr) ∧ (l.length ≤ fr.1 ∨ fr.2 ≤ fr.1)
/-- all that was there is as it was -/
abbrev Ext (w w' : World) : Prop := Below w.heap.size w w'
section
variable {w w' : World} {b : Nat} {T : TypeId} {l : List Value}
theorem Bk.lt (h : Bk w b T l) : b < w.heap.size := by
  obtain ⟨fr, h, _⟩ := h
  rcases Nat.lt_or_ge b w.heap.size with h' | h'
  · exact h'
  · simp [Array.getElem?_eq_none h'] at h
theorem Bk.cell (h : Bk w b T l) (i : Nat) : w.cell? ⟨b, i, none⟩ = l[i]? := by
  obtain ⟨fr, h, _⟩ := h
  simp [World.cell?, h]
theorem Bk.cell_of (h : Bk w b T l) {i : Nat} {v : Value} (hi : l[i]? = some v) : w.cell? ⟨b, i, none⟩ = some v := (h.cell i).trans hi
theorem Bk.free (h : Bk w b T l) (i : Nat) (hi : i < l.length) : w.frozen? ⟨b, i, none⟩ = false := by
  obtain ⟨⟨lo, hi'⟩, h, hf⟩ := h
  simp only [World.frozen?, h]
  simp only [Bool.and_eq_false_iff, decide_eq_false_iff_not]
  simp only at hf
  omega
theorem Bk.of_block (h : Bk w b T l) (hb : w'.heap[b]? = w.heap[b]?) : Bk w' b T l := by
  obtain ⟨fr, h, hf⟩ := h
  exact ⟨fr, by rw [hb]; exact h, hf⟩
theorem Bk.new (w : World) (T : TypeId) (l : List Value) : Bk (w.alloc (.cells l.toArray T)) w.heap.size T l := ⟨(0, 0), heap_alloc_new w _, .inr (Nat.le_refl _)⟩
theorem Bk.alloc (h : Bk w b T l) (o : Obj) : Bk (w.alloc o) b T l := h.of_block (Below.heap_alloc w o b h.lt)
theorem Bk.drew (h : Bk w b T l) : Bk w.drew b T l := h
theorem Bk.drewN (h : Bk w b T l) (m : Nat) : Bk (w.drewN m) b T l := h
theorem Bk.below {B : Nat} (h : Bk w b T l) (hb : Below B w w') (hlt : b < B) : Bk w' b T l := h.of_block (hb.block b hlt)
theorem Bk.ext (h : Bk w b T l) (hb : Ext w w') : Bk w' b T l := h.below hb h.lt
theorem Bk.far (h : Bk w b T l) {p : Addr} (hp : b ≠ p.block) (u : Value) : Bk (w.setCell p u) b T l := h.of_block (Below.heap_setCell w p u b hp)
theorem Bk.grown {row : Option Nat} (h : Bk w b T l) (hg : w.grownBy w' row) (hne : some b ≠ row) : Bk w' b T l := h.of_block (hg.block b h.lt hne)
theorem Bk.set (h : Bk w b T l) (i : Nat) (u : Value) : Bk (w.setCell ⟨b, i, none⟩ u) b T (l.set i u) := by
  have hlt := h.lt
  obtain ⟨fr, h, hf⟩ := h
  have hv : w.heap[b] = .cells l.toArray T fr := (Array.getElem?_eq_some_iff.1 h).2
  refine ⟨fr, ?_, by simpa using hf⟩
  simp only [World.setCell, Array.getElem?_modify, if_true, h, Option.map_some]
  simp
theorem Bk.ne {b' : Nat} {T' : TypeId} {l' : List Value} (h : Bk w b T l) (h' : Bk w b' T' l') (hne : T ≠ T') : b ≠ b' := by
  rintro rfl
  obtain ⟨fr, h, _⟩ := h
  obtain ⟨fr', h', _⟩ := h'
  rw [h] at h'
  simp at h'
  exact hne h'.2.1
theorem Bk.det {l' : List Value} {T' : TypeId} (h : Bk w b T l) (h' : Bk w b T' l') : T = T' ∧ l = l' := by
  obtain ⟨fr, h, _⟩ := h
  obtain ⟨fr', h', _⟩ := h'
  rw [h] at h'
  simp at h'
  exact ⟨h'.2.1, h'.1⟩
theorem Ext.refl (w : World) : Ext w w := Below.refl _ _
theorem Ext.trans {a b c : World} (h : Ext a b) (k : Ext b c) : Ext a c := Below.trans h (k.mono h.size)
theorem Ext.alloc (w : World) (o : Obj) : Ext w (w.alloc o) := (Below.refl _ _).alloc (Nat.le_refl _) o
theorem Ext.drew (w : World) : Ext w w.drew := (Below.refl _ _).drew
theorem below_drewN {B : Nat} {a w : World} (h : Below B a w) (m : Nat) : Below B a (w.drewN m) := ⟨h.os, h.tape, h.output, h.size, h.block⟩
theorem Ext.drewN (w : World) (m : Nat) : Ext w (w.drewN m) := below_drewN (Below.refl _ _) m
/-- a step from a later world: all below B stays -/
theorem Below.ext {B : Nat} {a w w' : World} (h : Below B a w) (hx : Ext w w') (hB : B ≤ w.heap.size) : Below B a w' := h.trans (hx.mono hB)
/-- stored: block b anew, the others as they were -/
theorem run_storeCells_bk (P : Program) (w : World) (b o : Nat) (T : TypeId) : ∀ (vs : List Value) (i : Nat) (l : List Value) (w : World), Bk w b T l → o + i + vs.length ≤ l.length → (∀ v ∈ vs, v.oneCell' = true) →
    ∃ w', (storeCells ⟨b, o, none⟩ vs i).run P w = .ok () w' ∧ Bk w' b T (l.take (o + i) ++ vs ++ l.drop (o + i + vs.length)) ∧ w.grownBy w' (some b)
  | [], i, l, w, h, _, _ => ⟨w, rfl, by simpa using h, ⟨rfl, rfl, rfl, Nat.le_refl _, fun _ _ _ => rfl⟩⟩
  | v :: vs, i, l, w, h, hl, h1 => by
    simp only [List.length_cons] at hl
    have hlt : o + i < l.length := by omega
    have hc : w.cell? ⟨b, o + i, none⟩ = some l[o + i] := h.cell_of (List.getElem?_eq_getElem hlt)
    have hf := h.free (o + i) hlt
    have hadd : (⟨b, o, none⟩ : Addr).add i = ⟨b, o + i, none⟩ := by unfold Addr.add; split <;> simp_all
    obtain ⟨w', hr, hb, hg⟩ := run_storeCells_bk P w b o T vs (i + 1) (l.set (o + i) v) (w.setCell ⟨b, o + i, none⟩ v) (h.set (o + i) v) (by simp; omega) (fun u hu => h1 u (by simp [hu]))
    have hv1 := h1 v (by simp)
    have hst : (store ⟨b, o + i, none⟩ v).run P w = .ok () (w.setCell ⟨b, o + i, none⟩ v) := by
      cases v <;> simp [Value.oneCell'] at hv1 <;> simp [store, Sem.run, hc, hf]
    refine ⟨w', ?_, ?_, ⟨hg.os, hg.tape, hg.output, by have := hg.size; simpa using this, fun k hk hne => ?_⟩⟩
    · simp only [storeCells, Sem.run_bind, hadd, hst, Result.andThen_ok]
      exact hr
    · have e1 : (l.set (o + i) v).take (o + (i + 1)) = l.take (o + i) ++ [v] := by
        rw [show o + (i + 1) = (o + i) + 1 by omega, List.take_add_one]
        rw [List.take_set_of_le (Nat.le_refl _)]
        simp [hlt]
      have e2 : (l.set (o + i) v).drop (o + (i + 1) + vs.length) = l.drop (o + i + (vs.length + 1)) := by
        rw [List.drop_set_of_lt (by omega)]
        congr 1
        omega
      rw [e1, e2] at hb
      simpa using hb
    · rw [hg.block k (by simpa using hk) hne]
      exact Below.heap_setCell w _ v k (fun e => hne (by rw [e]))
end

/-! ### Types' rows -/
def TI (P : Program) (T : TypeId) (z : Value) (s b : Nat) : Prop := (P.info? T).map (fun i => (i.zero, i.size, i.bytes)) = some (some z, s, b)
theorem TI.at {P : Program} {T : TypeId} {z : Value} {s b : Nat} (h : TI P T z s b) : ∃ i, P.info? T = some i ∧ i.zero = some z ∧ i.size = s ∧ i.bytes = b := by
  unfold TI at h
  cases hq : P.info? T with
  | none => simp [hq] at h
  | some i => exact ⟨i, rfl, by simpa [hq] using h⟩
/-- no struct, no array -/
def flat : TypeDesc → Bool
  | .struct _ | .array _ _ => false
  | _ => true
section
variable {P : Program} {n : Nat} {σ : Sig} {w w' : World} {t t' e : TypeId} {ty : TypeId} {x y : Operand} {b o : Nat} {l : List Value} {T : TypeId} {z v : Value} {s bs : Nat}
theorem run_isAgg {d : TypeDesc} (hu : P.underlying t = some d) : (isAgg t).run P w = .ok (!flat d) w := by
  unfold isAgg
  rw [Sem.run_bind, run_underlying hu w]
  cases d <;> rfl
theorem run_sizeOf (h : TI P t z s bs) : (sizeOf t).run P w = .ok s w := by
  obtain ⟨i, hi, _, rfl, _⟩ := h.at
  simp [sizeOf, typeInfo, hi, Sem.run_bind]
theorem run_zeroValue (h : TI P t z s bs) : (zeroValue t).run P w = .ok z w := by
  obtain ⟨i, hi, hz, _⟩ := h.at
  simp [zeroValue, typeInfo, hi, hz, Sem.run_bind]
theorem EX.alloc (h : TI P t z s bs) (hl : z.cells.toList = l) : EX P n σ (.alloc t) ty w (.pointer (some ⟨w.heap.size, 0, none⟩)) (w.alloc (.cells l.toArray t)) := fun A ha dst pos after g => by
  subst hl
  simp only [execOp, Instr.alloc, Sem.run_bind, run_zeroValue h, Result.andThen_ok]
  simp [newVar, newRow, newObj, Sem.run_bind, Sem.run]
theorem EX.box (hx : ev σ x = some v) (hl : v.cells.toList = l) : EX P n σ (.box t x) ty w (.pointer (some ⟨w.heap.size, 0, none⟩)) (w.alloc (.cells l.toArray t)) := fun A ha dst pos after g => by
  subst hl
  simp only [execOp, Instr.box, ha.ev hx, Sem.run_bind]
  simp [newVar, newRow, newObj, Sem.run_bind, Sem.run]
theorem EX.load {d : TypeDesc} {a : Addr} (hu : P.underlying t = some d) (hd : flat d = true) (hx : ev σ x = some (.pointer (some a))) (hc : w.cell? a = some v) : EX P n σ (.load t x) ty w v w := fun A ha dst pos after g => by
  simp only [execOp, Instr.loadAt, Instr.sureAddr, ha.ev hx, Sem.run_bind, Sem.run_pure, Result.andThen_ok, loadVar, run_isAgg hu, hd]
  simp [load, Sem.run, hc]
/-- a struct or an array, its cells in a row -/
theorem EX.loadA {d : TypeDesc} (hu : P.underlying t = some d) (hd : flat d = false) (h : TI P t z s bs) (hx : ev σ x = some (.pointer (some ⟨b, o, none⟩))) (hs : l.length = s)
    (hc : ∀ j u, l[j]? = some u → w.cell? ⟨b, o + j, none⟩ = some u) : EX P n σ (.load t x) ty w (.agg l.toArray) w := fun A ha dst pos after g => by
  have hl := run_loadCells_list (P := P) w ⟨b, o, none⟩ l (fun j u hj => by
    have hadd : (⟨b, o, none⟩ : Addr).add j = ⟨b, o + j, none⟩ := by unfold Addr.add; split <;> simp_all
    rw [hadd]; exact hc j u hj)
  simp only [execOp, Instr.loadAt, Instr.sureAddr, ha.ev hx, Sem.run_bind, Sem.run_pure, Result.andThen_ok, loadVar, run_isAgg hu, hd, run_sizeOf h]
  rw [hs] at hl
  simp [run_sizeOf h, hl, Sem.run_bind]
theorem EX.loadBk {d : TypeDesc} (hu : P.underlying t = some d) (hd : flat d = false) (h : TI P t z s bs) (hx : ev σ x = some (.pointer (some ⟨b, 0, none⟩))) (hb : Bk w b T l) (hs : l.length = s) : EX P n σ (.load t x) ty w (.agg l.toArray) w :=
  EX.loadA hu hd h hx hs fun j u hj => by rw [Nat.zero_add]; exact hb.cell_of hj
theorem EU.store {a : Addr} {u : Value} (h : TI P t z 1 bs) (hx : ev σ x = some (.pointer (some a))) (hy : ev σ y = some v) (h1 : v.oneCell' = true) (hc : w.cell? a = some u) (hf : w.frozen? a = false) : EU P n σ (.store t x y) ty w (w.setCell a v) := fun A ha dst pos after g => by
  have hst : (Go.store a v).run P w = .ok () (w.setCell a v) := by
    cases v <;> simp [Value.oneCell'] at h1 <;> simp [Go.store, Sem.run, hc, hf]
  have hcs : v.cells = #[v] := by cases v <;> simp [Value.oneCell'] at h1 <;> rfl
  have hadd : a.add 0 = a := by unfold Addr.add; simp
  simp only [execOp, Instr.storeAt, Instr.sureAddr, ha.ev hx, ha.ev hy, Sem.run_bind, Sem.run_pure, Result.andThen_ok, storeVar, run_sizeOf h, hcs]
  simp [storeCells, Sem.run_bind, hadd, hst]
theorem EU.storeBk {i : Nat} (h : TI P t z 1 bs) (hx : ev σ x = some (.pointer (some ⟨b, i, none⟩))) (hy : ev σ y = some v) (h1 : v.oneCell' = true) (hb : Bk w b T l) (hi : i < l.length) : EU P n σ (.store t x y) ty w (w.setCell ⟨b, i, none⟩ v) :=
  EU.store h hx hy h1 (hb.cell_of (List.getElem?_eq_getElem hi)) (hb.free i hi)
theorem oneCell_cells {v : Value} (h : v.oneCell' = true) : v.cells = #[v] := by cases v <;> simp [Value.oneCell'] at h <;> rfl
/-- several cells are stored -/
theorem EU.storeA {vs : List Value} (h : TI P t z s bs) (hx : ev σ x = some (.pointer (some ⟨b, o, none⟩))) (hy : ev σ y = some (.agg vs.toArray)) (hs : vs.length = s) (h1 : vs.all (·.oneCell') = true) (hb : Bk w b T l) (hl : o + vs.length ≤ l.length) :
    ∃ w', EU P n σ (.store t x y) ty w w' ∧ Bk w' b T (l.take o ++ vs ++ l.drop (o + vs.length)) ∧ w.grownBy w' (some b) := by
  obtain ⟨w', hr, hb', hg⟩ := run_storeCells_bk P w b o T vs 0 l w hb (by simpa using hl) (fun v hv => List.all_eq_true.1 h1 v hv)
  refine ⟨w', fun A ha dst pos after g => ?_, by simpa using hb', hg⟩
  simp only [execOp, Instr.storeAt, Instr.sureAddr, ha.ev hx, ha.ev hy, Sem.run_bind, Sem.run_pure, Result.andThen_ok, storeVar, run_sizeOf h, Value.cells]
  simp [hs, hr]
theorem EX.indexAddrA {m : Nat} {k : IntKind} {i : Nat} (hu : P.underlying t = some (.array m e)) (h : TI P e z s bs) (hx : ev σ x = some (.pointer (some ⟨b, o, none⟩))) (hy : ev σ y = some (.int k (i : Int))) (hi : i < m) :
    EX P n σ (.indexAddr t x y) ty w (.pointer (some ⟨b, o + i * s, none⟩)) w := fun A ha dst pos after g => by
  have h1 : (0 : Int) ≤ (i : Int) ∧ (i : Int) < (m : Int) := by omega
  have hadd : (⟨b, o, none⟩ : Addr).add (i * s) = ⟨b, o + i * s, none⟩ := by unfold Addr.add; split <;> simp_all
  simp only [execOp, ha.ev hx, ha.ev hy]
  simp [Instr.indexAt, asIntOf, run_underlying hu, Sem.run_bind, Instr.sureAddr, hi, run_sizeOf h, hadd]
theorem EX.indexAddrS {k : IntKind} {i len cap : Nat} (hu : P.underlying t = some (.slice e)) (h : TI P e z s bs) (hx : ev σ x = some (.slice (some ⟨b, o, none⟩) len cap)) (hy : ev σ y = some (.int k (i : Int))) (hi : i < len) :
    EX P n σ (.indexAddr t x y) ty w (.pointer (some ⟨b, o + i * s, none⟩)) w := fun A ha dst pos after g => by
  have h1 : (0 : Int) ≤ (i : Int) ∧ (i : Int) < (len : Int) := by omega
  have hadd : (⟨b, o, none⟩ : Addr).add (i * s) = ⟨b, o + i * s, none⟩ := by unfold Addr.add; split <;> simp_all
  simp only [execOp, ha.ev hx, ha.ev hy]
  simp [Instr.indexAt, asIntOf, run_underlying hu, Sem.run_bind, Instr.sureAddr, hi, run_sizeOf h, hadd]
theorem EX.indexAddrA1 {m : Nat} {k : IntKind} {i : Nat} (hu : P.underlying t = some (.array m e)) (h : TI P e z 1 bs) (hx : ev σ x = some (.pointer (some ⟨b, o, none⟩))) (hy : ev σ y = some (.int k (i : Int))) (hi : i < m) :
    EX P n σ (.indexAddr t x y) ty w (.pointer (some ⟨b, o + i, none⟩)) w := by simpa using EX.indexAddrA (ty := ty) (w := w) (n := n) hu h hx hy hi
theorem EX.indexAddrS1 {k : IntKind} {i len cap : Nat} (hu : P.underlying t = some (.slice e)) (h : TI P e z 1 bs) (hx : ev σ x = some (.slice (some ⟨b, o, none⟩) len cap)) (hy : ev σ y = some (.int k (i : Int))) (hi : i < len) :
    EX P n σ (.indexAddr t x y) ty w (.pointer (some ⟨b, o + i, none⟩)) w := by simpa using EX.indexAddrS (ty := ty) (w := w) (n := n) hu h hx hy hi
theorem EX.indexAddrA0 {m : Nat} {k : IntKind} {i : Nat} (hu : P.underlying t = some (.array m e)) (h : TI P e z 1 bs) (hx : ev σ x = some (.pointer (some ⟨b, 0, none⟩))) (hy : ev σ y = some (.int k (i : Int))) (hi : i < m) :
    EX P n σ (.indexAddr t x y) ty w (.pointer (some ⟨b, i, none⟩)) w := by simpa using EX.indexAddrA (ty := ty) (w := w) (n := n) hu h hx hy hi
theorem EX.indexAddrS0 {k : IntKind} {i len cap : Nat} (hu : P.underlying t = some (.slice e)) (h : TI P e z 1 bs) (hx : ev σ x = some (.slice (some ⟨b, 0, none⟩) len cap)) (hy : ev σ y = some (.int k (i : Int))) (hi : i < len) :
    EX P n σ (.indexAddr t x y) ty w (.pointer (some ⟨b, i, none⟩)) w := by simpa using EX.indexAddrS (ty := ty) (w := w) (n := n) hu h hx hy hi
theorem EX.nilCheck {a : Addr} (hx : ev σ x = some (.pointer (some a))) : EX P n σ (.nilCheck x) ty w (.pointer (some a)) w := fun A ha dst pos after g => by
  simp only [execOp, ha.ev hx]; rfl
end
end Go.Proofs.YtieojdkblakchaaDoor
