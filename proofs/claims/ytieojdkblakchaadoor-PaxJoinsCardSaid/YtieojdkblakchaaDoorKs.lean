/-
  The engine's laws for structs: fields, values that are built, addresses that are compared. No program is spoken of.
-/
import Derived.Test.YtieojdkblakchaaDoorKc
namespace Go.Proofs.YtieojdkblakchaaDoor
open Go.RowKit
set_option linter.unusedSimpArgs false
set_option linter.unusedVariables false
section
variable {P : Program} {n : Nat} {σ : Sig} {w : World} {x y : Operand} {t e ty T T' : TypeId} {b o : Nat} {z v : Value} {s bs : Nat} {l : List Value}
/-- the places of a struct's fields: where each begins, how many cells it has -/
def places (P : Program) (fs : List Field) : Option (List (Nat × Nat)) :=
  match fs with
  | [] => some []
  | f :: r => match P.info? f.type, places P r with
    | some i, some l => some ((f.offset, i.size) :: l)
    | _, _ => none
theorem run_places : ∀ (fs : List Field) (l : List (Nat × Nat)), places P fs = some l → (fs.mapM fun f => (do pure (f.offset, ← sizeOf f.type) : Sem (Nat × Nat))).run P w = .ok l w
  | [], l, h => by
    simp only [places, Option.some.injEq] at h
    subst h
    simp
  | f :: r, l, h => by
    simp only [places] at h
    split at h
    · rename_i i l' hi hl
      injection h with h
      subst h
      have ih := run_places r l' hl
      have hs : (sizeOf f.type).run P w = .ok i.size w := by simp [sizeOf, typeInfo, hi, Sem.run_bind]
      simp only [List.mapM_cons, Sem.run_bind, hs, Result.andThen_ok, Sem.run_pure, ih]
    · cases h
/-- one-cell parts are laid over a row -/
def setAll : List Value → List Nat → List Value → List Value
  | cs, i :: is, v :: vs => setAll (cs.set i v) is vs
  | cs, _, _ => cs
theorem setAll_length : ∀ (is : List Nat) (vs cs : List Value), (setAll cs is vs).length = cs.length
  | [], _, _ => by simp [setAll]
  | i :: is, [], cs => by simp [setAll]
  | i :: is, v :: vs, cs => by simp [setAll, setAll_length is vs]
theorem fill_setAll (pl : List (Nat × Nat)) : ∀ (pv : List (Nat × Value)) (is : List Nat) (cs : List Value), pv.length = is.length → (∀ (j : Nat) (p : Nat × Value) (i : Nat), pv[j]? = some p → is[j]? = some i → pl[p.1]? = some (i, 1) ∧ i < cs.length ∧ p.2.oneCell' = true) →
    Instr.fill (pl.toArray[·]?) cs.toArray pv = some (setAll cs is (pv.map (·.2))).toArray
  | [], is, cs, hl, _ => by
    cases is with
    | nil => simp [Instr.fill, setAll]
    | cons _ _ => simp at hl
  | (k, v) :: pv, is, cs, hl, h => by
    cases is with
    | nil => simp at hl
    | cons i is =>
      obtain ⟨h1, h2, h3⟩ := h 0 (k, v) i rfl rfl
      have hc := oneCell_cells h3
      have ih := fill_setAll pl pv is (cs.set i v) (by simpa using hl) (fun j p i' hp hi' => by
        have := h (j + 1) p i' (by simpa using hp) (by simpa using hi')
        simpa using this)
      simp only [List.map_cons, setAll]
      simp only [Instr.fill]
      have e1 : pl.toArray[k]? = some (i, 1) := by simpa using h1
      rw [e1]
      simp only [hc]
      have hn : ¬ ((#[v] : Array Value).size ≠ 1 ∨ i + (#[v] : Array Value).size > cs.toArray.size) := by simp; omega
      have hz : (#[v] : Array Value).zipIdx.foldl (fun cs (x : Value × Nat) => cs.setIfInBounds (i + x.2) x.1) cs.toArray = (cs.set i v).toArray := by
        have : (#[v] : Array Value).zipIdx.foldl (fun cs (x : Value × Nat) => cs.setIfInBounds (i + x.2) x.1) cs.toArray = cs.toArray.setIfInBounds (i + 0) v := rfl
        rw [this]
        simp
      simp only [ne_eq, Bool.or_eq_true, decide_eq_true_eq]
      rw [if_neg (by simpa using hn), hz]
      exact ih
/-- the parts' numbers and places, checked -/
def placed (pl : List (Nat × Nat)) (m : Nat) : List Nat → List Nat → Bool
  | k :: ks, i :: is => (match pl[k]? with | some (i', 1) => Nat.beq i' i | _ => false) && Nat.blt i m && placed pl m ks is
  | [], [] => true
  | _, _ => false
theorem placed_at {pl : List (Nat × Nat)} {m : Nat} : ∀ {ks is : List Nat}, placed pl m ks is = true → ks.length = is.length ∧ ∀ (j k i : Nat), ks[j]? = some k → is[j]? = some i → pl[k]? = some (i, 1) ∧ i < m
  | [], [], _ => ⟨rfl, fun j k i hk _ => by simp at hk⟩
  | [], i :: is, h => by simp [placed] at h
  | k :: ks, [], h => by simp [placed] at h
  | k :: ks, i :: is, h => by
    simp only [placed, Bool.and_eq_true] at h
    obtain ⟨⟨h1, h2⟩, h3⟩ := h
    obtain ⟨e, f⟩ := placed_at h3
    refine ⟨by simp [e], fun j k' i' hk hi => ?_⟩
    cases j with
    | zero =>
      simp at hk hi
      subst hk; subst hi
      split at h1
      · rename_i i' hp
        rw [hp, Nat.eq_of_beq_eq_true h1]
        refine ⟨rfl, ?_⟩
        have h2' : Nat.ble (i + 1) m = true := h2
        exact Nat.le_of_ble_eq_true h2'
      · cases h1
    | succ j => exact f j k' i' (by simpa using hk) (by simpa using hi)
theorem EX.buildS {fs : Array Field} {parts : Array (Nat × Operand)} {pl : List (Nat × Nat)} {ks is : List Nat} {vs zs : List Value} (hu : P.underlying t = some (.struct fs)) (hi : TI P t (.agg zs.toArray) s bs) (hp : places P fs.toList = some pl)
    (hk : parts.toList.map (·.1) = ks) (hv : evs σ (parts.toList.map (·.2)) = some vs) (hc : placed pl zs.length ks is = true) (h1 : vs.all (·.oneCell') = true) (hl : setAll zs is vs = l) :
    EX P n σ (.build t parts) ty w (.agg l.toArray) w := fun A ha dst pos after g => by
  subst hl
  obtain ⟨i, hq, hz, _, _⟩ := hi.at
  have hev := ha.evs hv
  have hpv : (parts.map fun (p : Nat × Operand) => (p.1, A.eval p.2)).toList = ks.zip vs := by
    rw [← hk, ← hev]
    simp only [Array.toList_map, List.map_map, List.zip_map']
    rfl
  obtain ⟨e1, e2⟩ := placed_at hc
  have hlen : ks.length = vs.length := by rw [← hk, ← hev]; simp
  have hf := fill_setAll pl (ks.zip vs) is zs (by simp [hlen]; omega) (fun j p i' hp' hi' => by
    rw [List.getElem?_zip_eq_some] at hp'
    obtain ⟨h2, h3⟩ := hp'
    obtain ⟨h4, h5⟩ := e2 j p.1 i' h2 hi'
    exact ⟨h4, h5, List.all_eq_true.1 h1 _ (List.mem_of_getElem? h3)⟩)
  have hsnd : (ks.zip vs).map (·.2) = vs := by
    rw [← List.unzip_snd, List.unzip_zip_right]
    omega
  rw [hsnd] at hf
  have hm : (fs.mapM fun f => (do pure (f.offset, ← sizeOf f.type) : Sem (Nat × Nat))).run P w = .ok pl.toArray w := by
    have := run_places (P := P) (w := w) fs.toList pl hp
    obtain ⟨fl⟩ := fs
    rw [List.mapM_toArray, map_eq_pure_bind, Sem.run_bind, this]
    rfl
  simp only [execOp, Instr.build, Sem.run_bind, run_zeroValue hi, Result.andThen_ok, run_underlying hu, hm]
  rw [show (parts.map fun (x : Nat × Operand) => match x with | (i, x) => (i, A.eval x)).toList = ks.zip vs from hpv]
  rw [show ((Value.agg zs.toArray).cells) = zs.toArray from rfl, hf]
  rfl
theorem EX.fieldAddr {fs : Array Field} {fd : Field} {f off : Nat} (hu : P.underlying t = some (.struct fs)) (hf : fs[f]? = some fd) (ho : fd.offset = off) (hi : TI P fd.type z s bs) (hs : Nat.blt 0 s = true) (hx : ev σ x = some (.pointer (some ⟨b, o, none⟩))) :
    EX P n σ (.fieldAddr t x f) ty w (.pointer (some ⟨b, o + off, none⟩)) w := fun A ha dst pos after g => by
  subst ho
  have hs' : s ≠ 0 := by have : 1 ≤ s := Nat.le_of_ble_eq_true hs; omega
  have hadd : (⟨b, o, none⟩ : Addr).add fd.offset = ⟨b, o + fd.offset, none⟩ := by unfold Addr.add; split <;> simp_all
  simp only [execOp, ha.ev hx]
  simp [Instr.fieldAt, run_underlying hu, Sem.run_bind, hf, Instr.sureAddr, fieldPlace, run_sizeOf hi, hs', hadd]
/-- a one-cell field of a struct's value -/
theorem EX.field1 {fs : Array Field} {fd : Field} {f off : Nat} {d : TypeDesc} (hu : P.underlying t = some (.struct fs)) (hf : fs[f]? = some fd) (ho : fd.offset = off) (hd : P.underlying fd.type = some d) (hfl : flat d = true)
    (hx : ev σ x = some (.agg l.toArray)) (hv : l[off]? = some v) : EX P n σ (.field t x f) ty w v w := fun A ha dst pos after g => by
  subst ho
  simp only [execOp, ha.ev hx]
  simp [Instr.field, run_underlying hu, Sem.run_bind, hf, asAgg, part, run_isAgg hd, hfl, hv]
theorem run_eq {u v : Value} {q : Bool} (e : binOp .eql t u v = (do pure (.bool (← Op.equal t u v)))) (h : ∀ d, (Op.equalIn (d + 1) t u v).run P w = .ok q w) : (binOp .eql t u v).run P w = .ok (.bool q) w := by
  have h1 : (Op.equal t u v).run P w = .ok q w := h 9999
  rw [e, Sem.run_bind, h1]
  rfl
theorem run_ne {u v : Value} {q : Bool} (e : binOp .neq t u v = (do pure (.bool !(← Op.equal t u v)))) (h : ∀ d, (Op.equalIn (d + 1) t u v).run P w = .ok (!q) w) : (binOp .neq t u v).run P w = .ok (.bool q) w := by
  have h1 : (Op.equal t u v).run P w = .ok (!q) w := h 9999
  rw [e, Sem.run_bind, h1]
  simp
/-- nil or not -/
theorem guard_ptr (op : BinOp) (i j : Option Addr) : (eqGuard op t x y (.pointer i) (.pointer j)).run P w = .ok () w := by
  unfold eqGuard; cases op <;> rfl
theorem EX.eqlP0 (hu : P.underlying t = some (.pointer e)) (hx : ev σ x = some (.pointer none)) (hy : ev σ y = some (.pointer none)) : EX P n σ (.binOp .eql t x y T) ty w (.bool true) w :=
  EX.bin hx hy (guard_ptr _ _ _) (run_eq rfl (fun d => by simp [Op.equalIn, run_underlying hu, Sem.run_bind]))
theorem EX.eqlP1 {a : Addr} (hu : P.underlying t = some (.pointer e)) (hx : ev σ x = some (.pointer (some a))) (hy : ev σ y = some (.pointer none)) : EX P n σ (.binOp .eql t x y T) ty w (.bool false) w :=
  EX.bin hx hy (guard_ptr _ _ _) (run_eq rfl (fun d => by simp [Op.equalIn, run_underlying hu, Sem.run_bind]))
theorem EX.neqP0 (hu : P.underlying t = some (.pointer e)) (hx : ev σ x = some (.pointer none)) (hy : ev σ y = some (.pointer none)) : EX P n σ (.binOp .neq t x y T) ty w (.bool false) w :=
  EX.bin hx hy (guard_ptr _ _ _) (run_ne rfl (fun d => by simp [Op.equalIn, run_underlying hu, Sem.run_bind]))
theorem EX.neqP1 {a : Addr} (hu : P.underlying t = some (.pointer e)) (hx : ev σ x = some (.pointer (some a))) (hy : ev σ y = some (.pointer none)) : EX P n σ (.binOp .neq t x y T) ty w (.bool true) w :=
  EX.bin hx hy (guard_ptr _ _ _) (run_ne rfl (fun d => by simp [Op.equalIn, run_underlying hu, Sem.run_bind]))
theorem EX.neqF0 {p q : Array TypeId} {vd : Bool} (hu : P.underlying t = some (.func p q vd)) (hx : ev σ x = some .nilFunc) (hy : ev σ y = some .nilFunc) : EX P n σ (.binOp .neq t x y T) ty w (.bool false) w :=
  EX.bin hx hy (by unfold eqGuard; rfl) (run_ne rfl (fun d => by simp [Op.equalIn, run_underlying hu, Sem.run_bind]))
theorem EX.neqF1 {p q : Array TypeId} {vd : Bool} {f : Fn} {fi ca : Array Value} (hu : P.underlying t = some (.func p q vd)) (hx : ev σ x = some (.func f fi ca)) (hy : ev σ y = some .nilFunc) : EX P n σ (.binOp .neq t x y T) ty w (.bool true) w :=
  EX.bin hx hy (by unfold eqGuard; rfl) (run_ne rfl (fun d => by simp [Op.equalIn, run_underlying hu, Sem.run_bind]))
/-- nil or a function -/
theorem EX.neqFb {p q : Array TypeId} {vd r : Bool} (hu : P.underlying t = some (.func p q vd)) (hx : ev σ x = some v) (hy : ev σ y = some .nilFunc) (hq : v = .nilFunc ∧ r = false ∨ ∃ f fi ca, v = .func f fi ca ∧ r = true) : EX P n σ (.binOp .neq t x y T) ty w (.bool r) w := by
  rcases hq with ⟨rfl, rfl⟩ | ⟨f, fi, ca, rfl, rfl⟩
  · exact EX.neqF0 hu hx hy
  · exact EX.neqF1 hu hx hy
end
section
variable {P : Program} {R : Act → World → Prop} {ops : Array Oper} {rest : List Oper} {k : List KI} {n : Nat} {σ : Sig} {w : World} {x y : Operand} {T T' e ty : TypeId} {pos : String} {after : Array Edge} {gd : Option (Nat × Bool)} {d : Nat} {v z : Value} {s bs : Nat} {l : List Value}
/-- a struct in a box of its own -/
theorem OW.boxS (hg : wantS ops σ gd = some true) (hd : Nat.blt d n = true) (hx : ev σ x = some (.agg l.toArray))
    (h : ∀ b w', w.heap.size ≤ b → Bk w' b T l → Ext w w' → OW P R ops rest k n ((d, .pointer (some ⟨b, 0, none⟩)) :: σ) w') :
    OW P R ops (⟨some d, .box T x, ty, pos, after, gd⟩ :: rest) k n σ w :=
  OW.val hg hd (EX.box (l := l) hx (by simp [Value.cells])) (h _ _ (Nat.le_refl _) (Bk.new w T l) (Ext.alloc w _))
/-- several cells are stored over others -/
theorem OW.storeS {b o : Nat} {vs : List Value} (hg : wantS ops σ gd = some true) (hi : TI P T z s bs) (hx : ev σ x = some (.pointer (some ⟨b, o, none⟩))) (hy : ev σ y = some (.agg vs.toArray)) (hs : vs.length = s) (h1 : vs.all (·.oneCell') = true) (hb : Bk w b T' l) (hlt : o + vs.length ≤ l.length)
    (h : ∀ w', Bk w' b T' (l.take o ++ vs ++ l.drop (o + vs.length)) → Mo w w' [b] → OW P R ops rest k n σ w') :
    OW P R ops (⟨none, .store T x y, ty, pos, after, gd⟩ :: rest) k n σ w := by
  obtain ⟨w', he, hb', hg'⟩ := EU.storeA (P := P) (n := n) (ty := ty) hi hx hy hs h1 hb hlt
  exact OW.eff hg he (h w' hb' (Mo.grown hg' (fun k e => by simp at e; simp [e])))
end
end Go.Proofs.YtieojdkblakchaaDoor
