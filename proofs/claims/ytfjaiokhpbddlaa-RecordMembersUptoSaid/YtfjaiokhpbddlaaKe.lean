/-
  The engine's laws for structs within structs, for '==' of structs, and for results that stand in cells. No program is spoken of.
-/
import Derived.Test.YtfjaiokhpbddlaaKg
import Derived.Laws.StructEq
import Derived.Laws.ResultCell
namespace Go.Proofs.Ytfjaiokhpbddlaa
open Go.RowKit
set_option linter.unusedSimpArgs false
set_option linter.unusedVariables false
section
variable {P : Program} {n : Nat} {σ : Sig} {w : World} {x y : Operand} {t e ty T T' : TypeId} {b o : Nat} {z v : Value} {s bs : Nat} {l : List Value}
/-- a struct some of whose parts are structs -/
theorem EX.buildG {fs : Array Field} {parts : Array (Nat × Operand)} {pl : List (Nat × Nat)} {ks : List Nat} {vs zs : List Value} (hu : P.underlying t = some (.struct fs)) (hi : TI P t (.agg zs.toArray) s bs) (hp : places P fs.toList = some pl)
    (hk : parts.toList.map (·.1) = ks) (hv : evs σ (parts.toList.map (·.2)) = some vs) (hf : Instr.fill (pl.toArray[·]?) zs.toArray (ks.zip vs) = some l.toArray) :
    EX P n σ (.build t parts) ty w (.agg l.toArray) w := fun A ha dst pos after g => by
  have hev := ha.evs hv
  have hpv : (parts.map fun (p : Nat × Operand) => (p.1, A.eval p.2)).toList = ks.zip vs := by
    rw [← hk, ← hev]
    simp only [Array.toList_map, List.map_map, List.zip_map']
    rfl
  have hm : (fs.mapM fun f => (do pure (f.offset, ← sizeOf f.type) : Sem (Nat × Nat))).run P w = .ok pl.toArray w := by
    have := run_places (P := P) (w := w) fs.toList pl hp
    obtain ⟨fl⟩ := fs
    rw [List.mapM_toArray, map_eq_pure_bind, Sem.run_bind, this]
    rfl
  simp only [execOp, Instr.build, Sem.run_bind, run_zeroValue hi, Result.andThen_ok, run_underlying hu, hm]
  rw [show (parts.map fun (x : Nat × Operand) => match x with | (i, x) => (i, A.eval x)).toList = ks.zip vs from hpv]
  rw [show ((Value.agg zs.toArray).cells) = zs.toArray from rfl, hf]
  rfl
/-! ### '==' -/
inductive FEqs (P : Program) (w : World) (xs ys : List Value) : List Field → List Bool → Prop
  | nil : FEqs P w xs ys [] []
  | cons {f : Field} {fs : List Field} {q : Bool} {qs : List Bool} {u v : Value} {d : TypeDesc} (hn : f.name ≠ "_") (hd : P.underlying f.type = some d) (hfl : flat d = true) (hx : xs[f.offset]? = some u) (hy : ys[f.offset]? = some v)
      (he : ∀ k, (Op.equalIn (k + 1) f.type u v).run P w = .ok q w) (hr : FEqs P w xs ys fs qs) : FEqs P w xs ys (f :: fs) (q :: qs)
theorem FEqs.run {xs ys : List Value} (k : Nat) : ∀ {fs : List Field} {qs : List Bool}, FEqs P w xs ys fs qs → (Op.eqFields (k + 1) xs.toArray ys.toArray fs).run P w = .ok (qs.all id) w
  | _, _, .nil => by simp [Op.eqFields]
  | f :: fs, q :: qs, .cons (u := u) (v := v) hn hd hfl hx hy he hr => by
    have h1 : (part f.type xs.toArray f.offset).run P w = .ok u w := by simp [part, Sem.run_bind, run_isAgg hd, hfl, hx]
    have h2 : (part f.type ys.toArray f.offset).run P w = .ok v w := by simp [part, Sem.run_bind, run_isAgg hd, hfl, hy]
    have ih := FEqs.run k hr
    simp only [Op.eqFields]
    rw [if_pos hn]
    simp only [Sem.run_bind, h1, h2, he k, Result.andThen_ok]
    cases q
    · simp
    · simpa using ih
theorem eq_int {k : IntKind} {a b : Int} (h : P.underlying t = some (.int k)) (d : Nat) : (Op.equalIn (d + 1) t (.int k a) (.int k b)).run P w = .ok (decide (a = b)) w := run_equalIn_int w d t k k a b h
theorem eq_str {a b : List UInt8} (h : P.underlying t = some .string) (d : Nat) : (Op.equalIn (d + 1) t (str a) (str b)).run P w = .ok (decide (a = b)) w := by
  have := run_equalIn_string (P := P) w d t ⟨⟨a⟩⟩ ⟨⟨b⟩⟩ h
  have e : (ByteArray.toList ⟨⟨a⟩⟩ == ByteArray.toList ⟨⟨b⟩⟩) = decide (a = b) := by rw [Bool.eq_iff_iff]; simp
  rw [e] at this
  exact this
theorem eq_bool {a b : Bool} (h : P.underlying t = some .bool) (d : Nat) : (Op.equalIn (d + 1) t (.bool a) (.bool b)).run P w = .ok (decide (a = b)) w := by
  have := run_equalIn_bool' (P := P) w d t a b h
  rw [this]
  cases a <;> cases b <;> rfl
theorem EX.eqlG {fs : Array Field} {xs ys : List Value} {qs : List Bool} {r : Bool} (hu : P.underlying t = some (.struct fs)) (hp : P.stoodInHeld t = false) (hm : P.eqGuardType P.depth t = false) (hx : ev σ x = some (.agg xs.toArray)) (hy : ev σ y = some (.agg ys.toArray))
    (h : FEqs P w xs ys fs.toList qs) (hr : qs.all id = r) : EX P n σ (.binOp .eql t x y T) ty w (.bool r) w := by
  subst hr
  have hf : P.fieldsOf t = fs := by unfold Program.fieldsOf; rw [hu]
  refine EX.bin hx hy (run_eqGuard_agg w _ t x y _ _ hm) ?_
  rw [run_eql_struct, show (10000 : Nat) = 9998 + 1 + 1 from rfl, run_equalIn_agg w _ t _ _ (by rw [hf]; exact hu) hp, hf, h.run]
  rfl
theorem EX.neqG {fs : Array Field} {xs ys : List Value} {qs : List Bool} {r : Bool} (hu : P.underlying t = some (.struct fs)) (hp : P.stoodInHeld t = false) (hm : P.eqGuardType P.depth t = false) (hx : ev σ x = some (.agg xs.toArray)) (hy : ev σ y = some (.agg ys.toArray))
    (h : FEqs P w xs ys fs.toList qs) (hr : (!qs.all id) = r) : EX P n σ (.binOp .neq t x y T) ty w (.bool r) w := by
  subst hr
  have hf : P.fieldsOf t = fs := by unfold Program.fieldsOf; rw [hu]
  refine EX.bin hx hy (run_eqGuard_agg w _ t x y _ _ hm) ?_
  rw [run_neq_struct, show (10000 : Nat) = 9998 + 1 + 1 from rfl, run_equalIn_agg w _ t _ _ (by rw [hf]; exact hu) hp, hf, h.run]
  rfl
end
/-! ### Results in cells -/
section
variable {P : Program} {fn : Func} {Q : Value → World → Prop} {n : Nat} {σ : Sig} {w : World} {k : List KI}
theorem retC2 {t u : Nat} {T T' : TypeId} {b s bs : Nat} {z x : Value} {d : TypeDesc} {l : List Value} (hs : fn.results = #[.cell t T, .tmp u]) (hu : P.underlying T = some d) (hd : flat d = false) (hi : TI P T z s bs) (hv : lk σ t = some (.pointer (some ⟨b, 0, none⟩))) (hx : lk σ u = some x)
    (hb : Bk w b T' l) (hl : l.length = s) (hq : Q (.tuple #[.agg l.toArray, x]) w) : ∀ a, Fr n σ a → bodyPost P fn (fun e w' => ∃ v, e = .returned v ∧ Q v w') .ret a w :=
  ret_of (fun a ha => by
    have h := EX.loadBk (P := P) (n := n) (σ := σ) (x := .tmp t) (ty := 0) hu hd hi hv hb hl a ha none "" #[] none
    have h1 : (loadVar T ⟨b, 0, none⟩).run P w = .ok (.agg l.toArray) w := by
      have et : a.eval (.tmp t) = .pointer (some ⟨b, 0, none⟩) := ha.ev (x := .tmp t) hv
      simp only [execOp, et, Instr.loadAt, Instr.sureAddr, Sem.run_bind, Sem.run_pure, Result.andThen_ok] at h
      cases hr : (loadVar T ⟨b, 0, none⟩).run P w with
      | ok v w' => rw [hr] at h; simpa using h
      | halt q w' => rw [hr] at h; simp at h
    rw [results_cell_tmp hs]
    have e1 := ha.val t _ hv
    have e2 := ha.val u _ hx
    simp [e1, e2, asAddr, h1]) hq
end
end Go.Proofs.Ytfjaiokhpbddlaa
