/-
  The engine's laws for structs within structs, for '==' of structs, and for results that stand in cells. No program is spoken of.
-/
import Derived.Test.YtieojdkblakchaaDoorKg
import Derived.Laws.StructEq
import Derived.Laws.ResultCell
namespace Go.Proofs.YtieojdkblakchaaDoor
open Go.RowKit
set_option linter.unusedSimpArgs false
set_option linter.unusedVariables false
section
variable {P : Program} {n : Nat} {σ : Sig} {w : World} {x y : Operand} {t e ty T T' : TypeId} {b o : Nat} {z v : Value} {s bs : Nat} {l : List Value}
/-- a struct some of whose parts are structs -/
theorem EX.buildG {fs : Array Field} {parts : Array (Nat × Operand)} {pl : List (Nat × Nat)} {ks : List Nat} {vs zs : List Value} (hu : P.underlying t = some (.struct fs)) (hi : TI P t (.agg zs.toArray) s bs) (hp : places P fs.toList = some pl)
    (hk : parts.toList.map (·.1) = ks) (hv : evs σ (parts.toList.map (·.2)) = some vs) (hf : Instr.fill (pl.toArray[·]?) zs.toArray (ks.zip vs) = some l.toArray) :
    EX P n σ (.build t parts) ty w (.agg l.toArray) w := fun A ha dst pos after g => by
  have hev := ha.evs hv
  have hpv : (parts.map fun (p : Nat × Operand) => (p.1, A.eval p.2)).toList = ks.zip vs := by
    rw [← hk, ← hev]
    simp only [Array.toList_map, List.map_map, List.zip_map']
    rfl
  have hm : (fs.mapM fun f => (do pure (f.offset, ← sizeOf f.type) : Sem (Nat × Nat))).run P w = .ok pl.toArray w := by
    have := run_places (P := P) (w := w) fs.toList pl hp
    obtain ⟨fl⟩ := fs
    rw [List.mapM_toArray, map_eq_pure_bind, Sem.run_bind, this]
    rfl
  simp only [execOp, Instr.build, Sem.run_bind, run_zeroValue hi, Result.andThen_ok, run_underlying hu, hm]
  rw [show (parts.map fun (x : Nat × Operand) => match x with | (i, x) => (i, A.eval x)).toList = ks.zip vs from hpv]
  rw [show ((Value.agg zs.toArray).cells) = zs.toArray from rfl, hf]
  rfl
/-! ### '==' -/
inductive FEqs (P : Program) (w : World) (xs ys : List Value) : List Field → List Bool → Prop
  | nil : FEqs P w xs ys [] []
  | cons {f : Field} {fs : List Field} {q : Bool} {qs : List Bool} {u v : Value} {d : TypeDesc} (hn : f.name ≠ "_") (hd : P.underlying f.type = some d) (hfl : flat d = true) (hx : xs[f.offset]? = some u) (hy : ys[f.offset]? = some v)
      (he : ∀ k, (Op.equalIn (k + 1) f.type u v).run P w = .ok q w) (hr : FEqs P w xs ys fs qs) : FEqs P w xs ys (f :: fs) (q :: qs)
theorem FEqs.run {xs ys : List Value} (k : Nat) : ∀ {fs : List Field} {qs : List Bool}, FEqs P w xs ys fs qs → (Op.eqFields (k + 1) xs.toArray ys.toArray fs).run P w = .ok (qs.all id) w
  | _, _, .nil => by simp [Op.eqFields]
  | f :: fs, q :: qs, .cons (u := u) (v := v) hn hd hfl hx hy he hr => by
    have h1 : (part f.type xs.toArray f.offset).run P w = .ok u w := by simp [part, Sem.run_bind, run_isAgg hd, hfl, hx]
    have h2 : (part f.type ys.toArray f.offset).run P w = .ok v w := by simp [part, Sem.run_bind, run_isAgg hd, hfl, hy]
    have ih := FEqs.run k hr
    simp only [Op.eqFields]
    rw [if_pos hn]
    simp only [Sem.run_bind, h1, h2, he k, Result.andThen_ok]
    cases q
    · simp
    · simpa using ih
theorem eq_int {k : IntKind} {a b : Int} (h : P.underlying t = some (.int k)) (d : Nat) : (Op.equalIn (d + 1) t (.int k a) (.int k b)).run P w = .ok (decide (a = b)) w := run_equalIn_int w d t k k a b h
theorem eq_str {a b : List UInt8} (h : P.underlying t = some .string) (d : Nat) : (Op.equalIn (d + 1) t (str a) (str b)).run P w = .ok (decide (a = b)) w := by
  have := run_equalIn_string (P := P) w d t ⟨⟨a⟩⟩ ⟨⟨b⟩⟩ h
  have e : (ByteArray.toList ⟨⟨a⟩⟩ == ByteArray.toList ⟨⟨b⟩⟩) = decide (a = b) := by rw [Bool.eq_iff_iff]; simp
  rw [e] at this
  exact this
theorem eq_bool {a b : Bool} (h : P.underlying t = some .bool) (d : Nat) : (Op.equalIn (d + 1) t (.bool a) (.bool b)).run P w = .ok (decide (a = b)) w := by
  have := run_equalIn_bool' (P := P) w d t a b h
  rw [this]
  cases a <;> cases b <;> rfl
theorem EX.eqlG {fs : Array Field} {xs ys : List Value} {qs : List Bool} {r : Bool} (hu : P.underlying t = some (.struct fs)) (hp : P.stoodInHeld t = false) (hm : P.eqGuardType P.depth t = false) (hx : ev σ x = some (.agg xs.toArray)) (hy : ev σ y = some (.agg ys.toArray))
    (h : FEqs P w xs ys fs.toList qs) (hr : qs.all id = r) : EX P n σ (.binOp .eql t x y T) ty w (.bool r) w := by
  subst hr
  have hf : P.fieldsOf t = fs := by unfold Program.fieldsOf; rw [hu]
  refine EX.bin hx hy (run_eqGuard_agg w _ t x y _ _ hm) ?_
  rw [run_eql_struct, show (10000 : Nat) = 9998 + 1 + 1 from rfl, run_equalIn_agg w _ t _ _ (by rw [hf]; exact hu) hp, hf, h.run]
  rfl
theorem EX.neqG {fs : Array Field} {xs ys : List Value} {qs : List Bool} {r : Bool} (hu : P.underlying t = some (.struct fs)) (hp : P.stoodInHeld t = false) (hm : P.eqGuardType P.depth t = false) (hx : ev σ x = some (.agg xs.toArray)) (hy : ev σ y = some (.agg ys.toArray))
    (h : FEqs P w xs ys fs.toList qs) (hr : (!qs.all id) = r) : EX P n σ (.binOp .neq t x y T) ty w (.bool r) w := by
  subst hr
  have hf : P.fieldsOf t = fs := by unfold Program.fieldsOf; rw [hu]
  refine EX.bin hx hy (run_eqGuard_agg w _ t x y _ _ hm) ?_
  rw [run_neq_struct, show (10000 : Nat) = 9998 + 1 + 1 from rfl, run_equalIn_agg w _ t _ _ (by rw [hf]; exact hu) hp, hf, h.run]
  rfl
end
/-! ### Results in cells -/
section
variable {P : Program} {fn : Func} {Q : Value → World → Prop} {n : Nat} {σ : Sig} {w : World} {k : List KI}
theorem retC2 {t u : Nat} {T T' : TypeId} {b s bs : Nat} {z x : Value} {d : TypeDesc} {l : List Value} (hs : fn.results = #[.cell t T, .tmp u]) (hu : P.underlying T = some d) (hd : flat d = false) (hi : TI P T z s bs) (hv : lk σ t = some (.pointer (some ⟨b, 0, none⟩))) (hx : lk σ u = some x)
    (hb : Bk w b T' l) (hl : l.length = s) (hq : Q (.tuple #[.agg l.toArray, x]) w) : ∀ a, Fr n σ a → bodyPost P fn (fun e w' => ∃ v, e = .returned v ∧ Q v w') .ret a w :=
  ret_of (fun a ha => by
    have h := EX.loadBk (P := P) (n := n) (σ := σ) (x := .tmp t) (ty := 0) hu hd hi hv hb hl a ha none "" #[] none
    have h1 : (loadVar T ⟨b, 0, none⟩).run P w = .ok (.agg l.toArray) w := by
      have et : a.eval (.tmp t) = .pointer (some ⟨b, 0, none⟩) := ha.ev (x := .tmp t) hv
      simp only [execOp, et, Instr.loadAt, Instr.sureAddr, Sem.run_bind, Sem.run_pure, Result.andThen_ok] at h
      cases hr : (loadVar T ⟨b, 0, none⟩).run P w with
      | ok v w' => rw [hr] at h; simpa using h
      | halt q w' => rw [hr] at h; simp at h
    rw [results_cell_tmp hs]
    have e1 := ha.val t _ hv
    have e2 := ha.val u _ hx
    simp [e1, e2, asAddr, h1]) hq
end
/-! ### A struct is appended -/
theorem fold_set : ∀ (vs : List Value) (i : Nat) (pre post : List Value), pre.length = i → post.length = vs.length →
    (vs.zipIdx i).foldl (fun (cs : Array Value) (x : Value × Nat) => cs.setIfInBounds (0 + x.2) x.1) (pre ++ post).toArray = (pre ++ vs).toArray
  | [], i, pre, post, _, h => by
    have : post = [] := List.eq_nil_of_length_eq_zero (by simpa using h)
    subst this
    rfl
  | v :: vs, i, pre, [], _, h => by simp at h
  | v :: vs, i, pre, p :: post, hp, h => by
    have ih := fold_set vs (i + 1) (pre ++ [v]) post (by simp [hp]) (by simpa using h)
    have hset : (pre ++ p :: post).toArray.setIfInBounds (0 + i) v = ((pre ++ [v]) ++ post).toArray := by simp [← hp]
    simp only [List.zipIdx_cons, List.foldl_cons]
    rw [hset, ih]
    simp
section
variable {P : Program} {n : Nat} {σ : Sig} {w w0 : World} {x y : Operand} {t e ty ty1 : TypeId} {s bs : Nat} {R : Act → World → Prop} {ops : Array Oper} {rest : List Oper} {k : List KI} {pos pos1 : String} {after after1 : Array Edge} {gd gd1 : Option (Nat × Bool)} {d d1 : Nat}
theorem EX.buildSlice1 {z : Value} {vs : List Value} (ht : P.underlying t = some (.slice e)) (hi : TI P e z s bs) (hzs : z.cells.size = s) (hs0 : 0 < s) (hs : s ≤ 16777216) (hy : ev σ y = some (.agg vs.toArray)) (hl : vs.length = s) :
    EX P n σ (.buildSlice t 1 #[(0, y)]) ty w (.slice (some ⟨w.heap.size, 0, none⟩) 1 1) (w.alloc (.cells vs.toArray e)) := fun A ha dst pos after g => by
  have hev := ha.ev hy
  have hn : ¬ (1 * s > 2 ^ 24) := by omega
  have hn0 : ¬ (1 * s = 0) := by omega
  generalize hzz : ((Array.range (1 * s)).map fun j => z.cells[j % z.cells.size]!) = zz
  have hzl : zz.size = s := by rw [← hzz]; simp
  have hf : Instr.fill (fun i => some (i * s, s)) zz [(0, .agg vs.toArray)] = some vs.toArray := by
    obtain ⟨zl⟩ := zz
    have hzl' : zl.length = s := by simpa using hzl
    have h1 := fold_set vs 0 [] zl rfl (by omega)
    simp only [List.nil_append] at h1
    simp only [Instr.fill, Value.cells, Nat.zero_mul, List.size_toArray]
    have hn2 : ¬ (vs.length ≠ s ∨ 0 + vs.length > zl.length) := by omega
    simp only [ne_eq, Bool.or_eq_true, decide_eq_true_eq]
    rw [if_neg (by simpa using hn2)]
    have h2 : vs.toArray.zipIdx.foldl (fun (cs : Array Value) (x : Value × Nat) => cs.setIfInBounds (0 + x.2) x.1) zl.toArray = vs.toArray := by
      rw [← Array.foldl_toList, Array.toList_zipIdx]
      exact h1
    exact congrArg some h2
  simp only [execOp, Sem.run_bind]
  have hb : (Instr.buildSlice t 1 (#[(0, y)].map fun (x : Nat × Operand) => (x.1, A.eval x.2))).run P w = .ok (.slice (some ⟨w.heap.size, 0, none⟩) 1 1) (w.alloc (.cells vs.toArray e)) := by
    have hp : (#[(0, y)].map fun (x : Nat × Operand) => (x.1, A.eval x.2)) = #[(0, Value.agg vs.toArray)] := by simp [hev]
    rw [hp]
    simp only [Instr.buildSlice, Sem.run_bind, run_underlying ht, run_sizeOf hi, Result.andThen_ok, if_neg hn, if_neg hn0, Sem.run_pure, run_zeroValue hi, hzz, hf]
    simp [newRow, newObj, Sem.run_bind, Sem.run]
  rw [show (#[(0, y)].map fun (x : Nat × Operand) => match x with | (i, x) => (i, A.eval x)) = (#[(0, y)].map fun (x : Nat × Operand) => (x.1, A.eval x.2)) from rfl, hb]
  rfl
theorem OW.pushS {z : Value} (hg1 : wantS ops σ gd1 = some true) (hd1 : Nat.blt d1 n = true) (hg : ∀ u, wantS ops ((d1, u) :: σ) gd = some true) (hd : Nat.blt d n = true) (ht : P.underlying t = some (.slice e)) (hi : TI P e z s bs) (hzs : z.cells.size = s) (hs0 : 0 < s) (hs : s ≤ 16777216)
    {v : Value} {vs : List Value} {l : Nat} {xs : List Value} (hy : ev σ y = some (.agg vs.toArray)) (hl : vs.length = s) (hx : ∀ q, ev ((d1, q) :: σ) x = some v) (hu : vs.all (·.oneCell') = true) (hext : Ext w0 w) (hown : Own w w0.heap.size e s v l xs)
    (h63 : l + 1 ≤ maxLen) (hbytes : (l + 1) * bs ≤ 140737488355328)
    (h : ∀ q v' w', Own w' w0.heap.size e s v' (l + 1) (xs ++ vs) → Ext w0 w' → w.grownBy w' v.ownBlock → OW P R ops rest k n ((d, v') :: (d1, q) :: σ) w') :
    OW P R ops (⟨some d1, .buildSlice t 1 #[(0, y)], ty1, pos1, after1, gd1⟩ :: ⟨some d, .call { callee := .builtin .append, args := #[x, .tmp d1], argTypes := #[t, t] }, ty, pos, after, gd⟩ :: rest) k n σ w := by
  refine OW.val hg1 hd1 (EX.buildSlice1 ht hi hzs hs0 hs hy hl) ?_
  have hx1 : Ext w0 (w.alloc (.cells vs.toArray e)) := hext.trans (Ext.alloc w _)
  have hb := Bk.new w e vs
  refine OW.appendX (hg _) hd ht hi hzs hs0 (hx _) (lk_cons_same _ _ _) hx1 (hown.alloc _) (Src.of_sl ht (Sl.of_bk hb hb.lt) (by omega) (fun u hm => List.all_eq_true.1 hu u hm) hs0) h63 hbytes ?_
  intro v' w' h1 h2 h3 h4
  refine h _ v' w' h1 h2 ⟨h3.os, h3.tape, h3.output, by have := h3.size; simp at this; omega, fun j hj hne => ?_⟩
  rw [h3.block j (by simp; omega) hne]
  exact Below.heap_alloc w _ j hj
end
end Go.Proofs.YtieojdkblakchaaDoor
