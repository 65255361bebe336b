/-
  The engine's laws for arrays of two within structs: they are built, and compared. No program is spoken of.
-/
import Derived.Test.YtieojdkblakchaaDoorKe
import Derived.Scope
namespace Go.Proofs.YtieojdkblakchaaDoor
open Go.RowKit
set_option linter.unusedSimpArgs false
set_option linter.unusedVariables false
section
variable {P : Program} {n : Nat} {σ : Sig} {w : World} {x y : Operand} {t e ty T T' : TypeId} {b o : Nat} {z v : Value} {s bs : Nat} {l : List Value}
theorem EX.buildA {m : Nat} {parts : Array (Nat × Operand)} {ks : List Nat} {vs zs : List Value} {s' bs' : Nat} {z' : Value} (hu : P.underlying t = some (.array m e)) (hi : TI P t (.agg zs.toArray) s bs) (he : TI P e z' s' bs')
    (hk : parts.toList.map (·.1) = ks) (hv : evs σ (parts.toList.map (·.2)) = some vs) (hf : Instr.fill (fun i => some (i * s', s')) zs.toArray (ks.zip vs) = some l.toArray) :
    EX P n σ (.build t parts) ty w (.agg l.toArray) w := fun A ha dst pos after g => by
  have hev := ha.evs hv
  have hpv : (parts.map fun (p : Nat × Operand) => (p.1, A.eval p.2)).toList = ks.zip vs := by
    rw [← hk, ← hev]
    simp only [Array.toList_map, List.map_map, List.zip_map']
    rfl
  simp only [execOp, Instr.build, Sem.run_bind, run_zeroValue hi, Result.andThen_ok, run_underlying hu, run_sizeOf he]
  rw [show (parts.map fun (x : Nat × Operand) => match x with | (i, x) => (i, A.eval x)).toList = ks.zip vs from hpv]
  rw [show ((Value.agg zs.toArray).cells) = zs.toArray from rfl, hf]
  rfl
theorem EX.buildA2 {zs : List Value} {bs' : Nat} {z' u0 u1 : Value} (hu : P.underlying t = some (.array 2 e)) (hi : TI P t (.agg zs.toArray) 2 bs) (he : TI P e z' 1 bs') (hz : zs.length = 2) (hx : ev σ x = some u0) (hy : ev σ y = some u1) (h0 : u0.oneCell' = true) (h1 : u1.oneCell' = true) :
    EX P n σ (.build t #[(0, x), (1, y)]) ty w (.agg [u0, u1].toArray) w := by
  match zs, hz with
  | [a, b], _ =>
    refine EX.buildA (ks := [0, 1]) (vs := [u0, u1]) hu hi he rfl (by simp [evs, hx, hy]) ?_
    simp [Instr.fill, oneCell_cells h0, oneCell_cells h1]
/-- a struct's cells where some parts are given -/
def fillL (pl : List (Nat × Nat)) : List Value → List (Nat × List Value) → List Value
  | zs, [] => zs
  | zs, (i, cs) :: r => fillL pl (zs.take (pl.getD i (0, 0)).1 ++ (cs ++ zs.drop ((pl.getD i (0, 0)).1 + cs.length))) r
def fitL (pl : List (Nat × Nat)) (n : Nat) : List (Nat × Nat) → Bool
  | [] => true
  | (i, c) :: r => Nat.blt i pl.length && (pl.getD i (0, 0)).2 == c && Nat.ble ((pl.getD i (0, 0)).1 + c) n && fitL pl n r
theorem fold_in (off : Nat) : ∀ (vs : List Value) (k : Nat) (zs : List Value), off + k + vs.length ≤ zs.length →
    (vs.zipIdx k).foldl (fun (cs : Array Value) (x : Value × Nat) => cs.setIfInBounds (off + x.2) x.1) zs.toArray = (zs.take (off + k) ++ (vs ++ zs.drop (off + k + vs.length))).toArray
  | [], k, zs, _ => by simp
  | v :: vs, k, zs, h => by
    have hlt : off + k < zs.length := by simp at h; omega
    have hset : zs.toArray.setIfInBounds (off + k) v = (zs.set (off + k) v).toArray := by simp
    simp only [List.zipIdx_cons, List.foldl_cons, hset]
    rw [fold_in off vs (k + 1) (zs.set (off + k) v) (by simp at h ⊢; omega)]
    congr 1
    have e1 : (zs.set (off + k) v).take (off + (k + 1)) = zs.take (off + k) ++ [v] := by
      rw [show off + (k + 1) = off + k + 1 by omega, List.take_add_one, List.getElem?_set_self hlt, List.take_set_of_le (by omega)]
      rfl
    have e2 : (zs.set (off + k) v).drop (off + (k + 1) + vs.length) = zs.drop (off + k + (v :: vs).length) := by
      rw [List.drop_set_of_lt (by omega)]
      congr 1
      simp; omega
    rw [e1, e2]
    simp
theorem fill_L {pl : List (Nat × Nat)} : ∀ (ks : List Nat) (vs : List Value) (css : List (List Value)) (zs : List Value), vs.map (fun v => v.cells.toList) = css → fitL pl zs.length (ks.zip (css.map List.length)) = true → ks.length = vs.length →
    Instr.fill (pl.toArray[·]?) zs.toArray (ks.zip vs) = some (fillL pl zs (ks.zip css)).toArray
  | [], [], css, zs, hc, _, _ => by subst hc; simp [Instr.fill, fillL]
  | k :: ks, v :: vs, css, zs, hc, hf, hl => by
    subst hc
    simp only [List.map_cons, List.zip_cons_cons, fitL, Bool.and_eq_true, beq_iff_eq, Nat.blt_eq, Nat.ble_eq] at hf
    obtain ⟨⟨⟨f1, f2⟩, f3⟩, f4⟩ := hf
    have hg : pl.toArray[k]? = some (pl.getD k (0, 0)) := by simp [List.getD_eq_getElem?_getD, f1]
    simp only [List.zip_cons_cons, List.map_cons, Instr.fill, hg, fillL]
    generalize pl.getD k (0, 0) = q at f2 f3
    obtain ⟨off, size⟩ := q
    simp only at f2 f3
    have hcl : v.cells.toList.length = v.cells.size := by simp
    have hn : ¬ (v.cells.size ≠ size ∨ off + v.cells.size > zs.toArray.size) := by simp only [List.size_toArray]; omega
    simp only [ne_eq, Bool.or_eq_true, decide_eq_true_eq]
    rw [if_neg (by simpa using hn)]
    have hz : v.cells.zipIdx.foldl (fun cs (x : Value × Nat) => cs.setIfInBounds (off + x.2) x.1) zs.toArray = (zs.take off ++ (v.cells.toList ++ zs.drop (off + v.cells.toList.length))).toArray := by
      rw [← Array.foldl_toList, Array.toList_zipIdx]
      exact fold_in off v.cells.toList 0 zs (by omega)
    rw [hz]
    refine fill_L ks vs _ _ rfl ?_ (by simpa using hl)
    rw [← f4]
    congr 1
    simp
    omega
  | [], _ :: _, _, _, _, _, h => by simp at h
  | _ :: _, [], _, _, _, _, h => by simp at h
/-- a struct some of whose parts are structs or arrays: what it holds as a list -/
theorem EX.buildH {fs : Array Field} {parts : Array (Nat × Operand)} {pl : List (Nat × Nat)} {ks : List Nat} {vs zs : List Value} {css : List (List Value)} (hu : P.underlying t = some (.struct fs)) (hi : TI P t (.agg zs.toArray) s bs) (hp : places P fs.toList = some pl)
    (hk : parts.toList.map (·.1) = ks) (hv : evs σ (parts.toList.map (·.2)) = some vs) (hc : vs.map (fun v => v.cells.toList) = css) (hf : fitL pl zs.length (ks.zip (css.map List.length)) = true) (hn : ks.length = vs.length) (hl : fillL pl zs (ks.zip css) = l) :
    EX P n σ (.build t parts) ty w (.agg l.toArray) w :=
  EX.buildG hu hi hp hk hv (by rw [fill_L ks vs css zs hc hf hn, hl])
theorem run_eq_arr2 {a0 a1 b0 b1 : Value} {q0 q1 : Bool} {d : TypeDesc} (ht : P.underlying t = some (.array 2 e)) (he : P.underlying e = some d) (hf : flat d = true) (hi : TI P e z 1 bs)
    (h0 : ∀ k, (Op.equalIn (k + 1) e a0 b0).run P w = .ok q0 w) (h1 : ∀ k, (Op.equalIn (k + 1) e a1 b1).run P w = .ok q1 w) (k : Nat) : (Op.equalIn (k + 1 + 1) t (.agg #[a0, a1]) (.agg #[b0, b1])).run P w = .ok (q0 && q1) w := by
  have hr : List.range' 0 2 = [0, 1] := rfl
  rw [Op.equalIn]
  simp only [Sem.run_bind, run_underlying ht, Result.andThen_ok, run_sizeOf hi]
  cases q0 <;> cases q1 <;> simp [Std.Legacy.Range.forIn_eq_forIn_range', Std.Legacy.Range.size, hr, part, run_isAgg he, hf, h0 k, h1 k, Sem.run_bind]
/-- fields that are alike or not, whatever they hold -/
inductive FE (P : Program) (w : World) (xs ys : List Value) : List Field → List Bool → Prop
  | nil : FE P w xs ys [] []
  | cons {f : Field} {fs : List Field} {q : Bool} {qs : List Bool} {u v : Value} (hn : f.name ≠ "_") (hx : (part f.type xs.toArray f.offset).run P w = .ok u w) (hy : (part f.type ys.toArray f.offset).run P w = .ok v w)
      (he : ∀ k, (Op.equalIn (k + 1 + 1) f.type u v).run P w = .ok q w) (hr : FE P w xs ys fs qs) : FE P w xs ys (f :: fs) (q :: qs)
theorem FE.run {xs ys : List Value} (k : Nat) : ∀ {fs : List Field} {qs : List Bool}, FE P w xs ys fs qs → (Op.eqFields (k + 1 + 1) xs.toArray ys.toArray fs).run P w = .ok (qs.all id) w
  | _, _, .nil => by simp [Op.eqFields]
  | f :: fs, q :: qs, .cons (u := u) (v := v) hn h1 h2 he hr => by
    have ih := FE.run k hr
    simp only [Op.eqFields]
    rw [if_pos hn]
    simp only [Sem.run_bind, h1, h2, he k, Result.andThen_ok]
    cases q
    · simp
    · simpa using ih
theorem FE.one {f : Field} {fs : List Field} {q : Bool} {qs : List Bool} {xs ys : List Value} {u v : Value} {d : TypeDesc} (hn : f.name ≠ "_") (hd : P.underlying f.type = some d) (hfl : flat d = true) (hx : xs[f.offset]? = some u) (hy : ys[f.offset]? = some v)
    (he : ∀ k, (Op.equalIn (k + 1) f.type u v).run P w = .ok q w) (hr : FE P w xs ys fs qs) : FE P w xs ys (f :: fs) (q :: qs) :=
  .cons hn (by simp [part, Sem.run_bind, run_isAgg hd, hfl, hx]) (by simp [part, Sem.run_bind, run_isAgg hd, hfl, hy]) (fun k => he (k + 1)) hr
theorem FE.two {f : Field} {fs : List Field} {q0 q1 : Bool} {qs : List Bool} {xs ys : List Value} {a0 a1 b0 b1 : Value} {d : TypeDesc} {bs' : Nat} {z' : Value} (hn : f.name ≠ "_") (hd : P.underlying f.type = some (.array 2 e)) (ht : TI P f.type z' 2 bs') (he : P.underlying e = some d) (hf : flat d = true) (hi : TI P e z 1 bs)
    (hx : (xs.drop f.offset).take 2 = [a0, a1]) (hy : (ys.drop f.offset).take 2 = [b0, b1])
    (h0 : ∀ k, (Op.equalIn (k + 1) e a0 b0).run P w = .ok q0 w) (h1 : ∀ k, (Op.equalIn (k + 1) e a1 b1).run P w = .ok q1 w) (hr : FE P w xs ys fs qs) : FE P w xs ys (f :: fs) ((q0 && q1) :: qs) :=
  .cons hn (by simp [part, Sem.run_bind, run_isAgg hd, flat, run_sizeOf ht, hx]) (by simp [part, Sem.run_bind, run_isAgg hd, flat, run_sizeOf ht, hy]) (run_eq_arr2 hd he hf hi h0 h1) hr
theorem EX.eqlV {fs : Array Field} {xs ys : List Value} {qs : List Bool} {r : Bool} (hu : P.underlying t = some (.struct fs)) (hp : P.stoodInHeld t = false) (hm : P.eqGuardType P.depth t = false) (hx : ev σ x = some (.agg xs.toArray)) (hy : ev σ y = some (.agg ys.toArray))
    (h : FE P w xs ys fs.toList qs) (hr : qs.all id = r) : EX P n σ (.binOp .eql t x y T) ty w (.bool r) w := by
  subst hr
  have hf : P.fieldsOf t = fs := by unfold Program.fieldsOf; rw [hu]
  refine EX.bin hx hy (run_eqGuard_agg w _ t x y _ _ hm) ?_
  rw [run_eql_struct, show (10000 : Nat) = 9997 + 1 + 1 + 1 from rfl, run_equalIn_agg w _ t _ _ (by rw [hf]; exact hu) hp, hf, h.run]
  rfl
theorem EX.neqV {fs : Array Field} {xs ys : List Value} {qs : List Bool} {r : Bool} (hu : P.underlying t = some (.struct fs)) (hp : P.stoodInHeld t = false) (hm : P.eqGuardType P.depth t = false) (hx : ev σ x = some (.agg xs.toArray)) (hy : ev σ y = some (.agg ys.toArray))
    (h : FE P w xs ys fs.toList qs) (hr : (!qs.all id) = r) : EX P n σ (.binOp .neq t x y T) ty w (.bool r) w := by
  subst hr
  have hf : P.fieldsOf t = fs := by unfold Program.fieldsOf; rw [hu]
  refine EX.bin hx hy (run_eqGuard_agg w _ t x y _ _ hm) ?_
  rw [run_neq_struct, show (10000 : Nat) = 9997 + 1 + 1 + 1 from rfl, run_equalIn_agg w _ t _ _ (by rw [hf]; exact hu) hp, hf, h.run]
  rfl
end
section
variable {P : Program} {R : Act → World → Prop} {k : List KI} {n : Nat} {σ : Sig} {w : World}
theorem pst_goto {l : Nat} : ∀ (k : List KI) (a : Act) (w : World), pst P R k (.goto l) a w → False
  | [], _, _, h => h
  | .code _ :: k, a, w, h => pst_goto k a w h
  | .blk _ :: k, a, w, h => pst_goto k a w h
  | .asr _ :: k, a, w, h => pst_goto k a w h
/-- a scope through which no jump goes -/
theorem KW.scope {c : Code} (h : KW P R (.code c :: k) n σ w) : KW P R (.code (.scope c) :: k) n σ w := fun a ha => by
  refine wp_scope_straight ?_
  intro b k' cs
  obtain ⟨e, a₁, w₁, hq, harr⟩ := h a ha b k' cs
  refine ⟨e, a₁, w₁, ?_, harr⟩
  cases e with
  | goto l => exact pst_goto k _ _ hq
  | normal => exact hq
  | exit id => exact hq
  | ret => exact hq
  | panic ch => exact hq
  | outgrown => exact hq
end
end Go.Proofs.YtieojdkblakchaaDoor
