/-
  The engine's laws for boxes, closures, and for what a call changes. No program is spoken of.
-/
import Derived.Test.YtieojdkblakchaaDoorKp
namespace Go.Proofs.YtieojdkblakchaaDoor
open Go.RowKit
set_option linter.unusedSimpArgs false
set_option linter.unusedVariables false

/-! ### What is changed -/
/-- all blocks that were there are as they were, but for those of S -/
structure Mo (w w' : World) (S : List Nat) : Prop where
  os : w'.os = w.os
  tape : w'.tape = w.tape
  output : w'.output = w.output
  size : w.heap.size ≤ w'.heap.size
  block : ∀ k, k < w.heap.size → k ∉ S → w'.heap[k]? = w.heap[k]?
section
variable {w w' w'' : World} {S S' : List Nat} {b B : Nat} {T : TypeId} {l : List Value}
theorem Mo.refl (w : World) (S : List Nat) : Mo w w S := ⟨rfl, rfl, rfl, Nat.le_refl _, fun _ _ _ => rfl⟩
theorem Mo.trans (h : Mo w w' S) (k : Mo w' w'' S) : Mo w w'' S :=
  ⟨k.os.trans h.os, k.tape.trans h.tape, k.output.trans h.output, Nat.le_trans h.size k.size, fun i hi hS => (k.block i (Nat.lt_of_lt_of_le hi h.size) hS).trans (h.block i hi hS)⟩
theorem Mo.mono (h : Mo w w' S) (hs : ∀ k ∈ S, k ∈ S') : Mo w w' S' := ⟨h.os, h.tape, h.output, h.size, fun i hi hS => h.block i hi fun hk => hS (hs i hk)⟩
/-- blocks that were not there at the beginning need not be named -/
theorem Mo.fresh (h : Mo w w' S) (hs : ∀ k ∈ S, k < w.heap.size → k ∈ S') : Mo w w' S' := ⟨h.os, h.tape, h.output, h.size, fun i hi hS => h.block i hi fun hk => hS (hs i hk hi)⟩
theorem Mo.of_ext (h : Ext w w') (S : List Nat) : Mo w w' S := ⟨h.os, h.tape, h.output, h.size, fun i hi _ => h.block i hi⟩
theorem Mo.ext (h : Mo w w' []) : Ext w w' := ⟨h.os, h.tape, h.output, h.size, fun i hi => h.block i hi (by simp)⟩
theorem Mo.set (w : World) (b i : Nat) (u : Value) : Mo w (w.setCell ⟨b, i, none⟩ u) [b] := ⟨rfl, rfl, rfl, by simp, fun k _ hk => Below.heap_setCell w _ u k (fun e => hk (by simp [e]))⟩
theorem Mo.grown {row : Option Nat} (h : w.grownBy w' row) (hr : ∀ k, row = some k → k ∈ S) : Mo w w' S := ⟨h.os, h.tape, h.output, h.size, fun i hi hS => h.block i hi (fun e => hS (hr i e.symm))⟩
theorem below_mo {a : World} (h : Below B a w) (hm : Mo w w' S) (hB : B ≤ w.heap.size) (hs : ∀ k ∈ S, B ≤ k) : Below B a w' :=
  ⟨hm.os.trans h.os, hm.tape.trans h.tape, hm.output.trans h.output, Nat.le_trans h.size hm.size, fun i hi => (hm.block i (by omega) (fun hk => by have := hs i hk; omega)).trans (h.block i hi)⟩
theorem Bk.mo (h : Bk w b T l) (hm : Mo w w' S) (hb : b ∉ S) : Bk w' b T l := h.of_block (hm.block b h.lt hb)
theorem Own.mo {s n : Nat} {v : Value} {xs : List Value} (h : Own w B T s v n xs) (hm : Mo w w' S) (hb : ∀ k, v.ownBlock = some k → k ∉ S) : Own w' B T s v n xs :=
  h.of_blocks fun k hk => hm.block k (h.lt k hk).2 (hb k hk)
theorem Sl.mo {A : Option Addr} {xs : List Value} (h : Sl w B A xs) (hm : Mo w w' S) (hB : B ≤ w.heap.size) (hb : ∀ k ∈ S, B ≤ k) : Sl w' B A xs := by
  rcases h with h | ⟨b, o, h1, h2, h3⟩
  · exact .inl h
  · refine .inr ⟨b, o, h1, h2, fun j u hu => ?_⟩
    have hc := h3 j u hu
    have hk := hm.block b (by omega) (fun hk => by have := hb b hk; omega)
    unfold World.cell? at hc ⊢
    rwa [hk]
end

/-! ### A meeting behind two pieces of code -/
section
variable {P : Program} {R : Act → World → Prop} {k : List KI} {n : Nat} {σ : Sig} {w : World} {c c' : Code}
theorem KW.cutd {ι : Type} (I : ι → Prop) (S : ι → Sig) (W : ι → World) (h : KW P R (.code c :: .code c' :: .asr (Met n I S W) :: k) n σ w) (h2 : ∀ i, I i → KW P R k n (S i) (W i)) :
    KW P R (.code c :: .code c' :: k) n σ w := fun a ha => by
  have h1 := h a ha
  simp only [pst] at h1 ⊢
  refine Code.wp_mono (fun e a' w' q => ?_) h1
  cases e with
  | normal =>
    simp only [pst] at q ⊢
    refine Code.wp_mono (fun e a' w' q => ?_) q
    cases e with
    | normal => obtain ⟨i, hi, hf, rfl⟩ := q; exact h2 i hi a' hf
    | _ => exact q
  | _ => exact q
/-- the second piece is taken apart -/
theorem KW.seq2 {x y : Code} (h : KW P R (.code c :: .code x :: .code y :: k) n σ w) : KW P R (.code c :: .code (.seq x y) :: k) n σ w := fun a ha => by
  have h1 := h a ha
  simp only [pst] at h1 ⊢
  refine Code.wp_mono (fun e a' w' q => ?_) h1
  cases e with
  | normal =>
    simp only [pst] at q ⊢
    refine wp_seq ?_
    rw [← pst_then]
    exact q
  | _ => exact q
theorem KW.cutd1 {α : Type} (I : α → Prop) (S : α → Sig) (W : α → World) (h : KW P R (.code c :: .code c' :: .asr (Met1 n I S W) :: k) n σ w)
    (h2 : ∀ x0, I x0 → KW P R k n (S x0) (W x0)) : KW P R (.code c :: .code c' :: k) n σ w :=
  KW.cutd (fun p : α => I p) (fun p => S p) (fun p => W p) h fun p hp => h2 p hp
theorem KW.cutd2 {α β : Type} (I : α → β → Prop) (S : α → β → Sig) (W : α → β → World) (h : KW P R (.code c :: .code c' :: .asr (Met2 n I S W) :: k) n σ w)
    (h2 : ∀ x0 x1, I x0 x1 → KW P R k n (S x0 x1) (W x0 x1)) : KW P R (.code c :: .code c' :: k) n σ w :=
  KW.cutd (fun p : α × β => I p.1 p.2) (fun p => S p.1 p.2) (fun p => W p.1 p.2) h fun p hp => h2 p.1 p.2 hp
theorem KW.cutd3 {α β γ : Type} (I : α → β → γ → Prop) (S : α → β → γ → Sig) (W : α → β → γ → World) (h : KW P R (.code c :: .code c' :: .asr (Met3 n I S W) :: k) n σ w)
    (h2 : ∀ x0 x1 x2, I x0 x1 x2 → KW P R k n (S x0 x1 x2) (W x0 x1 x2)) : KW P R (.code c :: .code c' :: k) n σ w :=
  KW.cutd (fun p : α × β × γ => I p.1 p.2.1 p.2.2) (fun p => S p.1 p.2.1 p.2.2) (fun p => W p.1 p.2.1 p.2.2) h fun p hp => h2 p.1 p.2.1 p.2.2 hp
end

/-! ### Boxes -/
section
variable {P : Program} {R : Act → World → Prop} {ops : Array Oper} {rest : List Oper} {k : List KI} {n : Nat} {σ : Sig} {w : World} {x y t : Operand} {T T' e ty : TypeId} {pos : String} {after : Array Edge} {gd : Option (Nat × Bool)} {d : Nat} {v z : Value} {s bs : Nat} {l : List Value}
theorem EX.box1 (hx : ev σ x = some v) (h1 : v.oneCell' = true) : EX P n σ (.box T x) ty w (.pointer (some ⟨w.heap.size, 0, none⟩)) (w.alloc (.cells [v].toArray T)) :=
  EX.box hx (by rw [oneCell_cells h1])
/-- a variable's box -/
theorem OW.boxB (hg : wantS ops σ gd = some true) (hd : Nat.blt d n = true) (hx : ev σ x = some v) (h1 : v.oneCell' = true)
    (h : ∀ b w', w.heap.size ≤ b → Bk w' b T [v] → Ext w w' → OW P R ops rest k n ((d, .pointer (some ⟨b, 0, none⟩)) :: σ) w') :
    OW P R ops (⟨some d, .box T x, ty, pos, after, gd⟩ :: rest) k n σ w :=
  OW.val hg hd (EX.box1 hx h1) (h _ _ (Nat.le_refl _) (Bk.new w T [v]) (Ext.alloc w _))
theorem OW.allocB (hg : wantS ops σ gd = some true) (hd : Nat.blt d n = true) (hi : TI P T z s bs) (hl : z.cells.toList = l)
    (h : ∀ b w', w.heap.size ≤ b → Bk w' b T l → Ext w w' → OW P R ops rest k n ((d, .pointer (some ⟨b, 0, none⟩)) :: σ) w') :
    OW P R ops (⟨some d, .alloc T, ty, pos, after, gd⟩ :: rest) k n σ w :=
  OW.val hg hd (EX.alloc hi hl) (h _ _ (Nat.le_refl _) (Bk.new w T l) (Ext.alloc w _))
theorem OW.storeB {b i : Nat} (hg : wantS ops σ gd = some true) (hi : TI P T z 1 bs) (hx : ev σ x = some (.pointer (some ⟨b, i, none⟩))) (hy : ev σ y = some v) (h1 : v.oneCell' = true) (hb : Bk w b T' l) (hlt : i < l.length)
    (h : ∀ w', Bk w' b T' (l.set i v) → Mo w w' [b] → OW P R ops rest k n σ w') :
    OW P R ops (⟨none, .store T x y, ty, pos, after, gd⟩ :: rest) k n σ w :=
  OW.eff hg (EU.storeBk hi hx hy h1 hb hlt) (h _ (hb.set i v) (Mo.set w b i v))

theorem OW.makeB {len : Nat} {kl kc : IntKind} (hg : wantS ops σ gd = some true) (hd : Nat.blt d n = true) (ht : P.underlying T = some (.slice e)) (hi : TI P e z 1 bs) (hz1 : z.oneCell' = true) (hx : ev σ x = some (.int kl (len : Int))) (hy : ev σ y = some (.int kc (len : Int)))
    (hb : bs * len ≤ 281474976710656) (h63 : len ≤ 9223372036854775807)
    (h : ∀ b w', w.heap.size ≤ b → Bk w' b e (List.replicate len z) → Ext w w' → OW P R ops rest k n ((d, .slice (some ⟨b, 0, none⟩) len len) :: σ) w') :
    OW P R ops (⟨some d, .makeSlice T x y, ty, pos, after, gd⟩ :: rest) k n σ w :=
  OW.val hg hd (EX.makeSlice ht hi hz1 hx hy hb h63) (h _ _ (Nat.le_refl _) (Bk.new w e _) (Ext.alloc w _))
theorem OW.buildB {parts : Array (Nat × Operand)} {vs : List Value} (len : Nat) (hg : wantS ops σ gd = some true) (hd : Nat.blt d n = true) (ht : P.underlying T = some (.slice e)) (hi : TI P e z 1 bs) (hz1 : z.oneCell' = true)
    (hv : evs σ (parts.toList.map (·.2)) = some vs) (hp : parts.toList.map (·.1) = List.range' 0 parts.toList.length) (hl : vs.length = len) (h1 : vs.all (·.oneCell') = true) (hlen : len ≤ 16777216)
    (h : ∀ b w', w.heap.size ≤ b → Bk w' b e vs → Ext w w' → OW P R ops rest k n ((d, .slice (some ⟨b, 0, none⟩) len len) :: σ) w') :
    OW P R ops (⟨some d, .buildSlice T len parts, ty, pos, after, gd⟩ :: rest) k n σ w :=
  OW.val hg hd (EX.buildSlice len ht hi hz1 hv hp hl h1 hlen) (h _ _ (Nat.le_refl _) (Bk.new w e vs) (Ext.alloc w _))

/-- the lowest bits of a number with a sign -/
theorem OW.maskE {c : Int} {b j p : Nat} (hg : wantS ops σ gd = some true) (hd : Nat.blt d n = true) (hx : ev σ x = some (.int .i64 c)) (hy : ev σ y = some (.int .i64 (b : Int))) (hp : 2 ^ j = p) (hb : b + 1 = p) (hpm : p ≤ 9223372036854775807) (hc : c ≤ 9223372036854775807)
    (h : ∀ r : Nat, r < p → (0 ≤ c → (r : Int) = c % (p : Int)) → OW P R ops rest k n ((d, .int .i64 (r : Int)) :: σ) w) :
    OW P R ops (⟨some d, .binOp .and T x y T', ty, pos, after, gd⟩ :: rest) k n σ w := by
  by_cases h0 : 0 ≤ c
  · obtain ⟨a, rfl⟩ := Int.eq_ofNat_of_zero_le h0
    exact OW.val hg hd (EX.maskN hx hy hp hb (m := 9223372036854775807) rfl (by omega)) (h (a % p) (Nat.mod_lt _ (by omega)) (fun _ => by simp))
  · refine OW.val hg hd (v := .int .i64 ((((BitVec.ofInt 64 c).toNat % p : Nat)) : Int)) (w' := w) (EX.binI hx hy ?_) (h _ (Nat.mod_lt _ (by omega)) (fun q => absurd q h0))
    have e : (BitVec.ofInt 64 c).toNat &&& b = (BitVec.ofInt 64 c).toNat % p := by
      rw [show b = p - 1 by omega, ← hp]
      exact Nat.and_two_pow_sub_one_eq_mod _ j
    have hl : (BitVec.ofInt 64 c).toNat % p < p := Nat.mod_lt _ (by omega)
    have hw := wrap_fit (k := .i64) (m := 9223372036854775807) (a := (BitVec.ofInt 64 c).toNat % p) rfl (by omega)
    have hf : (BitVec.ofInt 64 (b : Int)).toNat = b := ofInt_fit (k := .i64) (by simp only [maxN]; omega)
    have e2 : (BitVec.ofInt 64 c &&& BitVec.ofInt 64 (b : Int)).toNat = (BitVec.ofInt 64 c).toNat % p := by rw [BitVec.toNat_and, hf, e]
    have e3 : (binOp .and T (.int .i64 c) (.int .i64 (b : Int))).run P w = .ok (.int .i64 (IntKind.i64.wrap ((BitVec.ofInt 64 c &&& BitVec.ofInt 64 (b : Int)).toNat : Int))) w := rfl
    rw [e3, e2, hw]
theorem EX.shrZ {s p : Nat} {c : Int} {kd k' : IntKind} (hx : ev σ x = some (.int kd c)) (hy : ev σ y = some (.int k' (s : Int))) (hp : 2 ^ s = p) (hs : s ≤ kd.bits) :
    EX P n σ (.binOp .shr T x y T') ty w (.int kd (c / (p : Int))) w :=
  EX.bin hx hy (by unfold eqGuard; rfl) (by
    subst hp
    have hn : ¬ (s : Int) < 0 := by omega
    have hf : c.fdiv (2 ^ s) = c / ((2 ^ s : Nat) : Int) := by
      rw [Int.fdiv_eq_ediv_of_nonneg _ (by exact_mod_cast Nat.zero_le _)]
      simp
    simp [binOp, Op.shift, hn, Nat.min_eq_left hs, hf])

/-! ### Closures -/
theorem EX.makeFunc {f : FuncId} {fs cs : List Operand} {fv cv : List Value} (hf : evs σ fs = some fv) (hc : evs σ cs = some cv) :
    EX P n σ (.makeFunc (.func f) fs.toArray cs.toArray) ty w (.func (.func f) fv.toArray cv.toArray) w := fun A ha dst pos after g => by
  have e1 : fs.toArray.map A.eval = fv.toArray := by simp [ha.evs hf]
  have e2 : cs.toArray.map A.eval = cv.toArray := by simp [ha.evs hc]
  simp only [execOp, e1, e2]
  rfl
theorem EC.val {f : FuncId} {xs : List Operand} {vs fv cv args : List Value} {ats : Array TypeId} {fn : Func} (hf : P.funcs[f]? = some fn) (hn : (!(fn.name == "runtime.NumGoroutine") && fn.body.isSome) = true)
    (ht : ev σ t = some (.func (.func f) fv.toArray cv.toArray)) (hx : evs σ xs = some vs) (he : fv ++ vs ++ cv = args) :
    EC P n σ (.call { callee := .value t, args := xs.toArray, argTypes := ats }) ty w f args.toArray := fun A ha dst pos after g => by
  subst he
  have e1 : xs.toArray.map A.eval = vs.toArray := by simp [ha.evs hx]
  simp only [execOp, resolve, Deferred.ofValue, ha.ev ht, Sem.run_bind, Sem.run_pure, Result.andThen_ok, invoke, e1]
  have := run_callFunc (P := P) (w := w) hf hn (fv ++ vs ++ cv).toArray
  simpa using this
/-- a call of a function value -/
theorem OW.callV {f : FuncId} {xs : List Operand} {ats : Array TypeId} {vs fv cv args : List Value} {Q : Value → World → Prop}
    (hg : wantS ops σ gd = some true) (hd : Nat.blt d n = true) (ht : ev σ t = some (.func (.func f) fv.toArray cv.toArray)) (hx : evs σ xs = some vs) (he : fv ++ vs ++ cv = args) (hc : Ret P f args w Q)
    (h : ∀ v w', Q v w' → OW P R ops rest k n ((d, v) :: σ) w') :
    OW P R ops (⟨some d, .call { callee := .value t, args := xs.toArray, argTypes := ats }, ty, pos, after, gd⟩ :: rest) k n σ w := by
  obtain ⟨⟨fn, h1, h2⟩, _⟩ := id hc
  exact OW.callE hg hd (EC.val h1 h2 ht hx he) hc h
end
/-! ### The library's contracts -/
theorem Ret.of_calls {P : Program} {f : FuncId} {fn : Func} {args : List Value} {w : World} {v : Value} {W : World → Prop} (hf : P.funcs[f]? = some fn) (hn : (!(fn.name == "runtime.NumGoroutine") && fn.body.isSome) = true)
    (h : Calls P f args.toArray w fun e w' => e = .returned v ∧ W w') : Ret P f args w fun v' w' => v' = v ∧ W w' :=
  ⟨⟨fn, hf, hn⟩, h.mono fun e w' ⟨he, hw⟩ => ⟨v, he, rfl, hw⟩⟩
end Go.Proofs.YtieojdkblakchaaDoor
