/-
  The engine's law for regions that draw their order and hold calls or stores beside reads: what reads alone, in every world that meets S, is taken first. No program is spoken of.
-/
import Derived.Test.YtieojdkblakchaaDoorKq
import Derived.OrdersHeld
namespace Go.Proofs.YtieojdkblakchaaDoor
open Go.RowKit
set_option linter.unusedSimpArgs false
set_option linter.unusedVariables false
def GW (P : Program) (R : Act → World → Prop) (ops : Array Oper) (S : World → Prop) (fuel : Nat) (listed : Array Bool) (k : List KI) (n : Nat) (σ : Sig) (w : World) : Prop :=
  ∀ a, Fr n σ a → wpAnyH P .any ops (pst P R k) S fuel listed a w
section
variable {P : Program} {R : Act → World → Prop} {ops : Array Oper} {S : World → Prop} {fuel : Nat} {listed : Array Bool} {k : List KI} {n : Nat} {σ : Sig} {w w' : World}
theorem pst_panic {c : List PanicEntry} : ∀ (k : List KI) (a : Act) (w : World), pst P R k (.panic c) a w → False
  | [], _, _, h => h
  | .code _ :: k, a, w, h => pst_panic k a w h
  | .blk _ :: k, a, w, h => pst_panic k a w h
  | .asr _ :: k, a, w, h => pst_panic k a w h
theorem KW.regionG {id N : Nat} {l : List Oper} (S : World → Prop) (hm : P.follows .mixedOrders = true) (hN : l.toArray.size = N) (h : GW P R l.toArray S N (Array.replicate N false) k n σ w.drew) : KW P R (.code (.region id l.toArray true) :: k) n σ w := fun a ha => by
  subst hN
  exact wp_region_held hm (h a ha)
theorem GW.val (i : Nat) {d : Nat} {op : Op} {ty : TypeId} {pos : String} {after : Array Edge} {g : Option (Nat × Bool)} {v : Value} (hi : ops[i]? = some ⟨some d, op, ty, pos, after, g⟩) (hs : Region.noSelect ops = true) (hf : Region.free .any ops listed i = true) (hr : (Region.ready .any ops listed).contains i = true)
    (hg : wantS ops σ g = some true) (hd : Nat.blt d n = true) (hS : S w) (he : ∀ w', S w' → EX P n σ op ty w' v w')
    (h : GW P R ops S fuel (listed.setIfInBounds i true) k n ((d, v) :: σ) w) : GW P R ops S (fuel + 1) listed k n σ w := fun a ha =>
  wpAnyH_take hi hs hf hr (fun c a w q => (pst_panic k _ _ q).elim) (.inl ⟨wantS_spec ha (o := ⟨some d, op, ty, pos, after, g⟩) hg, fun w' hw' => he w' hw' a ha _ _ _ _⟩) hS (h _ (ha.put hd v))
theorem GW.pass (i : Nat) {d : Nat} {op : Op} {ty : TypeId} {pos : String} {after : Array Edge} {g : Option (Nat × Bool)} (hi : ops[i]? = some ⟨some d, op, ty, pos, after, g⟩) (hs : Region.noSelect ops = true) (hf : Region.free .any ops listed i = true) (hr : (Region.ready .any ops listed).contains i = true)
    (hg : wantS ops σ g = some false) (hd : Nat.blt d n = true) (hS : S w)
    (h : GW P R ops S fuel (listed.setIfInBounds i true) k n ((d, undef) :: σ) w) : GW P R ops S (fuel + 1) listed k n σ w := fun a ha =>
  wpAnyH_take hi hs hf hr (fun c a w q => (pst_panic k _ _ q).elim) (.inr ⟨wantS_spec ha (o := ⟨some d, op, ty, pos, after, g⟩) hg, rfl⟩) hS (h _ (ha.put hd undef))
/-- the one operation that may come up -/
theorem GW.sole (i : Nat) {o : Oper} (hi : ops[i]? = some o) (hr : Region.ready .any ops listed = [i]) (hg : wantS ops σ o.guard = some true)
    (h : ∀ a, Fr n σ a → o.wp P a w (fun a' w' => S w' ∧ wpAnyH P .any ops (pst P R k) S fuel (listed.setIfInBounds i true) a' w') (pst P R k)) : GW P R ops S (fuel + 1) listed k n σ w := fun a ha =>
  wpAnyH_all hr (by simp) fun j hj => by
    simp only [List.mem_singleton] at hj
    subst hj
    unfold wpOp
    simp only [hi, wantS_spec ha hg, if_true]
    exact .inl (h a ha)
theorem GW.callE (i : Nat) {d : Nat} {op : Op} {ty : TypeId} {pos : String} {after : Array Edge} {g : Option (Nat × Bool)} {f : FuncId} {args : List Value} {Q : Value → World → Prop} (hi : ops[i]? = some ⟨some d, op, ty, pos, after, g⟩) (hr : Region.ready .any ops listed = [i])
    (hg : wantS ops σ g = some true) (hd : Nat.blt d n = true) (he : EC P n σ op ty w f args.toArray) (hc : Ret P f args w Q)
    (h : ∀ v w', Q v w' → S w' ∧ (S w' → GW P R ops S fuel (listed.setIfInBounds i true) k n ((d, v) :: σ) w')) : GW P R ops S (fuel + 1) listed k n σ w :=
  GW.sole i hi hr hg fun a ha => by
    have h1 := he a ha (some d) pos after g
    unfold Oper.wp
    rw [h1]
    refine hc.2.mono fun e w'' ⟨v, he, q⟩ => ?_
    subst he
    obtain ⟨h2, h3⟩ := h v w'' q
    exact ⟨h2, h3 h2 _ (ha.put hd v)⟩
theorem GW.call (i : Nat) {d : Nat} {f : FuncId} {xs : List Operand} {ats : Array TypeId} {ty : TypeId} {pos : String} {after : Array Edge} {g : Option (Nat × Bool)} {vs : List Value} {Q : Value → World → Prop}
    (hi : ops[i]? = some ⟨some d, .call { callee := .value (.func f), args := xs.toArray, argTypes := ats }, ty, pos, after, g⟩) (hr : Region.ready .any ops listed = [i])
    (hg : wantS ops σ g = some true) (hd : Nat.blt d n = true) (hx : evs σ xs = some vs) (hc : Ret P f vs w Q)
    (h : ∀ v w', Q v w' → S w' ∧ (S w' → GW P R ops S fuel (listed.setIfInBounds i true) k n ((d, v) :: σ) w')) : GW P R ops S (fuel + 1) listed k n σ w := by
  obtain ⟨⟨fn, h1, h2⟩, _⟩ := id hc
  exact GW.callE i hi hr hg hd (EC.go h1 h2 hx) hc h
theorem GW.new (i : Nat) {d : Nat} {op : Op} {ty : TypeId} {pos : String} {after : Array Edge} {g : Option (Nat × Bool)} {v : Value} (hi : ops[i]? = some ⟨some d, op, ty, pos, after, g⟩) (hr : Region.ready .any ops listed = [i])
    (hg : wantS ops σ g = some true) (hd : Nat.blt d n = true) (he : EX P n σ op ty w v w') (h : S w' ∧ (S w' → GW P R ops S fuel (listed.setIfInBounds i true) k n ((d, v) :: σ) w')) : GW P R ops S (fuel + 1) listed k n σ w :=
  GW.sole i hi hr hg fun a ha => by
    have h1 := he a ha (some d) pos after g
    unfold Oper.wp
    rw [h1]
    exact ⟨h.1, h.2 h.1 _ (ha.put hd v)⟩
theorem GW.eff (i : Nat) {op : Op} {ty : TypeId} {pos : String} {after : Array Edge} {g : Option (Nat × Bool)} (hi : ops[i]? = some ⟨none, op, ty, pos, after, g⟩) (hr : Region.ready .any ops listed = [i])
    (hg : wantS ops σ g = some true) (he : EU P n σ op ty w w') (h : S w' ∧ (S w' → GW P R ops S fuel (listed.setIfInBounds i true) k n σ w')) : GW P R ops S (fuel + 1) listed k n σ w :=
  GW.sole i hi hr hg fun a ha => by
    have h1 := he a ha none pos after g
    unfold Oper.wp
    rw [h1]
    exact ⟨h.1, h.2 h.1 _ ha⟩
theorem GW.storeB (i : Nat) {x y : Operand} {T T' ty : TypeId} {pos : String} {after : Array Edge} {g : Option (Nat × Bool)} {b o bs : Nat} {v z : Value} {l : List Value} (hi : ops[i]? = some ⟨none, .store T x y, ty, pos, after, g⟩) (hr : Region.ready .any ops listed = [i])
    (hg : wantS ops σ g = some true) (ht : TI P T z 1 bs) (hx : ev σ x = some (.pointer (some ⟨b, o, none⟩))) (hy : ev σ y = some v) (h1 : v.oneCell' = true) (hb : Bk w b T' l) (hlt : o < l.length)
    (h : ∀ w', Bk w' b T' (l.set o v) → Mo w w' [b] → S w' ∧ (S w' → GW P R ops S fuel (listed.setIfInBounds i true) k n σ w')) : GW P R ops S (fuel + 1) listed k n σ w :=
  GW.eff i hi hr hg (EU.storeBk ht hx hy h1 hb hlt) (h _ (hb.set o v) (Mo.set w b o v))
theorem GW.storeS (i : Nat) {x y : Operand} {T T' ty : TypeId} {pos : String} {after : Array Edge} {g : Option (Nat × Bool)} {b o s bs : Nat} {z : Value} {l vs : List Value} (hi : ops[i]? = some ⟨none, .store T x y, ty, pos, after, g⟩) (hr : Region.ready .any ops listed = [i])
    (hg : wantS ops σ g = some true) (ht : TI P T z s bs) (hx : ev σ x = some (.pointer (some ⟨b, o, none⟩))) (hy : ev σ y = some (.agg vs.toArray)) (hs : vs.length = s) (h1 : vs.all (·.oneCell') = true) (hb : Bk w b T' l) (hlt : o + vs.length ≤ l.length)
    (h : ∀ w', Bk w' b T' (l.take o ++ vs ++ l.drop (o + vs.length)) → Mo w w' [b] → S w' ∧ (S w' → GW P R ops S fuel (listed.setIfInBounds i true) k n σ w')) : GW P R ops S (fuel + 1) listed k n σ w := by
  obtain ⟨w', he, hb', hg'⟩ := EU.storeA (P := P) (n := n) (ty := ty) ht hx hy hs h1 hb hlt
  exact GW.eff i hi hr hg he (h w' hb' (Mo.grown hg' (fun k e => by simp at e; simp [e])))
/-- number i comes up -/
def GO (P : Program) (R : Act → World → Prop) (ops : Array Oper) (S : World → Prop) (fuel : Nat) (listed : Array Bool) (k : List KI) (n : Nat) (σ : Sig) (w : World) (i : Nat) : Prop :=
  ∀ a, Fr n σ a → wpOp P ops (pst P R k) i (fun a' w' => S w' ∧ wpAnyH P .any ops (pst P R k) S fuel (listed.setIfInBounds i true) a' w') a w
theorem GW.two (i j : Nat) (hr : Region.ready .any ops listed = [i, j]) (h1 : GO P R ops S fuel listed k n σ w i) (h2 : GO P R ops S fuel listed k n σ w j) : GW P R ops S (fuel + 1) listed k n σ w := fun a ha =>
  wpAnyH_all hr (by simp) fun q hq => by
    simp only [List.mem_cons, List.not_mem_nil, or_false] at hq
    rcases hq with rfl | rfl
    · exact h1 a ha
    · exact h2 a ha
theorem wpAnyH_strong {S' : World → Prop} {Q : Exit → Act → World → Prop} (hS : ∀ w, S' w → S w) : ∀ (fuel : Nat) (listed : Array Bool) (a : Act) (w : World), wpAnyH P .any ops Q S' fuel listed a w → wpAnyH P .any ops Q S fuel listed a w
  | 0, _, _, _, h => h
  | fuel + 1, _, _, _, h => ⟨h.1, fun i hi => wpOp_mono (fun a' w' h' => ⟨hS _ h'.1, wpAnyH_strong hS fuel _ a' w' h'.2⟩) (h.2 i hi)⟩
/-- more is asked of the worlds from here on -/
theorem GW.strong (S' : World → Prop) (hS : ∀ w, S' w → S w) (h : GW P R ops S' fuel listed k n σ w) : GW P R ops S fuel listed k n σ w := fun a ha => wpAnyH_strong hS fuel listed a w (h a ha)
theorem GW.as (t : Nat) (v' : Value) {v : Value} (ht : lk σ t = some v) (e : v = v') (h : GW P R ops S fuel listed k n ((t, v') :: σ) w) : GW P R ops S fuel listed k n σ w := fun a ha =>
  OW.as (P := P) (R := R) (ops := #[]) (l := []) (k := [.asr fun a w => wpAnyH P .any ops (pst P R k) S fuel listed a w]) t v' ht e (fun a ha => h a ha) a ha
theorem GO.sole (i : Nat) {o : Oper} (hi : ops[i]? = some o) (hg : wantS ops σ o.guard = some true)
    (h : ∀ a, Fr n σ a → o.wp P a w (fun a' w' => S w' ∧ wpAnyH P .any ops (pst P R k) S fuel (listed.setIfInBounds i true) a' w') (pst P R k)) : GO P R ops S fuel listed k n σ w i := fun a ha => by
  unfold wpOp
  simp only [hi, wantS_spec ha hg, if_true]
  exact .inl (h a ha)
theorem GO.callE (i : Nat) {d : Nat} {op : Op} {ty : TypeId} {pos : String} {after : Array Edge} {g : Option (Nat × Bool)} {f : FuncId} {args : List Value} {Q : Value → World → Prop} (hi : ops[i]? = some ⟨some d, op, ty, pos, after, g⟩)
    (hg : wantS ops σ g = some true) (hd : Nat.blt d n = true) (he : EC P n σ op ty w f args.toArray) (hc : Ret P f args w Q)
    (h : ∀ v w', Q v w' → S w' ∧ (S w' → GW P R ops S fuel (listed.setIfInBounds i true) k n ((d, v) :: σ) w')) : GO P R ops S fuel listed k n σ w i :=
  GO.sole i hi hg fun a ha => by
    have h1 := he a ha (some d) pos after g
    unfold Oper.wp
    rw [h1]
    refine hc.2.mono fun e w'' ⟨v, he, q⟩ => ?_
    subst he
    obtain ⟨h2, h3⟩ := h v w'' q
    exact ⟨h2, h3 h2 _ (ha.put hd v)⟩
theorem GO.call (i : Nat) {d : Nat} {f : FuncId} {xs : List Operand} {ats : Array TypeId} {ty : TypeId} {pos : String} {after : Array Edge} {g : Option (Nat × Bool)} {vs : List Value} {Q : Value → World → Prop}
    (hi : ops[i]? = some ⟨some d, .call { callee := .value (.func f), args := xs.toArray, argTypes := ats }, ty, pos, after, g⟩)
    (hg : wantS ops σ g = some true) (hd : Nat.blt d n = true) (hx : evs σ xs = some vs) (hc : Ret P f vs w Q)
    (h : ∀ v w', Q v w' → S w' ∧ (S w' → GW P R ops S fuel (listed.setIfInBounds i true) k n ((d, v) :: σ) w')) : GO P R ops S fuel listed k n σ w i := by
  obtain ⟨⟨fn, h1, h2⟩, _⟩ := id hc
  exact GO.callE i hi hg hd (EC.go h1 h2 hx) hc h
theorem GO.new (i : Nat) {d : Nat} {op : Op} {ty : TypeId} {pos : String} {after : Array Edge} {g : Option (Nat × Bool)} {v : Value} (hi : ops[i]? = some ⟨some d, op, ty, pos, after, g⟩)
    (hg : wantS ops σ g = some true) (hd : Nat.blt d n = true) (he : EX P n σ op ty w v w') (h : S w' ∧ (S w' → GW P R ops S fuel (listed.setIfInBounds i true) k n ((d, v) :: σ) w')) : GO P R ops S fuel listed k n σ w i :=
  GO.sole i hi hg fun a ha => by
    have h1 := he a ha (some d) pos after g
    unfold Oper.wp
    rw [h1]
    exact ⟨h.1, h.2 h.1 _ (ha.put hd v)⟩
theorem GO.eff (i : Nat) {op : Op} {ty : TypeId} {pos : String} {after : Array Edge} {g : Option (Nat × Bool)} (hi : ops[i]? = some ⟨none, op, ty, pos, after, g⟩)
    (hg : wantS ops σ g = some true) (he : EU P n σ op ty w w') (h : S w' ∧ (S w' → GW P R ops S fuel (listed.setIfInBounds i true) k n σ w')) : GO P R ops S fuel listed k n σ w i :=
  GO.sole i hi hg fun a ha => by
    have h1 := he a ha none pos after g
    unfold Oper.wp
    rw [h1]
    exact ⟨h.1, h.2 h.1 _ ha⟩
theorem GO.storeB (i : Nat) {x y : Operand} {T T' ty : TypeId} {pos : String} {after : Array Edge} {g : Option (Nat × Bool)} {b o bs : Nat} {v z : Value} {l : List Value} (hi : ops[i]? = some ⟨none, .store T x y, ty, pos, after, g⟩)
    (hg : wantS ops σ g = some true) (ht : TI P T z 1 bs) (hx : ev σ x = some (.pointer (some ⟨b, o, none⟩))) (hy : ev σ y = some v) (h1 : v.oneCell' = true) (hb : Bk w b T' l) (hlt : o < l.length)
    (h : ∀ w', Bk w' b T' (l.set o v) → Mo w w' [b] → S w' ∧ (S w' → GW P R ops S fuel (listed.setIfInBounds i true) k n σ w')) : GO P R ops S fuel listed k n σ w i :=
  GO.eff i hi hg (EU.storeBk ht hx hy h1 hb hlt) (h _ (hb.set o v) (Mo.set w b o v))
theorem GO.storeS (i : Nat) {x y : Operand} {T T' ty : TypeId} {pos : String} {after : Array Edge} {g : Option (Nat × Bool)} {b o s bs : Nat} {z : Value} {l vs : List Value} (hi : ops[i]? = some ⟨none, .store T x y, ty, pos, after, g⟩)
    (hg : wantS ops σ g = some true) (ht : TI P T z s bs) (hx : ev σ x = some (.pointer (some ⟨b, o, none⟩))) (hy : ev σ y = some (.agg vs.toArray)) (hs : vs.length = s) (h1 : vs.all (·.oneCell') = true) (hb : Bk w b T' l) (hlt : o + vs.length ≤ l.length)
    (h : ∀ w', Bk w' b T' (l.take o ++ vs ++ l.drop (o + vs.length)) → Mo w w' [b] → S w' ∧ (S w' → GW P R ops S fuel (listed.setIfInBounds i true) k n σ w')) : GO P R ops S fuel listed k n σ w i := by
  obtain ⟨w', he, hb', hg'⟩ := EU.storeA (P := P) (n := n) (ty := ty) ht hx hy hs h1 hb hlt
  exact GO.eff i hi hg he (h w' hb' (Mo.grown hg' (fun k e => by simp at e; simp [e])))
theorem GW.allocB (i : Nat) {d : Nat} {T ty : TypeId} {pos : String} {after : Array Edge} {g : Option (Nat × Bool)} {z : Value} {s bs : Nat} {l : List Value} (hi : ops[i]? = some ⟨some d, .alloc T, ty, pos, after, g⟩) (hr : Region.ready .any ops listed = [i]) (hg : wantS ops σ g = some true) (hd : Nat.blt d n = true) (ht : TI P T z s bs) (hl : z.cells.toList = l)
    (h : ∀ b w', w.heap.size ≤ b → Bk w' b T l → Ext w w' → S w' ∧ (S w' → GW P R ops S fuel (listed.setIfInBounds i true) k n ((d, .pointer (some ⟨b, 0, none⟩)) :: σ) w')) : GW P R ops S (fuel + 1) listed k n σ w :=
  GW.new i hi hr hg hd (EX.alloc ht hl) (h _ _ (Nat.le_refl _) (Bk.new w T l) (Ext.alloc w _))
theorem GW.buildB (i : Nat) (len : Nat) {d : Nat} {T e ty : TypeId} {pos : String} {after : Array Edge} {g : Option (Nat × Bool)} {z : Value} {bs : Nat} {parts : Array (Nat × Operand)} {vs : List Value} (hi : ops[i]? = some ⟨some d, .buildSlice T len parts, ty, pos, after, g⟩) (hr : Region.ready .any ops listed = [i]) (hg : wantS ops σ g = some true) (hd : Nat.blt d n = true) (ht : P.underlying T = some (.slice e)) (hti : TI P e z 1 bs) (hz1 : z.oneCell' = true)
    (hv : evs σ (parts.toList.map (·.2)) = some vs) (hp : parts.toList.map (·.1) = List.range' 0 parts.toList.length) (hl : vs.length = len) (h1 : vs.all (·.oneCell') = true) (hlen : len ≤ 16777216)
    (h : ∀ b w', w.heap.size ≤ b → Bk w' b e vs → Ext w w' → S w' ∧ (S w' → GW P R ops S fuel (listed.setIfInBounds i true) k n ((d, .slice (some ⟨b, 0, none⟩) len len) :: σ) w')) : GW P R ops S (fuel + 1) listed k n σ w :=
  GW.new i hi hr hg hd (EX.buildSlice len ht hti hz1 hv hp hl h1 hlen) (h _ _ (Nat.le_refl _) (Bk.new w e vs) (Ext.alloc w _))
theorem GO.allocB (i : Nat) {d : Nat} {T ty : TypeId} {pos : String} {after : Array Edge} {g : Option (Nat × Bool)} {z : Value} {s bs : Nat} {l : List Value} (hi : ops[i]? = some ⟨some d, .alloc T, ty, pos, after, g⟩) (hg : wantS ops σ g = some true) (hd : Nat.blt d n = true) (ht : TI P T z s bs) (hl : z.cells.toList = l)
    (h : ∀ b w', w.heap.size ≤ b → Bk w' b T l → Ext w w' → S w' ∧ (S w' → GW P R ops S fuel (listed.setIfInBounds i true) k n ((d, .pointer (some ⟨b, 0, none⟩)) :: σ) w')) : GO P R ops S fuel listed k n σ w i :=
  GO.new i hi hg hd (EX.alloc ht hl) (h _ _ (Nat.le_refl _) (Bk.new w T l) (Ext.alloc w _))
theorem GO.buildB (i : Nat) (len : Nat) {d : Nat} {T e ty : TypeId} {pos : String} {after : Array Edge} {g : Option (Nat × Bool)} {z : Value} {bs : Nat} {parts : Array (Nat × Operand)} {vs : List Value} (hi : ops[i]? = some ⟨some d, .buildSlice T len parts, ty, pos, after, g⟩) (hg : wantS ops σ g = some true) (hd : Nat.blt d n = true) (ht : P.underlying T = some (.slice e)) (hti : TI P e z 1 bs) (hz1 : z.oneCell' = true)
    (hv : evs σ (parts.toList.map (·.2)) = some vs) (hp : parts.toList.map (·.1) = List.range' 0 parts.toList.length) (hl : vs.length = len) (h1 : vs.all (·.oneCell') = true) (hlen : len ≤ 16777216)
    (h : ∀ b w', w.heap.size ≤ b → Bk w' b e vs → Ext w w' → S w' ∧ (S w' → GW P R ops S fuel (listed.setIfInBounds i true) k n ((d, .slice (some ⟨b, 0, none⟩) len len) :: σ) w')) : GO P R ops S fuel listed k n σ w i :=
  GO.new i hi hg hd (EX.buildSlice len ht hti hz1 hv hp hl h1 hlen) (h _ _ (Nat.le_refl _) (Bk.new w e vs) (Ext.alloc w _))
theorem GW.done (hr : Region.ready .any ops listed = []) (h : KW P R k n σ w) : GW P R ops S fuel listed k n σ w := fun a ha => wpAnyH_done hr (h a ha) fuel
end
end Go.Proofs.YtieojdkblakchaaDoor
