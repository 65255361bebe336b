/-
  The engine's law for regions that draw their order and hold calls or stores beside reads: what reads alone, in every world that meets S, is taken first. No program is spoken of.
-/
import Derived.Test.YtdjcgffhnakeeaaKq
import Derived.OrdersHeld
namespace Go.Proofs.Ytdjcgffhnakeeaa
open Go.RowKit
set_option linter.unusedSimpArgs false
set_option linter.unusedVariables false
def GW (P : Program) (R : Act → World → Prop) (ops : Array Oper) (S : World → Prop) (fuel : Nat) (listed : Array Bool) (k : List KI) (n : Nat) (σ : Sig) (w : World) : Prop :=
  ∀ a, Fr n σ a → wpAnyH P .any ops (pst P R k) S fuel listed a w
section
variable {P : Program} {R : Act → World → Prop} {ops : Array Oper} {S : World → Prop} {fuel : Nat} {listed : Array Bool} {k : List KI} {n : Nat} {σ : Sig} {w w' : World}
theorem pst_panic {c : List PanicEntry} : ∀ (k : List KI) (a : Act) (w : World), pst P R k (.panic c) a w → False
  | [], _, _, h => h
  | .code _ :: k, a, w, h => pst_panic k a w h
  | .blk _ :: k, a, w, h => pst_panic k a w h
  | .asr _ :: k, a, w, h => pst_panic k a w h
theorem KW.regionG {id N : Nat} {l : List Oper} (S : World → Prop) (hm : P.follows .mixedOrders = true) (hN : l.toArray.size = N) (h : GW P R l.toArray S N (Array.replicate N false) k n σ w.drew) : KW P R (.code (.region id l.toArray true) :: k) n σ w := fun a ha => by
  subst hN
  exact wp_region_held hm (h a ha)
theorem GW.val (i : Nat) {d : Nat} {op : Op} {ty : TypeId} {pos : String} {after : Array Edge} {g : Option (Nat × Bool)} {v : Value} (hi : ops[i]? = some ⟨some d, op, ty, pos, after, g⟩) (hs : Region.noSelect ops = true) (hf : Region.free .any ops listed i = true) (hr : (Region.ready .any ops listed).contains i = true)
    (hg : wantS ops σ g = some true) (hd : Nat.blt d n = true) (hS : S w) (he : ∀ w', S w' → EX P n σ op ty w' v w')
    (h : GW P R ops S fuel (listed.setIfInBounds i true) k n ((d, v) :: σ) w) : GW P R ops S (fuel + 1) listed k n σ w := fun a ha =>
  wpAnyH_take hi hs hf hr (fun c a w q => (pst_panic k _ _ q).elim) (.inl ⟨wantS_spec ha (o := ⟨some d, op, ty, pos, after, g⟩) hg, fun w' hw' => he w' hw' a ha _ _ _ _⟩) hS (h _ (ha.put hd v))
theorem GW.pass (i : Nat) {d : Nat} {op : Op} {ty : TypeId} {pos : String} {after : Array Edge} {g : Option (Nat × Bool)} (hi : ops[i]? = some ⟨some d, op, ty, pos, after, g⟩) (hs : Region.noSelect ops = true) (hf : Region.free .any ops listed i = true) (hr : (Region.ready .any ops listed).contains i = true)
    (hg : wantS ops σ g = some false) (hd : Nat.blt d n = true) (hS : S w)
    (h : GW P R ops S fuel (listed.setIfInBounds i true) k n ((d, undef) :: σ) w) : GW P R ops S (fuel + 1) listed k n σ w := fun a ha =>
  wpAnyH_take hi hs hf hr (fun c a w q => (pst_panic k _ _ q).elim) (.inr ⟨wantS_spec ha (o := ⟨some d, op, ty, pos, after, g⟩) hg, rfl⟩) hS (h _ (ha.put hd undef))
/-- the one operation that may come up -/
theorem GW.sole (i : Nat) {o : Oper} (hi : ops[i]? = some o) (hr : Region.ready .any ops listed = [i]) (hg : wantS ops σ o.guard = some true)
    (h : ∀ a, Fr n σ a → o.wp P a w (fun a' w' => S w' ∧ wpAnyH P .any ops (pst P R k) S fuel (listed.setIfInBounds i true) a' w') (pst P R k)) : GW P R ops S (fuel + 1) listed k n σ w := fun a ha =>
  wpAnyH_all hr (by simp) fun j hj => by
    simp only [List.mem_singleton] at hj
    subst hj
    unfold wpOp
    simp only [hi, wantS_spec ha hg, if_true]
    exact .inl (h a ha)
theorem GW.callE (i : Nat) {d : Nat} {op : Op} {ty : TypeId} {pos : String} {after : Array Edge} {g : Option (Nat × Bool)} {f : FuncId} {args : List Value} {Q : Value → World → Prop} (hi : ops[i]? = some ⟨some d, op, ty, pos, after, g⟩) (hr : Region.ready .any ops listed = [i])
    (hg : wantS ops σ g = some true) (hd : Nat.blt d n = true) (he : EC P n σ op ty w f args.toArray) (hc : Ret P f args w Q)
    (h : ∀ v w', Q v w' → S w' ∧ (S w' → GW P R ops S fuel (listed.setIfInBounds i true) k n ((d, v) :: σ) w')) : GW P R ops S (fuel + 1) listed k n σ w :=
  GW.sole i hi hr hg fun a ha => by
    have h1 := he a ha (some d) pos after g
    unfold Oper.wp
    rw [h1]
    refine hc.2.mono fun e w'' ⟨v, he, q⟩ => ?_
    subst he
    obtain ⟨h2, h3⟩ := h v w'' q
    exact ⟨h2, h3 h2 _ (ha.put hd v)⟩
theorem GW.call (i : Nat) {d : Nat} {f : FuncId} {xs : List Operand} {ats : Array TypeId} {ty : TypeId} {pos : String} {after : Array Edge} {g : Option (Nat × Bool)} {vs : List Value} {Q : Value → World → Prop}
    (hi : ops[i]? = some ⟨some d, .call { callee := .value (.func f), args := xs.toArray, argTypes := ats }, ty, pos, after, g⟩) (hr : Region.ready .any ops listed = [i])
    (hg : wantS ops σ g = some true) (hd : Nat.blt d n = true) (hx : evs σ xs = some vs) (hc : Ret P f vs w Q)
    (h : ∀ v w', Q v w' → S w' ∧ (S w' → GW P R ops S fuel (listed.setIfInBounds i true) k n ((d, v) :: σ) w')) : GW P R ops S (fuel + 1) listed k n σ w := by
  obtain ⟨⟨fn, h1, h2⟩, _⟩ := id hc
  exact GW.callE i hi hr hg hd (EC.go h1 h2 hx) hc h
theorem GW.new (i : Nat) {d : Nat} {op : Op} {ty : TypeId} {pos : String} {after : Array Edge} {g : Option (Nat × Bool)} {v : Value} (hi : ops[i]? = some ⟨some d, op, ty, pos, after, g⟩) (hr : Region.ready .any ops listed = [i])
    (hg : wantS ops σ g = some true) (hd : Nat.blt d n = true) (he : EX P n σ op ty w v w') (h : S w' ∧ (S w' → GW P R ops S fuel (listed.setIfInBounds i true) k n ((d, v) :: σ) w')) : GW P R ops S (fuel + 1) listed k n σ w :=
  GW.sole i hi hr hg fun a ha => by
    have h1 := he a ha (some d) pos after g
    unfold Oper.wp
    rw [h1]
    exact ⟨h.1, h.2 h.1 _ (ha.put hd v)⟩
theorem GW.eff (i : Nat) {op : Op} {ty : TypeId} {pos : String} {after : Array Edge} {g : Option (Nat × Bool)} (hi : ops[i]? = some ⟨none, op, ty, pos, after, g⟩) (hr : Region.ready .any ops listed = [i])
    (hg : wantS ops σ g = some true) (he : EU P n σ op ty w w') (h : S w' ∧ (S w' → GW P R ops S fuel (listed.setIfInBounds i true) k n σ w')) : GW P R ops S (fuel + 1) listed k n σ w :=
  GW.sole i hi hr hg fun a ha => by
    have h1 := he a ha none pos after g
    unfold Oper.wp
    rw [h1]
    exact ⟨h.1, h.2 h.1 _ ha⟩
theorem GW.storeB (i : Nat) {x y : Operand} {T T' ty : TypeId} {pos : String} {after : Array Edge} {g : Option (Nat × Bool)} {b o bs : Nat} {v z : Value} {l : List Value} (hi : ops[i]? = some ⟨none, .store T x y, ty, pos, after, g⟩) (hr : Region.ready .any ops listed = [i])
    (hg : wantS ops σ g = some true) (ht : TI P T z 1 bs) (hx : ev σ x = some (.pointer (some ⟨b, o, none⟩))) (hy : ev σ y = some v) (h1 : v.oneCell' = true) (hb : Bk w b T' l) (hlt : o < l.length)
    (h : ∀ w', Bk w' b T' (l.set o v) → Mo w w' [b] → S w' ∧ (S w' → GW P R ops S fuel (listed.setIfInBounds i true) k n σ w')) : GW P R ops S (fuel + 1) listed k n σ w :=
  GW.eff i hi hr hg (EU.storeBk ht hx hy h1 hb hlt) (h _ (hb.set o v) (Mo.set w b o v))
theorem GW.storeS (i : Nat) {x y : Operand} {T T' ty : TypeId} {pos : String} {after : Array Edge} {g : Option (Nat × Bool)} {b o s bs : Nat} {z : Value} {l vs : List Value} (hi : ops[i]? = some ⟨none, .store T x y, ty, pos, after, g⟩) (hr : Region.ready .any ops listed = [i])
    (hg : wantS ops σ g = some true) (ht : TI P T z s bs) (hx : ev σ x = some (.pointer (some ⟨b, o, none⟩))) (hy : ev σ y = some (.agg vs.toArray)) (hs : vs.length = s) (h1 : vs.all (·.oneCell') = true) (hb : Bk w b T' l) (hlt : o + vs.length ≤ l.length)
    (h : ∀ w', Bk w' b T' (l.take o ++ vs ++ l.drop (o + vs.length)) → Mo w w' [b] → S w' ∧ (S w' → GW P R ops S fuel (listed.setIfInBounds i true) k n σ w')) : GW P R ops S (fuel + 1) listed k n σ w := by
  obtain ⟨w', he, hb', hg'⟩ := EU.storeA (P := P) (n := n) (ty := ty) ht hx hy hs h1 hb hlt
  exact GW.eff i hi hr hg he (h w' hb' (Mo.grown hg' (fun k e => by simp at e; simp [e])))
theorem GW.done (hr : Region.ready .any ops listed = []) (h : KW P R k n σ w) : GW P R ops S fuel listed k n σ w := fun a ha => wpAnyH_done hr (h a ha) fuel
end
end Go.Proofs.Ytdjcgffhnakeeaa
