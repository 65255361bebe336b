/-
  What the statements rest on, part 4 of 5: many small texts, one behind the other.
-/
import Derived.Test.YthgfdpcpbghkpaaGreatDoorMrgC
import Derived.Maps.RangeRun
import Derived.Carry
import Derived.MapKept
import Derived.ChangeMaps4
import Derived.Shelf.SlSortCmp.NoneTotal
import Derived.Test.YthgfdpcpbghkpaaGreatDoorProg
import Derived.Shelf.SlGeneric
import Derived.Ground.SlsfProg
import Derived.Lib.Builder
import Derived.Lib.UnsafeStr
import Derived.Laws.Externs
set_option linter.unusedSimpArgs false
set_option linter.unusedVariables false
set_option linter.unnecessarySimpa false
namespace Go.Proofs.YthgfdpcpbghkpaaGreatDoor
open Go.RowKit
section
variable {P : Program} {R : Act → World → Prop} {ops : Array Oper} {rest : List Oper} {k : List KI} {n : Nat} {σ : Sig} {w : World} {x y : Operand} {t e ty ty1 : TypeId} {pos pos1 : String} {after after1 : Array Edge} {gd gd1 : Option (Nat × Bool)} {d d1 : Nat} {s bs B : Nat}
theorem EX.remZ {k : IntKind} {a b : Int} {t' : TypeId} (hx : ev σ x = some (.int k a)) (hy : ev σ y = some (.int k b)) (h : b ≠ 0) : EX P n σ (.binOp .rem t x y t') ty w (.int k (a.tmod b)) w :=
  EX.binI hx hy (by
    unfold binOp
    simp only [ne_eq, not_true_eq_false, if_false, Op.intDiv, if_neg h]
    rfl)
theorem Mo.append {w w1 w' : World} {row : Option Nat} (hx : Ext w w1) (h : w1.grownBy w' row) : Mo w w' row.toList :=
  (Mo.of_ext hx _).trans (Mo.grown h fun k e => by rw [e]; simp)
theorem Tm.fresh {w w1 w2 : World} {B : Nat} {p : TypeId → Bool} {S : List Nat} (h : Tm w w1 B p) (hm : Mo w1 w2 S) (hS : ∀ k ∈ S, w.heap.size ≤ k) : Tm w w2 B p := by
  obtain ⟨S0, h0, hp⟩ := h
  refine ⟨S0, Mo.fresh (S := S0 ++ S) ((h0.mono (by simp; exact fun k hk => .inl hk)).trans (hm.mono (by simp; exact fun k hk => .inr hk))) ?_, hp⟩
  intro k hk hlt
  rcases List.mem_append.1 hk with q | q
  · exact q
  · have := hS k q
    omega
theorem OW.pushB (B : Nat) {z : Value} (hg1 : wantS ops σ gd1 = some true) (hd1 : Nat.blt d1 n = true) (hg : ∀ u, wantS ops ((d1, u) :: σ) gd = some true) (hd : Nat.blt d n = true) (ht : P.underlying t = some (.slice e)) (hi : TI P e z 1 bs) (hz1 : z.oneCell' = true)
    {v u : Value} {l : Nat} {xs : List Value} (hy : ev σ y = some u) (hx : ∀ q, ev ((d1, q) :: σ) x = some v) (hu : u.oneCell' = true) (hB : B ≤ w.heap.size) (hown : Own w B e 1 v l xs)
    (h63 : l + 1 ≤ maxLen) (hbytes : (l + 1) * bs ≤ 140737488355328)
    (h : ∀ q v' w', Own w' B e 1 v' (l + 1) (xs ++ [u]) → Mo w w' v.ownBlock.toList → (v'.ownBlock = v.ownBlock ∨ ∃ g, v'.ownBlock = some g ∧ w.heap.size ≤ g) → OW P R ops rest k n ((d, v') :: (d1, q) :: σ) w') :
    OW P R ops (⟨some d1, .buildSlice t 1 #[(0, y)], ty1, pos1, after1, gd1⟩ :: ⟨some d, .call { callee := .builtin .append, args := #[x, .tmp d1], argTypes := #[t, t] }, ty, pos, after, gd⟩ :: rest) k n σ w := by
  refine OW.val hg1 hd1 (EX.buildSlice (vs := [u]) 1 ht hi hz1 (by simp [evs, hy]) rfl rfl (by simp [hu]) (by decide)) ?_
  have hx1 : Ext w (w.alloc (.cells [u].toArray e)) := Ext.alloc w _
  have hb := Bk.new w e [u]
  refine OW.append B (hg _) hd ht hi (by rw [oneCell_cells hz1]; rfl) (by decide) (hx _) (lk_cons_same _ _ _) (hown.alloc _) (Src.of_sl ht (Sl.of_bk hb hb.lt) rfl (by simpa using hu) (by decide)) h63 hbytes (Nat.le_trans hB hx1.size) ?_
  intro v' w' h1 h2 h3
  exact h _ v' w' h1 (Mo.append hx1 h2) (h3.imp id fun e => ⟨_, e, hx1.size⟩)
end
section
variable {P : Program} {R : Act → World → Prop} {ops : Array Oper} {S : World → Prop} {fuel : Nat} {listed : Array Bool} {k : List KI} {n : Nat} {σ : Sig} {w : World} {x y : Operand} {t t' e ty : TypeId} {pos : String} {after : Array Edge} {gd : Option (Nat × Bool)} {d : Nat}
theorem GW.append (i B : Nat) {z : Value} {s bs : Nat} (hi' : ops[i]? = some ⟨some d, .call { callee := .builtin .append, args := #[x, y], argTypes := #[t, t'] }, ty, pos, after, gd⟩) (hr : Region.ready .any ops listed = [i])
    (hg : wantS ops σ gd = some true) (hd : Nat.blt d n = true) (ht : P.underlying t = some (.slice e)) (hi : TI P e z s bs) (hzs : z.cells.size = s) (hs0 : 0 < s)
    {v xv : Value} {m l : Nat} {xs news : List Value} (hx : ev σ x = some v) (hy : ev σ y = some xv) (hown : Own w B e s v l xs) (hsrc : Src P s t' xv m news w)
    (h63 : l + m ≤ maxLen) (hbytes : (l + m) * bs ≤ 140737488355328) (hB : B ≤ w.heap.size)
    (h : ∀ v' w', Own w' B e s v' (l + m) (xs ++ news) → w.grownBy w' v.ownBlock → (v'.ownBlock = v.ownBlock ∨ v'.ownBlock = some w.heap.size) → S w' ∧ (S w' → GW P R ops S fuel (listed.setIfInBounds i true) k n ((d, v') :: σ) w')) : GW P R ops S (fuel + 1) listed k n σ w := by
  obtain ⟨v', w', hrun, h2, h3, h4⟩ := run_append (P := P) B t t' ty e ht hi hzs hs0 hown hsrc h63 hbytes hB
  refine GW.new i hi' hr hg hd (v := v') (w' := w') ?_ (h v' w' h2 h3 h4)
  intro A ha dst pos after g
  simp only [execOp, resolve, invoke, builtin, Sem.run_bind, Sem.run_pure, Result.andThen_ok, List.map_toArray, List.map_cons, List.map_nil, ha.ev hx, ha.ev hy, hrun]
end
end Go.Proofs.YthgfdpcpbghkpaaGreatDoor
namespace Go.Proofs.YthgfdpcpbghkpaaGreatDoor
open Go.RowKit Go.MapKept
open Go.ChangeMaps (setBlock)
abbrev Ents := List (List UInt8 × Value)
structure Mp (w : World) (b : Nat) (es : Array MapEntry) (c : Nat) (l : Ents) : Prop where
  blk : w.heap[b]? = some (.map es c)
  st : Stamped es c
  kv : es.toList.map (fun e => (e.key, e.val)) = l.map (fun p => (str p.1, p.2))
def putA {α : Type} (l : List (List UInt8 × α)) (s : List UInt8) (v : α) : List (List UInt8 × α) := if s ∈ l.map (·.1) then l.map (fun p => if p.1 = s then (s, v) else p) else l ++ [(s, v)]
theorem str_inj {a b : List UInt8} (h : str a = str b) : a = b := by
  injection h with h
  injection h with h
  injection h
section
variable {w w' : World} {b c : Nat} {es : Array MapEntry} {l : Ents}
theorem Mp.lt (h : Mp w b es c l) : b < w.heap.size := by
  rcases Nat.lt_or_ge b w.heap.size with h' | h'
  · exact h'
  · have := h.blk
    simp [Array.getElem?_eq_none h'] at this
theorem Mp.of_block (h : Mp w b es c l) (hb : w'.heap[b]? = w.heap[b]?) : Mp w' b es c l := ⟨hb.trans h.blk, h.st, h.kv⟩
theorem Mp.ext (h : Mp w b es c l) (hx : Ext w w') : Mp w' b es c l := h.of_block (hx.block b h.lt)
theorem Mp.mo {S : List Nat} (h : Mp w b es c l) (hm : Mo w w' S) (hb : b ∉ S) : Mp w' b es c l := h.of_block (hm.block b h.lt hb)
theorem Mp.len (h : Mp w b es c l) : es.toList.length = l.length := by
  have := congrArg List.length h.kv
  simpa using this
theorem Mp.at {j : Nat} {e : MapEntry} (h : Mp w b es c l) (he : es.toList[j]? = some e) : ∃ p, l[j]? = some p ∧ e.key = str p.1 ∧ e.val = p.2 := by
  have h1 := congrArg (fun z => z[j]?) h.kv
  simp only [List.getElem?_map, he, Option.map_some] at h1
  obtain ⟨p, h2, h3⟩ := Option.map_eq_some_iff.1 h1.symm
  injection h3 with h4 h5
  exact ⟨p, h2, h4.symm, h5.symm⟩
theorem Mp.mem {e : MapEntry} (h : Mp w b es c l) (he : e ∈ es.toList) : ∃ p ∈ l, e.key = str p.1 ∧ e.val = p.2 := by
  obtain ⟨j, hj⟩ := List.mem_iff_getElem?.1 he
  obtain ⟨p, h1, h2⟩ := h.at hj
  exact ⟨p, List.mem_of_getElem? h1, h2⟩
theorem Mp.keys (h : Mp w b es c l) : (l.map (·.1)).Nodup := by
  have h1 : (es.toList.map (·.key)) = l.map (fun p => str p.1) := by
    have := congrArg (List.map Prod.fst) h.kv
    simpa [List.map_map, Function.comp_def] using this
  have h2 := h.st.2.2
  rw [h1] at h2
  have h3 : l.map (fun p => str p.1) = (l.map (·.1)).map str := by rw [List.map_map]; rfl
  rw [h3] at h2
  exact List.Pairwise.of_map str (fun a b hab e => hab (congrArg str e)) h2
theorem mo_setBlock (w : World) (b : Nat) (o : Obj) : Mo w (setBlock w b o) [b] := ⟨rfl, rfl, rfl, by simp [setBlock], fun k _ hk => by simp at hk; simp [setBlock, Array.getElem?_setIfInBounds_ne (Ne.symm hk)]⟩
theorem setBlock_at {o : Obj} (h : b < w.heap.size) : (setBlock w b o).heap[b]? = some o := by simp [setBlock, h]
theorem putA_at : ∀ {l : Ents} {j : Nat} {p : List UInt8 × Value} (v : Value), (l.map (·.1)).Nodup → l[j]? = some p → putA l p.1 v = l.set j (p.1, v)
  | l, j, p, v, hn, hj => by
    have hm : p.1 ∈ l.map (·.1) := List.mem_map.2 ⟨p, List.mem_of_getElem? hj, rfl⟩
    unfold putA
    rw [if_pos hm]
    apply List.ext_getElem?
    intro k
    rw [List.getElem?_map, List.getElem?_set]
    by_cases e : j = k
    · subst e
      have hl : j < l.length := (List.getElem?_eq_some_iff.1 hj).1
      rw [hj, if_pos rfl]
      simp [hl]
    · rw [if_neg e]
      cases hk : l[k]? with
      | none => rfl
      | some q =>
        have : q.1 ≠ p.1 := fun z => by
          have h1 : (l.map (·.1))[k]? = some p.1 := by rw [List.getElem?_map, hk, ← z]; rfl
          have h2 : (l.map (·.1))[j]? = some p.1 := by rw [List.getElem?_map, hj]; rfl
          obtain ⟨i1, g1⟩ := List.getElem?_eq_some_iff.1 h1
          obtain ⟨i2, g2⟩ := List.getElem?_eq_some_iff.1 h2
          exact e ((List.getElem_inj hn).1 (g2.trans g1.symm))
        simp [this]
theorem mem_entries {l : Ents} {s : List UInt8} {es : Array MapEntry} (hkv : es.toList.map (fun e => (e.key, e.val)) = l.map (fun p => (str p.1, p.2))) (h : ∀ x ∈ es.toList, x.key ≠ str s) : s ∉ l.map (·.1) := fun hm => by
  obtain ⟨p, hp, rfl⟩ := List.mem_map.1 hm
  have : (str p.1, p.2) ∈ es.toList.map (fun e => (e.key, e.val)) := by rw [hkv]; exact List.mem_map.2 ⟨p, hp, rfl⟩
  obtain ⟨x, hx, e⟩ := List.mem_map.1 this
  injection e with e1 e2
  exact h x hx e1
theorem Mp.isKey (h : Mp w b es c l) : ∀ x ∈ es.toList, IsKey .string x.key := fun x hx => by
  obtain ⟨p, _, e, _⟩ := h.mem hx
  rw [e]
  trivial
variable {P : Program} {t k e : TypeId}
theorem run_put (ht : P.underlying t = some (.map k e)) (hk : P.underlying k = some .string) (h : Mp w b es c l) (s : List UInt8) (v : Value) :
    ∃ es' c', (Instr.mapUpdate t (.map (some b)) (str s) v).run P w = .ok () (setBlock w b (.map es' c')) ∧ Mp (setBlock w b (.map es' c')) b es' c' (putA l s v) := by
  have hkey : IsKey .string (str s) := trivial
  rcases findNow_spec hkey es.toList 0 h.isKey with ⟨h1, h2⟩ | ⟨j, e0, h1, h2, h3⟩
  · refine ⟨es.push ⟨str s, v, c⟩, c + 1, ?_, ⟨setBlock_at h.lt, stamped_push h.st h2, ?_⟩⟩
    · simp [Instr.mapUpdate, run_underlying ht, MapKept.run_getObj_map h.blk, run_checkKey hk hkey, run_findKey hk h1, MapKept.run_setObj_map _ h.blk, Result.andThen, setBlock]
    · unfold putA
      rw [if_neg (mem_entries h.kv h2), Array.toList_push, List.map_append, List.map_append, h.kv]
      rfl
  · have hj : es[j]? = some e0 := by simpa using h2
    obtain ⟨p, hp, hpk, hpv⟩ := h.at h2
    have es1 : str s = str p.1 := h3.symm.trans hpk
    obtain rfl := str_inj es1
    have hkeyf : ∀ e', es[j]? = some e' → ({ e' with key := str p.1, val := v } : MapEntry).key = e'.key := fun e' he' => by rw [hj] at he'; cases he'; exact h3.symm
    refine ⟨es.modify j (fun e' => { e' with key := str p.1, val := v }), c, ?_, ⟨setBlock_at h.lt, stamped_modify h.st _ _ (fun _ _ => rfl) (fun e' _ he' => hkeyf e' he'), ?_⟩⟩
    · simp [Instr.mapUpdate, run_underlying ht, MapKept.run_getObj_map h.blk, run_checkKey hk hkey, run_findKey hk h1, hj, h3, run_keyThatStays hkey, MapKept.run_setObj_map _ h.blk, Result.andThen, setBlock]
    · rw [putA_at v h.keys hp, Array.toList_modify, List.map_set, ← h.kv]
      apply List.ext_getElem?
      intro i
      rw [List.getElem?_set, List.getElem?_map, List.getElem?_modify, List.getElem?_map, List.length_map]
      by_cases q : j = i
      · subst q
        have hl : j < es.toList.length := (List.getElem?_eq_some_iff.1 h2).1
        rw [if_pos rfl, h2, if_pos (by simpa using hl)]
        simp
      · rw [if_neg q]
        simp [q]
end
def It (w : World) (r b since : Nat) (seen : Array Nat) (c : Nat) : Prop := w.heap[r]? = some (.mapIter (some b) since seen c)
section
variable {P : Program} {R : Act → World → Prop} {ops : Array Oper} {rest : List Oper} {k : List KI} {n : Nat} {σ : Sig} {w : World} {x y z : Operand} {t e kt ty : TypeId} {pos : String} {after : Array Edge} {gd : Option (Nat × Bool)} {d : Nat}
theorem EU.put {b c : Nat} {es es' : Array MapEntry} {c' : Nat} {v : Value} {s : List UInt8} (hx : ev σ x = some (.map (some b))) (hy : ev σ y = some (str s)) (hz : ev σ z = some v)
    (h : (Instr.mapUpdate t (.map (some b)) (str s) v).run P w = .ok () (setBlock w b (.map es' c'))) : EU P n σ (.mapUpdate t x y z) ty w (setBlock w b (.map es' c')) := by
  intro a ha dst pos after g
  simp only [execOp, ha.ev hx, ha.ev hy, ha.ev hz, h, Sem.run_bind, Result.andThen_ok, Sem.run_pure]
theorem OW.put {b c : Nat} {es : Array MapEntry} {l : Ents} {v : Value} {s : List UInt8} (hg : wantS ops σ gd = some true) (ht : P.underlying t = some (.map kt e)) (hk : P.underlying kt = some .string) (hx : ev σ x = some (.map (some b))) (hy : ev σ y = some (str s)) (hz : ev σ z = some v) (hm : Mp w b es c l)
    (h : ∀ es' c' w', Mp w' b es' c' (putA l s v) → Mo w w' [b] → OW P R ops rest k n σ w') :
    OW P R ops (⟨none, .mapUpdate t x y z, ty, pos, after, gd⟩ :: rest) k n σ w := by
  obtain ⟨es', c', h1, h2⟩ := run_put ht hk hm s v
  exact OW.eff hg (EU.put (c := c) (es := es) hx hy hz h1) (h es' c' _ h2 (mo_setBlock w b _))
theorem OW.range {b c : Nat} {es : Array MapEntry} {l : Ents} (hg : wantS ops σ gd = some true) (hd : Nat.blt d n = true) (ht : P.underlying t = some (.map kt e)) (hx : ev σ x = some (.map (some b))) (hm : Mp w b es c l)
    (h : ∀ r w', w.heap.size ≤ r → It w' r b c #[] c → Ext w w' → OW P R ops rest k n ((d, .pointer (some ⟨r, 0, none⟩)) :: σ) w') :
    OW P R ops (⟨some d, .range t x, ty, pos, after, gd⟩ :: rest) k n σ w := by
  refine OW.val hg hd (v := .pointer (some ⟨w.heap.size, 0, none⟩)) (w' := w.alloc (.mapIter (some b) c #[] c)) ?_ (h _ _ (Nat.le_refl _) (heap_alloc_new w _) (Ext.alloc w _))
  intro a ha dst pos after g
  simp [execOp, Instr.range, ha.ev hx, run_underlying ht, MapKept.run_getObj_map hm.blk, run_newObj_alloc, Sem.run_bind, Result.andThen_ok, Sem.run_pure]
theorem OW.next {r b c : Nat} {es : Array MapEntry} {l : Ents} {seen : Array Nat} (hg : wantS ops σ gd = some true) (hd : Nat.blt d n = true) (hx : ev σ x = some (.pointer (some ⟨r, 0, none⟩))) (hm : Mp w b es c l) (hi : It w r b c seen c)
    (h0 : (∀ e ∈ es.toList, e.born ∈ seen) → OW P R ops rest k n ((d, .tuple #[.bool false]) :: σ) w)
    (h1 : ∀ (e : MapEntry) w', e ∈ es.toList → e.born ∉ seen → It w' r b c (seen.push e.born) c → Mo w w' [r] → OW P R ops rest k n ((d, .tuple #[.bool true, e.key, e.val]) :: σ) w') :
    OW P R ops (⟨some d, .next x false, ty, pos, after, gd⟩ :: rest) k n σ w := by
  have hr : r < w.heap.size := by
    rcases Nat.lt_or_ge r w.heap.size with h' | h'
    · exact h'
    · unfold It at hi; simp [Array.getElem?_eq_none h'] at hi
  rcases run_next_at (P := P) w ty r b c c seen es c hi hm.blk hm.st.1 (Nat.le_refl _) with ⟨h2, h3⟩ | ⟨e, he, w1, hw, h3⟩
  · refine OW.val hg hd (v := .tuple #[.bool false]) (w' := w) ?_ (h0 ?_)
    · intro a ha dst pos after g
      simp only [execOp, ha.ev hx, h3, Sem.run_bind, Result.andThen_ok, Sem.run_pure]
    · intro e he
      unfold leftOf at h2
      have h4 := Array.eq_empty_of_size_eq_zero h2
      rw [Array.filter_eq_empty_iff] at h4
      have := h4 e (by simpa using he)
      simpa using this
  · have he2 : e ∈ es.toList ∧ e.born ∉ seen := by
      unfold leftOf at he
      simp at he
      exact ⟨by simpa using he.1, he.2⟩
    have hmo : Mo w (setBlock w1 r (.mapIter (some b) c (seen.push e.born) c)) [r] := by
      refine Mo.trans ?_ (mo_setBlock w1 r _)
      rcases hw with rfl | rfl
      · exact Mo.refl _ _
      · exact Mo.of_ext (Ext.drew w) _
    have hr1 : r < w1.heap.size := by rcases hw with rfl | rfl <;> exact hr
    refine OW.val hg hd (v := .tuple #[.bool true, e.key, e.val]) ?_ (h1 e _ he2.1 he2.2 (setBlock_at hr1) hmo)
    intro a ha dst pos after g
    simp only [execOp, ha.ev hx, h3, Sem.run_bind, Result.andThen_ok, Sem.run_pure]
end
end Go.Proofs.YthgfdpcpbghkpaaGreatDoor
namespace Go.Proofs.YthgfdpcpbghkpaaGreatDoor
open Go.RowKit Go.Shelf
def Gr (w w' : World) : Prop := Ext w w' ∧ w.drawn ≤ w'.drawn
theorem Gr.refl (w : World) : Gr w w := ⟨Ext.refl w, Nat.le_refl _⟩
theorem Gr.trans {a b c : World} (h : Gr a b) (k : Gr b c) : Gr a c := ⟨h.1.trans k.1, Nat.le_trans h.2 k.2⟩
theorem Gr.drewN (w : World) (m : Nat) : Gr w (w.drewN m) := ⟨Ext.drewN w m, by show w.drawn ≤ w.drawn + m; omega⟩
theorem Gr.alloc (w : World) (o : Obj) : Gr w (w.alloc o) := ⟨Ext.alloc w o, Nat.le_refl _⟩
theorem Gr.grow {w w' : World} (h : Gr w w') : ∃ q os, w' = Go.Sort.grow (w.drewN q) os := by
  obtain ⟨⟨h1, h2, h3, h4, h5⟩, h6⟩ := h
  obtain ⟨heap, tape, drawn, os, out⟩ := w
  obtain ⟨heap', tape', drawn', os', out'⟩ := w'
  simp only at h1 h2 h3 h4 h5 h6
  subst h1 h2 h3
  refine ⟨drawn' - drawn, heap'.extract heap.size heap'.size, ?_⟩
  have e : heap ++ heap'.extract heap.size heap'.size = heap' := by
    apply Array.ext_getElem?
    intro i
    by_cases hi : i < heap.size
    · rw [Array.getElem?_append_left hi, h5 i hi]
    · rw [Array.getElem?_append_right (by omega), Array.getElem?_extract]
      by_cases hj : i < heap'.size
      · rw [if_pos (by omega)]
        congr 1
        omega
      · rw [if_neg (by omega), Array.getElem?_eq_none (by omega)]
  unfold Go.Sort.grow World.drewN
  simp only [e]
  congr 1
  omega
theorem flat_len {α : Type} {cells : α → List Value} {k : Nat} (hk : ∀ x, (cells x).length = k) : ∀ l : List α, (l.flatMap cells).length = l.length * k
  | [] => by simp
  | x :: l => by
    have ih := flat_len hk l
    rw [List.flatMap_cons, List.length_append, hk, ih, List.length_cons, Nat.succ_mul]
    omega
section
variable {α : Type} [Inhabited α] {cells : α → List Value} {k : Nat}
theorem flatK_list (hk : ∀ x, (cells x).length = k) (hk0 : 0 < k) (l : List α) : (Go.Sort.flatK cells k l.toArray).toList = l.flatMap cells := by
  have hfl := flat_len hk l
  apply List.ext_getElem?
  intro t
  by_cases ht : t < l.length * k
  · have h1 : t / k < l.length := by rw [Nat.div_lt_iff_lt_mul hk0]; exact ht
    have h2 : t % k < k := Nat.mod_lt _ hk0
    have h3 : t / k * k + t % k = t := by rw [Nat.mul_comm]; exact Nat.div_add_mod t k
    have h4 := flat_get hk l (t / k) (t % k) h1 _ (List.getElem?_eq_getElem (by rw [hk]; exact h2))
    rw [h3] at h4
    have hs : t < (Go.Sort.flatK cells k l.toArray).size := by rw [Go.Sort.size_flatK]; simpa using ht
    have h5 := Go.Sort.get_flatK cells k l.toArray t (by simpa using ht)
    rw [getElem!_pos _ t hs] at h5
    have h6 : l.toArray[t / k]! = l[t / k] := by
      rw [getElem!_pos _ _ (by simpa using h1)]
      simp
    rw [h4, Array.getElem?_toList, Array.getElem?_eq_getElem hs, h5, h6]
    congr 1
    rw [getElem!_pos _ _ (by rw [hk]; exact h2)]
  · have e1 : (Go.Sort.flatK cells k l.toArray).toList.length = l.length * k := by rw [Array.length_toList, Go.Sort.size_flatK]; simp
    rw [List.getElem?_eq_none (by omega), List.getElem?_eq_none (by omega)]
theorem putCells_list (F : Array Value) (xs rest : List Value) (h : xs.length = F.size) : Go.Sort.putCells id 0 F (xs ++ rest).toArray = (F.toList ++ rest).toArray := by
  apply Array.ext_getElem?
  intro i
  simp only [Go.Sort.putCells, Array.getElem?_mapIdx]
  by_cases hi : i < F.size
  · simp only [List.getElem?_toArray]
    rw [List.getElem?_append_left (by omega), List.getElem?_append_left (by simpa using hi), List.getElem?_eq_getElem (by omega)]
    simp only [Option.map_some, Nat.zero_le, Nat.zero_add, true_and, Nat.sub_zero, id]
    rw [if_pos hi, getElem!_pos F i hi]
    simp [hi]
  · simp only [List.getElem?_toArray]
    rw [List.getElem?_append_right (by omega), List.getElem?_append_right (by simpa using hi), h, Array.length_toList]
    cases rest[i - F.size]? with
    | none => rfl
    | some u =>
      simp only [Option.map_some, Nat.zero_le, Nat.zero_add, true_and]
      rw [if_neg hi]
theorem sortWorld_mo (w : World) (g n : Nat) (d : Array α) (os : Array Obj) : Mo w (sortWorldK cells k w g 0 n d os) [g] := by
  refine ⟨rfl, rfl, rfl, ?_, fun j hj hne => ?_⟩
  · simp [sortWorldK, Go.Sort.grow, Go.Sort.putRowK, Go.Sort.putRow, Go.Sort.mapBlock, Go.Sort.ahead]
  · simp only [List.mem_singleton] at hne
    simp only [sortWorldK, Go.Sort.grow, Go.Sort.putRowK, Go.Sort.putRow, Go.Sort.mapBlock, Go.Sort.ahead]
    rw [Array.getElem?_append_left (by simpa using hj), Array.getElem?_modify, if_neg (Ne.symm hne)]
theorem sortWorld_bk {w : World} {g n : Nat} {T : TypeId} {l : List α} {d : Array α} {os : Array Obj} {rest : List Value} (hk : ∀ x, (cells x).length = k) (hk0 : 0 < k) (hb : Bk w g T (l.flatMap cells ++ rest)) (hd : d.size = l.length) :
    Bk (sortWorldK cells k w g 0 n d os) g T (d.toList.flatMap cells ++ rest) := by
  have hlt := hb.lt
  obtain ⟨fr, h1, h2⟩ := hb
  have hF : (Go.Sort.flatK cells k d).toList = d.toList.flatMap cells := by
    have := flatK_list hk hk0 d.toList
    simpa using this
  refine ⟨fr, ?_, ?_⟩
  · simp only [sortWorldK, Go.Sort.grow, Go.Sort.putRowK, Go.Sort.putRow, Go.Sort.mapBlock, Go.Sort.ahead]
    rw [Array.getElem?_append_left (by simpa using hlt), Array.getElem?_modify, if_pos rfl, h1]
    simp only [Option.map_some, Go.Sort.onCells]
    rw [putCells_list _ _ _ (by rw [flat_len hk, Go.Sort.size_flatK, hd]), hF]
  · have e1 := flat_len hk l
    have e2 := flat_len hk d.toList
    rw [List.length_append] at h2 ⊢
    rw [e2, Array.length_toList, hd, ← e1]
    exact h2
theorem sort_own {P : Program} {ρ : Ren} (L : SlLaysF0.n6 P ρ) {f : Nat} (hf6 : ρ.f 6 = f) {fn : Func} (hf : P.funcs[f]? = some fn) (hn : (!(fn.name == "runtime.NumGoroutine") && fn.body.isSome) = true) {e : TypeId} (he : ρ.t 24 = e) {bs : Nat} {z : Value} {d : TypeDesc} (hu : P.underlying e = some d) (hfl : flat d = false) (hi : TI P e z k bs) (hk0 : 0 < k)
    (hk : ∀ x, (cells x).length = k) (h1 : ∀ x, ∀ v ∈ cells x, v.oneCell' = true) (cf : α → α → Int) (hO : Go.Sort.SWO (fun a b => decide (cf a b < 0)))
    {g : Nat} {gf : Func} (hg : P.funcs[g]? = some gf) (hgn : (!(gf.name == "runtime.NumGoroutine") && gf.body.isSome) = true) (B : Nat) (l : List α) (hl : l.length ≤ 1000000000) (v : Value) (w : World) (hown : Own w B e k v l.length (l.flatMap cells))
    (hc : ∀ W x y, Mo w W v.ownBlock.toList → Ret P g [.agg (cells x).toArray, .agg (cells y).toArray] W fun r W' => r = .int .i64 (cf x y) ∧ Gr W W') :
    Ret P f [v, .func (.func g) #[] #[]] w fun r w' => r = .tuple #[] ∧ ∃ l' : List α, l'.Perm l ∧ (∀ i j (hi : i < l'.length) (hj : j < l'.length), i < j → ¬ cf l'[j] l'[i] < 0) ∧ Own w' B e k v l.length (l'.flatMap cells) ∧ Mo w w' v.ownBlock.toList := by
  subst hf6 he
  by_cases hl0 : l = []
  · subst hl0
    obtain ⟨p, cap, hv⟩ : ∃ p cap, v = .slice p 0 cap := by
      rcases hown.2 with ⟨rfl, _⟩ | ⟨q, cap, _, rfl, _⟩
      · exact ⟨none, 0, rfl⟩
      · exact ⟨_, cap, rfl⟩
    have h := AnyF.slices_SortFunc_none (P := P) (ρ := ρ) { L with } p cap (.func (.func g) #[] #[]) w
    have hR : Ret P (ρ.f 6) [v, .func (.func g) #[] #[]] w fun r w' => r = .tuple #[] ∧ w' = w := by
      subst hv
      exact Ret.of_calls hf hn (h.mono fun _ _ q => q)
    refine hR.mono ?_
    rintro r w' ⟨rfl, rfl⟩
    exact ⟨rfl, [], List.Perm.refl _, fun i j hi => by simp at hi, hown, Mo.refl _ _⟩
  · have hlp : 0 < l.length := List.length_pos_iff.2 hl0
    have hflen := flat_len hk l
    obtain ⟨b, cap, rest, rfl, hB, hb, hr, hn2, hcm⟩ := hown.blk (by rw [hflen]; exact Nat.mul_pos hlp hk0)
    have hlt := hb.lt
    have hwhole : l.flatMap cells ++ rest = l.flatMap cells ++ rest := rfl
    have hH : Go.Sort.HoldsK cells k w b 0 l.toArray := by
      intro j hj
      rw [Go.Sort.size_flatK] at hj
      have hj2 : j < l.length * k := by simpa using hj
      have hF := flatK_list hk hk0 l
      have hs : j < (Go.Sort.flatK cells k l.toArray).size := by rw [Go.Sort.size_flatK]; exact hj
      have hget : (Go.Sort.flatK cells k l.toArray)[j]! = (l.flatMap cells)[j]'(by rw [hflen]; exact hj2) := by
        rw [getElem!_pos _ j hs]
        have : (Go.Sort.flatK cells k l.toArray).toList[j]'(by simpa using hs) = (l.flatMap cells)[j]'(by rw [hflen]; exact hj2) := by simp [hF]
        simpa using this
      rw [hget, Nat.zero_add]
      refine ⟨hb.cell_of ?_, hb.free j (by rw [List.length_append]; omega)⟩
      rw [List.getElem?_append_left (by omega), List.getElem?_eq_getElem]
      rfl
    have hcl : CmpLays P g #[] cells k cf b 0 l.toArray.size w := fun m os dk hdk x y => by
      have h2 := (hc _ x y (by simpa [Value.ownBlock] using sortWorld_mo (cells := cells) (k := k) w b m dk os)).2
      refine h2.mono fun e w' q => ?_
      obtain ⟨v, rfl, rfl, hgr⟩ := q
      obtain ⟨q, os', e2⟩ := hgr.grow
      exact ⟨rfl, q, os', e2⟩
    have h := AnyQ.slices_SortFunc L k (fun w => by rw [run_isAgg hu, hfl]; rfl) (fun w => run_sizeOf hi) cells hk h1 cf hO g #[] b 0 cap l.toArray w (fun args w => run_callFunc hg hgn args) hcl hH hlt (by simp; omega)
    have hsz : l.toArray.size = l.length := by simp
    rw [hsz] at h
    have hR : Ret P (ρ.f 6) [.slice (some ⟨b, 0, none⟩) l.length cap, .func (.func g) #[] #[]] w fun r w' => r = .tuple #[] ∧ ∃ d' n os, Go.Sort.PermIn 0 l.length l.toArray d' ∧ Go.Sort.SortedIn (ltOf cf) 0 l.length d' ∧ w' = sortWorldK cells k w b 0 n d' os :=
      Ret.of_calls hf hn (h.mono fun _ _ q => q)
    refine hR.mono ?_
    rintro r w' ⟨rfl, d', n, os, hp, hs, rfl⟩
    have hd : d'.size = l.length := by rw [hp.1, hsz]
    have hperm : d'.toList.Perm l := by
      have h3 := hp.2.2
      have e1 : d'.extract 0 l.length = d' := by rw [← hd]; exact Array.extract_size
      have e2 : l.toArray.extract 0 l.length = l.toArray := by rw [← hsz]; exact Array.extract_size
      rw [e1, e2] at h3
      simpa using h3
    have hb2 := sortWorld_bk (n := n) (os := os) hk hk0 hb hd
    refine ⟨rfl, d'.toList, hperm, fun i j hi hj hij => ?_, ⟨by rw [flat_len hk, Array.length_toList, hd], .inr ⟨b, cap, rest, rfl, hB, hb2, ?_, hn2, hcm⟩⟩, by simpa [Value.ownBlock] using sortWorld_mo (cells := cells) (k := k) w b n d' os⟩
    · have h3 := hs i j (Nat.zero_le _) hij (by rw [← hd]; simpa using hj)
      rw [getElem!_pos d' j (by simpa using hj), getElem!_pos d' i (by simpa using hi)] at h3
      simpa [ltOf] using h3
    · rw [flat_len hk, Array.length_toList, hd, ← hflen]
      exact hr
end
end Go.Proofs.YthgfdpcpbghkpaaGreatDoor
namespace Go.Proofs.YthgfdpcpbghkpaaGreatDoor
open Go.Shelf
def Tryz.sort99_ren : Go.Shelf.Ren := ⟨fun | 6 => 99 | 15 => 113 | 14 => 112 | 28 => 127 | 29 => 128 | 20 => 119 | 21 => 120 | 22 => 121 | 23 => 122 | 24 => 123 | 25 => 124 | 26 => 125 | 27 => 126 | 46 => 134 | 47 => 135 | 48 => 136 | 49 => 137 | 50 => 138 | 57 => 144 | n => n, fun | 22 => 84 | 24 => 88 | 25 => 161 | 3 => 3 | 39 => 141 | 0 => 0 | 53 => 68 | 55 => 122 | 4 => 4 | 46 => 179 | 45 => 178 | 50 => 183 | 5 => 5 | 9 => 9 | 66 => 191 | 70 => 195 | 76 => 197 | 77 => 198 | n => n, fun | n => n⟩
theorem Tryz.sort99 : Go.Proofs.SlLaysF0.n6 Tryz.prog Tryz.sort99_ren := {
  mixed := by kernel_rfl
  f6 := ⟨Tryz.f99.name, by decide, Tryz.func99.trans (congrArg some (by kernel_rfl))⟩
  f14 := ⟨Tryz.f112.name, by decide, Tryz.func112.trans (congrArg some (by kernel_rfl))⟩
  f15 := Tryz.func113.trans (congrArg some (by kernel_rfl))
  f20 := ⟨Tryz.f119.name, by decide, Tryz.func119.trans (congrArg some (by kernel_rfl))⟩
  f21 := ⟨Tryz.f120.name, by decide, Tryz.func120.trans (congrArg some (by kernel_rfl))⟩
  f22 := ⟨Tryz.f121.name, by decide, Tryz.func121.trans (congrArg some (by kernel_rfl))⟩
  f23 := ⟨Tryz.f122.name, by decide, Tryz.func122.trans (congrArg some (by kernel_rfl))⟩
  f24 := ⟨Tryz.f123.name, by decide, Tryz.func123.trans (congrArg some (by kernel_rfl))⟩
  f25 := ⟨Tryz.f124.name, by decide, Tryz.func124.trans (congrArg some (by kernel_rfl))⟩
  f26 := ⟨Tryz.f125.name, by decide, Tryz.func125.trans (congrArg some (by kernel_rfl))⟩
  f27 := ⟨Tryz.f126.name, by decide, Tryz.func126.trans (congrArg some (by kernel_rfl))⟩
  f28 := Tryz.func127.trans (congrArg some (by kernel_rfl))
  f29 := Tryz.func128.trans (congrArg some (by kernel_rfl))
  f46 := ⟨Tryz.f134.name, by decide, Tryz.func134.trans (congrArg some (by kernel_rfl))⟩
  f47 := Tryz.func135.trans (congrArg some (by kernel_rfl))
  f48 := Tryz.func136.trans (congrArg some (by kernel_rfl))
  f49 := ⟨Tryz.f137.name, by decide, Tryz.func137.trans (congrArg some (by kernel_rfl))⟩
  f50 := ⟨Tryz.f138.name, by decide, Tryz.func138.trans (congrArg some (by kernel_rfl))⟩
  f57 := ⟨Tryz.f144.name, by decide, Tryz.func144.trans (congrArg some (by kernel_rfl))⟩
  t0 := Tryz.underlying0
  a0 := Tryz.isAgg0
  z0 := Tryz.sizeOf0
  v0 := Tryz.zeroValue0
  t3 := Tryz.underlying3
  a3 := Tryz.isAgg3
  z3 := Tryz.sizeOf3
  v3 := Tryz.zeroValue3
  t4 := Tryz.underlying4
  a4 := Tryz.isAgg4
  z4 := Tryz.sizeOf4
  v4 := Tryz.zeroValue4
  t5 := Tryz.underlying5
  a5 := Tryz.isAgg5
  z5 := Tryz.sizeOf5
  v5 := Tryz.zeroValue5
  t9 := Tryz.underlying9
  a9 := Tryz.isAgg9
  z9 := Tryz.sizeOf9
  v9 := Tryz.zeroValue9
  t22 := Tryz.underlying84
  a22 := Tryz.isAgg84
  z22 := Tryz.sizeOf84
  v22 := Tryz.zeroValue84
  t25 := Tryz.underlying161
  a25 := Tryz.isAgg161
  z25 := Tryz.sizeOf161
  v25 := Tryz.zeroValue161
  t39 := Tryz.underlying141
  a39 := Tryz.isAgg141
  z39 := Tryz.sizeOf141
  v39 := Tryz.zeroValue141
  t45 := Tryz.underlying178
  a45 := Tryz.isAgg178
  z45 := Tryz.sizeOf178
  v45 := Tryz.zeroValue178
  t46 := Tryz.underlying179
  a46 := Tryz.isAgg179
  z46 := Tryz.sizeOf179
  v46 := Tryz.zeroValue179
  t50 := Tryz.underlying183
  a50 := Tryz.isAgg183
  z50 := Tryz.sizeOf183
  v50 := Tryz.zeroValue183
  t53 := Tryz.underlying68
  a53 := Tryz.isAgg68
  z53 := Tryz.sizeOf68
  v53 := Tryz.zeroValue68
  t55 := Tryz.underlying122
  a55 := Tryz.isAgg122
  z55 := Tryz.sizeOf122
  v55 := Tryz.zeroValue122
  t66 := Tryz.underlying191
  a66 := Tryz.isAgg191
  z66 := Tryz.sizeOf191
  v66 := Tryz.zeroValue191
  t70 := Tryz.underlying195
  a70 := Tryz.isAgg195
  z70 := Tryz.sizeOf195
  v70 := Tryz.zeroValue195
  t76 := Tryz.underlying197
  a76 := Tryz.isAgg197
  z76 := Tryz.sizeOf197
  v76 := Tryz.zeroValue197
  t77 := Tryz.underlying198
  a77 := Tryz.isAgg198
  z77 := Tryz.sizeOf198
  v77 := Tryz.zeroValue198 }
end Go.Proofs.YthgfdpcpbghkpaaGreatDoor
namespace Go.Proofs.YthgfdpcpbghkpaaGreatDoor
open Go.RowKit Pth Rec Srt Cat
def _root_.Go.Proofs.YthgfdpcpbghkpaaGreatDoor.Cat.xcells (x : Xt) : List Value := [.int .i64 x.1, .int .i64 x.2]
abbrev xtsV (l : List Xt) : List Value := l.flatMap xcells
theorem xtsV_snoc (l : List Xt) (x : Xt) : xtsV (l ++ [x]) = xtsV l ++ xcells x := by simp [xtsV]
theorem xtsV_one (l : List Xt) : ∀ u ∈ xtsV l, u.oneCell' = true := by
  intro u hu
  obtain ⟨p, _, h⟩ := List.mem_flatMap.1 hu
  simp only [xcells, List.mem_cons, List.not_mem_nil, or_false] at h
  rcases h with rfl | rfl <;> rfl
theorem cloneX_s (l : List Xt) (hl : l.length ≤ 1000000) (A : Option Addr) (c B : Nat) (w : World) (hs : Sl w B A (xtsV l)) :
    Ret Tryz.prog 98 [.slice A l.length c] w fun v w' => Own w' w.heap.size 88 2 v l.length (xtsV l) ∧ Ext w w' := by
  have hfl := flat_len (cells := xcells) (k := 2) (fun _ => rfl) l
  refine Ret.enter Tryz.func98 rfl Tryz.ntmps98 (by kernel_rfl) rfl ?_
  rcases A with _ | ⟨b, o, sp⟩
  · have hl0 : l = [] := by
      rcases hs with h | ⟨_, _, h, _⟩
      · cases l with
        | nil => rfl
        | cons x l =>
          have e : List.flatMap xcells (x :: l) = [] := h
          rw [e] at hfl
          simp at hfl
      · cases h
    subst hl0
    refine KW.seq (KW.region ?_)
    refine OW.val rfl rfl (EX.assign rfl) ?_
    refine OW.nil ?_
    refine KW.seq (KW.seq (KW.region ?_))
    refine OW.val rfl rfl (EX.move rfl) ?_
    refine OW.val rfl rfl (by first | exact EX.eqlA1 Tryz.underlying84 rfl rfl | exact EX.eqlA0 Tryz.underlying84 rfl rfl) ?_
    refine OW.nil ?_
    refine KW.condT rfl (KW.seq (KW.region ?_))
    refine OW.val rfl rfl (EX.assign rfl) ?_
    refine OW.nil ?_
    refine KW.ret (ret1 rfl rfl ?_)
    exact ⟨Own.nil _ _ _ _, Ext.refl _⟩
  · refine KW.seq (KW.region ?_)
    refine OW.val rfl rfl (EX.assign rfl) ?_
    refine OW.nil ?_
    refine KW.seq (KW.seq (KW.region ?_))
    refine OW.val rfl rfl (EX.move rfl) ?_
    refine OW.val rfl rfl (by first | exact EX.eqlA1 Tryz.underlying84 rfl rfl | exact EX.eqlA0 Tryz.underlying84 rfl rfl) ?_
    refine OW.nil ?_
    refine KW.condF rfl (KW.skip (KW.seq (KW.region ?_)))
    refine OW.buildG 0 ([]) rfl rfl Tryz.underlying84 ti88 rfl (by decide) rfl rfl rfl (by repeat' (first | exact List.forall_mem_nil _ | refine List.forall_mem_cons.2 ⟨by first | rfl | assumption, ?_⟩)) (by decide) ?_
    rintro eb w1 hge1 hb1 hx1
    refine OW.val rfl rfl (EX.move rfl) ?_
    have hown1 : Own w1 w.heap.size 88 2 (.slice (some ⟨eb, 0, none⟩) 0 0) 0 [] := Own.of_bk (cap := 0) hb1 hge1 rfl (by decide)
    refine OW.appendX rfl rfl Tryz.underlying84 ti88 rfl (by decide) rfl rfl (hx1) (hown1) (Src.of_sl Tryz.underlying84 (hs.ext hx1) hfl (xtsV_one l) (by decide)) (by simp only [maxLen]; omega) (by omega) ?_
    rintro u2 w2 hown2 hx2 hg2 hv2
    refine OW.val rfl rfl (EX.assign rfl) ?_
    refine OW.nil ?_
    refine KW.ret (ret1 rfl rfl ?_)
    rw [Nat.zero_add, List.nil_append] at hown2
    exact ⟨hown2, hx2⟩
theorem xt_eq (a b : Xt) : ([decide (a.1 = b.1), decide (a.2 = b.2)].all id) = decide (a = b) := by
  obtain ⟨a1, a2⟩ := a
  obtain ⟨b1, b2⟩ := b
  rw [Bool.eq_iff_iff]
  by_cases c1 : a1 = b1 <;> by_cases c2 : a2 = b2 <;> simp [c1, c2]
theorem cmpX_s (x y : Xt) (W : World) : Ret Tryz.prog 100 [.agg (xcells x).toArray, .agg (xcells y).toArray] W fun r W' => r = .int .i64 (cfX x y) ∧ Gr W W' := by
  refine Ret.enter Tryz.func100 rfl Tryz.ntmps100 (by kernel_rfl) rfl ?_
  refine KW.seq (KW.region ?_)
  refine OW.val rfl rfl (EX.box (l := xcells x) rfl rfl) ?_
  have hb1 := Bk.new W 88 (xcells x)
  have g1 := Gr.alloc W (.cells (xcells x).toArray 88)
  generalize hw1 : W.alloc (.cells (xcells x).toArray 88) = w1 at hb1 g1
  refine OW.val rfl rfl (EX.box (l := xcells y) rfl rfl) ?_
  refine OW.val rfl rfl (EX.assign rfl) ?_
  refine OW.nil ?_
  refine KW.seq (KW.seq (KW.region ?_))
  have hb2 := Bk.new w1 88 (xcells y)
  have g2 := Gr.alloc w1 (.cells (xcells y).toArray 88)
  have hb1b := hb1.ext g2.1
  generalize hw2 : w1.alloc (.cells (xcells y).toArray 88) = w2 at hb2 g2 hb1b
  have g3 := g1.trans g2
  refine OW.val rfl rfl (EX.loadBk Tryz.underlying88 rfl ti88 rfl (hb1b) (rfl)) ?_
  refine OW.val rfl rfl (EX.loadBk Tryz.underlying88 rfl ti88 rfl (hb2) (rfl)) ?_
  refine OW.val rfl rfl (EX.eqlG Tryz.underlying88 (by kernel_rfl) (by kernel_rfl) rfl rfl (.cons (by decide) Tryz.underlying3 rfl rfl rfl (eq_int Tryz.underlying3) (.cons (by decide) Tryz.underlying3 rfl rfl rfl (eq_int Tryz.underlying3) .nil)) rfl) ?_
  refine OW.nil ?_
  refine KW.as 7 (.bool (decide (x = y))) rfl (congrArg Value.bool (xt_eq x y)) ?_
  refine KW.condD rfl (fun h0 => ?_) (fun h0 => ?_)
  · have e : cfX x y = 0 := by unfold cfX; rw [if_pos h0]
    refine KW.seq (KW.region ?_)
    refine OW.val rfl rfl (EX.assign rfl) ?_
    refine OW.nil ?_
    refine KW.ret (ret1 rfl rfl ?_)
    rw [e]
    exact ⟨rfl, g3⟩
  · refine KW.skip (KW.seq (KW.seq ?_))
    refine KW.cut1 (fun (_u : Unit) => True) (fun (_u : Unit) => [(26, .bool (decide (x.1 < y.1 ∨ (x.1 = y.1 ∧ x.2 < y.2))))]) (fun (_u : Unit) => w2) ?_ ?_
    · refine KW.region ?_
      refine OW.val rfl rfl (EX.fieldAddr (off := 0) Tryz.underlying88 rfl rfl ti3 rfl rfl) ?_
      refine OW.val rfl rfl (EX.load Tryz.underlying3 rfl rfl (hb1b.cell_of rfl)) ?_
      refine OW.val rfl rfl (EX.fieldAddr (off := 0) Tryz.underlying88 rfl rfl ti3 rfl rfl) ?_
      refine OW.val rfl rfl (EX.load Tryz.underlying3 rfl rfl (hb2.cell_of rfl)) ?_
      refine OW.val rfl rfl (by first | exact EX.lssN rfl rfl | exact EX.lssZ rfl rfl) ?_
      refine OW.val rfl rfl (EX.move rfl) ?_
      refine OW.splitD 13 rfl (fun h1 => ?_) (fun h1 => ?_)
      · refine OW.pass rfl rfl ?_
        refine OW.pass rfl rfl ?_
        refine OW.pass rfl rfl ?_
        refine OW.pass rfl rfl ?_
        refine OW.pass rfl rfl ?_
        refine OW.pass rfl rfl ?_
        refine OW.pass rfl rfl ?_
        refine OW.pass rfl rfl ?_
        refine OW.pass rfl rfl ?_
        refine OW.pass rfl rfl ?_
        refine OW.pass rfl rfl ?_
        refine OW.pass rfl rfl ?_
        refine OW.val rfl rfl (EX.pickT rfl rfl) ?_
        refine OW.nil ?_
        refine KW.as 26 (.bool (decide (x.1 < y.1 ∨ (x.1 = y.1 ∧ x.2 < y.2)))) rfl (congrArg Value.bool (decide_eq_true (.inl h1)).symm) ?_
        refine KW.meet1 (()) ⟨rfl, trivial⟩ rfl ?_
        trivial
      · refine OW.val rfl rfl (EX.fieldAddr (off := 0) Tryz.underlying88 rfl rfl ti3 rfl rfl) ?_
        refine OW.val rfl rfl (EX.load Tryz.underlying3 rfl rfl (hb1b.cell_of rfl)) ?_
        refine OW.val rfl rfl (EX.fieldAddr (off := 0) Tryz.underlying88 rfl rfl ti3 rfl rfl) ?_
        refine OW.val rfl rfl (EX.load Tryz.underlying3 rfl rfl (hb2.cell_of rfl)) ?_
        refine OW.val rfl rfl (by first | exact EX.eqlN rfl rfl | exact EX.eqlZ rfl rfl) ?_
        refine OW.val rfl rfl (EX.move rfl) ?_
        refine OW.splitD 19 rfl (fun h2 => ?_) (fun h2 => ?_)
        · refine OW.val rfl rfl (EX.fieldAddr (off := 1) Tryz.underlying88 rfl rfl ti3 rfl rfl) ?_
          refine OW.val rfl rfl (EX.load Tryz.underlying3 rfl rfl (hb1b.cell_of rfl)) ?_
          refine OW.val rfl rfl (EX.fieldAddr (off := 1) Tryz.underlying88 rfl rfl ti3 rfl rfl) ?_
          refine OW.val rfl rfl (EX.load Tryz.underlying3 rfl rfl (hb2.cell_of rfl)) ?_
          refine OW.val rfl rfl (by first | exact EX.lssN rfl rfl | exact EX.lssZ rfl rfl) ?_
          refine OW.val rfl rfl (EX.pickT rfl rfl) ?_
          refine OW.val rfl rfl (EX.pickF rfl rfl) ?_
          refine OW.nil ?_
          refine KW.as 26 (.bool (decide (x.1 < y.1 ∨ (x.1 = y.1 ∧ x.2 < y.2)))) rfl (congrArg Value.bool (decide_eq_decide.2 (by omega))) ?_
          refine KW.meet1 (()) ⟨rfl, trivial⟩ rfl ?_
          trivial
        · refine OW.pass rfl rfl ?_
          refine OW.pass rfl rfl ?_
          refine OW.pass rfl rfl ?_
          refine OW.pass rfl rfl ?_
          refine OW.pass rfl rfl ?_
          refine OW.val rfl rfl (EX.pickF rfl rfl) ?_
          refine OW.val rfl rfl (EX.pickF rfl rfl) ?_
          refine OW.nil ?_
          refine KW.as 26 (.bool (decide (x.1 < y.1 ∨ (x.1 = y.1 ∧ x.2 < y.2)))) rfl (congrArg Value.bool (decide_eq_false (by omega)).symm) ?_
          refine KW.meet1 (()) ⟨rfl, trivial⟩ rfl ?_
          trivial
    · rintro _ _
      refine KW.condD rfl (fun h1 => ?_) (fun h1 => ?_)
      · have e : cfX x y = -1 := by unfold cfX; rw [if_neg h0, if_pos h1]
        refine KW.seq (KW.region ?_)
        refine OW.val rfl rfl (EX.assign rfl) ?_
        refine OW.nil ?_
        refine KW.ret (ret1 rfl rfl ?_)
        rw [e]
        exact ⟨rfl, g3⟩
      · have e : cfX x y = 1 := by unfold cfX; rw [if_neg h0, if_neg h1]
        refine KW.skip (KW.seq (KW.region ?_))
        refine OW.val rfl rfl (EX.assign rfl) ?_
        refine OW.nil ?_
        refine KW.ret (ret1 rfl rfl ?_)
        rw [e]
        exact ⟨rfl, g3⟩
theorem sortedX_s (l : List Xt) (hl : l.length ≤ 1000000) (A : Option Addr) (c B : Nat) (w : World) (hs : Sl w B A (xtsV l)) :
    Ret Tryz.prog 71 [.slice A l.length c] w fun v w' => (∃ l' : List Xt, l'.Perm l ∧ (∀ i j (hi : i < l'.length) (hj : j < l'.length), i < j → ¬ cfX l'[j] l'[i] < 0) ∧ Own w' w.heap.size 88 2 v l.length (xtsV l')) ∧ Ext w w' := by
  refine Ret.enter Tryz.func71 rfl Tryz.ntmps71 (by kernel_rfl) rfl ?_
  refine KW.seq (KW.region ?_)
  refine OW.val rfl rfl (EX.assign rfl) ?_
  refine OW.nil ?_
  refine KW.seq (KW.region ?_)
  refine OW.val rfl rfl (EX.move rfl) ?_
  refine OW.call rfl rfl rfl (cloneX_s l hl A c B w hs) ?_
  rintro _ w1 ⟨hown, hx1⟩
  refine OW.val rfl rfl (EX.assign rfl) ?_
  refine OW.nil ?_
  refine KW.seq (KW.region ?_)
  refine OW.val rfl rfl (EX.move rfl) ?_
  rename_i v1
  have c1 := sort_own Tryz.sort99 (f := 99) rfl Tryz.func99 (by kernel_rfl) (e := 88) rfl Tryz.underlying88 rfl ti88 (by decide) (cells := xcells) (fun _ => rfl) (fun x v hv => by simp [xcells] at hv; rcases hv with rfl | rfl <;> rfl) cfX swoX Tryz.func100 (by kernel_rfl) w.heap.size l (by omega) v1 w1 hown (fun W x y _ => cmpX_s x y W)
  refine OW.call rfl rfl rfl (c1) ?_
  rintro _ w2 ⟨rfl, l', hperm, hsort, hown2, hmo2⟩
  refine OW.nil ?_
  refine KW.seq (KW.region ?_)
  refine OW.val rfl rfl (EX.move rfl) ?_
  refine OW.val rfl rfl (EX.assign rfl) ?_
  refine OW.nil ?_
  refine KW.ret (ret1 rfl rfl ?_)
  exact ⟨⟨l', hperm, hsort, hown2⟩, below_mo hx1 hmo2 hx1.size (fun k hk => (hown.lt k (Option.mem_toList.1 hk)).1)⟩
set_option maxRecDepth 20000 in
theorem space_s (l : List Xt) (hl : l.length ≤ 1000000) (cap : Int) (A : Option Addr) (c B : Nat) (w : World) (hs : Sl w B A (xtsV l)) :
    Ret Tryz.prog 39 [.slice A l.length c, .int .i64 cap] w fun v w' => v = .int .i64 ((spaceC l cap : Nat) : Int) ∧ Ext w w' := by
  have no : ¬ OkX l cap → spaceC l cap = 220 := fun h => by unfold spaceC; rw [if_neg h]
  refine Ret.enter Tryz.func39 rfl Tryz.ntmps39 (by kernel_rfl) rfl ?_
  refine KW.seq (KW.region ?_)
  refine OW.val rfl rfl (EX.assign rfl) ?_
  refine OW.nil ?_
  refine KW.seq (KW.seq ?_)
  refine KW.region ?_
  refine OW.val rfl rfl (EX.move rfl) ?_
  refine OW.val rfl rfl (by first | exact EX.lssN (b := 1) rfl rfl | exact EX.lssZ rfl rfl) ?_
  refine OW.val rfl rfl (EX.move rfl) ?_
  refine OW.splitD 10 rfl (fun h1 => ?_) (fun h1 => ?_)
  · refine OW.pass rfl rfl ?_
    refine OW.pass rfl rfl ?_
    refine OW.val rfl rfl (EX.pickT rfl rfl) ?_
    refine OW.nil ?_
    refine KW.condT rfl (KW.seq (KW.region ?_))
    refine OW.val rfl rfl (EX.assign rfl) ?_
    refine OW.nil ?_
    refine KW.ret (ret1 rfl rfl ?_)
    rw [no (fun h => by have := h.room; omega)]
    exact ⟨rfl, Ext.refl _⟩
  · refine OW.val rfl rfl (EX.move rfl) ?_
    refine OW.val rfl rfl (by first | exact EX.gtrN (b := 4096) rfl rfl | exact EX.gtrZ rfl rfl) ?_
    refine OW.val rfl rfl (EX.pickF rfl rfl) ?_
    refine OW.nil ?_
    refine KW.condD rfl (fun h2 => ?_) (fun h2 => ?_)
    · refine KW.seq (KW.region ?_)
      refine OW.val rfl rfl (EX.assign rfl) ?_
      refine OW.nil ?_
      refine KW.ret (ret1 rfl rfl ?_)
      rw [no (fun h => by have := h.room; omega)]
      exact ⟨rfl, Ext.refl _⟩
    · have hc : 1 ≤ cap ∧ cap ≤ 4096 := by omega
      refine KW.skip (KW.seq (KW.region ?_))
      refine OW.val rfl rfl (EX.assign rfl) ?_
      refine OW.nil ?_
      refine KW.seq (KW.seq (KW.region ?_))
      refine OW.val rfl rfl (EX.move rfl) ?_
      refine OW.call rfl rfl rfl (sortedX_s l hl A c B w hs) ?_
      rintro v1 w1 ⟨⟨l', hperm, hsort, hown⟩, hx1⟩
      obtain ⟨A1, c1, rfl, _, hsl⟩ := hown.slice
      refine OW.val rfl rfl (EX.lenA Tryz.underlying84 rfl) ?_
      refine OW.val rfl rfl (EX.move rfl) ?_
      refine OW.nil ?_
      refine KW.block ?_
      rw [← okX_perm hperm] at no
      have hlen := hperm.length_eq
      have yes : OkX l' cap → spaceC l cap = 0 := fun h => by unfold spaceC; rw [if_pos ((okX_perm hperm).1 h)]
      refine KW.loop3 (fun (i : Nat) (at_ : Int) (wr : World) => i ≤ l'.length ∧ Upto (l'.take i) cap at_ ∧ Ext w1 wr) (fun (i : Nat) (at_ : Int) (wr : World) => [(1, .int .i64 cap), (5, .int .i64 (at_ : Int)), (15, .slice A1 l.length c1), (16, .int .i64 ((l.length : Nat) : Int)), (17, .int .i64 ((i : Nat) : Int))]) (fun (i : Nat) (at_ : Int) (wr : World) => wr) (fun (i : Nat) (at_ : Int) (wr : World) => l'.length - i) (0) (30) (w1) ⟨rfl, rfl, rfl, rfl, rfl, trivial⟩ rfl ?_ ?_
      · exact ⟨Nat.zero_le _, Upto.nil cap, Ext.refl _⟩
      · rintro i at_ wr ⟨hi, hup, hx⟩
        have hlow := hup.low
        refine KW.seq (KW.region ?_)
        refine OW.val rfl rfl (by first | exact EX.lssN rfl rfl | exact EX.lssZ rfl rfl) ?_
        refine OW.nil ?_
        refine KW.seq ?_
        refine KW.condD rfl (fun hlt => ?_) (fun hlt => ?_)
        · have hlt' : i < l'.length := by omega
          obtain ⟨b, o, rfl, _, hcell⟩ := (hsl.ext hx).flat (l := l') (i := i) (c := 2) (fun _ => rfl) (by decide) hlt'
          have hsn : l'.take (i + 1) = l'.take i ++ [l'[i]] := (List.take_append_getElem hlt').symm
          have hall : l' = l'.take i ++ l'[i] :: l'.drop (i + 1) := by rw [← List.drop_eq_getElem_cons hlt', List.take_append_drop]
          have hlast : ∀ y ∈ l'.take i, ¬ cfX l'[i] y < 0 := fun y hy => by
            obtain ⟨j, hj, rfl⟩ := List.mem_iff_getElem.1 hy
            rw [List.length_take] at hj
            rw [List.getElem_take]
            exact hsort j i (by omega) hlt' (by omega)
          generalize l'[i] = x at hcell hsn hall hlast
          refine KW.skip (KW.seq (KW.block (KW.seq (KW.region ?_))))
          refine OW.val rfl rfl (EX.indexAddrS Tryz.underlying84 ti88 rfl rfl (by omega)) ?_
          refine OW.val rfl rfl (EX.loadA (l := xcells x) Tryz.underlying88 rfl ti88 rfl rfl hcell) ?_
          refine OW.allocB (l := [.int .i64 0, .int .i64 0]) rfl rfl ti88 rfl ?_
          rintro xb w2 hge2 hb2 hx2
          refine OW.storeS rfl ti88 rfl rfl rfl (by first | rfl | (simp only [List.all_cons, List.all_nil, Bool.and_true, Bool.true_and, Bool.and_eq_true, Value.oneCell']; repeat (first | assumption | exact Own.one (by assumption) | constructor))) (hb2) (Nat.le_refl _) ?_
          rintro w3 hb3 hm3
          refine OW.nil ?_
          refine KW.seq (KW.seq ?_)
          replace hb3 : Bk w3 xb 88 (xcells x) := hb3
          have x3 : Ext wr w3 := below_mo hx2 hm3 hx2.size (fun k hk => by simp at hk; omega)
          refine KW.cut1 (fun (_u : Unit) => True) (fun (_u : Unit) => [(1, .int .i64 cap), (5, .int .i64 (at_ : Int)), (7, .pointer (some ⟨xb, 0, none⟩)), (15, .slice (some ⟨b, o, none⟩) l.length c1), (16, .int .i64 ((l.length : Nat) : Int)), (17, .int .i64 ((i : Nat) : Int)), (44, .bool (decide ((x.1 < at_ ∨ x.2 < 1 ∨ x.1 > cap ∨ x.2 > cap - x.1))))]) (fun (_u : Unit) => w3) ?_ ?_
          · refine KW.region ?_
            refine OW.val rfl rfl (EX.fieldAddr (off := 0) Tryz.underlying88 rfl rfl ti3 rfl rfl) ?_
            refine OW.val rfl rfl (EX.load Tryz.underlying3 rfl rfl (hb3.cell_of rfl)) ?_
            refine OW.val rfl rfl (EX.move rfl) ?_
            refine OW.val rfl rfl (by first | exact EX.lssN rfl rfl | exact EX.lssZ rfl rfl) ?_
            refine OW.val rfl rfl (EX.move rfl) ?_
            refine OW.splitD 25 rfl (fun q1 => ?_) (fun q1 => ?_)
            · refine OW.pass rfl rfl ?_
              refine OW.pass rfl rfl ?_
              refine OW.pass rfl rfl ?_
              refine OW.val rfl rfl (EX.pickT rfl rfl) ?_
              refine OW.val rfl rfl (EX.move rfl) ?_
              refine OW.pass rfl rfl ?_
              refine OW.pass rfl rfl ?_
              refine OW.pass rfl rfl ?_
              refine OW.pass rfl rfl ?_
              refine OW.val rfl rfl (EX.pickT rfl rfl) ?_
              refine OW.val rfl rfl (EX.move rfl) ?_
              refine OW.pass rfl rfl ?_
              refine OW.pass rfl rfl ?_
              refine OW.pass rfl rfl ?_
              refine OW.pass rfl rfl ?_
              refine OW.pass rfl rfl ?_
              refine OW.pass rfl rfl ?_
              refine OW.pass rfl rfl ?_
              refine OW.val rfl rfl (EX.pickT rfl rfl) ?_
              refine OW.nil ?_
              refine KW.as 44 (.bool (decide ((x.1 < at_ ∨ x.2 < 1 ∨ x.1 > cap ∨ x.2 > cap - x.1)))) rfl (congrArg Value.bool (decide_eq_true (.inl q1)).symm) ?_
              refine KW.meet1 (()) ⟨rfl, rfl, rfl, rfl, rfl, rfl, rfl, trivial⟩ rfl ?_
              trivial
            · refine OW.val rfl rfl (EX.fieldAddr (off := 1) Tryz.underlying88 rfl rfl ti3 rfl rfl) ?_
              refine OW.val rfl rfl (EX.load Tryz.underlying3 rfl rfl (hb3.cell_of rfl)) ?_
              refine OW.val rfl rfl (by first | exact EX.lssN (b := 1) rfl rfl | exact EX.lssZ rfl rfl) ?_
              refine OW.val rfl rfl (EX.pickF rfl rfl) ?_
              refine OW.val rfl rfl (EX.move rfl) ?_
              refine OW.splitD 30 rfl (fun q2 => ?_) (fun q2 => ?_)
              · refine OW.pass rfl rfl ?_
                refine OW.pass rfl rfl ?_
                refine OW.pass rfl rfl ?_
                refine OW.pass rfl rfl ?_
                refine OW.val rfl rfl (EX.pickT rfl rfl) ?_
                refine OW.val rfl rfl (EX.move rfl) ?_
                refine OW.pass rfl rfl ?_
                refine OW.pass rfl rfl ?_
                refine OW.pass rfl rfl ?_
                refine OW.pass rfl rfl ?_
                refine OW.pass rfl rfl ?_
                refine OW.pass rfl rfl ?_
                refine OW.pass rfl rfl ?_
                refine OW.val rfl rfl (EX.pickT rfl rfl) ?_
                refine OW.nil ?_
                refine KW.as 44 (.bool (decide ((x.1 < at_ ∨ x.2 < 1 ∨ x.1 > cap ∨ x.2 > cap - x.1)))) rfl (congrArg Value.bool (decide_eq_true (.inr (.inl q2))).symm) ?_
                refine KW.meet1 (()) ⟨rfl, rfl, rfl, rfl, rfl, rfl, rfl, trivial⟩ rfl ?_
                trivial
              · refine OW.val rfl rfl (EX.fieldAddr (off := 0) Tryz.underlying88 rfl rfl ti3 rfl rfl) ?_
                refine OW.val rfl rfl (EX.load Tryz.underlying3 rfl rfl (hb3.cell_of rfl)) ?_
                refine OW.val rfl rfl (EX.move rfl) ?_
                refine OW.val rfl rfl (by first | exact EX.gtrN rfl rfl | exact EX.gtrZ rfl rfl) ?_
                refine OW.val rfl rfl (EX.pickF rfl rfl) ?_
                refine OW.val rfl rfl (EX.move rfl) ?_
                refine OW.splitD 36 rfl (fun q3 => ?_) (fun q3 => ?_)
                · refine OW.pass rfl rfl ?_
                  refine OW.pass rfl rfl ?_
                  refine OW.pass rfl rfl ?_
                  refine OW.pass rfl rfl ?_
                  refine OW.pass rfl rfl ?_
                  refine OW.pass rfl rfl ?_
                  refine OW.pass rfl rfl ?_
                  refine OW.val rfl rfl (EX.pickT rfl rfl) ?_
                  refine OW.nil ?_
                  refine KW.as 44 (.bool (decide ((x.1 < at_ ∨ x.2 < 1 ∨ x.1 > cap ∨ x.2 > cap - x.1)))) rfl (congrArg Value.bool (decide_eq_true (.inr (.inr (.inl q3)))).symm) ?_
                  refine KW.meet1 (()) ⟨rfl, rfl, rfl, rfl, rfl, rfl, rfl, trivial⟩ rfl ?_
                  trivial
                · refine OW.val rfl rfl (EX.fieldAddr (off := 1) Tryz.underlying88 rfl rfl ti3 rfl rfl) ?_
                  refine OW.val rfl rfl (EX.load Tryz.underlying3 rfl rfl (hb3.cell_of rfl)) ?_
                  refine OW.val rfl rfl (EX.move rfl) ?_
                  refine OW.val rfl rfl (EX.fieldAddr (off := 0) Tryz.underlying88 rfl rfl ti3 rfl rfl) ?_
                  refine OW.val rfl rfl (EX.load Tryz.underlying3 rfl rfl (hb3.cell_of rfl)) ?_
                  refine OW.val rfl rfl (by first | exact EX.subN (m := 9223372036854775807) rfl rfl rfl (by omega) | exact EX.subZ (m := 9223372036854775807) rfl rfl rfl rfl (by omega)) ?_
                  refine OW.val rfl rfl (by first | exact EX.gtrN rfl rfl | exact EX.gtrZ rfl rfl) ?_
                  refine OW.val rfl rfl (EX.pickF rfl rfl) ?_
                  refine OW.nil ?_
                  refine KW.as 44 (.bool (decide ((x.1 < at_ ∨ x.2 < 1 ∨ x.1 > cap ∨ x.2 > cap - x.1)))) rfl (congrArg Value.bool (decide_eq_decide.2 (by omega))) ?_
                  refine KW.meet1 (()) ⟨rfl, rfl, rfl, rfl, rfl, rfl, rfl, trivial⟩ rfl ?_
                  trivial
          · rintro _ _
            refine KW.condD rfl (fun hbad => ?_) (fun hbad => ?_)
            · refine KW.seq (KW.region ?_)
              refine OW.val rfl rfl (EX.assign rfl) ?_
              refine OW.nil ?_
              refine KW.ret (ret1 rfl rfl ?_)
              rw [no (by rw [hall]; exact hup.fail hlast hbad)]
              exact ⟨rfl, (hx1.trans hx).trans x3⟩
            · have hup2 := hup.snoc hc (x := x) (by omega) (by omega) (by omega) (by omega)
              have hl2 := hup2.low
              rw [← hsn] at hup2
              refine KW.skip (KW.region ?_)
              refine OW.val rfl rfl (EX.fieldAddr (off := 0) Tryz.underlying88 rfl rfl ti3 rfl rfl) ?_
              refine OW.val rfl rfl (EX.load Tryz.underlying3 rfl rfl (hb3.cell_of rfl)) ?_
              refine OW.val rfl rfl (EX.fieldAddr (off := 1) Tryz.underlying88 rfl rfl ti3 rfl rfl) ?_
              refine OW.val rfl rfl (EX.load Tryz.underlying3 rfl rfl (hb3.cell_of rfl)) ?_
              refine OW.val rfl rfl (by first | exact EX.addN (m := 9223372036854775807) rfl rfl rfl (by omega) | exact EX.addZ (m := 9223372036854775807) rfl rfl rfl rfl (by omega)) ?_
              refine OW.val rfl rfl (EX.assign rfl) ?_
              refine OW.nil ?_
              refine KW.leave (KW.region ?_)
              refine OW.val rfl rfl (by first | exact EX.addN (b := 1) (m := 9223372036854775807) rfl rfl rfl (by omega) | exact EX.addZ (m := 9223372036854775807) rfl rfl rfl rfl (by omega)) ?_
              refine OW.val rfl rfl (EX.move rfl) ?_
              refine OW.nil ?_
              refine KW.back3 (i + 1) (x.1 + x.2) (w3) ⟨rfl, rfl, rfl, rfl, rfl, trivial⟩ rfl ?_ (by omega)
              exact ⟨by omega, hup2, hx.trans x3⟩
        · obtain rfl : i = l'.length := by omega
          rw [List.take_length] at hup
          refine KW.exit rfl (KW.seq (KW.region ?_))
          refine OW.val rfl rfl (EX.assign rfl) ?_
          refine OW.nil ?_
          refine KW.ret (ret1 rfl rfl ?_)
          rw [yes (hup.done hc)]
          exact ⟨rfl, hx1.trans hx⟩
end Go.Proofs.YthgfdpcpbghkpaaGreatDoor
namespace Go.Proofs.YthgfdpcpbghkpaaGreatDoor
open Go.RowKit Pth Rec Srt Cat
def marksV (n : Nat) (f : Nat → Bool) : List Value := (List.range n).map fun k => Value.bool (f k)
theorem marksV_len (n : Nat) (f : Nat → Bool) : (marksV n f).length = n := by simp [marksV]
theorem marksV_get {n k : Nat} (f : Nat → Bool) (h : k < n) : (marksV n f)[k]? = some (.bool (f k)) := by simp [marksV, h]
theorem marksV_set {n k : Nat} (f g : Nat → Bool) (h : k < n) (hk : g k = true) (ho : ∀ j, j ≠ k → g j = f j) : (marksV n f).set k (.bool true) = marksV n g := by
  apply List.ext_getElem?
  intro j
  rw [List.getElem?_set]
  by_cases e : k = j
  · subst e
    rw [if_pos rfl, if_pos (by rw [marksV_len]; exact h), marksV_get g h, hk]
  · rw [if_neg e]
    by_cases hj : j < n
    · rw [marksV_get f hj, marksV_get g hj, ho j (fun q => e q.symm)]
    · rw [List.getElem?_eq_none (by rw [marksV_len]; omega), List.getElem?_eq_none (by rw [marksV_len]; omega)]
theorem marksV_zero (n : Nat) : List.replicate n (Value.bool false) = marksV n (fun _ => false) := by
  apply List.ext_getElem?
  intro j
  by_cases hj : j < n
  · rw [marksV_get _ hj]; simp [hj]
  · rw [List.getElem?_eq_none (by simp; omega), List.getElem?_eq_none (by rw [marksV_len]; omega)]
structure PreX (l : List Xt) (cap : Int) : Prop where
  fit : ∀ x ∈ l, fitX cap x
  far : l.Pairwise Cat.apart
theorem PreX.nil (cap : Int) : PreX [] cap := ⟨by simp, List.Pairwise.nil⟩
theorem PreX.snoc {l : List Xt} {cap : Int} (h : PreX l cap) {x : Xt} (hf : fitX cap x) (hn : ∀ k, inX x k = true → marked l k = false) : PreX (l ++ [x]) cap := by
  refine ⟨fun y hy => ?_, ?_⟩
  · rcases List.mem_append.1 hy with hy | hy
    · exact h.fit y hy
    · simp only [List.mem_singleton] at hy
      subst hy
      exact hf
  · rw [List.pairwise_append]
    refine ⟨h.far, by simp, fun a ha b hb => ?_⟩
    simp only [List.mem_singleton] at hb
    subst hb
    have h2 := h.fit a ha
    unfold fitX at hf h2
    refine apart_of_not hf.2.1 h2.2.1 fun k hk => ?_
    have h3 := hn k hk
    unfold marked at h3
    rw [List.any_eq_false] at h3
    have := h3 a ha
    simpa using this
theorem not_marked {l : List Xt} {cap : Int} {i : Nat} (hi : i < l.length) {k : Int} (h1 : inX l[i] k = true) (h2 : marked (l.take i) k = true) : ¬ OkX l cap := fun h => by
  unfold marked at h2
  obtain ⟨y, hy, h3⟩ := List.any_eq_true.1 h2
  obtain ⟨j, hj, rfl⟩ := List.mem_iff_getElem.1 hy
  rw [List.length_take] at hj
  have h4 := List.pairwise_iff_getElem.1 h.far j i (by omega) hi (by omega)
  rw [List.getElem_take] at h3
  exact not_apart h1 h3 h4
set_option maxRecDepth 20000 in
theorem taken_s (l : List Xt) (hl : l.length ≤ 1000000) (cap : Int) (A : Option Addr) (c B : Nat) (w : World) (hs : Sl w B A (xtsV l)) :
    Ret Tryz.prog 74 [.slice A l.length c, .int .i64 cap] w fun v w' => (∃ q, v = .tuple #[q, .bool (decide (OkX l cap))]) ∧ Ext w w' := by
  have no : ¬ OkX l cap → decide (OkX l cap) = false := fun h => decide_eq_false h
  refine Ret.enter Tryz.func74 rfl Tryz.ntmps74 (by kernel_rfl) rfl ?_
  refine KW.seq (KW.region ?_)
  refine OW.val rfl rfl (EX.assign rfl) ?_
  refine OW.val rfl rfl (EX.assign rfl) ?_
  refine OW.nil ?_
  refine KW.seq (KW.seq ?_)
  refine KW.region ?_
  refine OW.val rfl rfl (EX.move rfl) ?_
  refine OW.val rfl rfl (by first | exact EX.lssN (b := 1) rfl rfl | exact EX.lssZ rfl rfl) ?_
  refine OW.val rfl rfl (EX.move rfl) ?_
  refine OW.splitD 12 rfl (fun h1 => ?_) (fun h1 => ?_)
  · refine OW.pass rfl rfl ?_
    refine OW.pass rfl rfl ?_
    refine OW.val rfl rfl (EX.pickT rfl rfl) ?_
    refine OW.nil ?_
    refine KW.condT rfl (KW.seq (KW.region ?_))
    refine OW.val rfl rfl (EX.assign rfl) ?_
    refine OW.val rfl rfl (EX.assign rfl) ?_
    refine OW.nil ?_
    refine KW.ret (ret2 rfl rfl rfl ?_)
    rw [no (fun h => by have := h.room; omega)]
    exact ⟨⟨_, rfl⟩, Ext.refl _⟩
  · refine OW.val rfl rfl (EX.move rfl) ?_
    refine OW.val rfl rfl (by first | exact EX.gtrN (b := 4096) rfl rfl | exact EX.gtrZ rfl rfl) ?_
    refine OW.val rfl rfl (EX.pickF rfl rfl) ?_
    refine OW.nil ?_
    refine KW.condD rfl (fun h2 => ?_) (fun h2 => ?_)
    · refine KW.seq (KW.region ?_)
      refine OW.val rfl rfl (EX.assign rfl) ?_
      refine OW.val rfl rfl (EX.assign rfl) ?_
      refine OW.nil ?_
      refine KW.ret (ret2 rfl rfl rfl ?_)
      rw [no (fun h => by have := h.room; omega)]
      exact ⟨⟨_, rfl⟩, Ext.refl _⟩
    · obtain ⟨n, rfl⟩ := Int.eq_ofNat_of_zero_le (show 0 ≤ cap by omega)
      refine KW.skip (KW.seq (KW.region ?_))
      refine OW.val rfl rfl (EX.move rfl) ?_
      refine OW.makeB rfl rfl Tryz.underlying47 ti4 rfl rfl rfl (by omega) (by omega) ?_
      rintro ob w1 hge1 hb1 hx1
      refine OW.val rfl rfl (EX.assign rfl) ?_
      refine OW.nil ?_
      refine KW.seq (KW.seq (KW.region ?_))
      refine OW.val rfl rfl (EX.assign rfl) ?_
      refine OW.nil ?_
      refine KW.block ?_
      rw [marksV_zero] at hb1
      refine KW.loop2 (fun (i : Nat) (wr : World) => i ≤ l.length ∧ PreX (l.take i) n ∧ Bk wr ob 4 (marksV n (fun k => marked (l.take i) k)) ∧ Ext w wr) (fun (i : Nat) (wr : World) => [(0, .slice A l.length c), (1, .int .i64 ((n : Nat) : Int)), (6, .slice (some ⟨ob, 0, none⟩) n n), (7, .int .i64 ((i : Nat) : Int))]) (fun (i : Nat) (wr : World) => wr) (fun (i : Nat) (wr : World) => l.length - i) (0) (w1) ⟨rfl, rfl, rfl, rfl, trivial⟩ rfl ?_ ?_
      · exact ⟨Nat.zero_le _, PreX.nil _, hb1, hx1⟩
      · rintro i wr ⟨hi, hpre, hob, hx⟩
        refine KW.seq (KW.seq (KW.region ?_))
        refine OW.val rfl rfl (EX.move rfl) ?_
        refine OW.val rfl rfl (EX.move rfl) ?_
        refine OW.val rfl rfl (EX.lenA Tryz.underlying84 rfl) ?_
        refine OW.val rfl rfl (by first | exact EX.lssN rfl rfl | exact EX.lssZ rfl rfl) ?_
        refine OW.nil ?_
        refine KW.condD rfl (fun hlt => ?_) (fun hlt => ?_)
        · obtain ⟨b, o, rfl, _, hcell⟩ := (hs.ext hx).flat (i := i) (c := 2) (fun _ => rfl) (by decide) hlt
          have hsn : l.take (i + 1) = l.take i ++ [l[i]] := (List.take_append_getElem hlt).symm
          have hnm := fun k h1 h2 => not_marked (cap := (n : Int)) hlt (k := k) h1 h2
          have hfitx : OkX l n → fitX n l[i] := fun h => h.fit _ (List.getElem_mem hlt)
          generalize l[i] = x at hcell hsn hnm hfitx
          refine KW.skip (KW.seq (KW.block (KW.seq (KW.region ?_))))
          refine OW.val rfl rfl (EX.move rfl) ?_
          refine OW.val rfl rfl (EX.move rfl) ?_
          refine OW.val rfl rfl (EX.indexAddrS Tryz.underlying84 ti88 rfl rfl (by omega)) ?_
          refine OW.val rfl rfl (EX.loadA (l := xcells x) Tryz.underlying88 rfl ti88 rfl rfl hcell) ?_
          refine OW.allocB (l := [.int .i64 0, .int .i64 0]) rfl rfl ti88 rfl ?_
          rintro xb w2 hge2 hb2 hx2
          refine OW.storeS rfl ti88 rfl rfl rfl (by first | rfl | (simp only [List.all_cons, List.all_nil, Bool.and_true, Bool.true_and, Bool.and_eq_true, Value.oneCell']; repeat (first | assumption | exact Own.one (by assumption) | constructor))) (hb2) (Nat.le_refl _) ?_
          rintro w3 hb3 hm3
          refine OW.nil ?_
          refine KW.seq (KW.seq ?_)
          replace hb3 : Bk w3 xb 88 (xcells x) := hb3
          have x3 : Ext wr w3 := below_mo hx2 hm3 hx2.size (fun k hk => by simp at hk; omega)
          have hob3 := hob.ext x3
          have hxo : xb ≠ ob := by have := hob.lt; omega
          refine KW.cut1 (fun (_u : Unit) => True) (fun (_u : Unit) => [(0, .slice (some ⟨b, o, none⟩) l.length c), (1, .int .i64 ((n : Nat) : Int)), (6, .slice (some ⟨ob, 0, none⟩) n n), (7, .int .i64 ((i : Nat) : Int)), (8, .pointer (some ⟨xb, 0, none⟩)), (50, .bool (decide ((x.1 < 30 ∨ x.1 > n ∨ x.2 < 1 ∨ x.2 > n - x.1))))]) (fun (_u : Unit) => w3) ?_ ?_
          · refine KW.region ?_
            refine OW.val rfl rfl (EX.fieldAddr (off := 0) Tryz.underlying88 rfl rfl ti3 rfl rfl) ?_
            refine OW.val rfl rfl (EX.load Tryz.underlying3 rfl rfl (hb3.cell_of rfl)) ?_
            refine OW.val rfl rfl (by first | exact EX.lssN (b := 30) rfl rfl | exact EX.lssZ rfl rfl) ?_
            refine OW.val rfl rfl (EX.move rfl) ?_
            refine OW.splitD 31 rfl (fun q1 => ?_) (fun q1 => ?_)
            · refine OW.pass rfl rfl ?_
              refine OW.pass rfl rfl ?_
              refine OW.pass rfl rfl ?_
              refine OW.pass rfl rfl ?_
              refine OW.val rfl rfl (EX.pickT rfl rfl) ?_
              refine OW.val rfl rfl (EX.move rfl) ?_
              refine OW.pass rfl rfl ?_
              refine OW.pass rfl rfl ?_
              refine OW.pass rfl rfl ?_
              refine OW.val rfl rfl (EX.pickT rfl rfl) ?_
              refine OW.val rfl rfl (EX.move rfl) ?_
              refine OW.pass rfl rfl ?_
              refine OW.pass rfl rfl ?_
              refine OW.pass rfl rfl ?_
              refine OW.pass rfl rfl ?_
              refine OW.pass rfl rfl ?_
              refine OW.pass rfl rfl ?_
              refine OW.pass rfl rfl ?_
              refine OW.val rfl rfl (EX.pickT rfl rfl) ?_
              refine OW.nil ?_
              refine KW.as 50 (.bool (decide ((x.1 < 30 ∨ x.1 > n ∨ x.2 < 1 ∨ x.2 > n - x.1)))) rfl (congrArg Value.bool (decide_eq_true (.inl q1)).symm) ?_
              refine KW.meet1 (()) ⟨rfl, rfl, rfl, rfl, rfl, rfl, trivial⟩ rfl ?_
              trivial
            · refine OW.val rfl rfl (EX.fieldAddr (off := 0) Tryz.underlying88 rfl rfl ti3 rfl rfl) ?_
              refine OW.val rfl rfl (EX.load Tryz.underlying3 rfl rfl (hb3.cell_of rfl)) ?_
              refine OW.val rfl rfl (EX.move rfl) ?_
              refine OW.val rfl rfl (by first | exact EX.gtrN rfl rfl | exact EX.gtrZ rfl rfl) ?_
              refine OW.val rfl rfl (EX.pickF rfl rfl) ?_
              refine OW.val rfl rfl (EX.move rfl) ?_
              refine OW.splitD 37 rfl (fun q2 => ?_) (fun q2 => ?_)
              · refine OW.pass rfl rfl ?_
                refine OW.pass rfl rfl ?_
                refine OW.pass rfl rfl ?_
                refine OW.val rfl rfl (EX.pickT rfl rfl) ?_
                refine OW.val rfl rfl (EX.move rfl) ?_
                refine OW.pass rfl rfl ?_
                refine OW.pass rfl rfl ?_
                refine OW.pass rfl rfl ?_
                refine OW.pass rfl rfl ?_
                refine OW.pass rfl rfl ?_
                refine OW.pass rfl rfl ?_
                refine OW.pass rfl rfl ?_
                refine OW.val rfl rfl (EX.pickT rfl rfl) ?_
                refine OW.nil ?_
                refine KW.as 50 (.bool (decide ((x.1 < 30 ∨ x.1 > n ∨ x.2 < 1 ∨ x.2 > n - x.1)))) rfl (congrArg Value.bool (decide_eq_true (.inr (.inl q2))).symm) ?_
                refine KW.meet1 (()) ⟨rfl, rfl, rfl, rfl, rfl, rfl, trivial⟩ rfl ?_
                trivial
              · refine OW.val rfl rfl (EX.fieldAddr (off := 1) Tryz.underlying88 rfl rfl ti3 rfl rfl) ?_
                refine OW.val rfl rfl (EX.load Tryz.underlying3 rfl rfl (hb3.cell_of rfl)) ?_
                refine OW.val rfl rfl (by first | exact EX.lssN (b := 1) rfl rfl | exact EX.lssZ rfl rfl) ?_
                refine OW.val rfl rfl (EX.pickF rfl rfl) ?_
                refine OW.val rfl rfl (EX.move rfl) ?_
                refine OW.splitD 42 rfl (fun q3 => ?_) (fun q3 => ?_)
                · refine OW.pass rfl rfl ?_
                  refine OW.pass rfl rfl ?_
                  refine OW.pass rfl rfl ?_
                  refine OW.pass rfl rfl ?_
                  refine OW.pass rfl rfl ?_
                  refine OW.pass rfl rfl ?_
                  refine OW.pass rfl rfl ?_
                  refine OW.val rfl rfl (EX.pickT rfl rfl) ?_
                  refine OW.nil ?_
                  refine KW.as 50 (.bool (decide ((x.1 < 30 ∨ x.1 > n ∨ x.2 < 1 ∨ x.2 > n - x.1)))) rfl (congrArg Value.bool (decide_eq_true (.inr (.inr (.inl q3)))).symm) ?_
                  refine KW.meet1 (()) ⟨rfl, rfl, rfl, rfl, rfl, rfl, trivial⟩ rfl ?_
                  trivial
                · refine OW.val rfl rfl (EX.fieldAddr (off := 1) Tryz.underlying88 rfl rfl ti3 rfl rfl) ?_
                  refine OW.val rfl rfl (EX.load Tryz.underlying3 rfl rfl (hb3.cell_of rfl)) ?_
                  refine OW.val rfl rfl (EX.move rfl) ?_
                  refine OW.val rfl rfl (EX.fieldAddr (off := 0) Tryz.underlying88 rfl rfl ti3 rfl rfl) ?_
                  refine OW.val rfl rfl (EX.load Tryz.underlying3 rfl rfl (hb3.cell_of rfl)) ?_
                  refine OW.val rfl rfl (by first | exact EX.subN (m := 9223372036854775807) rfl rfl rfl (by omega) | exact EX.subZ (m := 9223372036854775807) rfl rfl rfl rfl (by omega)) ?_
                  refine OW.val rfl rfl (by first | exact EX.gtrN rfl rfl | exact EX.gtrZ rfl rfl) ?_
                  refine OW.val rfl rfl (EX.pickF rfl rfl) ?_
                  refine OW.nil ?_
                  refine KW.as 50 (.bool (decide ((x.1 < 30 ∨ x.1 > n ∨ x.2 < 1 ∨ x.2 > n - x.1)))) rfl (congrArg Value.bool (decide_eq_decide.2 (by omega))) ?_
                  refine KW.meet1 (()) ⟨rfl, rfl, rfl, rfl, rfl, rfl, trivial⟩ rfl ?_
                  trivial
          · rintro _ _
            refine KW.condD rfl (fun hbad => ?_) (fun hbad => ?_)
            · refine KW.seq (KW.region ?_)
              refine OW.val rfl rfl (EX.assign rfl) ?_
              refine OW.val rfl rfl (EX.assign rfl) ?_
              refine OW.nil ?_
              refine KW.ret (ret2 rfl rfl rfl ?_)
              rw [no (fun h => by have := hfitx h; unfold fitX at this; omega)]
              exact ⟨⟨_, rfl⟩, hx.trans x3⟩
            · have hfit : fitX n x := by unfold fitX; omega
              obtain ⟨x1, x2⟩ := x
              unfold fitX at hfit
              simp only at hfit hbad
              obtain ⟨a, rfl⟩ := Int.eq_ofNat_of_zero_le (show 0 ≤ x1 by omega)
              obtain ⟨m, rfl⟩ := Int.eq_ofNat_of_zero_le (show 0 ≤ x2 by omega)
              replace hb3 : Bk w3 xb 88 [.int .i64 ((a : Nat) : Int), .int .i64 ((m : Nat) : Int)] := hb3
              refine KW.skip (KW.seq (KW.region ?_))
              refine OW.val rfl rfl (EX.fieldAddr (off := 0) Tryz.underlying88 rfl rfl ti3 rfl rfl) ?_
              refine OW.val rfl rfl (EX.load Tryz.underlying3 rfl rfl (hb3.cell_of rfl)) ?_
              refine OW.val rfl rfl (EX.assign rfl) ?_
              refine OW.nil ?_
              refine KW.cut1 (fun (wq : World) => (∀ k : Nat, a ≤ k → k < a + m → marked (l.take i) k = false) ∧ Bk wq ob 4 (marksV n (fun k => marked (l.take (i + 1)) k)) ∧ Mo wr wq [ob]) (fun (wq : World) => [(0, .slice (some ⟨b, o, none⟩) l.length c), (1, .int .i64 ((n : Nat) : Int)), (6, .slice (some ⟨ob, 0, none⟩) n n), (7, .int .i64 ((i : Nat) : Int))]) (fun (wq : World) => wq) ?_ ?_
              · refine KW.block ?_
                refine KW.loop2 (fun (k : Nat) (wq : World) => a ≤ k ∧ k ≤ a + m ∧ (∀ j : Nat, a ≤ j → j < k → marked (l.take i) j = false) ∧ Bk wq ob 4 (marksV n (fun j => or (marked (l.take i) j) (decide (a ≤ j ∧ j < k)))) ∧ Bk wq xb 88 [.int .i64 ((a : Nat) : Int), .int .i64 ((m : Nat) : Int)] ∧ Mo wr wq [ob]) (fun (k : Nat) (wq : World) => [(0, .slice (some ⟨b, o, none⟩) l.length c), (1, .int .i64 ((n : Nat) : Int)), (6, .slice (some ⟨ob, 0, none⟩) n n), (7, .int .i64 ((i : Nat) : Int)), (8, .pointer (some ⟨xb, 0, none⟩)), (9, .int .i64 ((k : Nat) : Int))]) (fun (k : Nat) (wq : World) => wq) (fun (k : Nat) (wq : World) => a + m - k) (a) (w3) ⟨rfl, rfl, rfl, rfl, rfl, rfl, trivial⟩ rfl ?_ ?_
                · refine ⟨Nat.le_refl _, by omega, fun j h1 h2 => by omega, ?_, hb3, Mo.of_ext x3 _⟩
                  have e : (fun j => or (marked (l.take i) ((j : Nat) : Int)) (decide (a ≤ j ∧ j < a))) = fun j : Nat => marked (l.take i) (j : Int) := by
                    funext j
                    rw [decide_eq_false (by omega), Bool.or_false]
                  rw [e]
                  exact hob3
                · rintro k wq ⟨hk1, hk2, hno, hobq, hbq, hmq⟩
                  refine KW.seq (KW.seq (KW.region ?_))
                  refine OW.val rfl rfl (EX.move rfl) ?_
                  refine OW.val rfl rfl (EX.fieldAddr (off := 0) Tryz.underlying88 rfl rfl ti3 rfl rfl) ?_
                  refine OW.val rfl rfl (EX.load Tryz.underlying3 rfl rfl (hbq.cell_of rfl)) ?_
                  refine OW.val rfl rfl (EX.fieldAddr (off := 1) Tryz.underlying88 rfl rfl ti3 rfl rfl) ?_
                  refine OW.val rfl rfl (EX.load Tryz.underlying3 rfl rfl (hbq.cell_of rfl)) ?_
                  refine OW.val rfl rfl (by first | exact EX.addN (m := 9223372036854775807) rfl rfl rfl (by omega) | exact EX.addZ (m := 9223372036854775807) rfl rfl rfl rfl (by omega)) ?_
                  refine OW.val rfl rfl (by first | exact EX.lssN rfl rfl | exact EX.lssZ rfl rfl) ?_
                  refine OW.nil ?_
                  refine KW.condD rfl (fun hkl => ?_) (fun hkl => ?_)
                  · have hkn : k < n := by omega
                    have hik : inX ((a : Nat), (m : Nat)) (k : Int) = true := by unfold inX; rw [decide_eq_true_eq]; simp only; omega
                    have hcur : or (marked (l.take i) (k : Int)) (decide (a ≤ k ∧ k < k)) = marked (l.take i) (k : Int) := by rw [decide_eq_false (by omega), Bool.or_false]
                    have hcl := hobq.cell_of (marksV_get (fun j => or (marked (l.take i) ((j : Nat) : Int)) (decide (a ≤ j ∧ j < k))) hkn)
                    simp only [hcur] at hcl
                    refine KW.skip (KW.seq (KW.block (KW.seq (KW.seq (KW.region ?_)))))
                    refine OW.val rfl rfl (EX.move rfl) ?_
                    refine OW.val rfl rfl (EX.move rfl) ?_
                    refine OW.val rfl rfl (by first | exact EX.indexAddrS0 Tryz.underlying47 ti4 rfl rfl (by omega) | exact EX.indexAddrS1 Tryz.underlying47 ti4 rfl rfl (by omega)) ?_
                    refine OW.val rfl rfl (EX.load Tryz.underlying4 rfl rfl (hcl)) ?_
                    refine OW.nil ?_
                    refine KW.cond rfl (fun hmk => ?_) (fun hmk => ?_)
                    · refine KW.seq (KW.region ?_)
                      refine OW.val rfl rfl (EX.assign rfl) ?_
                      refine OW.val rfl rfl (EX.assign rfl) ?_
                      refine OW.nil ?_
                      refine KW.ret (ret2 rfl rfl rfl ?_)
                      rw [no (hnm k hik hmk)]
                      exact ⟨⟨_, rfl⟩, below_mo hx hmq hx.size (fun q hq => by simp at hq; omega)⟩
                    · refine KW.skip (KW.region ?_)
                      refine OW.val rfl rfl (EX.move rfl) ?_
                      refine OW.val rfl rfl (EX.move rfl) ?_
                      refine OW.val rfl rfl (by first | exact EX.indexAddrS0 Tryz.underlying47 ti4 rfl rfl (by omega) | exact EX.indexAddrS1 Tryz.underlying47 ti4 rfl rfl (by omega)) ?_
                      refine OW.storeB rfl ti4 rfl rfl (by first | rfl | assumption | exact Own.one (by assumption)) (hobq) (by rw [marksV_len]; exact hkn) ?_
                      rintro wp hobp hmp
                      refine OW.nil ?_
                      refine KW.leave (KW.region ?_)
                      refine OW.val rfl rfl (EX.move rfl) ?_
                      refine OW.val rfl rfl (by first | exact EX.addN (b := 1) (m := 9223372036854775807) rfl rfl rfl (by omega) | exact EX.addZ (m := 9223372036854775807) rfl rfl rfl rfl (by omega)) ?_
                      refine OW.val rfl rfl (EX.assign rfl) ?_
                      refine OW.nil ?_
                      rw [marksV_set _ (fun j => or (marked (l.take i) ((j : Nat) : Int)) (decide (a ≤ j ∧ j < k + 1))) hkn (by rw [decide_eq_true (by omega), Bool.or_true]) (fun j hj => by rw [decide_eq_decide.2 (show (a ≤ j ∧ j < k + 1) ↔ (a ≤ j ∧ j < k) by omega)])] at hobp
                      refine KW.back2 (k + 1) (wp) ⟨rfl, rfl, rfl, rfl, rfl, rfl, trivial⟩ rfl ?_ (by omega)
                      refine ⟨by omega, by omega, fun j h1 h2 => ?_, hobp, hbq.mo hmp (by simp; exact hxo), hmq.trans hmp⟩
                      rcases Nat.lt_or_ge j k with q | q
                      · exact hno j h1 q
                      · obtain rfl : j = k := by omega
                        exact hmk
                  · obtain rfl : k = a + m := by omega
                    refine KW.exit rfl ?_
                    refine KW.meet1 (wq) ⟨rfl, rfl, rfl, rfl, trivial⟩ rfl ?_
                    refine ⟨fun j h1 h2 => hno j h1 h2, ?_, hmq⟩
                    have e : (fun j => or (marked (l.take i) ((j : Nat) : Int)) (decide (a ≤ j ∧ j < a + m))) = fun j : Nat => marked (l.take (i + 1)) (j : Int) := by
                      funext j
                      rw [hsn, marked_snoc]
                      have : inX ((a : Nat), (m : Nat)) (j : Int) = decide (a ≤ j ∧ j < a + m) := by
                        unfold inX
                        exact decide_eq_decide.2 (by simp only; omega)
                      rw [this]
                    rw [e] at hobq
                    exact hobq
              · rintro wq ⟨hno, hobq, hmq⟩
                refine KW.leave (KW.region ?_)
                refine OW.val rfl rfl (EX.move rfl) ?_
                refine OW.val rfl rfl (by first | exact EX.addN (b := 1) (m := 9223372036854775807) rfl rfl rfl (by omega) | exact EX.addZ (m := 9223372036854775807) rfl rfl rfl rfl (by omega)) ?_
                refine OW.val rfl rfl (EX.assign rfl) ?_
                refine OW.nil ?_
                refine KW.back2 (i + 1) (wq) ⟨rfl, rfl, rfl, rfl, trivial⟩ rfl ?_ (by omega)
                refine ⟨by omega, ?_, hobq, below_mo hx hmq hx.size (fun q hq => by simp at hq; omega)⟩
                rw [hsn]
                refine hpre.snoc (by unfold fitX; omega) fun k hk => ?_
                unfold inX at hk
                rw [decide_eq_true_eq] at hk
                obtain ⟨k, rfl⟩ := Int.eq_ofNat_of_zero_le (show 0 ≤ k by omega)
                exact hno k (by omega) (by omega)
        · obtain rfl : i = l.length := by omega
          rw [List.take_length] at hpre
          refine KW.exit rfl (KW.seq (KW.region ?_))
          refine OW.val rfl rfl (EX.move rfl) ?_
          refine OW.val rfl rfl (EX.assign rfl) ?_
          refine OW.val rfl rfl (EX.assign rfl) ?_
          refine OW.nil ?_
          refine KW.ret (ret2 rfl rfl rfl ?_)
          rw [decide_eq_true (⟨by omega, hpre.fit, hpre.far⟩ : OkX l n)]
          exact ⟨⟨_, rfl⟩, hx⟩
theorem rspace_s (l : List Xt) (hl : l.length ≤ 1000000) (cap : Int) (A : Option Addr) (c B : Nat) (w : World) (hs : Sl w B A (xtsV l)) :
    Ret Tryz.prog 42 [.slice A l.length c, .int .i64 cap] w fun v w' => v = .int .i64 ((spaceC l cap : Nat) : Int) ∧ Ext w w' := by
  refine Ret.enter Tryz.func42 rfl Tryz.ntmps42 (by kernel_rfl) rfl ?_
  refine KW.seq (KW.region ?_)
  refine OW.val rfl rfl (EX.assign rfl) ?_
  refine OW.nil ?_
  refine KW.seq (KW.region ?_)
  refine OW.val rfl rfl (EX.move rfl) ?_
  refine OW.val rfl rfl (EX.move rfl) ?_
  refine OW.call rfl rfl rfl (taken_s l hl cap A c B w hs) ?_
  rintro _ w1 ⟨⟨q, rfl⟩, hx1⟩
  refine OW.val rfl rfl (EX.move rfl) ?_
  refine OW.val rfl rfl (EX.extract rfl rfl) ?_
  refine OW.val rfl rfl (EX.extract rfl rfl) ?_
  refine OW.val rfl rfl (EX.assign rfl) ?_
  refine OW.val rfl rfl (EX.assign rfl) ?_
  refine OW.nil ?_
  refine KW.seq (KW.seq (KW.region ?_))
  refine OW.val rfl rfl (EX.move rfl) ?_
  refine OW.val rfl rfl (by first | exact EX.notD rfl | exact EX.notB rfl) ?_
  refine OW.nil ?_
  refine KW.condD rfl (fun h => ?_) (fun h => ?_)
  · rw [show spaceC l cap = 220 by unfold spaceC; rw [if_neg h]]
    refine KW.seq (KW.region ?_)
    refine OW.val rfl rfl (EX.assign rfl) ?_
    refine OW.nil ?_
    refine KW.ret (ret1 rfl rfl ?_)
    exact ⟨rfl, hx1⟩
  · rw [show spaceC l cap = 0 by unfold spaceC; rw [if_pos (Decidable.of_not_not h)]]
    refine KW.skip (KW.seq (KW.region ?_))
    refine OW.val rfl rfl (EX.assign rfl) ?_
    refine OW.nil ?_
    refine KW.ret (ret1 rfl rfl ?_)
    exact ⟨rfl, hx1⟩
end Go.Proofs.YthgfdpcpbghkpaaGreatDoor
namespace Go.Proofs.YthgfdpcpbghkpaaGreatDoor
open Go.RowKit Pth
def MLen (w : World) : Prop := ∃ m : Int, w.cell? ⟨0, 0, none⟩ = some (.int .i64 m)
theorem MLen.ext {w w' : World} (h : MLen w) (hx : Ext w w') : MLen w' := by
  obtain ⟨m, hm⟩ := h
  refine ⟨m, ?_⟩
  have hlt : 0 < w.heap.size := World.block_lt_of_cell? w _ hm
  have := hx.block _ hlt
  unfold World.cell? at hm ⊢
  rwa [this]
theorem split_c (s : List UInt8) (hs : s.length ≤ 2000000) (w : World) (hG : MLen w) :
    Ret Tryz.prog 96 [str s, str [47]] w fun v w' => ∃ b, v = .slice (some ⟨b, 0, none⟩) (parts s).length (parts s).length ∧ w.heap.size ≤ b ∧ Bk w' b 9 (txtsV (parts s)) ∧ Ext w w' := by
  have hn : (!(Tryz.f96.name == "runtime.NumGoroutine") && Tryz.f96.body.isSome) = true := by kernel_rfl
  obtain ⟨m, hm⟩ := hG
  have h := Tryz.strings_Split ⟨s.toArray⟩ ⟨#[47]⟩ m w (by show s.length < _; omega) hm (by show 1 ≤ 1; omega)
  have hd := Go.Lib.splitB_data ⟨#[47]⟩ 0 (Go.Lib.countB ⟨s.toArray⟩ ⟨#[47]⟩) ⟨s.toArray⟩
  have hp : (Go.Lib.splitB ⟨#[47]⟩ 0 (Go.Lib.countB ⟨s.toArray⟩ ⟨#[47]⟩) ⟨s.toArray⟩).map (·.data.toList) = parts s := hd.trans (split_parts _ s rfl)
  have hlen := congrArg List.length hp
  rw [List.length_map, Go.Lib.splitB_all ⟨#[47]⟩ (by show 1 ≤ 1; omega) 0 _ ⟨s.toArray⟩ rfl] at hlen
  have hv : (Go.Lib.splitB ⟨#[47]⟩ 0 (Go.Lib.countB ⟨s.toArray⟩ ⟨#[47]⟩) ⟨s.toArray⟩).map Value.string = txtsV (parts s) := by
    rw [← hp, txtsV, List.map_map]
    rfl
  rw [hv, hlen] at h
  refine (Ret.of_calls Tryz.func96 hn (h.mono (fun e w' q => q))).mono ?_
  rintro v w' ⟨rfl, rfl⟩
  exact ⟨w.heap.size, rfl, Nat.le_refl _, Bk.new w _ _, Ext.alloc w _⟩
theorem parts_p (s : List UInt8) (hs : s.length ≤ 2000000) (w : World) (hG : MLen w) :
    Ret Tryz.prog 69 [str s] w fun v w' => ∃ b, v = .slice (some ⟨b, 0, none⟩) (parts s).length (parts s).length ∧ w.heap.size ≤ b ∧ Bk w' b 9 (txtsV (parts s)) ∧ Ext w w' := by
  refine Ret.enter Tryz.func69 rfl Tryz.ntmps69 (by kernel_rfl) rfl ?_
  refine KW.seq (KW.region ?_)
  refine OW.val rfl rfl (EX.assign rfl) ?_
  refine OW.nil ?_
  refine KW.seq (KW.region ?_)
  refine OW.val rfl rfl (EX.move rfl) ?_
  refine OW.call rfl rfl rfl (split_c s hs w hG) ?_
  rintro _ w1 ⟨b, rfl, hb⟩
  refine OW.val rfl rfl (EX.assign rfl) ?_
  refine OW.nil ?_
  refine KW.ret (ret1 rfl rfl ?_)
  exact ⟨b, rfl, hb⟩
theorem parts_len (s : List UInt8) : (parts s).length ≤ s.length + 1 := by
  have h1 := wt_len (parts s)
  rwa [wt_parts] at h1
theorem compare_c (x y : List UInt8) (w : World) : Ret Tryz.prog 70 [str x, str y] w fun v w' => v = .int .i64 (Go.Lib.compareBytes x y) ∧ w = w' := by
  have hn : (!(Tryz.f70.name == "runtime.NumGoroutine") && Tryz.f70.body.isSome) = true := by kernel_rfl
  refine (Ret.of_calls Tryz.func70 hn ((Tryz.strings_Compare ⟨x.toArray⟩ ⟨y.toArray⟩ w).mono (fun e w' q => q))).mono ?_
  rintro v w' ⟨rfl, rfl⟩
  exact ⟨rfl, rfl⟩
theorem RetQ.of1 {P : Program} {f : FuncId} {args : List Value} {w : World} {v : Value} (h : Ret P f args w fun v' w' => v' = v ∧ w = w') : RetQ P f args w v :=
  h.mono fun _ _ ⟨h1, h2⟩ => ⟨h1, 0, by subst h2; rfl⟩
theorem cmpL_skip : ∀ (i : Nat) (x y : Txts), (∀ j, j < i → x[j]? = y[j]?) → i ≤ x.length → i ≤ y.length → cmpL x y = cmpL (x.drop i) (y.drop i)
  | 0, x, y, _, _, _ => rfl
  | i + 1, [], y, _, h, _ => by simp at h
  | i + 1, x, [], _, _, h => by simp at h
  | i + 1, a :: x, b :: y, h, h1, h2 => by
    have h0 := h 0 (by omega)
    simp only [List.getElem?_cons_zero, Option.some.injEq] at h0
    subst h0
    rw [cmpL, if_pos rfl]
    simp only [List.drop_succ_cons]
    exact cmpL_skip i x y (fun j hj => by have := h (j + 1) (by omega); simpa using this) (by simpa using h1) (by simpa using h2)
theorem cmpL_at {x y : Txts} {i : Nat} (hs : ∀ j, j < i → x[j]? = y[j]?) (h1 : i < x.length) (h2 : i < y.length) (hne : x[i] ≠ y[i]) : cmpL x y = Go.Lib.compareBytes x[i] y[i] := by
  rw [cmpL_skip i x y hs (by omega) (by omega), List.drop_eq_getElem_cons h1, List.drop_eq_getElem_cons h2, cmpL, if_neg hne]
theorem cmpL_end {x y : Txts} {i : Nat} (hs : ∀ j, j < i → x[j]? = y[j]?) (hi : i = min x.length y.length) : cmpL x y = if x.length < y.length then -1 else if y.length < x.length then 1 else 0 := by
  rw [cmpL_skip i x y hs (by omega) (by omega)]
  rcases hx : x.drop i with _ | ⟨a, x'⟩
  · rcases hy : y.drop i with _ | ⟨b, y'⟩
    · have e1 := congrArg List.length hx
      have e2 := congrArg List.length hy
      simp only [List.length_drop, List.length_nil] at e1 e2
      rw [if_neg (by omega), if_neg (by omega)]
      rfl
    · have e1 := congrArg List.length hx
      have e2 := congrArg List.length hy
      simp only [List.length_drop, List.length_nil, List.length_cons] at e1 e2
      rw [if_pos (by omega)]
      rfl
  · rcases hy : y.drop i with _ | ⟨b, y'⟩
    · have e1 := congrArg List.length hx
      have e2 := congrArg List.length hy
      simp only [List.length_drop, List.length_nil, List.length_cons] at e1 e2
      rw [if_neg (by omega), if_pos (by omega)]
      rfl
    · have e1 := congrArg List.length hx
      have e2 := congrArg List.length hy
      simp only [List.length_drop, List.length_cons] at e1 e2
      omega
theorem same_snoc {x y : Txts} {i : Nat} (hs : ∀ j, j < i → x[j]? = y[j]?) (h1 : i < x.length) (h2 : i < y.length) (h : x[i] = y[i]) : ∀ j, j < i + 1 → x[j]? = y[j]? := fun j hj => by
  by_cases e : j = i
  · subst e
    rw [List.getElem?_eq_getElem h1, List.getElem?_eq_getElem h2, h]
  · exact hs j (by omega)
set_option maxRecDepth 20000 in
theorem cmp_s (a b : List UInt8) (ha : a.length ≤ 2000000) (hb : b.length ≤ 2000000) (w : World) (hG : MLen w) :
    Ret Tryz.prog 38 [str a, str b] w fun v w' => v = .int .i64 (cmpP a b) ∧ Ext w w' := by
  have la := parts_len a
  have lb := parts_len b
  refine Ret.enter Tryz.func38 rfl Tryz.ntmps38 (by kernel_rfl) rfl ?_
  refine KW.seq (KW.region ?_)
  refine OW.val rfl rfl (EX.assign rfl) ?_
  refine OW.nil ?_
  refine KW.seq (KW.region ?_)
  refine OW.val rfl rfl (EX.move rfl) ?_
  refine OW.call rfl rfl rfl (parts_p a ha w hG) ?_
  rintro _ w1 ⟨ba, rfl, hga, hba, hx1⟩
  refine OW.val rfl rfl (EX.move rfl) ?_
  refine OW.call rfl rfl rfl (parts_p b hb w1 (hG.ext hx1)) ?_
  rintro _ w2 ⟨bb, rfl, hgb, hbb, hx2⟩
  refine OW.val rfl rfl (EX.assign rfl) ?_
  refine OW.val rfl rfl (EX.assign rfl) ?_
  refine OW.nil ?_
  refine KW.seq (KW.seq (KW.region ?_))
  refine OW.val rfl rfl (EX.move rfl) ?_
  refine OW.val rfl rfl (EX.lenA Tryz.underlying24 rfl) ?_
  refine OW.val rfl rfl (EX.move rfl) ?_
  refine OW.val rfl rfl (EX.lenA Tryz.underlying24 rfl) ?_
  refine OW.val rfl rfl (by first | exact EX.minN rfl rfl | exact EX.minZ rfl rfl) ?_
  refine OW.val rfl rfl (EX.move rfl) ?_
  refine OW.nil ?_
  refine KW.block ?_
  have x2 := hx1.trans hx2
  have hba2 := hba.ext hx2
  unfold cmpP
  generalize hX : parts a = X at hba2 la
  generalize hY : parts b = Y at hbb lb
  refine KW.loop2 (fun (i : Nat) (wr : World) => i ≤ min X.length Y.length ∧ (∀ j, j < i → X[j]? = Y[j]?) ∧ Ext w2 wr) (fun (i : Nat) (wr : World) => [(5, .slice (some ⟨ba, 0, none⟩) X.length X.length), (6, .slice (some ⟨bb, 0, none⟩) Y.length Y.length), (16, .int .i64 (((min X.length Y.length) : Nat) : Int)), (17, .int .i64 ((i : Nat) : Int))]) (fun (i : Nat) (wr : World) => wr) (fun (i : Nat) (wr : World) => min X.length Y.length - i) (0) (w2) ⟨rfl, rfl, rfl, rfl, trivial⟩ rfl ?_ ?_
  · exact ⟨by omega, fun j hj => by omega, Ext.refl _⟩
  · rintro i wr ⟨hi, hs, hxr⟩
    have xr := x2.trans hxr
    have hbr := hba2.ext hxr
    have hcr := hbb.ext hxr
    refine KW.seq (KW.region ?_)
    refine OW.val rfl rfl (by first | exact EX.lssN rfl rfl | exact EX.lssZ rfl rfl) ?_
    refine OW.nil ?_
    refine KW.seq ?_
    refine KW.condD rfl (fun hlt => ?_) (fun hlt => ?_)
    · have h1 : i < X.length := by omega
      have h2 : i < Y.length := by omega
      have g1 := txtsV_get h1
      have g2 := txtsV_get h2
      refine KW.skip (KW.seq (KW.block (KW.seq (KW.region ?_))))
      refine OW.val rfl rfl (EX.move rfl) ?_
      refine OW.val rfl rfl (EX.assign rfl) ?_
      refine OW.nil ?_
      refine KW.seq ?_
      refine KW.regionQ (by kernel_rfl) (by kernel_rfl) ?_
      refine QW.val rfl rfl (fun _ => EX.move rfl) ?_
      refine QW.val rfl rfl (fun _ => EX.move rfl) ?_
      refine QW.val rfl rfl (fun _ => by first | exact EX.indexAddrS0 Tryz.underlying24 ti9 rfl rfl (by omega) | exact EX.indexAddrS1 Tryz.underlying24 ti9 rfl rfl (by omega)) ?_
      refine QW.val rfl rfl (fun _ => EX.load Tryz.underlying9 rfl rfl ((hbr.drewN _).cell_of g1)) ?_
      refine QW.val rfl rfl (fun _ => EX.move rfl) ?_
      refine QW.val rfl rfl (fun _ => EX.move rfl) ?_
      refine QW.val rfl rfl (fun _ => by first | exact EX.indexAddrS0 Tryz.underlying24 ti9 rfl rfl (by omega) | exact EX.indexAddrS1 Tryz.underlying24 ti9 rfl rfl (by omega)) ?_
      refine QW.val rfl rfl (fun _ => EX.load Tryz.underlying9 rfl rfl ((hcr.drewN _).cell_of g2)) ?_
      refine QW.val rfl rfl (fun _ => EX.neqS rfl rfl) ?_
      refine QW.nil (fun nq => ?_)
      refine KW.condD rfl (fun hne => ?_) (fun hne => ?_)
      · have hcm := cmpL_at hs h1 h2 hne
        have hbd := hbr.drewN nq
        have hcd := hcr.drewN nq
        refine KW.seq ?_
        refine KW.regionQ (by kernel_rfl) (by kernel_rfl) ?_
        refine QW.val rfl rfl (fun _ => EX.move rfl) ?_
        refine QW.val rfl rfl (fun _ => EX.move rfl) ?_
        refine QW.val rfl rfl (fun _ => by first | exact EX.indexAddrS0 Tryz.underlying24 ti9 rfl rfl (by omega) | exact EX.indexAddrS1 Tryz.underlying24 ti9 rfl rfl (by omega)) ?_
        refine QW.val rfl rfl (fun _ => EX.load Tryz.underlying9 rfl rfl ((hbd.drewN _).cell_of g1)) ?_
        refine QW.val rfl rfl (fun _ => EX.move rfl) ?_
        refine QW.val rfl rfl (fun _ => EX.move rfl) ?_
        refine QW.val rfl rfl (fun _ => by first | exact EX.indexAddrS0 Tryz.underlying24 ti9 rfl rfl (by omega) | exact EX.indexAddrS1 Tryz.underlying24 ti9 rfl rfl (by omega)) ?_
        refine QW.val rfl rfl (fun _ => EX.load Tryz.underlying9 rfl rfl ((hcd.drewN _).cell_of g2)) ?_
        refine QW.call rfl rfl rfl (fun _ => RetQ.of1 (compare_c X[i] Y[i] _)) ?_
        refine QW.val rfl rfl (fun _ => EX.assign rfl) ?_
        refine QW.nil (fun nq => ?_)
        refine KW.ret (ret1 rfl rfl ?_)
        rw [hcm]
        exact ⟨rfl, (xr.trans (Ext.drewN _ _)).trans (Ext.drewN _ _)⟩
      · refine KW.skip (KW.leave (KW.region ?_))
        refine OW.val rfl rfl (by first | exact EX.addN (b := 1) (m := 9223372036854775807) rfl rfl rfl (by omega) | exact EX.addZ (m := 9223372036854775807) rfl rfl rfl rfl (by omega)) ?_
        refine OW.val rfl rfl (EX.move rfl) ?_
        refine OW.nil ?_
        refine KW.back2 (i + 1) (wr.drewN nq) ⟨rfl, rfl, rfl, rfl, trivial⟩ rfl ?_ (by omega)
        exact ⟨by omega, same_snoc hs h1 h2 (by simpa using hne), hxr.trans (Ext.drewN wr nq)⟩
    · have hce := cmpL_end hs (by omega)
      refine KW.exit rfl (KW.seq (KW.block (KW.seq (KW.region ?_))))
      refine OW.val rfl rfl (EX.move rfl) ?_
      refine OW.val rfl rfl (EX.lenA Tryz.underlying24 rfl) ?_
      refine OW.val rfl rfl (EX.move rfl) ?_
      refine OW.val rfl rfl (EX.lenA Tryz.underlying24 rfl) ?_
      refine OW.val rfl rfl (by first | exact EX.lssN rfl rfl | exact EX.lssZ rfl rfl) ?_
      refine OW.val rfl rfl (EX.assign rfl) ?_
      refine OW.nil ?_
      refine KW.condD rfl (fun k1 => ?_) (fun k1 => ?_)
      · rw [if_pos k1] at hce
        refine KW.seq (KW.region ?_)
        refine OW.val rfl rfl (EX.assign rfl) ?_
        refine OW.nil ?_
        refine KW.ret (ret1 rfl rfl ?_)
        rw [hce]
        exact ⟨rfl, xr⟩
      · rw [if_neg k1] at hce
        refine KW.seq (KW.region ?_)
        refine OW.val rfl rfl (EX.move rfl) ?_
        refine OW.val rfl rfl (EX.lenA Tryz.underlying24 rfl) ?_
        refine OW.val rfl rfl (EX.move rfl) ?_
        refine OW.val rfl rfl (EX.lenA Tryz.underlying24 rfl) ?_
        refine OW.val rfl rfl (by first | exact EX.gtrN rfl rfl | exact EX.gtrZ rfl rfl) ?_
        refine OW.val rfl rfl (EX.assign rfl) ?_
        refine OW.nil ?_
        refine KW.condD rfl (fun k2 => ?_) (fun k2 => ?_)
        · rw [if_pos (by omega)] at hce
          refine KW.seq (KW.region ?_)
          refine OW.val rfl rfl (EX.assign rfl) ?_
          refine OW.nil ?_
          refine KW.ret (ret1 rfl rfl ?_)
          rw [hce]
          exact ⟨rfl, xr⟩
        · rw [if_neg (by omega)] at hce
          refine KW.skip (KW.leave (KW.seq (KW.region ?_)))
          refine OW.val rfl rfl (EX.assign rfl) ?_
          refine OW.nil ?_
          refine KW.ret (ret1 rfl rfl ?_)
          rw [hce]
          exact ⟨rfl, xr⟩
theorem less_cb : ∀ x y : List UInt8, lessB x y = decide (Go.Lib.compareBytes x y = -1)
  | [], [] => rfl
  | [], _ :: _ => rfl
  | _ :: _, [] => rfl
  | a :: x, b :: y => by
    have ih := less_cb x y
    unfold lessB at ih ⊢
    unfold Op.bytesLess Go.Lib.compareBytes
    rw [ih]
    by_cases h1 : a < b
    · simp [h1]
    · by_cases h2 : b < a
      · have h3 : a ≠ b := fun e => h1 (by subst e; exact h2)
        simp [h1, h2, h3]
      · have h3 : a = b := by
          have h1' : ¬ a.toNat < b.toNat := h1
          have h2' : ¬ b.toNat < a.toNat := h2
          exact UInt8.toNat_inj.1 (by omega)
        subst h3
        simp
set_option maxRecDepth 20000 in
theorem rcmp_s (a b : List UInt8) (ha : a.length ≤ 2000000) (hb : b.length ≤ 2000000) (w : World) :
    Ret Tryz.prog 41 [str a, str b] w fun v w' => v = .int .i64 (cmpP a b) ∧ Ext w w' := by
  have la := parts_len a
  have lb := parts_len b
  have pa : 0 < (parts a).length := List.length_pos_iff.2 (parts_ne a)
  have pb : 0 < (parts b).length := List.length_pos_iff.2 (parts_ne b)
  refine Ret.enter Tryz.func41 rfl Tryz.ntmps41 (by kernel_rfl) rfl ?_
  refine KW.seq (KW.region ?_)
  refine OW.val rfl rfl (EX.assign rfl) ?_
  refine OW.nil ?_
  refine KW.seq (KW.region ?_)
  refine OW.val rfl rfl (EX.move rfl) ?_
  refine OW.call rfl rfl rfl (rparts_s a (by omega) w) ?_
  rintro va w1 ⟨hoa, hx1⟩
  refine OW.val rfl rfl (EX.move rfl) ?_
  refine OW.call rfl rfl rfl (rparts_s b (by omega) w1) ?_
  rintro vb w2 ⟨hob, hx2⟩
  refine OW.val rfl rfl (EX.assign rfl) ?_
  refine OW.val rfl rfl (EX.assign rfl) ?_
  refine OW.nil ?_
  refine KW.seq (KW.seq (KW.region ?_))
  refine OW.val rfl rfl (EX.assign rfl) ?_
  refine OW.nil ?_
  refine KW.block ?_
  obtain ⟨ga, ca, ra, rfl, _, hba, _, _, _⟩ := (hoa.ext hx2).blk (by rw [txtsV_length]; exact pa)
  obtain ⟨gb, cb, rb, rfl, _, hbb, _, _, _⟩ := hob.blk (by rw [txtsV_length]; exact pb)
  have x2 := hx1.trans hx2
  clear hoa hob
  unfold cmpP
  generalize hX : parts a = X at hba la
  generalize hY : parts b = Y at hbb lb
  refine KW.loop2 (fun (i : Nat) (wr : World) => i ≤ X.length ∧ i ≤ Y.length ∧ (∀ j, j < i → X[j]? = Y[j]?) ∧ Ext w2 wr) (fun (i : Nat) (wr : World) => [(5, .slice (some ⟨ga, 0, none⟩) X.length ca), (6, .slice (some ⟨gb, 0, none⟩) Y.length cb), (7, .int .i64 ((i : Nat) : Int))]) (fun (i : Nat) (wr : World) => wr) (fun (i : Nat) (wr : World) => X.length - i) (0) (w2) ⟨rfl, rfl, rfl, trivial⟩ rfl ?_ ?_
  · exact ⟨by omega, by omega, fun j hj => by omega, Ext.refl _⟩
  · rintro i wr ⟨hi, hi2, hs, hxr⟩
    have xr := x2.trans hxr
    have hbr := hba.ext hxr
    have hcr := hbb.ext hxr
    have hend : i = min X.length Y.length → cmpL X Y = if X.length < Y.length then -1 else if Y.length < X.length then 1 else 0 := cmpL_end hs
    refine KW.seq (KW.seq ?_)
    refine KW.region ?_
    refine OW.val rfl rfl (EX.move rfl) ?_
    refine OW.val rfl rfl (EX.move rfl) ?_
    refine OW.val rfl rfl (EX.lenA Tryz.underlying24 rfl) ?_
    refine OW.val rfl rfl (by first | exact EX.lssN rfl rfl | exact EX.lssZ rfl rfl) ?_
    refine OW.val rfl rfl (EX.move rfl) ?_
    refine OW.splitD 16 rfl (fun c1 => ?_) (fun c1 => ?_)
    · refine OW.val rfl rfl (EX.move rfl) ?_
      refine OW.val rfl rfl (EX.move rfl) ?_
      refine OW.val rfl rfl (EX.lenA Tryz.underlying24 rfl) ?_
      refine OW.val rfl rfl (by first | exact EX.lssN rfl rfl | exact EX.lssZ rfl rfl) ?_
      refine OW.val rfl rfl (EX.pickT rfl rfl) ?_
      refine OW.nil ?_
      refine KW.condD rfl (fun c2 => ?_) (fun c2 => ?_)
      · have g1 : (txtsV X ++ ra)[i]? = some (str X[i]) := by rw [List.getElem?_append_left (by rw [txtsV_length]; exact c1)]; exact txtsV_get c1
        have g2 : (txtsV Y ++ rb)[i]? = some (str Y[i]) := by rw [List.getElem?_append_left (by rw [txtsV_length]; exact c2)]; exact txtsV_get c2
        refine KW.skip (KW.seq (KW.block (KW.seq (KW.seq ?_))))
        refine KW.regionQ (by kernel_rfl) (by kernel_rfl) ?_
        refine QW.val rfl rfl (fun _ => EX.move rfl) ?_
        refine QW.val rfl rfl (fun _ => EX.move rfl) ?_
        refine QW.val rfl rfl (fun _ => by first | exact EX.indexAddrS0 Tryz.underlying24 ti9 rfl rfl (by omega) | exact EX.indexAddrS1 Tryz.underlying24 ti9 rfl rfl (by omega)) ?_
        refine QW.val rfl rfl (fun _ => EX.load Tryz.underlying9 rfl rfl ((hbr.drewN _).cell_of g1)) ?_
        refine QW.val rfl rfl (fun _ => EX.move rfl) ?_
        refine QW.val rfl rfl (fun _ => EX.move rfl) ?_
        refine QW.val rfl rfl (fun _ => by first | exact EX.indexAddrS0 Tryz.underlying24 ti9 rfl rfl (by omega) | exact EX.indexAddrS1 Tryz.underlying24 ti9 rfl rfl (by omega)) ?_
        refine QW.val rfl rfl (fun _ => EX.load Tryz.underlying9 rfl rfl ((hcr.drewN _).cell_of g2)) ?_
        refine QW.val rfl rfl (fun _ => EX.lssS rfl rfl) ?_
        refine QW.nil (fun nq => ?_)
        rw [less_cb]
        refine KW.condD rfl (fun l1 => ?_) (fun l1 => ?_)
        · have hne : X[i] ≠ Y[i] := fun e => by rw [(Go.Proofs.YthgfdpcpbghkpaaGreatDoor.Pth.cb_eq _ _).2 e] at l1; omega
          have hcm := cmpL_at hs c1 c2 hne
          refine KW.seq (KW.region ?_)
          refine OW.val rfl rfl (EX.assign rfl) ?_
          refine OW.nil ?_
          refine KW.ret (ret1 rfl rfl ?_)
          rw [hcm, l1]
          exact ⟨rfl, xr.trans (Ext.drewN _ _)⟩
        · have hbd := hbr.drewN nq
          have hcd := hcr.drewN nq
          refine KW.skip (KW.seq ?_)
          refine KW.regionQ (by kernel_rfl) (by kernel_rfl) ?_
          refine QW.val rfl rfl (fun _ => EX.move rfl) ?_
          refine QW.val rfl rfl (fun _ => EX.move rfl) ?_
          refine QW.val rfl rfl (fun _ => by first | exact EX.indexAddrS0 Tryz.underlying24 ti9 rfl rfl (by omega) | exact EX.indexAddrS1 Tryz.underlying24 ti9 rfl rfl (by omega)) ?_
          refine QW.val rfl rfl (fun _ => EX.load Tryz.underlying9 rfl rfl ((hbd.drewN _).cell_of g1)) ?_
          refine QW.val rfl rfl (fun _ => EX.move rfl) ?_
          refine QW.val rfl rfl (fun _ => EX.move rfl) ?_
          refine QW.val rfl rfl (fun _ => by first | exact EX.indexAddrS0 Tryz.underlying24 ti9 rfl rfl (by omega) | exact EX.indexAddrS1 Tryz.underlying24 ti9 rfl rfl (by omega)) ?_
          refine QW.val rfl rfl (fun _ => EX.load Tryz.underlying9 rfl rfl ((hcd.drewN _).cell_of g2)) ?_
          refine QW.val rfl rfl (fun _ => EX.gtrS rfl rfl) ?_
          refine QW.nil (fun nq => ?_)
          refine KW.as 41 (.bool (decide (X[i] ≠ Y[i]))) rfl (congrArg Value.bool (by rw [less_cb, decide_eq_false l1, Bool.false_or, Bool.eq_iff_iff]; simp)) ?_
          refine KW.condD rfl (fun hne => ?_) (fun hne => ?_)
          · have hcm := cmpL_at hs c1 c2 hne
            have hv : Go.Lib.compareBytes X[i] Y[i] = 1 := by
              rcases cb_val X[i] Y[i] with h | h | h
              · exact absurd h l1
              · exact absurd ((cb_eq _ _).1 h) hne
              · exact h
            refine KW.seq (KW.region ?_)
            refine OW.val rfl rfl (EX.assign rfl) ?_
            refine OW.nil ?_
            refine KW.ret (ret1 rfl rfl ?_)
            rw [hcm, hv]
            exact ⟨rfl, (xr.trans (Ext.drewN _ _)).trans (Ext.drewN _ _)⟩
          · have hsn := same_snoc hs c1 c2 (by simpa using hne)
            refine KW.skip (KW.leave (KW.region ?_))
            refine OW.val rfl rfl (EX.move rfl) ?_
            refine OW.val rfl rfl (by first | exact EX.addN (b := 1) (m := 9223372036854775807) rfl rfl rfl (by omega) | exact EX.addZ (m := 9223372036854775807) rfl rfl rfl rfl (by omega)) ?_
            refine OW.val rfl rfl (EX.assign rfl) ?_
            refine OW.nil ?_
            refine KW.back2 (i + 1) ((wr.drewN _).drewN _) ⟨rfl, rfl, rfl, trivial⟩ rfl ?_ (by omega)
            exact ⟨by omega, by omega, hsn, (hxr.trans (Ext.drewN _ _)).trans (Ext.drewN _ _)⟩
      · have hce := hend (by omega)
        refine KW.exit rfl (KW.seq (KW.seq (KW.region ?_)))
        refine OW.val rfl rfl (EX.move rfl) ?_
        refine OW.val rfl rfl (EX.lenA Tryz.underlying24 rfl) ?_
        refine OW.val rfl rfl (EX.move rfl) ?_
        refine OW.val rfl rfl (EX.lenA Tryz.underlying24 rfl) ?_
        refine OW.val rfl rfl (by first | exact EX.lssN rfl rfl | exact EX.lssZ rfl rfl) ?_
        refine OW.nil ?_
        refine KW.condD rfl (fun k1 => ?_) (fun k1 => ?_)
        · omega
        · rw [if_neg k1] at hce
          refine KW.skip (KW.seq (KW.seq (KW.region ?_)))
          refine OW.val rfl rfl (EX.move rfl) ?_
          refine OW.val rfl rfl (EX.lenA Tryz.underlying24 rfl) ?_
          refine OW.val rfl rfl (EX.move rfl) ?_
          refine OW.val rfl rfl (EX.lenA Tryz.underlying24 rfl) ?_
          refine OW.val rfl rfl (by first | exact EX.gtrN rfl rfl | exact EX.gtrZ rfl rfl) ?_
          refine OW.nil ?_
          refine KW.condD rfl (fun k2 => ?_) (fun k2 => ?_)
          · rw [if_pos (by omega)] at hce
            refine KW.seq (KW.region ?_)
            refine OW.val rfl rfl (EX.assign rfl) ?_
            refine OW.nil ?_
            refine KW.ret (ret1 rfl rfl ?_)
            rw [hce]
            exact ⟨rfl, xr⟩
          · omega
    · have hce := hend (by omega)
      refine OW.pass rfl rfl ?_
      refine OW.pass rfl rfl ?_
      refine OW.pass rfl rfl ?_
      refine OW.pass rfl rfl ?_
      refine OW.val rfl rfl (EX.pickF rfl rfl) ?_
      refine OW.nil ?_
      refine KW.condF rfl (KW.exit rfl (KW.seq (KW.seq (KW.region ?_))))
      refine OW.val rfl rfl (EX.move rfl) ?_
      refine OW.val rfl rfl (EX.lenA Tryz.underlying24 rfl) ?_
      refine OW.val rfl rfl (EX.move rfl) ?_
      refine OW.val rfl rfl (EX.lenA Tryz.underlying24 rfl) ?_
      refine OW.val rfl rfl (by first | exact EX.lssN rfl rfl | exact EX.lssZ rfl rfl) ?_
      refine OW.nil ?_
      refine KW.condD rfl (fun k1 => ?_) (fun k1 => ?_)
      · rw [if_pos k1] at hce
        refine KW.seq (KW.region ?_)
        refine OW.val rfl rfl (EX.assign rfl) ?_
        refine OW.nil ?_
        refine KW.ret (ret1 rfl rfl ?_)
        rw [hce]
        exact ⟨rfl, xr⟩
      · rw [if_neg k1] at hce
        refine KW.skip (KW.seq (KW.seq (KW.region ?_)))
        refine OW.val rfl rfl (EX.move rfl) ?_
        refine OW.val rfl rfl (EX.lenA Tryz.underlying24 rfl) ?_
        refine OW.val rfl rfl (EX.move rfl) ?_
        refine OW.val rfl rfl (EX.lenA Tryz.underlying24 rfl) ?_
        refine OW.val rfl rfl (by first | exact EX.gtrN rfl rfl | exact EX.gtrZ rfl rfl) ?_
        refine OW.nil ?_
        refine KW.condD rfl (fun k2 => ?_) (fun k2 => ?_)
        · omega
        · rw [if_neg (by omega)] at hce
          refine KW.skip (KW.seq (KW.region ?_))
          refine OW.val rfl rfl (EX.assign rfl) ?_
          refine OW.nil ?_
          refine KW.ret (ret1 rfl rfl ?_)
          rw [hce]
          exact ⟨rfl, xr⟩
end Go.Proofs.YthgfdpcpbghkpaaGreatDoor
namespace Go.Proofs.YthgfdpcpbghkpaaGreatDoor
open Go.RowKit Pth Rec Srt Cat
def cmpPrev (l : List M) (i : Nat) (m : M) : Int := match (l.take i).getLast? with | some p => cmpP p.path m.path | none => -1
structure PreC (l : List M) : Prop where
  may : ∀ m ∈ l, mayM m
  rises : Rises mkey l
theorem PreC.nil : PreC [] := ⟨by simp, List.Pairwise.nil⟩
theorem getLast_take {l : List M} {i : Nat} (h0 : 0 < i) (hi : i ≤ l.length) : (l.take i).getLast? = some (l[i - 1]'(by omega)) := by
  have e : l.take i = l.take (i - 1) ++ [l[i - 1]'(by omega)] := by
    have h := (List.take_append_getElem (show i - 1 < l.length by omega)).symm
    rw [show i - 1 + 1 = i by omega] at h
    exact h
  rw [e]
  exact List.getLast?_concat
theorem cmpPrev_pos {l : List M} {i : Nat} {m : M} (h0 : 0 < i) (hi : i ≤ l.length) : cmpPrev l i m = cmpP (l[i - 1]'(by omega)).path m.path := by
  unfold cmpPrev
  rw [getLast_take h0 hi]
theorem PreC.snoc {l : List M} {i : Nat} (h : PreC (l.take i)) {m : M} (hm : mayM m) (hc : ¬ 0 ≤ cmpPrev l i m) : PreC (l.take i ++ [m]) := by
  refine ⟨fun x hx => ?_, rises_snoc h.rises fun p hp => ?_⟩
  · rcases List.mem_append.1 hx with hx | hx
    · exact h.may x hx
    · simp only [List.mem_singleton] at hx
      subst hx
      exact hm
  · unfold cmpPrev at hc
    rw [hp] at hc
    simp only at hc
    have := cmpK_val mkey p m
    simp only [cmpK, mkey] at this
    omega
theorem not_okC {l : List M} {cap : Int} {i : Nat} (hi : i < l.length) (h : ¬ mayM l[i] ∨ 0 ≤ cmpPrev l i l[i]) : ¬ OkC l cap := fun q => by
  rcases h with h | h
  · exact h (q.may _ (List.getElem_mem hi))
  · rcases Nat.eq_zero_or_pos i with h0 | h0
    · subst h0
      simp [cmpPrev] at h
    · rw [cmpPrev_pos h0 (by omega)] at h
      have h1 : cmpK mkey (l[i - 1]'(by omega)) l[i] = -1 := List.pairwise_iff_getElem.1 q.rises (i - 1) i (by omega) hi (by omega)
      simp only [cmpK, mkey] at h1
      omega
theorem cell_extC {w w' : World} (h : Ext w w') {a : Addr} {u : Value} (hc : w.cell? a = some u) : w'.cell? a = some u := by
  have hlt := World.block_lt_of_cell? w _ hc
  have := h.block _ hlt
  unfold World.cell? at hc ⊢
  rw [this]
  exact hc
theorem exts_len (l : List M) : (exts l).length = l.length := by simp [exts]
set_option maxRecDepth 20000 in
theorem chk_s (l : List M) (hok : ∀ m ∈ l, m.Ok) (hl : l.length ≤ 140737488355328) (cap : Int) (A : Option Addr) (c B : Nat) (w : World) (hG : MLen w) (hs : Sl w B A (memsV l)) :
    Ret Tryz.prog 10 [.slice A l.length c, .int .i64 cap] w fun v w' => v = .int .i64 ((chkC l cap : Nat) : Int) ∧ Ext w w' := by
  refine Ret.enter Tryz.func10 rfl Tryz.ntmps10 (by kernel_rfl) rfl ?_
  refine KW.seq (KW.region ?_)
  refine OW.val rfl rfl (EX.assign rfl) ?_
  refine OW.nil ?_
  refine KW.seq (KW.seq (KW.region ?_))
  refine OW.val rfl rfl (EX.move rfl) ?_
  refine OW.val rfl rfl (EX.lenA Tryz.underlying22 rfl) ?_
  refine OW.val rfl rfl (by first | exact EX.gtrN (b := 16) rfl rfl | exact EX.gtrZ rfl rfl) ?_
  refine OW.nil ?_
  refine KW.condD rfl (fun hbig => ?_) (fun hbig => ?_)
  · refine KW.seq (KW.region ?_)
    refine OW.val rfl rfl (EX.assign rfl) ?_
    refine OW.nil ?_
    refine KW.ret (ret1 rfl rfl ?_)
    rw [chkC_no (fun h => by have := h.len; omega)]
    exact ⟨rfl, Ext.refl _⟩
  · refine KW.skip (KW.seq (KW.region ?_))
    refine OW.val rfl rfl (EX.assign rfl) ?_
    refine OW.nil ?_
    refine KW.seq (KW.seq (KW.region ?_))
    refine OW.val rfl rfl (EX.move rfl) ?_
    refine OW.val rfl rfl (EX.lenA Tryz.underlying22 rfl) ?_
    refine OW.val rfl rfl (EX.move rfl) ?_
    refine OW.nil ?_
    refine KW.block ?_
    refine KW.loop3 (fun (i : Nat) (v : Value) (wr : World) => i ≤ l.length ∧ PreC (l.take i) ∧ Own wr w.heap.size 88 2 v i (xtsV (exts (l.take i))) ∧ Ext w wr) (fun (i : Nat) (v : Value) (wr : World) => [(0, .slice A l.length c), (1, .int .i64 cap), (5, v), (11, .slice A l.length c), (12, .int .i64 ((l.length : Nat) : Int)), (13, .int .i64 ((i : Nat) : Int))]) (fun (i : Nat) (v : Value) (wr : World) => wr) (fun (i : Nat) (v : Value) (wr : World) => l.length - i) (0) (.slice none 0 0) (w) ⟨rfl, rfl, rfl, rfl, rfl, rfl, trivial⟩ rfl ?_ ?_
    · exact ⟨Nat.zero_le _, PreC.nil, Own.nil _ _ _ _, Ext.refl _⟩
    · rintro i v wr ⟨hi, hpre, hown, hx⟩
      refine KW.seq (KW.region ?_)
      refine OW.val rfl rfl (by first | exact EX.lssN rfl rfl | exact EX.lssZ rfl rfl) ?_
      refine OW.nil ?_
      refine KW.seq ?_
      refine KW.condD rfl (fun hlt => ?_) (fun hlt => ?_)
      · obtain ⟨b, o, rfl, _, hcell⟩ := (hs.ext hx).flat (i := i) (c := 5) (fun _ => rfl) (by decide) hlt
        have hsn : l.take (i + 1) = l.take i ++ [l[i]] := (List.take_append_getElem hlt).symm
        have hno := not_okC (cap := cap) hlt
        have hmo := hok l[i] (List.getElem_mem hlt)
        have hprev : ∀ h : 0 < i, cmpPrev l i l[i] = cmpP (l[i - 1]'(by omega)).path (l[i]).path := fun h => cmpPrev_pos h hi
        have hzero : i = 0 → cmpPrev l i l[i] = -1 := fun h => by subst h; simp [cmpPrev]
        have hpm : ∀ h : 0 < i, mayM (l[i - 1]'(by omega)) := fun h => hpre.may _ (List.mem_take_iff_getElem.2 ⟨i - 1, by omega, rfl⟩)
        have hcp : ∀ h : 0 < i, ∀ j u, (l[i - 1]'(by omega)).cells[j]? = some u → wr.cell? ⟨b, o + (i - 1) * 5 + j, none⟩ = some u := fun h => by
          obtain ⟨b2, o2, e2, _, h2⟩ := (hs.ext hx).flat (i := i - 1) (c := 5) (fun _ => rfl) (by decide) (by omega)
          cases e2
          exact h2
        generalize hmd : l[i] = m at hcell hsn hno hmo hprev hzero
        refine KW.skip (KW.seq (KW.block (KW.seq (KW.region ?_))))
        refine OW.val rfl rfl (EX.move rfl) ?_
        refine OW.val rfl rfl (EX.indexAddrS Tryz.underlying22 ti70 rfl rfl (by omega)) ?_
        refine OW.val rfl rfl (EX.loadA (l := m.cells) Tryz.underlying70 rfl ti70 rfl rfl hcell) ?_
        refine OW.allocB (l := [str [], .int .i64 0, .int .i64 0, .int .i64 0, .int .u32 0]) rfl rfl ti70 rfl ?_
        rintro mb w2 hge2 hb2 hx2
        refine OW.val rfl rfl (EX.assign rfl) ?_
        refine OW.storeS rfl ti70 rfl rfl rfl (by first | rfl | (simp only [List.all_cons, List.all_nil, Bool.and_true, Bool.true_and, Bool.and_eq_true, Value.oneCell']; repeat (first | assumption | exact Own.one (by assumption) | constructor))) (hb2) (Nat.le_refl _) ?_
        rintro w3 hb3 hm3
        refine OW.nil ?_
        refine KW.seq (KW.seq ?_)
        replace hb3 : Bk w3 mb 70 m.cells := hb3
        have x3 : Ext wr w3 := below_mo hx2 hm3 hx2.size (fun k hk => by simp at hk; omega)
        have xw3 := hx.trans x3
        have ck := fun w => checkM_s m hmo w
        refine KW.cut1 (fun (wq : World) => Ext w3 wq) (fun (wq : World) => [(0, .slice (some ⟨b, o, none⟩) l.length c), (1, .int .i64 cap), (5, v), (7, .pointer (some ⟨mb, 0, none⟩)), (11, .slice (some ⟨b, o, none⟩) l.length c), (12, .int .i64 ((l.length : Nat) : Int)), (13, .int .i64 ((i : Nat) : Int)), (36, .bool (decide ((¬ mayM m ∨ 0 ≤ cmpPrev l i m))))]) (fun (wq : World) => wq) ?_ ?_
        · skip
          rcases Decidable.em (mayM m) with hm | hm
          · have e0 : checkM m = 0 := (checkM_iff m).2 hm
            have hml := (may_path hm).1
            rw [e0] at ck
            rcases Nat.eq_zero_or_pos i with h0 | h0
            · refine KW.regionG (N := 19) (fun w' => Ext w3 w') (by kernel_rfl) rfl ?_
              have hS := Ext.drew w3
              refine GW.val 0 rfl (by kernel_rfl) (by kernel_rfl) (by kernel_rfl) rfl rfl hS (fun w' hS' => EX.loadBk Tryz.underlying70 rfl ti70 rfl (hb3.ext hS') rfl) ?_
              refine GW.call 1 rfl (by kernel_rfl) rfl rfl rfl (ck _) ?_
              rintro _ wq ⟨rfl, hxq⟩
              refine ⟨hS.trans hxq, fun hS => ?_⟩
              refine GW.val 2 rfl (by kernel_rfl) (by kernel_rfl) (by kernel_rfl) rfl rfl hS (fun w' hS' => by first | exact EX.neqN (b := 0) rfl rfl | exact EX.neqZ rfl rfl) ?_
              refine GW.val 3 rfl (by kernel_rfl) (by kernel_rfl) (by kernel_rfl) rfl rfl hS (fun w' hS' => EX.move rfl) ?_
              refine GW.as 21 (.bool false) rfl (congrArg Value.bool (decide_eq_false ((fun h => h rfl)))) ?_
              refine GW.val 4 rfl (by kernel_rfl) (by kernel_rfl) (by kernel_rfl) rfl rfl hS (fun w' hS' => EX.move rfl) ?_
              refine GW.val 5 rfl (by kernel_rfl) (by kernel_rfl) (by kernel_rfl) rfl rfl hS (fun w' hS' => by first | exact EX.gtrN (b := 0) rfl rfl | exact EX.gtrZ rfl rfl) ?_
              refine GW.val 6 rfl (by kernel_rfl) (by kernel_rfl) (by kernel_rfl) rfl rfl hS (fun w' hS' => EX.move rfl) ?_
              refine GW.as 24 (.bool false) rfl (congrArg Value.bool (decide_eq_false ((by omega)))) ?_
              refine GW.pass 7 rfl (by kernel_rfl) (by kernel_rfl) (by kernel_rfl) rfl rfl hS ?_
              refine GW.pass 8 rfl (by kernel_rfl) (by kernel_rfl) (by kernel_rfl) rfl rfl hS ?_
              refine GW.pass 9 rfl (by kernel_rfl) (by kernel_rfl) (by kernel_rfl) rfl rfl hS ?_
              refine GW.pass 10 rfl (by kernel_rfl) (by kernel_rfl) (by kernel_rfl) rfl rfl hS ?_
              refine GW.pass 11 rfl (by kernel_rfl) (by kernel_rfl) (by kernel_rfl) rfl rfl hS ?_
              refine GW.pass 12 rfl (by kernel_rfl) (by kernel_rfl) (by kernel_rfl) rfl rfl hS ?_
              refine GW.pass 13 rfl (by kernel_rfl) (by kernel_rfl) (by kernel_rfl) rfl rfl hS ?_
              refine GW.pass 14 rfl (by kernel_rfl) (by kernel_rfl) (by kernel_rfl) rfl rfl hS ?_
              refine GW.pass 15 rfl (by kernel_rfl) (by kernel_rfl) (by kernel_rfl) rfl rfl hS ?_
              refine GW.pass 16 rfl (by kernel_rfl) (by kernel_rfl) (by kernel_rfl) rfl rfl hS ?_
              refine GW.val 17 rfl (by kernel_rfl) (by kernel_rfl) (by kernel_rfl) rfl rfl hS (fun w' hS' => EX.pickF rfl rfl) ?_
              refine GW.val 18 rfl (by kernel_rfl) (by kernel_rfl) (by kernel_rfl) rfl rfl hS (fun w' hS' => EX.pickF rfl rfl) ?_
              refine GW.done (by kernel_rfl) ?_
              refine KW.as 36 (.bool (decide ((¬ mayM m ∨ 0 ≤ cmpPrev l i m)))) rfl (congrArg Value.bool (decide_eq_false (fun q => q.elim (fun z => z hm) (fun z => by have := hzero h0; omega))).symm) ?_
              refine KW.meet1 (wq) ⟨rfl, rfl, rfl, rfl, rfl, rfl, rfl, rfl, trivial⟩ rfl ?_
              exact hS
            · have e1 := hprev h0
              have e2 : (l[i - 1]'(by omega)).path.length ≤ 120 := (may_path (hpm h0)).1
              have e3 := hcp h0
              generalize (l[i - 1]'(by omega)) = p at e1 e2 e3
              have cc := fun w hG => cmp_s p.path m.path (by omega) (by omega) w hG
              rw [← e1] at cc
              refine KW.regionG (N := 19) (fun w' => Ext w3 w') (by kernel_rfl) rfl ?_
              have hS := Ext.drew w3
              refine GW.val 0 rfl (by kernel_rfl) (by kernel_rfl) (by kernel_rfl) rfl rfl hS (fun w' hS' => EX.loadBk Tryz.underlying70 rfl ti70 rfl (hb3.ext hS') rfl) ?_
              refine GW.call 1 rfl (by kernel_rfl) rfl rfl rfl (ck _) ?_
              rintro _ wq ⟨rfl, hxq⟩
              refine ⟨hS.trans hxq, fun hS => ?_⟩
              refine GW.val 2 rfl (by kernel_rfl) (by kernel_rfl) (by kernel_rfl) rfl rfl hS (fun w' hS' => by first | exact EX.neqN (b := 0) rfl rfl | exact EX.neqZ rfl rfl) ?_
              refine GW.val 3 rfl (by kernel_rfl) (by kernel_rfl) (by kernel_rfl) rfl rfl hS (fun w' hS' => EX.move rfl) ?_
              refine GW.as 21 (.bool false) rfl (congrArg Value.bool (decide_eq_false ((fun h => h rfl)))) ?_
              refine GW.val 4 rfl (by kernel_rfl) (by kernel_rfl) (by kernel_rfl) rfl rfl hS (fun w' hS' => EX.move rfl) ?_
              refine GW.val 5 rfl (by kernel_rfl) (by kernel_rfl) (by kernel_rfl) rfl rfl hS (fun w' hS' => by first | exact EX.gtrN (b := 0) rfl rfl | exact EX.gtrZ rfl rfl) ?_
              refine GW.val 6 rfl (by kernel_rfl) (by kernel_rfl) (by kernel_rfl) rfl rfl hS (fun w' hS' => EX.move rfl) ?_
              refine GW.as 24 (.bool true) rfl (congrArg Value.bool (decide_eq_true ((by omega)))) ?_
              refine GW.val 7 rfl (by kernel_rfl) (by kernel_rfl) (by kernel_rfl) rfl rfl hS (fun w' hS' => EX.move rfl) ?_
              refine GW.val 8 rfl (by kernel_rfl) (by kernel_rfl) (by kernel_rfl) rfl rfl hS (fun w' hS' => EX.move rfl) ?_
              refine GW.val 9 rfl (by kernel_rfl) (by kernel_rfl) (by kernel_rfl) rfl rfl hS (fun w' hS' => by first | exact EX.subN (b := 1) (m := 9223372036854775807) rfl rfl rfl (by omega) | exact EX.subZ (m := 9223372036854775807) rfl rfl rfl rfl (by omega)) ?_
              refine GW.val 10 rfl (by kernel_rfl) (by kernel_rfl) (by kernel_rfl) rfl rfl hS (fun w' hS' => EX.indexAddrS Tryz.underlying22 ti70 rfl rfl (by omega)) ?_
              refine GW.val 11 rfl (by kernel_rfl) (by kernel_rfl) (by kernel_rfl) rfl rfl hS (fun w' hS' => EX.fieldAddr (off := 0) Tryz.underlying70 rfl rfl ti9 rfl rfl) ?_
              refine GW.val 12 rfl (by kernel_rfl) (by kernel_rfl) (by kernel_rfl) rfl rfl hS (fun w' hS' => EX.load Tryz.underlying9 rfl rfl (cell_extC (x3.trans hS') (e3 0 _ rfl))) ?_
              refine GW.val 13 rfl (by kernel_rfl) (by kernel_rfl) (by kernel_rfl) rfl rfl hS (fun w' hS' => EX.fieldAddr (off := 0) Tryz.underlying70 rfl rfl ti9 rfl rfl) ?_
              refine GW.val 14 rfl (by kernel_rfl) (by kernel_rfl) (by kernel_rfl) rfl rfl hS (fun w' hS' => EX.load Tryz.underlying9 rfl rfl ((hb3.ext hS').cell_of rfl)) ?_
              refine GW.call 15 rfl (by kernel_rfl) rfl rfl rfl (cc _ ((hG.ext xw3).ext hS)) ?_
              rintro _ wp ⟨rfl, hxp⟩
              refine ⟨hS.trans hxp, fun hS => ?_⟩
              refine GW.val 16 rfl (by kernel_rfl) (by kernel_rfl) (by kernel_rfl) rfl rfl hS (fun w' hS' => by first | exact EX.geqN (b := 0) rfl rfl | exact EX.geqZ rfl rfl) ?_
              refine GW.val 17 rfl (by kernel_rfl) (by kernel_rfl) (by kernel_rfl) rfl rfl hS (fun w' hS' => EX.pickT rfl rfl) ?_
              refine GW.val 18 rfl (by kernel_rfl) (by kernel_rfl) (by kernel_rfl) rfl rfl hS (fun w' hS' => EX.pickF rfl rfl) ?_
              refine GW.done (by kernel_rfl) ?_
              refine KW.as 36 (.bool (decide ((¬ mayM m ∨ 0 ≤ cmpPrev l i m)))) rfl (congrArg Value.bool (decide_eq_decide.2 ⟨fun h => .inr h, fun h => h.elim (fun q => absurd hm q) id⟩)) ?_
              refine KW.meet1 (wp) ⟨rfl, rfl, rfl, rfl, rfl, rfl, rfl, rfl, trivial⟩ rfl ?_
              exact hS
          · have e0 : checkM m ≠ 0 := fun q => hm ((checkM_iff m).1 q)
            refine KW.regionG (N := 19) (fun w' => Ext w3 w') (by kernel_rfl) rfl ?_
            have hS := Ext.drew w3
            refine GW.val 0 rfl (by kernel_rfl) (by kernel_rfl) (by kernel_rfl) rfl rfl hS (fun w' hS' => EX.loadBk Tryz.underlying70 rfl ti70 rfl (hb3.ext hS') rfl) ?_
            refine GW.call 1 rfl (by kernel_rfl) rfl rfl rfl (ck _) ?_
            rintro _ wq ⟨rfl, hxq⟩
            refine ⟨hS.trans hxq, fun hS => ?_⟩
            refine GW.val 2 rfl (by kernel_rfl) (by kernel_rfl) (by kernel_rfl) rfl rfl hS (fun w' hS' => by first | exact EX.neqN (b := 0) rfl rfl | exact EX.neqZ rfl rfl) ?_
            refine GW.val 3 rfl (by kernel_rfl) (by kernel_rfl) (by kernel_rfl) rfl rfl hS (fun w' hS' => EX.move rfl) ?_
            refine GW.as 21 (.bool true) rfl (congrArg Value.bool (decide_eq_true ((fun h => e0 h)))) ?_
            refine GW.pass 4 rfl (by kernel_rfl) (by kernel_rfl) (by kernel_rfl) rfl rfl hS ?_
            refine GW.pass 5 rfl (by kernel_rfl) (by kernel_rfl) (by kernel_rfl) rfl rfl hS ?_
            refine GW.pass 6 rfl (by kernel_rfl) (by kernel_rfl) (by kernel_rfl) rfl rfl hS ?_
            refine GW.pass 7 rfl (by kernel_rfl) (by kernel_rfl) (by kernel_rfl) rfl rfl hS ?_
            refine GW.pass 8 rfl (by kernel_rfl) (by kernel_rfl) (by kernel_rfl) rfl rfl hS ?_
            refine GW.pass 9 rfl (by kernel_rfl) (by kernel_rfl) (by kernel_rfl) rfl rfl hS ?_
            refine GW.pass 10 rfl (by kernel_rfl) (by kernel_rfl) (by kernel_rfl) rfl rfl hS ?_
            refine GW.pass 11 rfl (by kernel_rfl) (by kernel_rfl) (by kernel_rfl) rfl rfl hS ?_
            refine GW.pass 12 rfl (by kernel_rfl) (by kernel_rfl) (by kernel_rfl) rfl rfl hS ?_
            refine GW.pass 13 rfl (by kernel_rfl) (by kernel_rfl) (by kernel_rfl) rfl rfl hS ?_
            refine GW.pass 14 rfl (by kernel_rfl) (by kernel_rfl) (by kernel_rfl) rfl rfl hS ?_
            refine GW.pass 15 rfl (by kernel_rfl) (by kernel_rfl) (by kernel_rfl) rfl rfl hS ?_
            refine GW.pass 16 rfl (by kernel_rfl) (by kernel_rfl) (by kernel_rfl) rfl rfl hS ?_
            refine GW.pass 17 rfl (by kernel_rfl) (by kernel_rfl) (by kernel_rfl) rfl rfl hS ?_
            refine GW.val 18 rfl (by kernel_rfl) (by kernel_rfl) (by kernel_rfl) rfl rfl hS (fun w' hS' => EX.pickT rfl rfl) ?_
            refine GW.done (by kernel_rfl) ?_
            refine KW.as 36 (.bool (decide ((¬ mayM m ∨ 0 ≤ cmpPrev l i m)))) rfl (congrArg Value.bool (decide_eq_true (.inl hm)).symm) ?_
            refine KW.meet1 (wq) ⟨rfl, rfl, rfl, rfl, rfl, rfl, rfl, rfl, trivial⟩ rfl ?_
            exact hS
        · rintro wq hxq
          have xq := xw3.trans hxq
          have hbq := hb3.ext hxq
          have hownq := (hown.ext x3).ext hxq
          refine KW.condD rfl (fun hbad => ?_) (fun hbad => ?_)
          · refine KW.seq (KW.region ?_)
            refine OW.val rfl rfl (EX.assign rfl) ?_
            refine OW.nil ?_
            refine KW.ret (ret1 rfl rfl ?_)
            rw [chkC_no (hno hbad)]
            exact ⟨rfl, xq⟩
          · have hpre2 := hpre.snoc (m := m) (Decidable.of_not_not fun q => hbad (.inl q)) (fun q => hbad (.inr q))
            rw [← hsn] at hpre2
            refine KW.skip (KW.region ?_)
            refine OW.val rfl rfl (EX.move rfl) ?_
            refine OW.val rfl rfl (EX.fieldAddr (off := 1) Tryz.underlying70 rfl rfl ti3 rfl rfl) ?_
            refine OW.val rfl rfl (EX.load Tryz.underlying3 rfl rfl (hbq.cell_of rfl)) ?_
            refine OW.val rfl rfl (EX.fieldAddr (off := 2) Tryz.underlying70 rfl rfl ti3 rfl rfl) ?_
            refine OW.val rfl rfl (EX.load Tryz.underlying3 rfl rfl (hbq.cell_of rfl)) ?_
            refine OW.val rfl rfl (EX.buildS (pl := [(0, 1), (1, 1)]) (ks := [0, 1]) (is := [0, 1]) (zs := [.int .i64 0, .int .i64 0]) Tryz.underlying88 ti88 (by kernel_rfl) rfl rfl rfl (by first | rfl | (simp only [List.all_cons, List.all_nil, Bool.and_true, Bool.true_and, Bool.and_eq_true, Value.oneCell']; repeat (first | assumption | exact Own.one (by assumption) | constructor))) (by simp only [setAll, List.set_cons_zero, List.set_cons_succ]; rfl)) ?_
            refine OW.pushS rfl rfl (fun _ => rfl) rfl Tryz.underlying84 ti88 rfl (by decide) (by decide) rfl rfl (fun _ => rfl) (by first | rfl | assumption | (simp only [List.all_cons, List.all_nil, Bool.and_true, Bool.true_and, Bool.and_eq_true, Value.oneCell']; repeat (first | assumption | constructor))) (xq) (hownq) (by simp only [maxLen]; omega) (by omega) ?_
            rintro _ v4 w4 hown4 x4 hg4
            refine OW.val rfl rfl (EX.assign rfl) ?_
            refine OW.nil ?_
            refine KW.leave (KW.region ?_)
            refine OW.val rfl rfl (by first | exact EX.addN (b := 1) (m := 9223372036854775807) rfl rfl rfl (by omega) | exact EX.addZ (m := 9223372036854775807) rfl rfl rfl rfl (by omega)) ?_
            refine OW.val rfl rfl (EX.move rfl) ?_
            refine OW.nil ?_
            refine KW.back3 (i + 1) (v4) (w4) ⟨rfl, rfl, rfl, rfl, rfl, rfl, trivial⟩ rfl ?_ (by omega)
            refine ⟨by omega, hpre2, ?_, x4⟩
            rw [hsn, show exts (l.take i ++ [m]) = exts (l.take i) ++ [(m.start, m.sectors)] by simp [exts], xtsV_snoc]
            exact hown4
      · obtain rfl : i = l.length := by omega
        rw [List.take_length] at hpre hown
        obtain ⟨A4, c4, rfl, _, hsl4⟩ := hown.slice
        have cs := space_s (exts l) (by rw [exts_len]; omega) cap A4 c4 _ wr hsl4
        rw [exts_len] at cs
        refine KW.exit rfl (KW.seq (KW.seq (KW.region ?_)))
        refine OW.val rfl rfl (EX.move rfl) ?_
        refine OW.val rfl rfl (EX.move rfl) ?_
        refine OW.call rfl rfl rfl (cs) ?_
        rintro _ w5 ⟨rfl, hx5⟩
        refine OW.val rfl rfl (by first | exact EX.neqN (b := 0) rfl rfl | exact EX.neqZ rfl rfl) ?_
        refine OW.nil ?_
        refine KW.condD rfl (fun hsp => ?_) (fun hsp => ?_)
        · have hno : ¬ OkX (exts l) cap := fun q => hsp (by unfold spaceC; rw [if_pos q])
          refine KW.seq (KW.region ?_)
          refine OW.val rfl rfl (EX.assign rfl) ?_
          refine OW.nil ?_
          refine KW.ret (ret1 rfl rfl ?_)
          rw [chkC_no (fun h => hno h.ext)]
          exact ⟨rfl, hx.trans hx5⟩
        · have hyes : OkX (exts l) cap := Decidable.byContradiction fun q => hsp (by unfold spaceC; rw [if_neg q]; decide)
          refine KW.skip (KW.seq (KW.region ?_))
          refine OW.val rfl rfl (EX.assign rfl) ?_
          refine OW.nil ?_
          refine KW.ret (ret1 rfl rfl ?_)
          rw [chkC_ok ⟨by omega, hpre.may, hpre.rises, hyes⟩]
          exact ⟨rfl, hx.trans hx5⟩
set_option maxRecDepth 20000 in
theorem rexts_s (l : List M) (hl : l.length ≤ 1000000) (A : Option Addr) (c B : Nat) (w : World) (hs : Sl w B A (memsV l)) :
    Ret Tryz.prog 43 [.slice A l.length c] w fun v w' => Own w' w.heap.size 88 2 v l.length (xtsV (exts l)) ∧ Ext w w' := by
  refine Ret.enter Tryz.func43 rfl Tryz.ntmps43 (by kernel_rfl) rfl ?_
  refine KW.seq (KW.region ?_)
  refine OW.val rfl rfl (EX.assign rfl) ?_
  refine OW.nil ?_
  refine KW.seq (KW.region ?_)
  refine OW.val rfl rfl (EX.assign rfl) ?_
  refine OW.nil ?_
  refine KW.seq (KW.seq (KW.region ?_))
  refine OW.val rfl rfl (EX.assign rfl) ?_
  refine OW.nil ?_
  refine KW.block ?_
  refine KW.loop3 (fun (i : Nat) (v : Value) (wr : World) => i ≤ l.length ∧ Own wr w.heap.size 88 2 v i (xtsV (exts (l.take i))) ∧ Ext w wr) (fun (i : Nat) (v : Value) (wr : World) => [(0, .slice A l.length c), (3, v), (4, .int .i64 ((i : Nat) : Int))]) (fun (i : Nat) (v : Value) (wr : World) => wr) (fun (i : Nat) (v : Value) (wr : World) => l.length - i) (0) (.slice none 0 0) (w) ⟨rfl, rfl, rfl, trivial⟩ rfl ?_ ?_
  · exact ⟨Nat.zero_le _, Own.nil _ _ _ _, Ext.refl _⟩
  · rintro i v wr ⟨hi, hown, hx⟩
    refine KW.seq (KW.seq (KW.region ?_))
    refine OW.val rfl rfl (EX.move rfl) ?_
    refine OW.val rfl rfl (EX.move rfl) ?_
    refine OW.val rfl rfl (EX.lenA Tryz.underlying22 rfl) ?_
    refine OW.val rfl rfl (by first | exact EX.lssN rfl rfl | exact EX.lssZ rfl rfl) ?_
    refine OW.nil ?_
    refine KW.condD rfl (fun hlt => ?_) (fun hlt => ?_)
    · obtain ⟨b, o, rfl, _, hcell⟩ := hs.flat (i := i) (c := 5) (fun _ => rfl) (by decide) hlt
      have hsn : l.take (i + 1) = l.take i ++ [l[i]] := (List.take_append_getElem hlt).symm
      generalize l[i] = m at hcell hsn
      have hlow := fun k hk => (hown.lt k hk).1
      refine KW.skip (KW.seq (KW.block ?_))
      refine KW.regionG (N := 15) (fun w' => Ext w w') (by kernel_rfl) rfl ?_
      have hS := hx.trans (Ext.drew wr)
      refine GW.val 0 rfl (by kernel_rfl) (by kernel_rfl) (by kernel_rfl) rfl rfl hS (fun w' hS' => EX.move rfl) ?_
      refine GW.val 1 rfl (by kernel_rfl) (by kernel_rfl) (by kernel_rfl) rfl rfl hS (fun w' hS' => EX.move rfl) ?_
      refine GW.val 2 rfl (by kernel_rfl) (by kernel_rfl) (by kernel_rfl) rfl rfl hS (fun w' hS' => EX.move rfl) ?_
      refine GW.val 3 rfl (by kernel_rfl) (by kernel_rfl) (by kernel_rfl) rfl rfl hS (fun w' hS' => EX.indexAddrS Tryz.underlying22 ti70 rfl rfl (by omega)) ?_
      refine GW.val 4 rfl (by kernel_rfl) (by kernel_rfl) (by kernel_rfl) rfl rfl hS (fun w' hS' => EX.fieldAddr (off := 1) Tryz.underlying70 rfl rfl ti3 rfl rfl) ?_
      refine GW.val 5 rfl (by kernel_rfl) (by kernel_rfl) (by kernel_rfl) rfl rfl hS (fun w' hS' => EX.load Tryz.underlying3 rfl rfl (cell_extC hS' (hcell 1 _ rfl))) ?_
      refine GW.val 6 rfl (by kernel_rfl) (by kernel_rfl) (by kernel_rfl) rfl rfl hS (fun w' hS' => EX.move rfl) ?_
      refine GW.val 7 rfl (by kernel_rfl) (by kernel_rfl) (by kernel_rfl) rfl rfl hS (fun w' hS' => EX.move rfl) ?_
      refine GW.val 8 rfl (by kernel_rfl) (by kernel_rfl) (by kernel_rfl) rfl rfl hS (fun w' hS' => EX.indexAddrS Tryz.underlying22 ti70 rfl rfl (by omega)) ?_
      refine GW.val 9 rfl (by kernel_rfl) (by kernel_rfl) (by kernel_rfl) rfl rfl hS (fun w' hS' => EX.fieldAddr (off := 2) Tryz.underlying70 rfl rfl ti3 rfl rfl) ?_
      refine GW.val 10 rfl (by kernel_rfl) (by kernel_rfl) (by kernel_rfl) rfl rfl hS (fun w' hS' => EX.load Tryz.underlying3 rfl rfl (cell_extC hS' (hcell 2 _ rfl))) ?_
      refine GW.val 11 rfl (by kernel_rfl) (by kernel_rfl) (by kernel_rfl) rfl rfl hS (fun w' hS' => EX.buildS (pl := [(0, 1), (1, 1)]) (ks := [0, 1]) (is := [0, 1]) (zs := [.int .i64 0, .int .i64 0]) Tryz.underlying88 ti88 (by kernel_rfl) rfl rfl rfl (by first | rfl | (simp only [List.all_cons, List.all_nil, Bool.and_true, Bool.true_and, Bool.and_eq_true, Value.oneCell']; repeat (first | assumption | exact Own.one (by assumption) | constructor))) (by simp only [setAll, List.set_cons_zero, List.set_cons_succ]; rfl)) ?_
      refine GW.buildG 12 1 ([xcells (m.start, m.sectors)]) rfl (by kernel_rfl) rfl rfl Tryz.underlying84 ti88 rfl (by decide) rfl rfl rfl (by repeat' (first | exact List.forall_mem_nil _ | refine List.forall_mem_cons.2 ⟨by first | rfl | assumption, ?_⟩)) (by decide) ?_
      rintro eb w5 hge5 hb5 hx5
      refine ⟨hS.trans hx5, fun hS => ?_⟩
      refine GW.append 13 0 rfl (by kernel_rfl) rfl rfl Tryz.underlying84 ti88 rfl (by decide) rfl rfl (((hown.ext (Ext.drew wr)).ext hx5).more (Nat.zero_le _)) (Src.of_sl (m := 1) Tryz.underlying84 (Sl.of_bk hb5 hb5.lt) rfl (xtsV_one [(m.start, m.sectors)]) (by decide)) (by simp only [maxLen]; omega) (by omega) (Nat.zero_le _) ?_
      rintro v6 w6 hown6 hg6 hv6
      refine ⟨hS.grown hg6 hlow, fun hS => ?_⟩
      refine GW.val 14 rfl (by kernel_rfl) (by kernel_rfl) (by kernel_rfl) rfl rfl hS (fun w' hS' => EX.assign rfl) ?_
      refine GW.done (by kernel_rfl) ?_
      refine KW.leave (KW.region ?_)
      refine OW.val rfl rfl (EX.move rfl) ?_
      refine OW.val rfl rfl (by first | exact EX.addN (b := 1) (m := 9223372036854775807) rfl rfl rfl (by omega) | exact EX.addZ (m := 9223372036854775807) rfl rfl rfl rfl (by omega)) ?_
      refine OW.val rfl rfl (EX.assign rfl) ?_
      refine OW.nil ?_
      refine KW.back3 (i + 1) (v6) (w6) ⟨rfl, rfl, rfl, trivial⟩ rfl ?_ (by omega)
      refine ⟨by omega, ?_, hS⟩
      rw [hsn, show exts (l.take i ++ [m]) = exts (l.take i) ++ [(m.start, m.sectors)] by simp [exts], xtsV_snoc]
      refine Own.base hown6 fun k hk => ?_
      rcases hv6 with e | e
      · exact hlow k (by rw [← e]; exact hk)
      · rw [e] at hk
        cases hk
        exact (hx.trans ((Ext.drew wr).trans hx5)).size
    · obtain rfl : i = l.length := by omega
      rw [List.take_length] at hown
      refine KW.exit rfl (KW.seq (KW.region ?_))
      refine OW.val rfl rfl (EX.move rfl) ?_
      refine OW.val rfl rfl (EX.assign rfl) ?_
      refine OW.nil ?_
      refine KW.ret (ret1 rfl rfl ?_)
      exact ⟨hown, hx⟩
set_option maxRecDepth 20000 in
theorem rchk_s (l : List M) (hok : ∀ m ∈ l, m.Ok) (hl : l.length ≤ 140737488355328) (cap : Int) (A : Option Addr) (c B : Nat) (w : World) (hs : Sl w B A (memsV l)) :
    Ret Tryz.prog 11 [.slice A l.length c, .int .i64 cap] w fun v w' => v = .int .i64 ((chkC l cap : Nat) : Int) ∧ Ext w w' := by
  refine Ret.enter Tryz.func11 rfl Tryz.ntmps11 (by kernel_rfl) rfl ?_
  refine KW.seq (KW.region ?_)
  refine OW.val rfl rfl (EX.assign rfl) ?_
  refine OW.nil ?_
  refine KW.seq (KW.seq (KW.region ?_))
  refine OW.val rfl rfl (EX.move rfl) ?_
  refine OW.val rfl rfl (EX.lenA Tryz.underlying22 rfl) ?_
  refine OW.val rfl rfl (by first | exact EX.gtrN (b := 16) rfl rfl | exact EX.gtrZ rfl rfl) ?_
  refine OW.nil ?_
  refine KW.condD rfl (fun hbig => ?_) (fun hbig => ?_)
  · refine KW.seq (KW.region ?_)
    refine OW.val rfl rfl (EX.assign rfl) ?_
    refine OW.nil ?_
    refine KW.ret (ret1 rfl rfl ?_)
    rw [chkC_no (fun h => by have := h.len; omega)]
    exact ⟨rfl, Ext.refl _⟩
  · refine KW.skip (KW.seq (KW.seq (KW.region ?_)))
    refine OW.val rfl rfl (EX.assign rfl) ?_
    refine OW.nil ?_
    refine KW.block ?_
    refine KW.loop2 (fun (i : Nat) (wr : World) => i ≤ l.length ∧ PreC (l.take i) ∧ Ext w wr) (fun (i : Nat) (wr : World) => [(0, .slice A l.length c), (1, .int .i64 cap), (5, .int .i64 ((i : Nat) : Int))]) (fun (i : Nat) (wr : World) => wr) (fun (i : Nat) (wr : World) => l.length - i) (0) (w) ⟨rfl, rfl, rfl, trivial⟩ rfl ?_ ?_
    · exact ⟨Nat.zero_le _, PreC.nil, Ext.refl _⟩
    · rintro i wr ⟨hi, hpre, hx⟩
      refine KW.seq (KW.seq (KW.region ?_))
      refine OW.val rfl rfl (EX.move rfl) ?_
      refine OW.val rfl rfl (EX.move rfl) ?_
      refine OW.val rfl rfl (EX.lenA Tryz.underlying22 rfl) ?_
      refine OW.val rfl rfl (by first | exact EX.lssN rfl rfl | exact EX.lssZ rfl rfl) ?_
      refine OW.nil ?_
      refine KW.condD rfl (fun hlt => ?_) (fun hlt => ?_)
      · obtain ⟨b, o, rfl, _, hcell⟩ := (hs.ext hx).flat (i := i) (c := 5) (fun _ => rfl) (by decide) hlt
        have hsn : l.take (i + 1) = l.take i ++ [l[i]] := (List.take_append_getElem hlt).symm
        have hno := not_okC (cap := cap) hlt
        have hmo := hok l[i] (List.getElem_mem hlt)
        have hprev : ∀ h : 0 < i, cmpPrev l i l[i] = cmpP (l[i - 1]'(by omega)).path (l[i]).path := fun h => cmpPrev_pos h hi
        have hzero : i = 0 → cmpPrev l i l[i] = -1 := fun h => by subst h; simp [cmpPrev]
        have hpm : ∀ h : 0 < i, mayM (l[i - 1]'(by omega)) := fun h => hpre.may _ (List.mem_take_iff_getElem.2 ⟨i - 1, by omega, rfl⟩)
        have hcp : ∀ h : 0 < i, ∀ j u, (l[i - 1]'(by omega)).cells[j]? = some u → wr.cell? ⟨b, o + (i - 1) * 5 + j, none⟩ = some u := fun h => by
          obtain ⟨b2, o2, e2, _, h2⟩ := (hs.ext hx).flat (i := i - 1) (c := 5) (fun _ => rfl) (by decide) (by omega)
          cases e2
          exact h2
        generalize hmd : l[i] = m at hcell hsn hno hmo hprev hzero
        have ck := fun w => rcheckM_s m hmo w
        refine KW.skip (KW.seq (KW.block (KW.seq ?_)))
        refine KW.cut1 (fun (wq : World) => Ext wr wq) (fun (wq : World) => [(0, .slice (some ⟨b, o, none⟩) l.length c), (1, .int .i64 cap), (5, .int .i64 ((i : Nat) : Int)), (39, .bool (decide ((¬ mayM m ∨ 0 ≤ cmpPrev l i m))))]) (fun (wq : World) => wq) ?_ ?_
        · skip
          rcases Decidable.em (mayM m) with hm | hm
          · have e0 : checkM m = 0 := (checkM_iff m).2 hm
            have hml := (may_path hm).1
            rw [e0] at ck
            rcases Nat.eq_zero_or_pos i with h0 | h0
            · refine KW.regionG (N := 25) (fun w' => Ext wr w') (by kernel_rfl) rfl ?_
              have hS := Ext.drew wr
              refine GW.val 0 rfl (by kernel_rfl) (by kernel_rfl) (by kernel_rfl) rfl rfl hS (fun w' hS' => EX.move rfl) ?_
              refine GW.val 1 rfl (by kernel_rfl) (by kernel_rfl) (by kernel_rfl) rfl rfl hS (fun w' hS' => EX.move rfl) ?_
              refine GW.val 2 rfl (by kernel_rfl) (by kernel_rfl) (by kernel_rfl) rfl rfl hS (fun w' hS' => EX.indexAddrS Tryz.underlying22 ti70 rfl rfl (by omega)) ?_
              refine GW.val 3 rfl (by kernel_rfl) (by kernel_rfl) (by kernel_rfl) rfl rfl hS (fun w' hS' => EX.loadA (l := m.cells) Tryz.underlying70 rfl ti70 rfl rfl (fun j u h => cell_extC hS' (hcell j u h))) ?_
              refine GW.call 4 rfl (by kernel_rfl) rfl rfl rfl (ck _) ?_
              rintro _ wq ⟨rfl, hxq⟩
              refine ⟨hS.trans hxq, fun hS => ?_⟩
              refine GW.val 5 rfl (by kernel_rfl) (by kernel_rfl) (by kernel_rfl) rfl rfl hS (fun w' hS' => by first | exact EX.neqN (b := 0) rfl rfl | exact EX.neqZ rfl rfl) ?_
              refine GW.val 6 rfl (by kernel_rfl) (by kernel_rfl) (by kernel_rfl) rfl rfl hS (fun w' hS' => EX.move rfl) ?_
              refine GW.as 21 (.bool false) rfl (congrArg Value.bool (decide_eq_false ((fun h => h rfl)))) ?_
              refine GW.val 7 rfl (by kernel_rfl) (by kernel_rfl) (by kernel_rfl) rfl rfl hS (fun w' hS' => EX.move rfl) ?_
              refine GW.val 8 rfl (by kernel_rfl) (by kernel_rfl) (by kernel_rfl) rfl rfl hS (fun w' hS' => by first | exact EX.gtrN (b := 0) rfl rfl | exact EX.gtrZ rfl rfl) ?_
              refine GW.val 9 rfl (by kernel_rfl) (by kernel_rfl) (by kernel_rfl) rfl rfl hS (fun w' hS' => EX.move rfl) ?_
              refine GW.as 24 (.bool false) rfl (congrArg Value.bool (decide_eq_false ((by omega)))) ?_
              refine GW.pass 10 rfl (by kernel_rfl) (by kernel_rfl) (by kernel_rfl) rfl rfl hS ?_
              refine GW.pass 11 rfl (by kernel_rfl) (by kernel_rfl) (by kernel_rfl) rfl rfl hS ?_
              refine GW.pass 12 rfl (by kernel_rfl) (by kernel_rfl) (by kernel_rfl) rfl rfl hS ?_
              refine GW.pass 13 rfl (by kernel_rfl) (by kernel_rfl) (by kernel_rfl) rfl rfl hS ?_
              refine GW.pass 14 rfl (by kernel_rfl) (by kernel_rfl) (by kernel_rfl) rfl rfl hS ?_
              refine GW.pass 15 rfl (by kernel_rfl) (by kernel_rfl) (by kernel_rfl) rfl rfl hS ?_
              refine GW.pass 16 rfl (by kernel_rfl) (by kernel_rfl) (by kernel_rfl) rfl rfl hS ?_
              refine GW.pass 17 rfl (by kernel_rfl) (by kernel_rfl) (by kernel_rfl) rfl rfl hS ?_
              refine GW.pass 18 rfl (by kernel_rfl) (by kernel_rfl) (by kernel_rfl) rfl rfl hS ?_
              refine GW.pass 19 rfl (by kernel_rfl) (by kernel_rfl) (by kernel_rfl) rfl rfl hS ?_
              refine GW.pass 20 rfl (by kernel_rfl) (by kernel_rfl) (by kernel_rfl) rfl rfl hS ?_
              refine GW.pass 21 rfl (by kernel_rfl) (by kernel_rfl) (by kernel_rfl) rfl rfl hS ?_
              refine GW.pass 22 rfl (by kernel_rfl) (by kernel_rfl) (by kernel_rfl) rfl rfl hS ?_
              refine GW.val 23 rfl (by kernel_rfl) (by kernel_rfl) (by kernel_rfl) rfl rfl hS (fun w' hS' => EX.pickF rfl rfl) ?_
              refine GW.val 24 rfl (by kernel_rfl) (by kernel_rfl) (by kernel_rfl) rfl rfl hS (fun w' hS' => EX.pickF rfl rfl) ?_
              refine GW.done (by kernel_rfl) ?_
              refine KW.as 39 (.bool (decide ((¬ mayM m ∨ 0 ≤ cmpPrev l i m)))) rfl (congrArg Value.bool (decide_eq_false (fun q => q.elim (fun z => z hm) (fun z => by have := hzero h0; omega))).symm) ?_
              refine KW.meet1 (wq) ⟨rfl, rfl, rfl, rfl, trivial⟩ rfl ?_
              exact hS
            · have e1 := hprev h0
              have e2 : (l[i - 1]'(by omega)).path.length ≤ 120 := (may_path (hpm h0)).1
              have e3 := hcp h0
              generalize (l[i - 1]'(by omega)) = p at e1 e2 e3
              have cc := fun w => rcmp_s p.path m.path (by omega) (by omega) w
              rw [← e1] at cc
              refine KW.regionG (N := 25) (fun w' => Ext wr w') (by kernel_rfl) rfl ?_
              have hS := Ext.drew wr
              refine GW.val 0 rfl (by kernel_rfl) (by kernel_rfl) (by kernel_rfl) rfl rfl hS (fun w' hS' => EX.move rfl) ?_
              refine GW.val 1 rfl (by kernel_rfl) (by kernel_rfl) (by kernel_rfl) rfl rfl hS (fun w' hS' => EX.move rfl) ?_
              refine GW.val 2 rfl (by kernel_rfl) (by kernel_rfl) (by kernel_rfl) rfl rfl hS (fun w' hS' => EX.indexAddrS Tryz.underlying22 ti70 rfl rfl (by omega)) ?_
              refine GW.val 3 rfl (by kernel_rfl) (by kernel_rfl) (by kernel_rfl) rfl rfl hS (fun w' hS' => EX.loadA (l := m.cells) Tryz.underlying70 rfl ti70 rfl rfl (fun j u h => cell_extC hS' (hcell j u h))) ?_
              refine GW.call 4 rfl (by kernel_rfl) rfl rfl rfl (ck _) ?_
              rintro _ wq ⟨rfl, hxq⟩
              refine ⟨hS.trans hxq, fun hS => ?_⟩
              refine GW.val 5 rfl (by kernel_rfl) (by kernel_rfl) (by kernel_rfl) rfl rfl hS (fun w' hS' => by first | exact EX.neqN (b := 0) rfl rfl | exact EX.neqZ rfl rfl) ?_
              refine GW.val 6 rfl (by kernel_rfl) (by kernel_rfl) (by kernel_rfl) rfl rfl hS (fun w' hS' => EX.move rfl) ?_
              refine GW.as 21 (.bool false) rfl (congrArg Value.bool (decide_eq_false ((fun h => h rfl)))) ?_
              refine GW.val 7 rfl (by kernel_rfl) (by kernel_rfl) (by kernel_rfl) rfl rfl hS (fun w' hS' => EX.move rfl) ?_
              refine GW.val 8 rfl (by kernel_rfl) (by kernel_rfl) (by kernel_rfl) rfl rfl hS (fun w' hS' => by first | exact EX.gtrN (b := 0) rfl rfl | exact EX.gtrZ rfl rfl) ?_
              refine GW.val 9 rfl (by kernel_rfl) (by kernel_rfl) (by kernel_rfl) rfl rfl hS (fun w' hS' => EX.move rfl) ?_
              refine GW.as 24 (.bool true) rfl (congrArg Value.bool (decide_eq_true ((by omega)))) ?_
              refine GW.val 10 rfl (by kernel_rfl) (by kernel_rfl) (by kernel_rfl) rfl rfl hS (fun w' hS' => EX.move rfl) ?_
              refine GW.val 11 rfl (by kernel_rfl) (by kernel_rfl) (by kernel_rfl) rfl rfl hS (fun w' hS' => EX.move rfl) ?_
              refine GW.val 12 rfl (by kernel_rfl) (by kernel_rfl) (by kernel_rfl) rfl rfl hS (fun w' hS' => by first | exact EX.subN (b := 1) (m := 9223372036854775807) rfl rfl rfl (by omega) | exact EX.subZ (m := 9223372036854775807) rfl rfl rfl rfl (by omega)) ?_
              refine GW.val 13 rfl (by kernel_rfl) (by kernel_rfl) (by kernel_rfl) rfl rfl hS (fun w' hS' => EX.indexAddrS Tryz.underlying22 ti70 rfl rfl (by omega)) ?_
              refine GW.val 14 rfl (by kernel_rfl) (by kernel_rfl) (by kernel_rfl) rfl rfl hS (fun w' hS' => EX.fieldAddr (off := 0) Tryz.underlying70 rfl rfl ti9 rfl rfl) ?_
              refine GW.val 15 rfl (by kernel_rfl) (by kernel_rfl) (by kernel_rfl) rfl rfl hS (fun w' hS' => EX.load Tryz.underlying9 rfl rfl (cell_extC hS' (e3 0 _ rfl))) ?_
              refine GW.val 16 rfl (by kernel_rfl) (by kernel_rfl) (by kernel_rfl) rfl rfl hS (fun w' hS' => EX.move rfl) ?_
              refine GW.val 17 rfl (by kernel_rfl) (by kernel_rfl) (by kernel_rfl) rfl rfl hS (fun w' hS' => EX.move rfl) ?_
              refine GW.val 18 rfl (by kernel_rfl) (by kernel_rfl) (by kernel_rfl) rfl rfl hS (fun w' hS' => EX.indexAddrS Tryz.underlying22 ti70 rfl rfl (by omega)) ?_
              refine GW.val 19 rfl (by kernel_rfl) (by kernel_rfl) (by kernel_rfl) rfl rfl hS (fun w' hS' => EX.fieldAddr (off := 0) Tryz.underlying70 rfl rfl ti9 rfl rfl) ?_
              refine GW.val 20 rfl (by kernel_rfl) (by kernel_rfl) (by kernel_rfl) rfl rfl hS (fun w' hS' => EX.load Tryz.underlying9 rfl rfl (cell_extC hS' (hcell 0 _ rfl))) ?_
              refine GW.call 21 rfl (by kernel_rfl) rfl rfl rfl (cc _) ?_
              rintro _ wp ⟨rfl, hxp⟩
              refine ⟨hS.trans hxp, fun hS => ?_⟩
              refine GW.val 22 rfl (by kernel_rfl) (by kernel_rfl) (by kernel_rfl) rfl rfl hS (fun w' hS' => by first | exact EX.geqN (b := 0) rfl rfl | exact EX.geqZ rfl rfl) ?_
              refine GW.val 23 rfl (by kernel_rfl) (by kernel_rfl) (by kernel_rfl) rfl rfl hS (fun w' hS' => EX.pickT rfl rfl) ?_
              refine GW.val 24 rfl (by kernel_rfl) (by kernel_rfl) (by kernel_rfl) rfl rfl hS (fun w' hS' => EX.pickF rfl rfl) ?_
              refine GW.done (by kernel_rfl) ?_
              refine KW.as 39 (.bool (decide ((¬ mayM m ∨ 0 ≤ cmpPrev l i m)))) rfl (congrArg Value.bool (decide_eq_decide.2 ⟨fun h => .inr h, fun h => h.elim (fun q => absurd hm q) id⟩)) ?_
              refine KW.meet1 (wp) ⟨rfl, rfl, rfl, rfl, trivial⟩ rfl ?_
              exact hS
          · have e0 : checkM m ≠ 0 := fun q => hm ((checkM_iff m).1 q)
            refine KW.regionG (N := 25) (fun w' => Ext wr w') (by kernel_rfl) rfl ?_
            have hS := Ext.drew wr
            refine GW.val 0 rfl (by kernel_rfl) (by kernel_rfl) (by kernel_rfl) rfl rfl hS (fun w' hS' => EX.move rfl) ?_
            refine GW.val 1 rfl (by kernel_rfl) (by kernel_rfl) (by kernel_rfl) rfl rfl hS (fun w' hS' => EX.move rfl) ?_
            refine GW.val 2 rfl (by kernel_rfl) (by kernel_rfl) (by kernel_rfl) rfl rfl hS (fun w' hS' => EX.indexAddrS Tryz.underlying22 ti70 rfl rfl (by omega)) ?_
            refine GW.val 3 rfl (by kernel_rfl) (by kernel_rfl) (by kernel_rfl) rfl rfl hS (fun w' hS' => EX.loadA (l := m.cells) Tryz.underlying70 rfl ti70 rfl rfl (fun j u h => cell_extC hS' (hcell j u h))) ?_
            refine GW.call 4 rfl (by kernel_rfl) rfl rfl rfl (ck _) ?_
            rintro _ wq ⟨rfl, hxq⟩
            refine ⟨hS.trans hxq, fun hS => ?_⟩
            refine GW.val 5 rfl (by kernel_rfl) (by kernel_rfl) (by kernel_rfl) rfl rfl hS (fun w' hS' => by first | exact EX.neqN (b := 0) rfl rfl | exact EX.neqZ rfl rfl) ?_
            refine GW.val 6 rfl (by kernel_rfl) (by kernel_rfl) (by kernel_rfl) rfl rfl hS (fun w' hS' => EX.move rfl) ?_
            refine GW.as 21 (.bool true) rfl (congrArg Value.bool (decide_eq_true ((fun h => e0 h)))) ?_
            refine GW.pass 7 rfl (by kernel_rfl) (by kernel_rfl) (by kernel_rfl) rfl rfl hS ?_
            refine GW.pass 8 rfl (by kernel_rfl) (by kernel_rfl) (by kernel_rfl) rfl rfl hS ?_
            refine GW.pass 9 rfl (by kernel_rfl) (by kernel_rfl) (by kernel_rfl) rfl rfl hS ?_
            refine GW.pass 10 rfl (by kernel_rfl) (by kernel_rfl) (by kernel_rfl) rfl rfl hS ?_
            refine GW.pass 11 rfl (by kernel_rfl) (by kernel_rfl) (by kernel_rfl) rfl rfl hS ?_
            refine GW.pass 12 rfl (by kernel_rfl) (by kernel_rfl) (by kernel_rfl) rfl rfl hS ?_
            refine GW.pass 13 rfl (by kernel_rfl) (by kernel_rfl) (by kernel_rfl) rfl rfl hS ?_
            refine GW.pass 14 rfl (by kernel_rfl) (by kernel_rfl) (by kernel_rfl) rfl rfl hS ?_
            refine GW.pass 15 rfl (by kernel_rfl) (by kernel_rfl) (by kernel_rfl) rfl rfl hS ?_
            refine GW.pass 16 rfl (by kernel_rfl) (by kernel_rfl) (by kernel_rfl) rfl rfl hS ?_
            refine GW.pass 17 rfl (by kernel_rfl) (by kernel_rfl) (by kernel_rfl) rfl rfl hS ?_
            refine GW.pass 18 rfl (by kernel_rfl) (by kernel_rfl) (by kernel_rfl) rfl rfl hS ?_
            refine GW.pass 19 rfl (by kernel_rfl) (by kernel_rfl) (by kernel_rfl) rfl rfl hS ?_
            refine GW.pass 20 rfl (by kernel_rfl) (by kernel_rfl) (by kernel_rfl) rfl rfl hS ?_
            refine GW.pass 21 rfl (by kernel_rfl) (by kernel_rfl) (by kernel_rfl) rfl rfl hS ?_
            refine GW.pass 22 rfl (by kernel_rfl) (by kernel_rfl) (by kernel_rfl) rfl rfl hS ?_
            refine GW.pass 23 rfl (by kernel_rfl) (by kernel_rfl) (by kernel_rfl) rfl rfl hS ?_
            refine GW.val 24 rfl (by kernel_rfl) (by kernel_rfl) (by kernel_rfl) rfl rfl hS (fun w' hS' => EX.pickT rfl rfl) ?_
            refine GW.done (by kernel_rfl) ?_
            refine KW.as 39 (.bool (decide ((¬ mayM m ∨ 0 ≤ cmpPrev l i m)))) rfl (congrArg Value.bool (decide_eq_true (.inl hm)).symm) ?_
            refine KW.meet1 (wq) ⟨rfl, rfl, rfl, rfl, trivial⟩ rfl ?_
            exact hS
        · rintro wq hxq
          refine KW.condD rfl (fun hbad => ?_) (fun hbad => ?_)
          · refine KW.seq (KW.region ?_)
            refine OW.val rfl rfl (EX.assign rfl) ?_
            refine OW.nil ?_
            refine KW.ret (ret1 rfl rfl ?_)
            rw [chkC_no (hno hbad)]
            exact ⟨rfl, hx.trans hxq⟩
          · have hpre2 := hpre.snoc (m := m) (Decidable.of_not_not fun q => hbad (.inl q)) (fun q => hbad (.inr q))
            rw [← hsn] at hpre2
            refine KW.skip (KW.leave (KW.region ?_))
            refine OW.val rfl rfl (EX.move rfl) ?_
            refine OW.val rfl rfl (by first | exact EX.addN (b := 1) (m := 9223372036854775807) rfl rfl rfl (by omega) | exact EX.addZ (m := 9223372036854775807) rfl rfl rfl rfl (by omega)) ?_
            refine OW.val rfl rfl (EX.assign rfl) ?_
            refine OW.nil ?_
            refine KW.back2 (i + 1) (wq) ⟨rfl, rfl, rfl, trivial⟩ rfl ?_ (by omega)
            exact ⟨by omega, hpre2, hx.trans hxq⟩
      · obtain rfl : i = l.length := by omega
        rw [List.take_length] at hpre
        refine KW.exit rfl (KW.seq (KW.seq (KW.region ?_)))
        refine OW.val rfl rfl (EX.move rfl) ?_
        refine OW.call rfl rfl rfl (rexts_s l (by omega) A c B wr (hs.ext hx)) ?_
        rintro v4 w4 ⟨hown4, hx4⟩
        refine OW.val rfl rfl (EX.move rfl) ?_
        obtain ⟨A4, c4, rfl, _, hsl4⟩ := hown4.slice
        have cs := rspace_s (exts l) (by rw [exts_len]; omega) cap A4 c4 _ w4 hsl4
        rw [exts_len] at cs
        refine OW.call rfl rfl rfl (cs) ?_
        rintro _ w5 ⟨rfl, hx5⟩
        refine OW.val rfl rfl (by first | exact EX.neqN (b := 0) rfl rfl | exact EX.neqZ rfl rfl) ?_
        refine OW.nil ?_
        have x5 := (hx.trans hx4).trans hx5
        refine KW.condD rfl (fun hsp => ?_) (fun hsp => ?_)
        · have hno : ¬ OkX (exts l) cap := fun q => hsp (by unfold spaceC; rw [if_pos q])
          refine KW.seq (KW.region ?_)
          refine OW.val rfl rfl (EX.assign rfl) ?_
          refine OW.nil ?_
          refine KW.ret (ret1 rfl rfl ?_)
          rw [chkC_no (fun h => hno h.ext)]
          exact ⟨rfl, x5⟩
        · have hyes : OkX (exts l) cap := Decidable.byContradiction fun q => hsp (by unfold spaceC; rw [if_neg q]; decide)
          refine KW.skip (KW.seq (KW.region ?_))
          refine OW.val rfl rfl (EX.assign rfl) ?_
          refine OW.nil ?_
          refine KW.ret (ret1 rfl rfl ?_)
          rw [chkC_ok ⟨by omega, hpre.may, hpre.rises, hyes⟩]
          exact ⟨rfl, x5⟩
end Go.Proofs.YthgfdpcpbghkpaaGreatDoor
namespace Go.Proofs.YthgfdpcpbghkpaaGreatDoor.Cat
open Pth Rec Srt
def piece (s : List UInt8) (i : Nat) : List UInt8 := (s.drop (486 * i)).take 486
theorem piece_len (s : List UInt8) (i : Nat) : (piece s i).length ≤ 486 := by unfold piece; rw [List.length_take]; omega
def sec5 (gen : Int) (s : List UInt8) (i : Nat) : List UInt8 := text 4 gen.toNat i (piece s i)
def sect5 (gen : Int) (s : List UInt8) : Txts := (List.range 5).map (sec5 gen s)
theorem sect5_len (gen : Int) (s : List UInt8) : (sect5 gen s).length = 5 := by simp [sect5]
theorem sect5_get (gen : Int) (s : List UInt8) {i : Nat} (h : i < 5) : (sect5 gen s)[i]? = some (sec5 gen s i) := by simp [sect5, h]
structure OkE (gen : Int) (l : List M) : Prop where
  low : 0 ≤ gen
  high : gen ≤ 4611686018427387904
  chk : OkC l 4096
noncomputable def encC (gen : Int) (l : List M) : Txts × Nat := open Classical in if OkE gen l then (sect5 gen (allT l), 0) else ([], 230)
theorem encC_ok {gen : Int} {l : List M} (h : OkE gen l) : encC gen l = (sect5 gen (allT l), 0) := by unfold encC; rw [if_pos h]
theorem encC_no {gen : Int} {l : List M} (h : ¬ OkE gen l) : encC gen l = ([], 230) := by unfold encC; rw [if_neg h]
theorem encC_or (gen : Int) (l : List M) : (OkE gen l ∧ encC gen l = (sect5 gen (allT l), 0)) ∨ encC gen l = ([], 230) := by
  rcases Classical.em (OkE gen l) with h | h
  · exact .inl ⟨h, encC_ok h⟩
  · exact .inr (encC_no h)
theorem okE_len {gen : Int} {l : List M} (h : OkE gen l) : (allT l).length ≤ 2096 := by
  have h1 := allT_len l h.chk.may
  have := h.chk.len
  omega
theorem enc_sec {gen : Int} (h0 : 0 ≤ gen) (h1 : gen ≤ 4611686018427387904) (s : List UInt8) {i : Nat} (hi : i < 5) : encodeR 4 gen i (piece s i) = (sec5 gen s i, 0) := by
  have hb : ¬ bad 4 gen i (piece s i) := by
    unfold bad
    have := piece_len s i
    omega
  unfold encodeR
  rw [if_neg hb]
  rfl
theorem dec_sec {gen : Int} (h0 : 0 ≤ gen) (h1 : gen ≤ 4611686018427387904) (s : List UInt8) {i : Nat} (hi : i < 5) : decodeR (sec5 gen s i) = (⟨4, gen, i, piece s i⟩, 0) := dec_enc (by decide) (enc_sec h0 h1 s hi)
def datas (ss : Txts) : List UInt8 := ss.flatMap fun s => (decodeR s).1.data
theorem datas_snoc (ss : Txts) (s : List UInt8) : datas (ss ++ [s]) = datas ss ++ (decodeR s).1.data := by simp [datas]
def genOf (ss : Txts) : Int := (decodeR (ss.getD 0 [])).1.gen
def memsOf (ss : Txts) : List M × Nat := memL ((datas ss).length + 1) (datas ss) []
structure OkD (ss : Txts) : Prop where
  mem : (memsOf ss).2 = 0
  enc : encC (genOf ss) (memsOf ss).1 = (ss, 0)
noncomputable def decC (ss : Txts) : Int × List M × Nat := open Classical in if OkD ss then (genOf ss, (memsOf ss).1, 0) else (0, [], 230)
theorem decC_ok {ss : Txts} (h : OkD ss) : decC ss = (genOf ss, (memsOf ss).1, 0) := by unfold decC; rw [if_pos h]
theorem decC_no {ss : Txts} (h : ¬ OkD ss) : decC ss = (0, [], 230) := by unfold decC; rw [if_neg h]
theorem enc_parts {gen : Int} {l : List M} {ss : Txts} (h : encC gen l = (ss, 0)) : OkE gen l ∧ ss = sect5 gen (allT l) := by
  rcases encC_or gen l with ⟨h1, h2⟩ | h2
  · rw [h2] at h
    injection h with h3 h4
    exact ⟨h1, h3.symm⟩
  · rw [h2] at h
    injection h with h3 h4
    cases h4
theorem enc_at {gen : Int} {l : List M} {ss : Txts} (h : encC gen l = (ss, 0)) {i : Nat} (hi : i < ss.length) : ss.length = 5 ∧ decodeR ss[i] = (⟨4, gen, i, piece (allT l) i⟩, 0) := by
  obtain ⟨h1, rfl⟩ := enc_parts h
  rw [sect5_len] at hi
  have h2 := sect5_get gen (allT l) hi
  have h3 : (sect5 gen (allT l))[i]'(by rw [sect5_len]; exact hi) = sec5 gen (allT l) i := by
    rw [List.getElem?_eq_getElem (by rw [sect5_len]; exact hi)] at h2
    injection h2
  exact ⟨sect5_len _ _, by rw [h3]; exact dec_sec h1.low h1.high _ hi⟩
theorem enc_len {gen : Int} {l : List M} {ss : Txts} (h : encC gen l = (ss, 0)) : ss.length = 5 := by
  obtain ⟨_, rfl⟩ := enc_parts h
  exact sect5_len _ _
theorem enc_gen {gen : Int} {l : List M} {ss : Txts} (h : encC gen l = (ss, 0)) : genOf ss = gen := by
  have hl := enc_len h
  have h0 : 0 < ss.length := by omega
  have := (enc_at h h0).2
  unfold genOf
  rw [show ss.getD 0 [] = ss[0] by simp [List.getD_eq_getElem?_getD, List.getElem?_eq_getElem h0], this]
theorem pieces_all (s : List UInt8) : ∀ n, (List.range n).flatMap (piece s) = s.take (486 * n)
  | 0 => by simp
  | n + 1 => by
    rw [List.range_succ, List.flatMap_append, pieces_all s n]
    simp only [List.flatMap_cons, List.flatMap_nil, List.append_nil]
    unfold piece
    rw [show 486 * (n + 1) = 486 * n + 486 by omega, List.take_add]
theorem datas_enc {gen : Int} {l : List M} {ss : Txts} (h : encC gen l = (ss, 0)) : datas ss = allT l := by
  obtain ⟨h1, rfl⟩ := enc_parts h
  have hlen := okE_len h1
  have e : datas (sect5 gen (allT l)) = (List.range 5).flatMap (piece (allT l)) := by
    unfold datas sect5
    rw [List.flatMap_map]
    rw [List.flatMap_def, List.flatMap_def]
    congr 1
    apply List.map_congr_left
    intro i hi
    rw [dec_sec h1.low h1.high _ (List.mem_range.1 hi)]
  rw [e, pieces_all, List.take_of_length_le (by omega)]
theorem dec_back {gen : Int} {l : List M} {ss : Txts} (hs : ∀ m ∈ l, m.sum ≤ 4294967295) (h : encC gen l = (ss, 0)) : decC ss = (gen, l, 0) := by
  have h1 := (enc_parts h).1
  have hm : memsOf ss = (l, 0) := by
    unfold memsOf
    rw [datas_enc h]
    have := memL_back l ((allT l).length + 1) [] (fun m hm => ⟨h1.chk.may m hm, hs m hm⟩) (Nat.lt_succ_self _)
    simpa using this
  have hg := enc_gen h
  have hd : OkD ss := ⟨by rw [hm], by rw [hm, hg]; exact h⟩
  rw [decC_ok hd, hm, hg]
theorem okD_any {ss : Txts} {i : Nat} (hi : i < ss.length) (hm : (memsOf ss).2 = 0) (h : encC (decodeR ss[i]).1.gen (memsOf ss).1 = (ss, 0)) : OkD ss := by
  have := (enc_at h hi).2
  have hg := enc_gen h
  rw [this] at h hg
  exact ⟨hm, by rw [hg]; exact h⟩
theorem okD_at {ss : Txts} (h : OkD ss) {i : Nat} (hi : i < ss.length) : ss.length = 5 ∧ (decodeR ss[i]).2 = 0 ∧ (decodeR ss[i]).1.kind = 4 ∧ (decodeR ss[i]).1.gen = genOf ss ∧ (decodeR ss[i]).1.index = i := by
  obtain ⟨h1, h2⟩ := enc_at h.enc hi
  rw [h2]
  exact ⟨h1, rfl, rfl, rfl, rfl⟩
theorem okD_len {ss : Txts} (h : OkD ss) : ss.length = 5 := enc_len h.enc
end Go.Proofs.YthgfdpcpbghkpaaGreatDoor.Cat
namespace Go.Proofs.YthgfdpcpbghkpaaGreatDoor
open Go.RowKit
section
variable {P : Program} {n : Nat} {σ : Sig} {w w' : World} {t e ty T src dst : TypeId} {x y : Operand}
theorem Bk.shape {b : Nat} {l : List Value} (h : Bk w b T l) : w.shape? b = some (T, l.length) := by
  obtain ⟨fr, h, _⟩ := h
  simp [World.shape?, h]
theorem EX.toUnsafe {a : Addr} {s cells : Nat} (hs : P.underlying src = some (.pointer t)) (hd : P.underlying dst = some .unsafePointer) (hz : (P.info? t).map (·.size) = some (s + 1)) (hsh : w.shape? a.block = some (e, cells)) (hoff : a.off < cells) (hx : ev σ x = some (.pointer (some a))) :
    EX P n σ (.convert src dst x) ty w (.pointer (some a)) w := fun A ha dd pos after g => by
  obtain ⟨j, hj, hjs⟩ := Option.map_eq_some_iff.1 hz
  simp only [execOp, ha.ev hx, Lib.run_to_unsafe w a hs hd hj (by omega) hsh hoff, Sem.run_bind, Result.andThen_ok]
  rfl
theorem EX.fromUnsafe {a : Addr} {u : TypeId} {cells : Nat} {z : Nat} (hs : P.underlying src = some .unsafePointer) (hd : P.underlying dst = some (.pointer u)) (hz : (P.info? u).map (·.size) = some z) (hsh : w.shape? a.block = some (e, cells)) (hl : liesAt P P.depth e (cells / P.cellsOf e) a.off u 1 = true) (hx : ev σ x = some (.pointer (some a))) :
    EX P n σ (.convert src dst x) ty w (.pointer (some a)) w := fun A ha dd pos after g => by
  obtain ⟨j, hj, hjs⟩ := Option.map_eq_some_iff.1 hz
  simp only [execOp, ha.ev hx, Lib.run_from_unsafe w a hs hd hj hsh hl, Sem.run_bind, Result.andThen_ok]
  rfl
theorem EX.neqSame {a : Addr} {z : Nat} (hu : P.underlying t = some (.pointer e)) (hz : (P.info? e).map (·.size) = some z) (hx : ev σ x = some (.pointer (some a))) (hy : ev σ y = some (.pointer (some a))) : EX P n σ (.binOp .neq t x y T) ty w (.bool false) w := by
  obtain ⟨j, hj, hjs⟩ := Option.map_eq_some_iff.1 hz
  exact EX.bin hx hy (guard_ptr _ _ _) (Lib.run_neq_ptr_same w a hu hj)
theorem EX.extern {f : FuncId} {fn : Func} {xs : List Operand} {vs : List Value} {ats : Array TypeId} {E : Array Value → Sem Value} {v : Value} (hf : P.funcs[f]? = some fn) (hname : (fn.name == "runtime.NumGoroutine") = false) (hb : fn.body.isNone = true) (hn : Extern.findNext fn = none) (he : Extern.find fn = some E)
    (hx : evs σ xs = some vs) (hr : (E vs.toArray).run P w = .ok v w') : EX P n σ (.call { callee := .value (.func f), args := xs.toArray, argTypes := ats }) ty w v w' := fun a ha dd pos after g => by
  rw [execOp_call_go]
  have : #[] ++ xs.toArray.map a.eval ++ #[] = vs.toArray := by simp [ha.evs hx]
  rw [this, run_callFunc_extern hf hname hb hn he, hr]
  rfl
theorem EX.sliceData {a : Addr} {m c : Nat} (hc : c ≠ 0) (hx : ev σ x = some (.slice (some a) m c)) : EX P n σ (.call { callee := .builtin .unsafeSliceData, args := #[x], argTypes := #[t] }) ty w (.pointer (some a)) w := fun A ha dd pos after g => by
  simp only [execOp, resolve, invoke, builtin, Sem.run_bind, Sem.run_pure, Result.andThen_ok, List.map_toArray, List.map_cons, List.map_nil, ha.ev hx, Lib.run_unsafeSliceData_row w _ _ a m c hc]
theorem EX.sliceDataN {m c : Nat} (hx : ev σ x = some (.slice none m c)) : EX P n σ (.call { callee := .builtin .unsafeSliceData, args := #[x], argTypes := #[t] }) ty w (.pointer none) w := fun A ha dd pos after g => by
  simp only [execOp, resolve, invoke, builtin, Sem.run_bind, Sem.run_pure, Result.andThen_ok, List.map_toArray, List.map_cons, List.map_nil, ha.ev hx, Lib.run_unsafeSliceData_nil w _ _ m c]
theorem EX.unsafeStr {g : Nat} {l : List UInt8} {rest : List Value} {t' : TypeId} (hp : P.underlying t = some (.pointer e)) (hc : P.cellsOf e = 1) (hb : Bk w g e (bytesV l ++ rest)) (h0 : l ≠ []) (h63 : l.length ≤ 9223372036854775807)
    (hx : ev σ x = some (.pointer (some ⟨g, 0, none⟩))) (hy : ev σ y = some (.int .i64 (l.length : Int))) : EX P n σ (.call { callee := .builtin .unsafeString, args := #[x, y], argTypes := #[t, t'] }) ty w (str l) (w.freeze ⟨g, 0, none⟩ l.length) := fun A ha dd pos after gd => by
  have h := Lib.run_unsafeString_row (P := P) w t t' ty e hp hc g (bytesV l ++ rest).length hb.shape l h0 (by simp [bytesV]) h63 (by
    intro j u hj
    have : (bytesV l ++ rest)[j]? = some (.int .u8 (u.toNat : Int)) := by
      rw [List.getElem?_append_left (by simp [bytesV]; exact (List.getElem?_eq_some_iff.1 hj).1)]
      simp [bytesV, hj]
    have h2 := hb.cell_of this
    rw [show (⟨g, 0, none⟩ : Addr).add j = ⟨g, j, none⟩ by unfold Addr.add; split <;> simp_all]
    exact h2)
  simp only [execOp, resolve, invoke, builtin, Sem.run_bind, Sem.run_pure, Result.andThen_ok, List.map_toArray, List.map_cons, List.map_nil, ha.ev hx, ha.ev hy, h]
theorem EX.unsafeStrN {t' : TypeId} {p : Option Addr} (hx : ev σ x = some (.pointer p)) (hy : ev σ y = some (.int .i64 ((0 : Nat) : Int))) : EX P n σ (.call { callee := .builtin .unsafeString, args := #[x, y], argTypes := #[t, t'] }) ty w (str []) w := fun A ha dd pos after gd => by
  have h := Lib.run_unsafeString_none (P := P) w t t' ty p
  have e0 : (((0 : Nat) : Int)) = 0 := rfl
  simp only [execOp, resolve, invoke, builtin, Sem.run_bind, Sem.run_pure, Result.andThen_ok, List.map_toArray, List.map_cons, List.map_nil, ha.ev hx, ha.ev hy, e0, h]
  rfl
end
end Go.Proofs.YthgfdpcpbghkpaaGreatDoor
namespace Go.Proofs.YthgfdpcpbghkpaaGreatDoor
open Go.RowKit
def Bd (w : World) (B b : Nat) (l : List UInt8) : Prop :=
  B ≤ b ∧ ∃ p v, (p = .pointer none ∨ p = .pointer (some ⟨b, 0, none⟩)) ∧ Bk w b 73 [p, v] ∧ (l = [] → v = .slice none 0 0) ∧ Own w B 5 1 v l.length (bytesV l)
theorem Bd.new {w : World} {B b : Nat} (hB : B ≤ b) (h : Bk w b 73 [.pointer none, .slice none 0 0]) : Bd w B b [] := ⟨hB, _, _, .inl rfl, h, fun _ => rfl, Own.nil _ _ _ _⟩
theorem Bd.ext {w w' : World} {B b : Nat} {l : List UInt8} (h : Bd w B b l) (hx : Ext w w') : Bd w' B b l := by
  obtain ⟨h1, p, v, h2, h3, h4, h5⟩ := h
  exact ⟨h1, p, v, h2, h3.ext hx, h4, h5.ext hx⟩
set_option maxRecDepth 20000 in
theorem copyCheck_b (b : Nat) (p v : Value) (w : World) (hp : p = .pointer none ∨ p = .pointer (some ⟨b, 0, none⟩)) (hb : Bk w b 73 [p, v]) :
    Ret Tryz.prog 63 [.pointer (some ⟨b, 0, none⟩)] w fun r w' => r = .tuple #[] ∧ Bk w' b 73 [.pointer (some ⟨b, 0, none⟩), v] ∧ Mo w w' [b] := by
  refine Ret.enter Tryz.func63 rfl Tryz.ntmps63 (by kernel_rfl) rfl ?_
  refine KW.seq (KW.region ?_)
  refine OW.val rfl rfl (EX.move rfl) ?_
  refine OW.val rfl rfl (EX.nilCheck rfl) ?_
  refine OW.val rfl rfl (EX.fieldAddr (off := 0) Tryz.underlying73 rfl rfl ti71 rfl rfl) ?_
  refine OW.val rfl rfl (EX.load Tryz.underlying71 rfl rfl (hb.cell_of rfl)) ?_
  rcases hp with rfl | rfl
  · refine OW.val rfl rfl (EX.eqlP0 Tryz.underlying71 rfl rfl) ?_
    refine OW.nil ?_
    refine KW.condT rfl (KW.region ?_)
    refine OW.val rfl rfl (EX.move rfl) ?_
    refine OW.val rfl rfl (EX.move rfl) ?_
    refine OW.val rfl rfl (EX.toUnsafe (s := 1) Tryz.underlying71 Tryz.underlying142 (by kernel_rfl) hb.shape (Nat.zero_lt_succ _) rfl) ?_
    refine OW.val rfl rfl (EX.extern Tryz.func82 (by kernel_rfl) (by kernel_rfl) (by kernel_rfl) (E := Extern.AbiNoEscape.same) (by kernel_rfl) rfl (Lib.run_noEscape _ _)) ?_
    refine OW.val rfl rfl (EX.fromUnsafe (z := 2) Tryz.underlying142 Tryz.underlying71 (by kernel_rfl) hb.shape (by kernel_rfl) rfl) ?_
    refine OW.val rfl rfl (EX.nilCheck rfl) ?_
    refine OW.val rfl rfl (EX.fieldAddr (off := 0) Tryz.underlying73 rfl rfl ti71 rfl rfl) ?_
    refine OW.storeB rfl ti71 rfl rfl (by first | rfl | assumption | exact Own.one (by assumption)) (hb) (by simp) ?_
    rintro w2 hb2 hm2
    refine OW.nil ?_
    refine KW.done (ret0 rfl ?_)
    exact ⟨rfl, hb2, hm2⟩
  · refine OW.val rfl rfl (EX.eqlP1 Tryz.underlying71 rfl rfl) ?_
    refine OW.nil ?_
    refine KW.condF rfl (KW.seq (KW.region ?_))
    refine OW.val rfl rfl (EX.move rfl) ?_
    refine OW.val rfl rfl (EX.nilCheck rfl) ?_
    refine OW.val rfl rfl (EX.fieldAddr (off := 0) Tryz.underlying73 rfl rfl ti71 rfl rfl) ?_
    refine OW.val rfl rfl (EX.load Tryz.underlying71 rfl rfl (hb.cell_of rfl)) ?_
    refine OW.val rfl rfl (EX.move rfl) ?_
    refine OW.val rfl rfl (EX.neqSame (z := 2) Tryz.underlying71 (by kernel_rfl) rfl rfl) ?_
    refine OW.nil ?_
    refine KW.condF rfl (KW.skip ?_)
    refine KW.done (ret0 rfl ?_)
    exact ⟨rfl, hb, Mo.refl _ _⟩
def bty (T : TypeId) : Bool := T == 73 || T == 5
set_option maxRecDepth 20000 in
theorem writeString_t (B b : Nat) (l s : List UInt8) (w : World) (h : Bd w B b l) (hs : s ≠ []) (hlen : l.length + s.length ≤ 140737488355328) (hB : B ≤ w.heap.size) :
    Ret Tryz.prog 32 [.pointer (some ⟨b, 0, none⟩), str s] w fun r w' => (∃ q, r = q) ∧ Bd w' B b (l ++ s) ∧ Below B w w' ∧ Tm w w' B bty := by
  obtain ⟨hBb, p, v, hp, hb, hn, hown⟩ := h
  have hlb : (bytesV l).length = l.length := by simp [bytesV]
  refine Ret.enter Tryz.func32 rfl Tryz.ntmps32 (by kernel_rfl) rfl ?_
  refine KW.seq (KW.region ?_)
  refine OW.val rfl rfl (EX.assign rfl) ?_
  refine OW.val rfl rfl (EX.assign rfl) ?_
  refine OW.nil ?_
  refine KW.seq (KW.region ?_)
  refine OW.val rfl rfl (EX.move rfl) ?_
  refine OW.call rfl rfl rfl (copyCheck_b b p v w hp hb) ?_
  rintro _ w1 ⟨rfl, hb1, hm1⟩
  refine OW.nil ?_
  refine KW.seq (KW.region ?_)
  refine OW.val rfl rfl (EX.move rfl) ?_
  refine OW.val rfl rfl (EX.move rfl) ?_
  refine OW.val rfl rfl (EX.nilCheck rfl) ?_
  refine OW.val rfl rfl (EX.fieldAddr (off := 1) Tryz.underlying73 rfl rfl ti54 rfl rfl) ?_
  have hown1 := hown.mo hm1 (fun k hk => by simp; exact fun z => hown.ne hb (by decide) k hk z.symm)
  have b1 : Below B w w1 := below_mo (Below.refl B w) hm1 hB (fun k hk => by simp at hk; omega)
  have hB1 : B ≤ w1.heap.size := Nat.le_trans hB b1.size
  refine OW.val rfl rfl (EX.load Tryz.underlying54 rfl rfl (hb1.cell_of rfl)) ?_
  refine OW.val rfl rfl (EX.move rfl) ?_
  refine OW.append B rfl rfl Tryz.underlying54 ti5 rfl (by decide) rfl rfl hown1 (Src.of_str Tryz.underlying9 s) (by simp only [maxLen]; omega) (by omega) hB1 ?_
  rintro v2 w2 hown2 hg2 hv2
  refine OW.val rfl rfl (EX.nilCheck rfl) ?_
  refine OW.val rfl rfl (EX.fieldAddr (off := 1) Tryz.underlying73 rfl rfl ti54 rfl rfl) ?_
  have hb2 := hb1.grown hg2 (fun z => hown1.ne hb1 (by decide) b z.symm rfl)
  have b2 : Below B w w2 := below_mo b1 (Mo.grown hg2 (S := v.ownBlock.toList) (fun k e => by rw [e]; simp)) hB1 (fun k hk => (hown1.lt k (Option.mem_toList.1 hk)).1)
  have hB2 : B ≤ w2.heap.size := Nat.le_trans hB b2.size
  refine OW.storeB rfl ti54 rfl rfl (by first | rfl | assumption | exact Own.one (by assumption)) (hb2) (by simp) ?_
  rintro w3 hb3 hm3
  refine OW.nil ?_
  refine KW.seq (KW.region ?_)
  refine OW.val rfl rfl (EX.move rfl) ?_
  refine OW.val rfl rfl (EX.lenS Tryz.underlying9 rfl) ?_
  refine OW.val rfl rfl (EX.assign rfl) ?_
  refine OW.val rfl rfl (EX.assign rfl) ?_
  refine OW.nil ?_
  have b3 : Below B w w3 := below_mo b2 hm3 hB2 (fun k hk => by simp at hk; omega)
  have hown3 := hown2.mo hm3 (fun k hk => by simp; exact fun z => hown2.ne hb2 (by decide) k hk z.symm)
  have tm1 : Tm w w1 B bty := (Tm.set hb hm1 hBb).mono fun T hT => by simp at hT; simp [bty, hT]
  have tm2 : Tm w1 w2 B bty := (Tm.grown hown1 hg2).mono fun T hT => by simp at hT; simp [bty, hT]
  have tm3 : Tm w2 w3 B bty := (Tm.set hb2 hm3 hBb).mono fun T hT => by simp at hT; simp [bty, hT]
  refine KW.ret (ret2 rfl rfl rfl ?_)
  refine ⟨⟨_, rfl⟩, ⟨hBb, _, v2, .inr rfl, hb3, fun q => absurd q (by simp [hs]), ?_⟩, b3, (tm1.trans tm2).trans tm3⟩
  rw [List.length_append]
  have e : bytesV (l ++ s) = bytesV l ++ bytesV s := by simp [bytesV]
  rw [e]
  exact hown3
theorem writeString_b (B b : Nat) (l s : List UInt8) (w : World) (h : Bd w B b l) (hs : s ≠ []) (hlen : l.length + s.length ≤ 140737488355328) (hB : B ≤ w.heap.size) :
    Ret Tryz.prog 32 [.pointer (some ⟨b, 0, none⟩), str s] w fun r w' => (∃ q, r = q) ∧ Bd w' B b (l ++ s) ∧ Below B w w' :=
  (writeString_t B b l s w h hs hlen hB).mono fun _ _ h => ⟨h.1, h.2.1, h.2.2.1⟩
set_option maxRecDepth 20000 in
theorem bstring_b (B b : Nat) (l : List UInt8) (w : World) (h : Bd w B b l) (hlen : l.length ≤ 140737488355328) (hB : B ≤ w.heap.size) :
    Ret Tryz.prog 33 [.pointer (some ⟨b, 0, none⟩)] w fun r w' => r = str l ∧ Below B w w' := by
  obtain ⟨hBb, p, v, hp, hb, hn, hown⟩ := h
  refine Ret.enter Tryz.func33 rfl Tryz.ntmps33 (by kernel_rfl) rfl ?_
  refine KW.seq (KW.region ?_)
  refine OW.val rfl rfl (EX.assign rfl) ?_
  refine OW.nil ?_
  refine KW.seq ?_
  rcases Decidable.em (l = []) with hl | hl
  · obtain rfl := hn hl
    subst hl
    refine KW.regionQ (by kernel_rfl) (by kernel_rfl) ?_
    refine QW.val rfl rfl (fun _ => EX.move rfl) ?_
    refine QW.val rfl rfl (fun _ => EX.nilCheck rfl) ?_
    refine QW.val rfl rfl (fun _ => EX.fieldAddr (off := 1) Tryz.underlying73 rfl rfl ti54 rfl rfl) ?_
    refine QW.val rfl rfl (fun _ => EX.load Tryz.underlying54 rfl rfl (hb.cell_of rfl)) ?_
    refine QW.val rfl rfl (fun _ => EX.sliceDataN rfl) ?_
    refine QW.val rfl rfl (fun _ => EX.move rfl) ?_
    refine QW.val rfl rfl (fun _ => EX.nilCheck rfl) ?_
    refine QW.val rfl rfl (fun _ => EX.fieldAddr (off := 1) Tryz.underlying73 rfl rfl ti54 rfl rfl) ?_
    refine QW.val rfl rfl (fun _ => EX.load Tryz.underlying54 rfl rfl (hb.cell_of rfl)) ?_
    refine QW.val rfl rfl (fun _ => EX.lenA Tryz.underlying54 rfl) ?_
    refine QW.val rfl rfl (fun _ => EX.unsafeStrN rfl rfl) ?_
    refine QW.val rfl rfl (fun _ => EX.assign rfl) ?_
    refine QW.nil (fun nq => ?_)
    refine KW.ret (ret1 rfl rfl ?_)
    exact ⟨rfl, below_drewN (Below.refl B w) nq⟩
  · have hne : l.length ≠ 0 := fun z => hl (List.eq_nil_of_length_eq_zero z)
    rcases hown.2 with ⟨_, hz⟩ | ⟨g, cap, rest, rfl, hg, hbg, hlen2, hc1, hc2⟩
    · exact absurd hz hne
    · refine KW.regionH 10 (by kernel_rfl) (by kernel_rfl) ?_
      refine HW.val rfl rfl (EX.move rfl) ?_
      refine HW.val rfl rfl (EX.nilCheck rfl) ?_
      refine HW.val rfl rfl (EX.fieldAddr (off := 1) Tryz.underlying73 rfl rfl ti54 rfl rfl) ?_
      refine HW.val rfl rfl (EX.load Tryz.underlying54 rfl rfl (hb.cell_of rfl)) ?_
      refine HW.val rfl rfl (EX.sliceData (by omega) rfl) ?_
      refine HW.val rfl rfl (EX.move rfl) ?_
      refine HW.val rfl rfl (EX.nilCheck rfl) ?_
      refine HW.val rfl rfl (EX.fieldAddr (off := 1) Tryz.underlying73 rfl rfl ti54 rfl rfl) ?_
      refine HW.val rfl rfl (EX.load Tryz.underlying54 rfl rfl (hb.cell_of rfl)) ?_
      refine HW.val rfl rfl (EX.lenA Tryz.underlying54 rfl) ?_
      refine HW.tail ?_
      refine OW.val rfl rfl (EX.unsafeStr (g := g) (l := l) (rest := rest) Tryz.underlying123 (by kernel_rfl) (hbg.drewN _) hl (by omega) rfl rfl) ?_
      refine OW.val rfl rfl (EX.assign rfl) ?_
      refine OW.nil ?_
      refine KW.ret (ret1 rfl rfl ?_)
      exact ⟨rfl, Lib.below_freeze (below_drewN (Below.refl B w) _) (p := ⟨g, 0, none⟩) hg _⟩
end Go.Proofs.YthgfdpcpbghkpaaGreatDoor
namespace Go.Proofs.YthgfdpcpbghkpaaGreatDoor
open Go.RowKit Pth Rec Srt Cat
theorem memberT_ne (m : M) : memberT m ≠ [] := fun e => by
  have := congrArg List.length e
  rw [memberT_length] at this
  simp at this
theorem encC_bad {gen : Int} {l : List M} (h : gen < 0 ∨ 4611686018427387904 < gen ∨ chkC l 4096 ≠ 0) : encC gen l = ([], 230) := encC_no fun q => by
  have h1 := q.low
  have h2 := q.high
  have h3 := chkC_ok q.chk
  omega
theorem okE_of {gen : Int} {l : List M} (h1 : ¬ gen < 0) (h2 : ¬ 4611686018427387904 < gen) (h3 : chkC l 4096 = 0) : OkE gen l := by
  refine ⟨by omega, by omega, Classical.byContradiction fun q => ?_⟩
  rw [chkC_no q] at h3
  cases h3
def out5 (gen : Int) (s : List UInt8) (i : Nat) : List Value := (List.range 5).map fun j => if j < i then str (sec5 gen s j) else str []
theorem out5_len (gen : Int) (s : List UInt8) (i : Nat) : (out5 gen s i).length = 5 := by simp [out5]
theorem out5_set (gen : Int) (s : List UInt8) {i : Nat} (hi : i < 5) : (out5 gen s i).set i (str (sec5 gen s i)) = out5 gen s (i + 1) := by
  apply List.ext_getElem?
  intro j
  rw [List.getElem?_set, out5_len]
  by_cases hj : j < 5
  · by_cases e : i = j
    · subst e
      rw [if_pos rfl, if_pos hi]
      simp [out5, hi]
    · rw [if_neg e]
      simp only [out5, List.getElem?_map, List.getElem?_range hj, Option.map_some]
      congr 1
      by_cases q : j < i
      · rw [if_pos q, if_pos (by omega)]
      · rw [if_neg q, if_neg (by omega)]
  · rw [List.getElem?_eq_none (by rw [out5_len]; omega)]
    by_cases e : i = j
    · omega
    · rw [if_neg e, List.getElem?_eq_none (by rw [out5_len]; omega)]
theorem out5_done (gen : Int) (s : List UInt8) : out5 gen s 5 = txtsV (sect5 gen s) := by
  unfold out5 txtsV sect5
  rw [List.map_map]
  apply List.map_congr_left
  intro j hj
  rw [if_pos (List.mem_range.1 hj)]
  rfl
set_option maxRecDepth 20000 in
theorem encode23_s (gen : Int) (l : List M) (hok : ∀ m ∈ l, m.Ok) (hl : l.length ≤ 140737488355328) (A : Option Addr) (c B : Nat) (w : World) (hG : MLen w) (hs : Sl w B A (memsV l)) :
    Ret Tryz.prog 7 [.int .i64 gen, .slice A l.length c] w fun v w' => (∃ u, v = .tuple #[u, .int .i64 (((encC gen l).2 : Nat) : Int)] ∧ Own w' w.heap.size 9 1 u (encC gen l).1.length (txtsV (encC gen l).1)) ∧ Ext w w' := by
  have bad : (gen < 0 ∨ 4611686018427387904 < gen ∨ chkC l 4096 ≠ 0) → ∀ w', Ext w w' → (∃ u, (Value.tuple #[.slice none 0 0, .int .i64 230]) = .tuple #[u, .int .i64 (((encC gen l).2 : Nat) : Int)] ∧ Own w' w.heap.size 9 1 u (encC gen l).1.length (txtsV (encC gen l).1)) ∧ Ext w w' := fun h w' hx => by
    rw [encC_bad h]
    exact ⟨⟨_, rfl, Own.nil _ _ _ _⟩, hx⟩
  refine Ret.enter Tryz.func7 rfl Tryz.ntmps7 (by kernel_rfl) rfl ?_
  refine KW.seq (KW.region ?_)
  refine OW.val rfl rfl (EX.assign rfl) ?_
  refine OW.val rfl rfl (EX.assign rfl) ?_
  refine OW.nil ?_
  refine KW.seq (KW.seq ?_)
  refine KW.region ?_
  refine OW.val rfl rfl (EX.move rfl) ?_
  refine OW.val rfl rfl (by first | exact EX.lssN (b := 0) rfl rfl | exact EX.lssZ rfl rfl) ?_
  refine OW.val rfl rfl (EX.move rfl) ?_
  refine OW.splitD 17 rfl (fun h1 => ?_) (fun h1 => ?_)
  · refine OW.pass rfl rfl ?_
    refine OW.pass rfl rfl ?_
    refine OW.val rfl rfl (EX.pickT rfl rfl) ?_
    refine OW.val rfl rfl (EX.move rfl) ?_
    refine OW.pass rfl rfl ?_
    refine OW.pass rfl rfl ?_
    refine OW.pass rfl rfl ?_
    refine OW.val rfl rfl (EX.pickT rfl rfl) ?_
    refine OW.nil ?_
    refine KW.condT rfl (KW.seq (KW.region ?_))
    refine OW.val rfl rfl (EX.assign rfl) ?_
    refine OW.val rfl rfl (EX.assign rfl) ?_
    refine OW.nil ?_
    refine KW.ret (ret2 rfl rfl rfl ?_)
    exact bad (.inl h1) w (Ext.refl _)
  · refine OW.val rfl rfl (EX.move rfl) ?_
    refine OW.val rfl rfl (by first | exact EX.gtrN (b := 4611686018427387904) rfl rfl | exact EX.gtrZ rfl rfl) ?_
    refine OW.val rfl rfl (EX.pickF rfl rfl) ?_
    refine OW.val rfl rfl (EX.move rfl) ?_
    refine OW.splitD 21 rfl (fun h2 => ?_) (fun h2 => ?_)
    · refine OW.pass rfl rfl ?_
      refine OW.pass rfl rfl ?_
      refine OW.pass rfl rfl ?_
      refine OW.val rfl rfl (EX.pickT rfl rfl) ?_
      refine OW.nil ?_
      refine KW.condT rfl (KW.seq (KW.region ?_))
      refine OW.val rfl rfl (EX.assign rfl) ?_
      refine OW.val rfl rfl (EX.assign rfl) ?_
      refine OW.nil ?_
      refine KW.ret (ret2 rfl rfl rfl ?_)
      exact bad (.inr (.inl h2)) w (Ext.refl _)
    · refine OW.val rfl rfl (EX.move rfl) ?_
      refine OW.call rfl rfl rfl (chk_s l hok hl 4096 A c B w hG hs) ?_
      rintro _ w1 ⟨rfl, hx1⟩
      refine OW.val rfl rfl (by first | exact EX.neqN (b := 0) rfl rfl | exact EX.neqZ rfl rfl) ?_
      refine OW.val rfl rfl (EX.pickF rfl rfl) ?_
      refine OW.nil ?_
      refine KW.condD rfl (fun h3 => ?_) (fun h3 => ?_)
      · refine KW.seq (KW.region ?_)
        refine OW.val rfl rfl (EX.assign rfl) ?_
        refine OW.val rfl rfl (EX.assign rfl) ?_
        refine OW.nil ?_
        refine KW.ret (ret2 rfl rfl rfl ?_)
        exact bad (.inr (.inr (fun q => h3 (by omega)))) w1 hx1
      · have hE : OkE gen l := okE_of h1 h2 (Decidable.byContradiction fun q => h3 (by omega))
        have hall := okE_len hE
        have hmay := hE.chk.may
        have hll := hE.chk.len
        have htake : ∀ i, (allT (l.take i)).length ≤ 2096 := fun i => by
          have h4 := allT_len (l.take i) (fun m hm => hmay m (List.mem_of_mem_take hm))
          rw [List.length_take] at h4
          omega
        rw [encC_ok hE]
        refine KW.skip (KW.seq (KW.region ?_))
        refine OW.allocB (l := [.pointer none, .slice none 0 0]) rfl rfl ti73 rfl ?_
        rintro bb w2 hge2 hb2 hx2
        refine OW.nil ?_
        refine KW.seq (KW.seq (KW.region ?_))
        refine OW.val rfl rfl (EX.move rfl) ?_
        refine OW.val rfl rfl (EX.lenA Tryz.underlying22 rfl) ?_
        refine OW.val rfl rfl (EX.move rfl) ?_
        refine OW.nil ?_
        have hbd2 := Bd.new (B := w.heap.size) (by have := hx1.size; omega) hb2
        have x2 := hx1.trans hx2
        refine KW.cut1 (fun (wr : World) => Bd wr w.heap.size bb (allT l) ∧ Ext w wr) (fun (wr : World) => [(0, .int .i64 gen), (6, .pointer (some ⟨bb, 0, none⟩))]) (fun (wr : World) => wr) ?_ ?_
        · refine KW.block ?_
          refine KW.loop2 (fun (i : Nat) (wr : World) => i ≤ l.length ∧ Bd wr w.heap.size bb (allT (l.take i)) ∧ Ext w wr) (fun (i : Nat) (wr : World) => [(0, .int .i64 gen), (6, .pointer (some ⟨bb, 0, none⟩)), (26, .slice A l.length c), (27, .int .i64 ((l.length : Nat) : Int)), (28, .int .i64 ((i : Nat) : Int))]) (fun (i : Nat) (wr : World) => wr) (fun (i : Nat) (wr : World) => l.length - i) (0) (w2) ⟨rfl, rfl, rfl, rfl, rfl, trivial⟩ rfl ?_ ?_
          · exact ⟨Nat.zero_le _, hbd2, x2⟩
          · rintro i wr ⟨hi, hbd, hx⟩
            have ht1 := htake i
            have ht2 := htake (i + 1)
            refine KW.seq (KW.region ?_)
            refine OW.val rfl rfl (by first | exact EX.lssN rfl rfl | exact EX.lssZ rfl rfl) ?_
            refine OW.nil ?_
            refine KW.seq ?_
            refine KW.condD rfl (fun hlt => ?_) (fun hlt => ?_)
            · obtain ⟨b, o, rfl, _, hcell⟩ := (hs.ext hx).flat (i := i) (c := 5) (fun _ => rfl) (by decide) hlt
              have hsn : l.take (i + 1) = l.take i ++ [l[i]] := (List.take_append_getElem hlt).symm
              have hmo := hok l[i] (List.getElem_mem hlt)
              have hmm := hmay l[i] (List.getElem_mem hlt)
              generalize l[i] = m at hcell hsn hmo hmm
              have hcs : allT (l.take (i + 1)) = allT (l.take i) ++ memberT m := by rw [hsn, allT_snoc]
              rw [hcs, List.length_append] at ht2
              refine KW.skip (KW.seq (KW.block (KW.seq (KW.region ?_))))
              refine OW.val rfl rfl (EX.indexAddrS Tryz.underlying22 ti70 rfl rfl (by omega)) ?_
              refine OW.val rfl rfl (EX.loadA (l := m.cells) Tryz.underlying70 rfl ti70 rfl rfl hcell) ?_
              refine OW.allocB (l := [str [], .int .i64 0, .int .i64 0, .int .i64 0, .int .u32 0]) rfl rfl ti70 rfl ?_
              rintro mb w3 hge3 hb3 hx3
              refine OW.storeS rfl ti70 rfl rfl rfl (by first | rfl | (simp only [List.all_cons, List.all_nil, Bool.and_true, Bool.true_and, Bool.and_eq_true, Value.oneCell']; repeat (first | assumption | exact Own.one (by assumption) | constructor))) (hb3) (Nat.le_refl _) ?_
              rintro w4 hb4 hm4
              refine OW.nil ?_
              refine KW.seq (KW.region ?_)
              replace hb4 : Bk w4 mb 70 m.cells := hb4
              have x4 : Ext wr w4 := below_mo hx3 hm4 hx3.size (fun k hk => by simp at hk; omega)
              have cm := member_s m hmo w4
              rw [show memberM m = (memberT m, 0) by unfold memberM; rw [if_pos hmm]] at cm
              simp only at cm
              refine OW.val rfl rfl (EX.loadBk Tryz.underlying70 rfl ti70 rfl (hb4) (rfl)) ?_
              refine OW.call rfl rfl rfl (cm) ?_
              rintro _ w5 ⟨rfl, hx5⟩
              refine OW.val rfl rfl (EX.move rfl) ?_
              refine OW.val rfl rfl (EX.extract rfl rfl) ?_
              refine OW.val rfl rfl (EX.extract rfl rfl) ?_
              refine OW.val rfl rfl (EX.assign rfl) ?_
              refine OW.val rfl rfl (EX.assign rfl) ?_
              refine OW.nil ?_
              refine KW.region ?_
              refine OW.val rfl rfl (EX.move rfl) ?_
              have x5 := (hx.trans x4).trans hx5
              refine OW.call rfl rfl rfl (writeString_b w.heap.size bb (allT (l.take i)) (memberT m) w5 ((hbd.ext x4).ext hx5) (memberT_ne m) (by omega) x5.size) ?_
              rintro _ w6 ⟨⟨q, rfl⟩, hbd6, hbl6⟩
              refine OW.nil ?_
              refine KW.leave (KW.region ?_)
              refine OW.val rfl rfl (by first | exact EX.addN (b := 1) (m := 9223372036854775807) rfl rfl rfl (by omega) | exact EX.addZ (m := 9223372036854775807) rfl rfl rfl rfl (by omega)) ?_
              refine OW.val rfl rfl (EX.move rfl) ?_
              refine OW.nil ?_
              rw [← hcs] at hbd6
              refine KW.back2 (i + 1) (w6) ⟨rfl, rfl, rfl, rfl, rfl, trivial⟩ rfl ?_ (by omega)
              exact ⟨by omega, hbd6, Below.trans x5 hbl6⟩
            · obtain rfl : i = l.length := by omega
              rw [List.take_length] at hbd
              refine KW.exit rfl ?_
              refine KW.meet1 (wr) ⟨rfl, rfl, trivial⟩ rfl ?_
              exact ⟨hbd, hx⟩
        · rintro wr ⟨hbd, hx⟩
          refine KW.seq (KW.region ?_)
          refine OW.call rfl rfl rfl (bstring_b w.heap.size bb (allT l) wr hbd (by omega) hx.size) ?_
          rintro _ w3 ⟨rfl, hbl3⟩
          refine OW.val rfl rfl (EX.assign rfl) ?_
          refine OW.nil ?_
          refine KW.seq (KW.region ?_)
          have x3 : Ext w w3 := Below.trans hx hbl3
          generalize allT l = s at hall
          refine OW.makeB (len := 5) rfl rfl Tryz.underlying24 ti9 rfl rfl rfl (by omega) (by omega) ?_
          rintro ob w4 hge4 hb4 hx4
          refine OW.val rfl rfl (EX.assign rfl) ?_
          refine OW.nil ?_
          refine KW.seq (KW.seq (KW.region ?_))
          refine OW.val rfl rfl (EX.move rfl) ?_
          refine OW.nil ?_
          refine KW.block ?_
          have x4 := x3.trans hx4
          replace hb4 : Bk w4 ob 9 (out5 gen s 0) := hb4
          have hog : w.heap.size ≤ ob := by have := x3.size; omega
          refine KW.loop2 (fun (i : Nat) (wr : World) => i ≤ 5 ∧ Bk wr ob 9 (out5 gen s i) ∧ Ext w wr) (fun (i : Nat) (wr : World) => [(0, .int .i64 gen), (11, str ((s.drop (486 * i)))), (12, .slice (some ⟨ob, 0, none⟩) 5 5), (42, .int .i64 ((i : Nat) : Int))]) (fun (i : Nat) (wr : World) => wr) (fun (i : Nat) (wr : World) => 5 - i) (0) (w4) ⟨rfl, rfl, rfl, rfl, trivial⟩ rfl ?_ ?_
          · exact ⟨Nat.zero_le _, hb4, x4⟩
          · rintro i wr ⟨hi, hob, hx⟩
            refine KW.seq (KW.region ?_)
            refine OW.val rfl rfl (by first | exact EX.lssN (b := 5) rfl rfl | exact EX.lssZ rfl rfl) ?_
            refine OW.nil ?_
            refine KW.seq ?_
            refine KW.condD rfl (fun hlt => ?_) (fun hlt => ?_)
            · have ce := fun w => encode_s 4 (by decide) gen i (piece s i) (by have := piece_len s i; omega) w
              rw [enc_sec hE.low hE.high s hlt] at ce
              simp only at ce
              have hdl : (s.drop (486 * i)).length = s.length - 486 * i := List.length_drop
              have hpc : (s.drop (486 * i)).take (min (s.drop (486 * i)).length 486) = piece s i := by
                unfold piece
                rcases Nat.le_total (s.drop (486 * i)).length 486 with q | q
                · rw [Nat.min_eq_left q, List.take_length, List.take_of_length_le q]
                · rw [Nat.min_eq_right q]
              have hdr : (s.drop (486 * i)).drop (min (s.drop (486 * i)).length 486) = s.drop (486 * (i + 1)) := by
                rcases Nat.le_total (s.drop (486 * i)).length 486 with q | q
                · rw [Nat.min_eq_left q, List.drop_length, List.drop_of_length_le (by omega)]
                · rw [Nat.min_eq_right q, List.drop_drop]
                  congr 1
              generalize hq : s.drop (486 * i) = t at hdl hpc hdr
              refine KW.skip (KW.seq (KW.block (KW.seq (KW.region ?_))))
              refine OW.val rfl rfl (EX.move rfl) ?_
              refine OW.val rfl rfl (EX.assign rfl) ?_
              refine OW.nil ?_
              refine KW.seq (KW.region ?_)
              refine OW.val rfl rfl (EX.move rfl) ?_
              refine OW.val rfl rfl (EX.lenS Tryz.underlying9 rfl) ?_
              refine OW.val rfl rfl (by first | exact EX.minN (b := 486) rfl rfl | exact EX.minZ rfl rfl) ?_
              refine OW.val rfl rfl (EX.assign rfl) ?_
              refine OW.nil ?_
              refine KW.seq (KW.region ?_)
              refine OW.val rfl rfl (EX.move rfl) ?_
              refine OW.val rfl rfl (EX.move rfl) ?_
              refine OW.val rfl rfl (EX.move rfl) ?_
              refine OW.val rfl rfl (EX.move rfl) ?_
              refine OW.val rfl rfl (EX.move rfl) ?_
              refine OW.val rfl rfl (EX.move rfl) ?_
              refine OW.val rfl rfl (EX.sliceFH Tryz.underlying9 rfl rfl (by omega)) ?_
              refine OW.as 55 (str ((piece s i))) rfl (congrArg str hpc) ?_
              refine OW.call rfl rfl rfl (ce wr) ?_
              rintro _ w5 ⟨rfl, hx5⟩
              refine OW.val rfl rfl (EX.move rfl) ?_
              refine OW.val rfl rfl (EX.extract rfl rfl) ?_
              refine OW.val rfl rfl (EX.extract rfl rfl) ?_
              refine OW.val rfl rfl (by first | exact EX.indexAddrS0 Tryz.underlying24 ti9 rfl rfl (by omega) | exact EX.indexAddrS1 Tryz.underlying24 ti9 rfl rfl (by omega)) ?_
              refine OW.storeB rfl ti9 rfl rfl (by first | rfl | assumption | exact Own.one (by assumption)) ((hob.ext hx5)) (by rw [out5_len]; exact hlt) ?_
              rintro w6 hb6 hm6
              refine OW.nil ?_
              refine KW.region ?_
              refine OW.val rfl rfl (EX.move rfl) ?_
              refine OW.val rfl rfl (EX.move rfl) ?_
              refine OW.val rfl rfl (EX.sliceLE Tryz.underlying9 rfl rfl (by omega)) ?_
              refine OW.val rfl rfl (EX.assign rfl) ?_
              refine OW.nil ?_
              refine KW.leave (KW.region ?_)
              refine OW.val rfl rfl (by first | exact EX.addN (b := 1) (m := 9223372036854775807) rfl rfl rfl (by omega) | exact EX.addZ (m := 9223372036854775807) rfl rfl rfl rfl (by omega)) ?_
              refine OW.val rfl rfl (EX.move rfl) ?_
              refine OW.nil ?_
              replace hb6 : Bk w6 ob 9 ((out5 gen s i).set i (str (sec5 gen s i))) := hb6
              rw [out5_set gen s hlt] at hb6
              refine KW.as 11 (str ((s.drop (486 * (i + 1))))) rfl (congrArg str hdr) ?_
              refine KW.back2 (i + 1) (w6) ⟨rfl, rfl, rfl, rfl, trivial⟩ rfl ?_ (by omega)
              exact ⟨by omega, hb6, below_mo (hx.trans hx5) hm6 (hx.trans hx5).size (fun k hk => by simp at hk; omega)⟩
            · obtain rfl : i = 5 := by omega
              rw [out5_done] at hob
              refine KW.exit rfl (KW.seq (KW.region ?_))
              refine OW.val rfl rfl (EX.move rfl) ?_
              refine OW.val rfl rfl (EX.assign rfl) ?_
              refine OW.val rfl rfl (EX.assign rfl) ?_
              refine OW.nil ?_
              refine KW.ret (ret2 rfl rfl rfl ?_)
              refine ⟨⟨_, rfl, ?_⟩, hx⟩
              rw [sect5_len]
              exact Own.of_bk (cap := 5) hob hog (by simp [txtsV_length, sect5_len]) (by decide)
theorem sect5_snoc (gen : Int) (s : List UInt8) (i : Nat) : txtsV ((List.range (i + 1)).map (sec5 gen s)) = txtsV ((List.range i).map (sec5 gen s)) ++ [str (sec5 gen s i)] := by
  rw [List.range_succ, List.map_append]
  simp [txtsV]
set_option maxRecDepth 20000 in
theorem rencode23_s (gen : Int) (l : List M) (hok : ∀ m ∈ l, m.Ok) (hl : l.length ≤ 140737488355328) (A : Option Addr) (c B : Nat) (w : World) (hs : Sl w B A (memsV l)) :
    Ret Tryz.prog 8 [.int .i64 gen, .slice A l.length c] w fun v w' => (∃ u, v = .tuple #[u, .int .i64 (((encC gen l).2 : Nat) : Int)] ∧ Own w' w.heap.size 9 1 u (encC gen l).1.length (txtsV (encC gen l).1)) ∧ Ext w w' := by
  have bad : (gen < 0 ∨ 4611686018427387904 < gen ∨ chkC l 4096 ≠ 0) → ∀ w', Ext w w' → (∃ u, (Value.tuple #[.slice none 0 0, .int .i64 230]) = .tuple #[u, .int .i64 (((encC gen l).2 : Nat) : Int)] ∧ Own w' w.heap.size 9 1 u (encC gen l).1.length (txtsV (encC gen l).1)) ∧ Ext w w' := fun h w' hx => by
    rw [encC_bad h]
    exact ⟨⟨_, rfl, Own.nil _ _ _ _⟩, hx⟩
  refine Ret.enter Tryz.func8 rfl Tryz.ntmps8 (by kernel_rfl) rfl ?_
  refine KW.seq (KW.region ?_)
  refine OW.val rfl rfl (EX.assign rfl) ?_
  refine OW.val rfl rfl (EX.assign rfl) ?_
  refine OW.nil ?_
  refine KW.seq (KW.seq ?_)
  refine KW.region ?_
  refine OW.val rfl rfl (EX.move rfl) ?_
  refine OW.val rfl rfl (by first | exact EX.lssN (b := 0) rfl rfl | exact EX.lssZ rfl rfl) ?_
  refine OW.val rfl rfl (EX.move rfl) ?_
  refine OW.splitD 17 rfl (fun h1 => ?_) (fun h1 => ?_)
  · refine OW.pass rfl rfl ?_
    refine OW.pass rfl rfl ?_
    refine OW.val rfl rfl (EX.pickT rfl rfl) ?_
    refine OW.val rfl rfl (EX.move rfl) ?_
    refine OW.pass rfl rfl ?_
    refine OW.pass rfl rfl ?_
    refine OW.pass rfl rfl ?_
    refine OW.val rfl rfl (EX.pickT rfl rfl) ?_
    refine OW.nil ?_
    refine KW.condT rfl (KW.seq (KW.region ?_))
    refine OW.val rfl rfl (EX.assign rfl) ?_
    refine OW.val rfl rfl (EX.assign rfl) ?_
    refine OW.nil ?_
    refine KW.ret (ret2 rfl rfl rfl ?_)
    exact bad (.inl h1) w (Ext.refl _)
  · refine OW.val rfl rfl (EX.move rfl) ?_
    refine OW.val rfl rfl (by first | exact EX.gtrN (b := 4611686018427387904) rfl rfl | exact EX.gtrZ rfl rfl) ?_
    refine OW.val rfl rfl (EX.pickF rfl rfl) ?_
    refine OW.val rfl rfl (EX.move rfl) ?_
    refine OW.splitD 21 rfl (fun h2 => ?_) (fun h2 => ?_)
    · refine OW.pass rfl rfl ?_
      refine OW.pass rfl rfl ?_
      refine OW.pass rfl rfl ?_
      refine OW.val rfl rfl (EX.pickT rfl rfl) ?_
      refine OW.nil ?_
      refine KW.condT rfl (KW.seq (KW.region ?_))
      refine OW.val rfl rfl (EX.assign rfl) ?_
      refine OW.val rfl rfl (EX.assign rfl) ?_
      refine OW.nil ?_
      refine KW.ret (ret2 rfl rfl rfl ?_)
      exact bad (.inr (.inl h2)) w (Ext.refl _)
    · refine OW.val rfl rfl (EX.move rfl) ?_
      refine OW.call rfl rfl rfl (rchk_s l hok hl 4096 A c B w hs) ?_
      rintro _ w1 ⟨rfl, hx1⟩
      refine OW.val rfl rfl (by first | exact EX.neqN (b := 0) rfl rfl | exact EX.neqZ rfl rfl) ?_
      refine OW.val rfl rfl (EX.pickF rfl rfl) ?_
      refine OW.nil ?_
      refine KW.condD rfl (fun h3 => ?_) (fun h3 => ?_)
      · refine KW.seq (KW.region ?_)
        refine OW.val rfl rfl (EX.assign rfl) ?_
        refine OW.val rfl rfl (EX.assign rfl) ?_
        refine OW.nil ?_
        refine KW.ret (ret2 rfl rfl rfl ?_)
        exact bad (.inr (.inr (fun q => h3 (by omega)))) w1 hx1
      · have hE : OkE gen l := okE_of h1 h2 (Decidable.byContradiction fun q => h3 (by omega))
        have hall := okE_len hE
        have hmay := hE.chk.may
        have hll := hE.chk.len
        have htake : ∀ i, (allT (l.take i)).length ≤ 2096 := fun i => by
          have h4 := allT_len (l.take i) (fun m hm => hmay m (List.mem_of_mem_take hm))
          rw [List.length_take] at h4
          omega
        rw [encC_ok hE]
        refine KW.skip (KW.seq (KW.region ?_))
        refine OW.val rfl rfl (EX.assign rfl) ?_
        refine OW.nil ?_
        refine KW.seq (KW.seq (KW.region ?_))
        refine OW.val rfl rfl (EX.assign rfl) ?_
        refine OW.nil ?_
        refine KW.cut1 (fun (wr : World) => Ext w wr) (fun (wr : World) => [(0, .int .i64 gen), (6, str ((allT l)))]) (fun (wr : World) => wr) ?_ ?_
        · refine KW.block ?_
          refine KW.loop2 (fun (i : Nat) (wr : World) => i ≤ l.length ∧ Ext w wr) (fun (i : Nat) (wr : World) => [(0, .int .i64 gen), (1, .slice A l.length c), (6, str ((allT (l.take i)))), (7, .int .i64 ((i : Nat) : Int))]) (fun (i : Nat) (wr : World) => wr) (fun (i : Nat) (wr : World) => l.length - i) (0) (w1) ⟨rfl, rfl, rfl, rfl, trivial⟩ rfl ?_ ?_
          · exact ⟨Nat.zero_le _, hx1⟩
          · rintro i wr ⟨hi, hx⟩
            have ht1 := htake i
            have ht2 := htake (i + 1)
            refine KW.seq (KW.seq (KW.region ?_))
            refine OW.val rfl rfl (EX.move rfl) ?_
            refine OW.val rfl rfl (EX.move rfl) ?_
            refine OW.val rfl rfl (EX.lenA Tryz.underlying22 rfl) ?_
            refine OW.val rfl rfl (by first | exact EX.lssN rfl rfl | exact EX.lssZ rfl rfl) ?_
            refine OW.nil ?_
            refine KW.condD rfl (fun hlt => ?_) (fun hlt => ?_)
            · obtain ⟨b, o, rfl, _, hcell⟩ := (hs.ext hx).flat (i := i) (c := 5) (fun _ => rfl) (by decide) hlt
              have hsn : l.take (i + 1) = l.take i ++ [l[i]] := (List.take_append_getElem hlt).symm
              have hmo := hok l[i] (List.getElem_mem hlt)
              have hmm := hmay l[i] (List.getElem_mem hlt)
              generalize l[i] = m at hcell hsn hmo hmm
              have hcs : allT (l.take (i + 1)) = allT (l.take i) ++ memberT m := by rw [hsn, allT_snoc]
              rw [hcs, List.length_append] at ht2
              have cm := fun w => rmember_s m hmo w
              rw [show memberM m = (memberT m, 0) by unfold memberM; rw [if_pos hmm]] at cm
              simp only at cm
              refine KW.skip (KW.seq (KW.block (KW.seq (KW.region ?_))))
              refine OW.val rfl rfl (EX.move rfl) ?_
              refine OW.val rfl rfl (EX.move rfl) ?_
              refine OW.val rfl rfl (EX.indexAddrS Tryz.underlying22 ti70 rfl rfl (by omega)) ?_
              refine OW.val rfl rfl (EX.loadA (l := m.cells) Tryz.underlying70 rfl ti70 rfl rfl hcell) ?_
              refine OW.call rfl rfl rfl (cm wr) ?_
              rintro _ w5 ⟨rfl, hx5⟩
              refine OW.val rfl rfl (EX.move rfl) ?_
              refine OW.val rfl rfl (EX.extract rfl rfl) ?_
              refine OW.val rfl rfl (EX.extract rfl rfl) ?_
              refine OW.val rfl rfl (EX.assign rfl) ?_
              refine OW.val rfl rfl (EX.assign rfl) ?_
              refine OW.nil ?_
              refine KW.region ?_
              refine OW.val rfl rfl (EX.move rfl) ?_
              refine OW.val rfl rfl (EX.move rfl) ?_
              refine OW.val rfl rfl (EX.addS rfl rfl (by first | omega | (simp only [List.length_append, List.length_cons, List.length_nil, List.length_take, List.length_drop, List.length_replicate]; omega))) ?_
              refine OW.val rfl rfl (EX.assign rfl) ?_
              refine OW.nil ?_
              refine KW.leave (KW.region ?_)
              refine OW.val rfl rfl (EX.move rfl) ?_
              refine OW.val rfl rfl (by first | exact EX.addN (b := 1) (m := 9223372036854775807) rfl rfl rfl (by omega) | exact EX.addZ (m := 9223372036854775807) rfl rfl rfl rfl (by omega)) ?_
              refine OW.val rfl rfl (EX.assign rfl) ?_
              refine OW.nil ?_
              refine KW.as 6 (str ((allT (l.take (i + 1))))) rfl (congrArg str hcs.symm) ?_
              refine KW.back2 (i + 1) (w5) ⟨rfl, rfl, rfl, rfl, trivial⟩ rfl ?_ (by omega)
              exact ⟨by omega, hx.trans hx5⟩
            · obtain rfl : i = l.length := by omega
              refine KW.exit rfl ?_
              refine KW.as 6 (str ((allT l))) rfl (by rw [List.take_length]) ?_
              refine KW.meet1 (wr) ⟨rfl, rfl, trivial⟩ rfl ?_
              exact hx
        · rintro wr hx
          generalize allT l = s at hall
          refine KW.seq (KW.region ?_)
          refine OW.val rfl rfl (EX.assign rfl) ?_
          refine OW.nil ?_
          refine KW.seq (KW.seq (KW.region ?_))
          refine OW.val rfl rfl (EX.assign rfl) ?_
          refine OW.nil ?_
          refine KW.block ?_
          refine KW.loop3 (fun (i : Nat) (v : Value) (wr : World) => i ≤ 5 ∧ Own wr w.heap.size 9 1 v i (txtsV ((List.range i).map (sec5 gen s))) ∧ Ext w wr) (fun (i : Nat) (v : Value) (wr : World) => [(0, .int .i64 gen), (6, str ((s.drop (486 * i)))), (10, v), (11, .int .i64 ((i : Nat) : Int))]) (fun (i : Nat) (v : Value) (wr : World) => wr) (fun (i : Nat) (v : Value) (wr : World) => 5 - i) (0) (.slice none 0 0) (wr) ⟨rfl, rfl, rfl, rfl, trivial⟩ rfl ?_ ?_
          · exact ⟨Nat.zero_le _, Own.nil _ _ _ _, hx⟩
          · rintro i v wr ⟨hi, hown, hx⟩
            refine KW.seq (KW.seq (KW.region ?_))
            refine OW.val rfl rfl (EX.move rfl) ?_
            refine OW.val rfl rfl (by first | exact EX.lssN (b := 5) rfl rfl | exact EX.lssZ rfl rfl) ?_
            refine OW.nil ?_
            refine KW.condD rfl (fun hlt => ?_) (fun hlt => ?_)
            · have ce := fun w => rencode_s 4 (by decide) gen i (piece s i) (by have := piece_len s i; omega) w
              rw [enc_sec hE.low hE.high s hlt] at ce
              simp only at ce
              have hdl : (s.drop (486 * i)).length = s.length - 486 * i := List.length_drop
              have hpl := piece_len s i
              have hpl2 : (piece s i).length ≤ (s.drop (486 * i)).length := by unfold piece; rw [List.length_take]; omega
              have hpc : 486 < (s.drop (486 * i)).length → (s.drop (486 * i)).take 486 = piece s i := fun _ => rfl
              have hpc2 : ¬ 486 < (s.drop (486 * i)).length → s.drop (486 * i) = piece s i := fun q => by unfold piece; rw [List.take_of_length_le (by omega)]
              have hdr : (s.drop (486 * i)).drop (piece s i).length = s.drop (486 * (i + 1)) := by
                unfold piece
                rw [List.length_take]
                rcases Nat.le_total (s.drop (486 * i)).length 486 with q | q
                · rw [Nat.min_eq_right q, List.drop_length, List.drop_of_length_le (by omega)]
                · rw [Nat.min_eq_left q, List.drop_drop]
                  congr 1
              generalize hq : s.drop (486 * i) = t at hdl hpc hpc2 hdr hpl2
              refine KW.skip (KW.seq (KW.block (KW.seq (KW.region ?_))))
              refine OW.val rfl rfl (EX.move rfl) ?_
              refine OW.val rfl rfl (EX.assign rfl) ?_
              refine OW.nil ?_
              refine KW.seq (KW.seq (KW.region ?_))
              refine OW.val rfl rfl (EX.move rfl) ?_
              refine OW.val rfl rfl (EX.lenS Tryz.underlying9 rfl) ?_
              refine OW.val rfl rfl (by first | exact EX.gtrN (b := 486) rfl rfl | exact EX.gtrZ rfl rfl) ?_
              refine OW.nil ?_
              refine KW.cut1 (fun (_u : Unit) => True) (fun (_u : Unit) => [(0, .int .i64 gen), (6, str (t)), (10, v), (11, .int .i64 ((i : Nat) : Int)), (12, str ((piece s i)))]) (fun (_u : Unit) => wr) ?_ ?_
              · refine KW.condD rfl (fun hbig => ?_) (fun hbig => ?_)
                · refine KW.region ?_
                  refine OW.val rfl rfl (EX.move rfl) ?_
                  refine OW.val rfl rfl (EX.sliceFH (j := 486) Tryz.underlying9 rfl rfl (by omega)) ?_
                  refine OW.val rfl rfl (EX.assign rfl) ?_
                  refine OW.nil ?_
                  refine KW.as 12 (str ((piece s i))) rfl (congrArg str (hpc hbig)) ?_
                  refine KW.meet1 (()) ⟨rfl, rfl, rfl, rfl, rfl, trivial⟩ rfl ?_
                  trivial
                · refine KW.skip ?_
                  refine KW.as 12 (str ((piece s i))) rfl (congrArg str (hpc2 hbig)) ?_
                  refine KW.meet1 (()) ⟨rfl, rfl, rfl, rfl, rfl, trivial⟩ rfl ?_
                  trivial
              · rintro _ _
                refine KW.seq (KW.region ?_)
                refine OW.val rfl rfl (EX.move rfl) ?_
                refine OW.val rfl rfl (EX.move rfl) ?_
                refine OW.val rfl rfl (EX.lenS Tryz.underlying9 rfl) ?_
                refine OW.val rfl rfl (EX.sliceLE Tryz.underlying9 rfl rfl (by omega)) ?_
                refine OW.val rfl rfl (EX.assign rfl) ?_
                refine OW.nil ?_
                refine KW.seq (KW.region ?_)
                refine OW.val rfl rfl (EX.move rfl) ?_
                refine OW.val rfl rfl (EX.move rfl) ?_
                refine OW.val rfl rfl (EX.move rfl) ?_
                refine OW.as 6 (str ((s.drop (486 * (i + 1))))) rfl (congrArg str hdr) ?_
                refine OW.call rfl rfl rfl (ce wr) ?_
                rintro _ w5 ⟨rfl, hx5⟩
                refine OW.val rfl rfl (EX.move rfl) ?_
                refine OW.val rfl rfl (EX.extract rfl rfl) ?_
                refine OW.val rfl rfl (EX.extract rfl rfl) ?_
                refine OW.val rfl rfl (EX.assign rfl) ?_
                refine OW.val rfl rfl (EX.assign rfl) ?_
                refine OW.nil ?_
                refine KW.region ?_
                refine OW.val rfl rfl (EX.move rfl) ?_
                refine OW.val rfl rfl (EX.move rfl) ?_
                refine OW.push rfl rfl (fun _ => rfl) rfl Tryz.underlying24 ti9 rfl rfl (fun _ => rfl) rfl (hx.trans hx5) (hown.ext hx5) (by simp only [maxLen]; omega) (by omega) ?_
                rintro _ v6 w6 hown6 x6 hg6 hv6
                refine OW.val rfl rfl (EX.assign rfl) ?_
                refine OW.nil ?_
                refine KW.leave (KW.region ?_)
                refine OW.val rfl rfl (EX.move rfl) ?_
                refine OW.val rfl rfl (by first | exact EX.addN (b := 1) (m := 9223372036854775807) rfl rfl rfl (by omega) | exact EX.addZ (m := 9223372036854775807) rfl rfl rfl rfl (by omega)) ?_
                refine OW.val rfl rfl (EX.assign rfl) ?_
                refine OW.nil ?_
                refine KW.back3 (i + 1) (v6) (w6) ⟨rfl, rfl, rfl, rfl, trivial⟩ rfl ?_ (by omega)
                exact ⟨by omega, by rw [sect5_snoc]; exact hown6, x6⟩
            · obtain rfl : i = 5 := by omega
              refine KW.exit rfl (KW.seq (KW.region ?_))
              refine OW.val rfl rfl (EX.move rfl) ?_
              refine OW.val rfl rfl (EX.assign rfl) ?_
              refine OW.val rfl rfl (EX.assign rfl) ?_
              refine OW.nil ?_
              refine KW.ret (ret2 rfl rfl rfl ?_)
              refine ⟨⟨_, rfl, ?_⟩, hx⟩
              rw [sect5_len]
              exact hown
end Go.Proofs.YthgfdpcpbghkpaaGreatDoor
namespace Go.Proofs.YthgfdpcpbghkpaaGreatDoor
open Go.RowKit
section
variable {P : Program} {n : Nat} {σ : Sig} {w : World} {x y : Operand} {t e ty T : TypeId} {z : Value} {bs : Nat}
theorem EX.arrayAt {m len cap : Nat} {A : Option Addr} (ht : P.underlying t = some (.array m e)) (hx : ev σ x = some (.slice A len cap)) (h : m ≤ len) : EX P n σ (.sliceToArrayPointer t x) ty w (.pointer A) w := fun a ha dst pos after g => by
  have hn : ¬ len < m := by omega
  have hr : (Instr.arrayAt t (.slice A len cap)).run P w = .ok (.pointer A) w := by
    simp [Instr.arrayAt, run_underlying ht, hn, Sem.run_bind]
  simp only [execOp, ha.ev hx, Sem.run_bind, hr]
  rfl
theorem run_eq_arr5 {a0 a1 a2 a3 a4 b0 b1 b2 b3 b4 : Value} {q0 q1 q2 q3 q4 : Bool} {d : TypeDesc} (ht : P.underlying t = some (.array 5 e)) (he : P.underlying e = some d) (hf : flat d = true) (hi : TI P e z 1 bs)
    (h0 : ∀ k, (Op.equalIn (k + 1) e a0 b0).run P w = .ok q0 w) (h1 : ∀ k, (Op.equalIn (k + 1) e a1 b1).run P w = .ok q1 w) (h2 : ∀ k, (Op.equalIn (k + 1) e a2 b2).run P w = .ok q2 w) (h3 : ∀ k, (Op.equalIn (k + 1) e a3 b3).run P w = .ok q3 w) (h4 : ∀ k, (Op.equalIn (k + 1) e a4 b4).run P w = .ok q4 w) (k : Nat) :
    (Op.equalIn (k + 1 + 1) t (.agg #[a0, a1, a2, a3, a4]) (.agg #[b0, b1, b2, b3, b4])).run P w = .ok (q0 && (q1 && (q2 && (q3 && q4)))) w := by
  have hr : List.range' 0 5 = [0, 1, 2, 3, 4] := rfl
  rw [Op.equalIn]
  simp only [Sem.run_bind, run_underlying ht, Result.andThen_ok, run_sizeOf hi]
  cases q0 <;> cases q1 <;> cases q2 <;> cases q3 <;> cases q4 <;> simp [Std.Legacy.Range.forIn_eq_forIn_range', Std.Legacy.Range.size, hr, part, run_isAgg he, hf, h0 k, h1 k, h2 k, h3 k, h4 k, Sem.run_bind]
theorem EX.neqA5 {s0 s1 s2 s3 s4 r0 r1 r2 r3 r4 : List UInt8} (ht : P.underlying t = some (.array 5 e)) (he : P.underlying e = some .string) (hi : TI P e z 1 bs) (hm : P.eqGuardType P.depth t = false) (hx : ev σ x = some (.agg [str s0, str s1, str s2, str s3, str s4].toArray)) (hy : ev σ y = some (.agg [str r0, str r1, str r2, str r3, str r4].toArray)) :
    EX P n σ (.binOp .neq t x y T) ty w (.bool (decide ([s0, s1, s2, s3, s4] ≠ [r0, r1, r2, r3, r4]))) w := by
  refine EX.bin hx hy (run_eqGuard_agg w _ t x y _ _ hm) ?_
  have h := run_eq_arr5 (w := w) ht he rfl hi (fun k => eq_str (a := s0) (b := r0) he k) (fun k => eq_str (a := s1) (b := r1) he k) (fun k => eq_str (a := s2) (b := r2) he k) (fun k => eq_str (a := s3) (b := r3) he k) (fun k => eq_str (a := s4) (b := r4) he k) 9998
  rw [run_neq_struct]
  have e1 : (Op.equalIn 10000 t (.agg [str s0, str s1, str s2, str s3, str s4].toArray) (.agg [str r0, str r1, str r2, str r3, str r4].toArray)).run P w = _ := h
  rw [e1]
  simp only [Result.andThen_ok]
  congr 2
  rw [Bool.eq_iff_iff]
  by_cases c0 : s0 = r0 <;> by_cases c1 : s1 = r1 <;> by_cases c2 : s2 = r2 <;> by_cases c3 : s3 = r3 <;> by_cases c4 : s4 = r4 <;> simp [c0, c1, c2, c3, c4]
end
end Go.Proofs.YthgfdpcpbghkpaaGreatDoor
namespace Go.Proofs.YthgfdpcpbghkpaaGreatDoor
open Go.RowKit Pth Rec Srt Cat
theorem memAt_sumC (s : List UInt8) : (memAt s).sum ≤ 4294967295 := nb_le _ 4 (Nat.le_refl _)
theorem memL_fineC : ∀ (f : Nat) (s : List UInt8) (out : List M), (∀ m ∈ out, mayM m ∧ m.sum ≤ 4294967295) → ∀ m ∈ (memL f s out).1, mayM m ∧ m.sum ≤ 4294967295
  | 0, s, out, h, m, hm => h m hm
  | f + 1, s, out, h, m, hm => by
    rw [memL] at hm
    split at hm
    · exact h m hm
    · split at hm
      · cases hm
      · split at hm
        · rename_i hmay
          refine memL_fineC f _ _ (fun x hx => ?_) m hm
          rcases List.mem_append.1 hx with hx | hx
          · exact h x hx
          · simp only [List.mem_singleton] at hx
            subst hx
            exact ⟨hmay, memAt_sumC s⟩
        · cases hm
theorem memL_lenC : ∀ (f : Nat) (s : List UInt8) (out : List M), (memL f s out).1.length ≤ out.length + f
  | 0, s, out => by simp [memL]
  | f + 1, s, out => by
    rw [memL]
    split
    · simp
    · split
      · simp
      · split
        · have := memL_lenC f (s.drop (11 + first s)) (out ++ [memAt s])
          rw [List.length_append, List.length_singleton] at this
          omega
        · simp
theorem fine_ok {m : M} (h : mayM m ∧ m.sum ≤ 4294967295) : m.Ok := ⟨by have := (may_path h.1).1; omega, h.2⟩
theorem memsOf_ok (ss : Txts) : ∀ m ∈ (memsOf ss).1, m.Ok := fun m hm => fine_ok (memL_fineC _ _ [] (by simp) m hm)
theorem data_most (s : List UInt8) : (decodeR s).1.data.length ≤ 486 := by
  unfold decodeR
  split
  · rename_i h
    show ((s.drop 19).take (nb ((s.drop 17).take 2))).length ≤ 486
    rw [List.length_take]
    omega
  · show ([] : List UInt8).length ≤ 486
    decide
theorem datas_most (ss : Txts) : (datas ss).length ≤ 486 * ss.length := by
  induction ss with
  | nil => simp [datas]
  | cons s ss ih =>
    have h1 := data_most s
    have e : datas (s :: ss) = (decodeR s).1.data ++ datas ss := by simp [datas]
    rw [e, List.length_append, List.length_cons]
    omega
theorem fiveT {l : Txts} (h : l.length = 5) : ∃ s0 s1 s2 s3 s4, l = [s0, s1, s2, s3, s4] := by
  match l, h with
  | [a, b, c, d, e], _ => exact ⟨a, b, c, d, e, rfl⟩
theorem txts_cellC {w : World} {B : Nat} {A : Option Addr} {l : Txts} (h : Sl w B A (txtsV l)) {i : Nat} (hi : i < l.length) : ∃ b o, A = some ⟨b, o, none⟩ ∧ b < B ∧ w.cell? ⟨b, o + i, none⟩ = some (str l[i]) := by
  obtain ⟨b, o, e, hb, hcell⟩ := h.at_ (by rw [txtsV_length]; omega)
  exact ⟨b, o, e, hb, hcell i _ (txtsV_get hi)⟩
set_option maxRecDepth 20000 in
theorem decode23_s (ss : Txts) (hl : ss.length ≤ 140737488355328) (A : Option Addr) (c B : Nat) (w : World) (hG : MLen w) (hs : Sl w B A (txtsV ss)) :
    Ret Tryz.prog 12 [.slice A ss.length c] w fun v w' => (∃ u, v = .tuple #[.int .i64 (decC ss).1, u, .int .i64 (((decC ss).2.2 : Nat) : Int)] ∧ Own w' w.heap.size 70 5 u (decC ss).2.1.length (memsV (decC ss).2.1)) ∧ Ext w w' := by
  have bad : ¬ OkD ss → ∀ w', Ext w w' → (∃ u, (Value.tuple #[.int .i64 0, .slice none 0 0, .int .i64 230]) = .tuple #[.int .i64 (decC ss).1, u, .int .i64 (((decC ss).2.2 : Nat) : Int)] ∧ Own w' w.heap.size 70 5 u (decC ss).2.1.length (memsV (decC ss).2.1)) ∧ Ext w w' := fun h w' hx => by
    rw [decC_no h]
    exact ⟨⟨_, rfl, Own.nil _ _ _ _⟩, hx⟩
  refine Ret.enter Tryz.func12 rfl Tryz.ntmps12 (by kernel_rfl) rfl ?_
  refine KW.seq (KW.region ?_)
  refine OW.val rfl rfl (EX.assign rfl) ?_
  refine OW.val rfl rfl (EX.assign rfl) ?_
  refine OW.val rfl rfl (EX.assign rfl) ?_
  refine OW.nil ?_
  refine KW.seq (KW.seq (KW.region ?_))
  refine OW.val rfl rfl (EX.move rfl) ?_
  refine OW.val rfl rfl (EX.lenA Tryz.underlying24 rfl) ?_
  refine OW.val rfl rfl (by first | exact EX.neqN (b := 5) rfl rfl | exact EX.neqZ rfl rfl) ?_
  refine OW.nil ?_
  refine KW.condD rfl (fun hn5 => ?_) (fun hn5 => ?_)
  · refine KW.seq (KW.region ?_)
    refine OW.val rfl rfl (EX.assign rfl) ?_
    refine OW.val rfl rfl (EX.assign rfl) ?_
    refine OW.val rfl rfl (EX.assign rfl) ?_
    refine OW.nil ?_
    refine KW.ret (ret3 rfl rfl rfl rfl ?_)
    exact bad (fun h => hn5 (by have := okD_len h; omega)) w (Ext.refl _)
  · have h5 : ss.length = 5 := by omega
    have hdm := datas_most ss
    refine KW.skip (KW.seq (KW.region ?_))
    refine OW.val rfl rfl (EX.assign rfl) ?_
    refine OW.val rfl rfl (EX.assign rfl) ?_
    refine OW.nil ?_
    refine KW.seq (KW.seq (KW.region ?_))
    refine OW.val rfl rfl (EX.move rfl) ?_
    refine OW.val rfl rfl (EX.lenA Tryz.underlying24 rfl) ?_
    refine OW.val rfl rfl (EX.move rfl) ?_
    refine OW.nil ?_
    refine KW.block ?_
    refine KW.loop3 (fun (i : Nat) (g : Int) (wr : World) => i ≤ ss.length ∧ (0 < i → g = genOf ss) ∧ Ext w wr) (fun (i : Nat) (g : Int) (wr : World) => [(0, .slice A ss.length c), (5, .int .i64 g), (6, str ((datas (ss.take i)))), (17, .slice A ss.length c), (18, .int .i64 ((ss.length : Nat) : Int)), (19, .int .i64 ((i : Nat) : Int))]) (fun (i : Nat) (g : Int) (wr : World) => wr) (fun (i : Nat) (g : Int) (wr : World) => ss.length - i) (0) (0) (w) ⟨rfl, rfl, rfl, rfl, rfl, rfl, trivial⟩ rfl ?_ ?_
    · exact ⟨Nat.zero_le _, fun h => by omega, Ext.refl _⟩
    · rintro i g wr ⟨hi, hg, hx⟩
      refine KW.seq (KW.region ?_)
      refine OW.val rfl rfl (by first | exact EX.lssN rfl rfl | exact EX.lssZ rfl rfl) ?_
      refine OW.nil ?_
      refine KW.seq ?_
      refine KW.condD rfl (fun hlt => ?_) (fun hlt => ?_)
      · obtain ⟨b, o, rfl, _, hcell⟩ := txts_cellC (hs.ext hx) hlt
        have hsn : ss.take (i + 1) = ss.take i ++ [ss[i]] := (List.take_append_getElem hlt).symm
        have hat := fun h : OkD ss => okD_at h hlt
        have hgi : i = 0 → genOf ss = (decodeR ss[i]).1.gen := fun h => by subst h; unfold genOf; simp [List.getD_eq_getElem?_getD, List.getElem?_eq_getElem hlt]
        generalize ss[i] = s at hcell hsn hat hgi
        have hd1 := data_most s
        have hd2 := datas_most (ss.take i)
        rw [List.length_take] at hd2
        have cd := fun w => decode_s s w
        have hds : datas (ss.take (i + 1)) = datas (ss.take i) ++ (decodeR s).1.data := by rw [hsn, datas_snoc]
        generalize (decodeR s).1 = x at cd hat hgi hd1 hds
        generalize (decodeR s).2 = e at cd hat
        refine KW.skip (KW.seq (KW.block (KW.seq (KW.region ?_))))
        refine OW.val rfl rfl (EX.move rfl) ?_
        refine OW.val rfl rfl (by first | exact EX.indexAddrS0 Tryz.underlying24 ti9 rfl rfl (by omega) | exact EX.indexAddrS1 Tryz.underlying24 ti9 rfl rfl (by omega)) ?_
        refine OW.val rfl rfl (EX.load Tryz.underlying9 rfl rfl (hcell)) ?_
        refine OW.val rfl rfl (EX.assign rfl) ?_
        refine OW.val rfl rfl (EX.assign rfl) ?_
        refine OW.nil ?_
        refine KW.seq (KW.region ?_)
        refine OW.val rfl rfl (EX.move rfl) ?_
        refine OW.call rfl rfl rfl (cd wr) ?_
        rintro _ w1 ⟨rfl, hx1⟩
        refine OW.val rfl rfl (EX.move rfl) ?_
        refine OW.val rfl rfl (EX.extract rfl rfl) ?_
        refine OW.val rfl rfl (EX.extract rfl rfl) ?_
        refine OW.allocB (l := [.int .u8 0, .int .i64 0, .int .i64 0, str []]) rfl rfl ti94 rfl ?_
        rintro xb w2 hge2 hb2 hx2
        refine OW.storeS rfl ti94 rfl rfl rfl (by first | rfl | (simp only [List.all_cons, List.all_nil, Bool.and_true, Bool.true_and, Bool.and_eq_true, Value.oneCell']; repeat (first | assumption | exact Own.one (by assumption) | constructor))) (hb2) (Nat.le_refl _) ?_
        rintro w3 hb3 hm3
        refine OW.val rfl rfl (EX.assign rfl) ?_
        refine OW.nil ?_
        refine KW.seq (KW.seq (KW.region ?_))
        refine OW.val rfl rfl (EX.move rfl) ?_
        refine OW.val rfl rfl (by first | exact EX.eqlN (b := 0) rfl rfl | exact EX.eqlZ rfl rfl) ?_
        refine OW.nil ?_
        replace hb3 : Bk w3 xb 94 x.cells := hb3
        have x3 : Ext wr w3 := below_mo (hx1.trans hx2) hm3 (hx1.trans hx2).size (fun k hk => by simp at hk; have := hx1.size; omega)
        refine KW.cut1 (fun (g2 : Int) => (g2 = genOf ss ∧ (0 < i → g = g2))) (fun (g2 : Int) => [(0, .slice (some ⟨b, o, none⟩) ss.length c), (5, .int .i64 g2), (6, str ((datas (ss.take i)))), (7, .int .i64 ((i : Nat) : Int)), (9, .pointer (some ⟨xb, 0, none⟩)), (10, .int .i64 ((e : Nat) : Int)), (17, .slice (some ⟨b, o, none⟩) ss.length c), (18, .int .i64 ((ss.length : Nat) : Int)), (19, .int .i64 ((i : Nat) : Int))]) (fun (g2 : Int) => w3) ?_ ?_
        · refine KW.condD rfl (fun h0 => ?_) (fun h0 => ?_)
          · refine KW.region ?_
            refine OW.val rfl rfl (EX.fieldAddr (off := 1) Tryz.underlying94 rfl rfl ti3 rfl rfl) ?_
            refine OW.val rfl rfl (EX.load Tryz.underlying3 rfl rfl (hb3.cell_of rfl)) ?_
            refine OW.val rfl rfl (EX.assign rfl) ?_
            refine OW.nil ?_
            refine KW.meet1 (x.gen) ⟨rfl, rfl, rfl, rfl, rfl, rfl, rfl, rfl, rfl, trivial⟩ rfl ?_
            exact ⟨(hgi (by omega)).symm, fun h => by omega⟩
          · refine KW.skip ?_
            refine KW.meet1 (g) ⟨rfl, rfl, rfl, rfl, rfl, rfl, rfl, rfl, rfl, trivial⟩ rfl ?_
            exact ⟨hg (by omega), fun _ => rfl⟩
        · rintro g2 ⟨rfl, hgg⟩
          refine KW.seq (KW.seq ?_)
          refine KW.cut1 (fun (_u : Unit) => True) (fun (_u : Unit) => [(0, .slice (some ⟨b, o, none⟩) ss.length c), (5, .int .i64 (genOf ss)), (6, str ((datas (ss.take i)))), (9, .pointer (some ⟨xb, 0, none⟩)), (17, .slice (some ⟨b, o, none⟩) ss.length c), (18, .int .i64 ((ss.length : Nat) : Int)), (19, .int .i64 ((i : Nat) : Int)), (51, .bool (decide ((e ≠ 0 ∨ x.kind ≠ 4 ∨ x.gen ≠ genOf ss ∨ x.index ≠ i))))]) (fun (_u : Unit) => w3) ?_ ?_
          · refine KW.region ?_
            refine OW.val rfl rfl (EX.move rfl) ?_
            refine OW.val rfl rfl (by first | exact EX.neqN (b := 0) rfl rfl | exact EX.neqZ rfl rfl) ?_
            refine OW.val rfl rfl (EX.move rfl) ?_
            refine OW.splitD 35 rfl (fun q1 => ?_) (fun q1 => ?_)
            · refine OW.pass rfl rfl ?_
              refine OW.pass rfl rfl ?_
              refine OW.pass rfl rfl ?_
              refine OW.val rfl rfl (EX.pickT rfl rfl) ?_
              refine OW.val rfl rfl (EX.move rfl) ?_
              refine OW.pass rfl rfl ?_
              refine OW.pass rfl rfl ?_
              refine OW.pass rfl rfl ?_
              refine OW.pass rfl rfl ?_
              refine OW.val rfl rfl (EX.pickT rfl rfl) ?_
              refine OW.val rfl rfl (EX.move rfl) ?_
              refine OW.pass rfl rfl ?_
              refine OW.pass rfl rfl ?_
              refine OW.pass rfl rfl ?_
              refine OW.pass rfl rfl ?_
              refine OW.val rfl rfl (EX.pickT rfl rfl) ?_
              refine OW.nil ?_
              refine KW.as 51 (.bool (decide ((e ≠ 0 ∨ x.kind ≠ 4 ∨ x.gen ≠ genOf ss ∨ x.index ≠ i)))) rfl (congrArg Value.bool (decide_eq_true (.inl q1)).symm) ?_
              refine KW.meet1 (()) ⟨rfl, rfl, rfl, rfl, rfl, rfl, rfl, rfl, trivial⟩ rfl ?_
              trivial
            · refine OW.val rfl rfl (EX.fieldAddr (off := 0) Tryz.underlying94 rfl rfl ti5 rfl rfl) ?_
              refine OW.val rfl rfl (EX.load Tryz.underlying5 rfl rfl (hb3.cell_of rfl)) ?_
              refine OW.val rfl rfl (by first | exact EX.neqN (b := 4) rfl rfl | exact EX.neqZ rfl rfl) ?_
              refine OW.val rfl rfl (EX.pickF rfl rfl) ?_
              refine OW.val rfl rfl (EX.move rfl) ?_
              refine OW.splitD 40 rfl (fun q2 => ?_) (fun q2 => ?_)
              · refine OW.pass rfl rfl ?_
                refine OW.pass rfl rfl ?_
                refine OW.pass rfl rfl ?_
                refine OW.pass rfl rfl ?_
                refine OW.val rfl rfl (EX.pickT rfl rfl) ?_
                refine OW.val rfl rfl (EX.move rfl) ?_
                refine OW.pass rfl rfl ?_
                refine OW.pass rfl rfl ?_
                refine OW.pass rfl rfl ?_
                refine OW.pass rfl rfl ?_
                refine OW.val rfl rfl (EX.pickT rfl rfl) ?_
                refine OW.nil ?_
                refine KW.as 51 (.bool (decide ((e ≠ 0 ∨ x.kind ≠ 4 ∨ x.gen ≠ genOf ss ∨ x.index ≠ i)))) rfl (congrArg Value.bool (decide_eq_true (.inr (.inl q2))).symm) ?_
                refine KW.meet1 (()) ⟨rfl, rfl, rfl, rfl, rfl, rfl, rfl, rfl, trivial⟩ rfl ?_
                trivial
              · refine OW.val rfl rfl (EX.fieldAddr (off := 1) Tryz.underlying94 rfl rfl ti3 rfl rfl) ?_
                refine OW.val rfl rfl (EX.load Tryz.underlying3 rfl rfl (hb3.cell_of rfl)) ?_
                refine OW.val rfl rfl (EX.move rfl) ?_
                refine OW.val rfl rfl (by first | exact EX.neqN rfl rfl | exact EX.neqZ rfl rfl) ?_
                refine OW.val rfl rfl (EX.pickF rfl rfl) ?_
                refine OW.val rfl rfl (EX.move rfl) ?_
                refine OW.splitD 46 rfl (fun q3 => ?_) (fun q3 => ?_)
                · refine OW.pass rfl rfl ?_
                  refine OW.pass rfl rfl ?_
                  refine OW.pass rfl rfl ?_
                  refine OW.pass rfl rfl ?_
                  refine OW.val rfl rfl (EX.pickT rfl rfl) ?_
                  refine OW.nil ?_
                  refine KW.as 51 (.bool (decide ((e ≠ 0 ∨ x.kind ≠ 4 ∨ x.gen ≠ genOf ss ∨ x.index ≠ i)))) rfl (congrArg Value.bool (decide_eq_true (.inr (.inr (.inl q3)))).symm) ?_
                  refine KW.meet1 (()) ⟨rfl, rfl, rfl, rfl, rfl, rfl, rfl, rfl, trivial⟩ rfl ?_
                  trivial
                · refine OW.val rfl rfl (EX.fieldAddr (off := 2) Tryz.underlying94 rfl rfl ti3 rfl rfl) ?_
                  refine OW.val rfl rfl (EX.load Tryz.underlying3 rfl rfl (hb3.cell_of rfl)) ?_
                  refine OW.val rfl rfl (EX.move rfl) ?_
                  refine OW.val rfl rfl (by first | exact EX.neqN rfl rfl | exact EX.neqZ rfl rfl) ?_
                  refine OW.val rfl rfl (EX.pickF rfl rfl) ?_
                  refine OW.nil ?_
                  refine KW.as 51 (.bool (decide ((e ≠ 0 ∨ x.kind ≠ 4 ∨ x.gen ≠ genOf ss ∨ x.index ≠ i)))) rfl (congrArg Value.bool (decide_eq_decide.2 ⟨fun h => .inr (.inr (.inr h)), fun h => h.elim (fun z => absurd z q1) (fun h => h.elim (fun z => absurd z q2) (fun h => h.elim (fun z => absurd z q3) id))⟩)) ?_
                  refine KW.meet1 (()) ⟨rfl, rfl, rfl, rfl, rfl, rfl, rfl, rfl, trivial⟩ rfl ?_
                  trivial
          · rintro _ _
            refine KW.condD rfl (fun hb => ?_) (fun hb => ?_)
            · refine KW.seq (KW.region ?_)
              refine OW.val rfl rfl (EX.assign rfl) ?_
              refine OW.val rfl rfl (EX.assign rfl) ?_
              refine OW.val rfl rfl (EX.assign rfl) ?_
              refine OW.nil ?_
              refine KW.ret (ret3 rfl rfl rfl rfl ?_)
              exact bad (fun h => by obtain ⟨_, a1, a2, a3, a4⟩ := hat h; rcases hb with q | q | q | q; (· exact q a1); (· exact q a2); (· exact q a3); (· exact q a4)) w3 (hx.trans x3)
            · refine KW.skip (KW.region ?_)
              refine OW.val rfl rfl (EX.move rfl) ?_
              refine OW.val rfl rfl (EX.fieldAddr (off := 3) Tryz.underlying94 rfl rfl ti9 rfl rfl) ?_
              refine OW.val rfl rfl (EX.load Tryz.underlying9 rfl rfl (hb3.cell_of rfl)) ?_
              refine OW.val rfl rfl (EX.addS rfl rfl (by first | omega | (simp only [List.length_append, List.length_cons, List.length_nil, List.length_take, List.length_drop, List.length_replicate]; omega))) ?_
              refine OW.val rfl rfl (EX.assign rfl) ?_
              refine OW.nil ?_
              refine KW.leave (KW.region ?_)
              refine OW.val rfl rfl (by first | exact EX.addN (b := 1) (m := 9223372036854775807) rfl rfl rfl (by omega) | exact EX.addZ (m := 9223372036854775807) rfl rfl rfl rfl (by omega)) ?_
              refine OW.val rfl rfl (EX.move rfl) ?_
              refine OW.nil ?_
              refine KW.as 6 (str ((datas (ss.take (i + 1))))) rfl (congrArg str hds.symm) ?_
              refine KW.back3 (i + 1) (genOf ss) (w3) ⟨rfl, rfl, rfl, rfl, rfl, rfl, trivial⟩ rfl ?_ (by omega)
              exact ⟨by omega, fun _ => rfl, hx.trans x3⟩
      · obtain rfl : i = ss.length := by omega
        obtain rfl := hg (by omega)
        have cm := members_s (datas ss) (by omega) wr
        have hmo := memsOf_ok ss
        have hml := memL_lenC ((datas ss).length + 1) (datas ss) []
        have hmd : memL ((datas ss).length + 1) (datas ss) [] = memsOf ss := rfl
        rw [hmd] at cm hml
        simp only [List.length_nil, Nat.zero_add] at hml
        rw [List.take_length]
        refine KW.exit rfl (KW.seq (KW.region ?_))
        refine OW.val rfl rfl (EX.move rfl) ?_
        refine OW.call rfl rfl rfl (cm) ?_
        rintro _ w1 ⟨u, rfl, hown1, hx1⟩
        refine OW.val rfl rfl (EX.move rfl) ?_
        refine OW.val rfl rfl (EX.extract rfl rfl) ?_
        refine OW.val rfl rfl (EX.extract rfl rfl) ?_
        refine OW.val rfl rfl (EX.assign rfl) ?_
        refine OW.val rfl rfl (EX.assign rfl) ?_
        refine OW.nil ?_
        refine KW.seq (KW.seq (KW.region ?_))
        refine OW.val rfl rfl (EX.move rfl) ?_
        refine OW.val rfl rfl (by first | exact EX.neqN (b := 0) rfl rfl | exact EX.neqZ rfl rfl) ?_
        refine OW.nil ?_
        obtain ⟨A1, c1, rfl, _, hsl1⟩ := hown1.slice
        refine KW.condD rfl (fun hme => ?_) (fun hme => ?_)
        · refine KW.seq (KW.region ?_)
          refine OW.val rfl rfl (EX.assign rfl) ?_
          refine OW.val rfl rfl (EX.assign rfl) ?_
          refine OW.val rfl rfl (EX.assign rfl) ?_
          refine OW.nil ?_
          refine KW.ret (ret3 rfl rfl rfl rfl ?_)
          exact bad (fun h => hme (by have := h.mem; omega)) w1 (hx.trans hx1)
        · have ce := encode23_s (genOf ss) (memsOf ss).1 hmo (by omega) A1 c1 _ w1 ((hG.ext hx).ext hx1) hsl1
          refine KW.skip (KW.seq (KW.region ?_))
          refine OW.val rfl rfl (EX.move rfl) ?_
          refine OW.val rfl rfl (EX.move rfl) ?_
          refine OW.call rfl rfl rfl (ce) ?_
          rintro _ w2 ⟨⟨u2, rfl, hown2⟩, hx2⟩
          refine OW.val rfl rfl (EX.move rfl) ?_
          refine OW.val rfl rfl (EX.extract rfl rfl) ?_
          refine OW.val rfl rfl (EX.extract rfl rfl) ?_
          refine OW.val rfl rfl (EX.assign rfl) ?_
          refine OW.val rfl rfl (EX.assign rfl) ?_
          refine OW.nil ?_
          refine KW.seq (KW.seq (KW.region ?_))
          refine OW.val rfl rfl (EX.move rfl) ?_
          refine OW.val rfl rfl (by first | exact EX.neqN (b := 0) rfl rfl | exact EX.neqZ rfl rfl) ?_
          refine OW.nil ?_
          have x2 := (hx.trans hx1).trans hx2
          obtain ⟨A2, c2, rfl, _, hsl2⟩ := hown2.slice
          refine KW.condD rfl (fun hee => ?_) (fun hee => ?_)
          · have h230 : (encC (genOf ss) (memsOf ss).1).2 = 230 := by
              rcases encC_or (genOf ss) (memsOf ss).1 with ⟨_, q⟩ | q
              · rw [q] at hee; exact absurd rfl hee
              · rw [q]
            refine KW.seq (KW.region ?_)
            refine OW.val rfl rfl (EX.move rfl) ?_
            refine OW.val rfl rfl (EX.assign rfl) ?_
            refine OW.val rfl rfl (EX.assign rfl) ?_
            refine OW.val rfl rfl (EX.assign rfl) ?_
            refine OW.nil ?_
            rw [h230]
            refine KW.ret (ret3 rfl rfl rfl rfl ?_)
            exact bad (fun h => by rw [h.enc] at h230; cases h230) w2 x2
          · have hE : encC (genOf ss) (memsOf ss).1 = ((encC (genOf ss) (memsOf ss).1).1, 0) := by
              rcases encC_or (genOf ss) (memsOf ss).1 with ⟨_, q⟩ | q
              · rw [q]
              · rw [q] at hee; exact absurd (show (230 : Nat) ≠ 0 by decide) (fun z => hee (by simp))
            have ho5 := enc_len hE
            have hyes : (encC (genOf ss) (memsOf ss).1).1 = ss → OkD ss := fun q => ⟨by omega, by rw [hE, q]⟩
            have hno : (encC (genOf ss) (memsOf ss).1).1 ≠ ss → ¬ OkD ss := fun q h => q (by rw [h.enc])
            generalize (encC (genOf ss) (memsOf ss).1).1 = os at ho5 hyes hno hsl2
            generalize (encC (genOf ss) (memsOf ss).1).2 = oe at hee
            have hsl3 := hs.ext x2
            obtain ⟨s0, s1, s2, s3, s4, rfl⟩ := fiveT h5
            obtain ⟨r0, r1, r2, r3, r4, rfl⟩ := fiveT ho5
            obtain ⟨b3, o3, rfl, _, hc3⟩ := hsl3.at_ (by simp [txtsV])
            obtain ⟨b2, o2, rfl, _, hc2⟩ := hsl2.at_ (by simp [txtsV])
            have hm2 := (hown1.ext hx2)
            refine KW.skip (KW.seq (KW.seq ?_))
            refine KW.regionQ (by kernel_rfl) (by kernel_rfl) ?_
            refine QW.val rfl rfl (fun _ => EX.move rfl) ?_
            refine QW.val rfl rfl (fun _ => EX.arrayAt Tryz.underlying99 rfl (by omega)) ?_
            refine QW.val rfl rfl (fun _ => EX.loadA (w := w2.drewN _) (l := [str r0, str r1, str r2, str r3, str r4]) Tryz.underlying99 rfl ti99 rfl rfl hc2) ?_
            refine QW.val rfl rfl (fun _ => EX.move rfl) ?_
            refine QW.val rfl rfl (fun _ => EX.arrayAt Tryz.underlying99 rfl (by omega)) ?_
            refine QW.val rfl rfl (fun _ => EX.loadA (w := w2.drewN _) (l := [str s0, str s1, str s2, str s3, str s4]) Tryz.underlying99 rfl ti99 rfl rfl hc3) ?_
            refine QW.val rfl rfl (fun _ => EX.neqA5 Tryz.underlying99 Tryz.underlying9 ti9 (by kernel_rfl) rfl rfl) ?_
            refine QW.nil (fun nq => ?_)
            refine KW.condD rfl (fun hne => ?_) (fun hne => ?_)
            · refine KW.seq (KW.region ?_)
              refine OW.val rfl rfl (EX.assign rfl) ?_
              refine OW.val rfl rfl (EX.assign rfl) ?_
              refine OW.val rfl rfl (EX.assign rfl) ?_
              refine OW.nil ?_
              refine KW.ret (ret3 rfl rfl rfl rfl ?_)
              exact bad (hno hne) _ (x2.trans (Ext.drewN _ _))
            · have hok := hyes (Decidable.of_not_not hne)
              refine KW.skip (KW.seq (KW.region ?_))
              refine OW.val rfl rfl (EX.move rfl) ?_
              refine OW.val rfl rfl (EX.move rfl) ?_
              refine OW.val rfl rfl (EX.assign rfl) ?_
              refine OW.val rfl rfl (EX.assign rfl) ?_
              refine OW.val rfl rfl (EX.assign rfl) ?_
              refine OW.nil ?_
              refine KW.ret (ret3 rfl rfl rfl rfl ?_)
              rw [decC_ok hok]
              exact ⟨⟨_, rfl, (hm2.drewN _).more hx.size⟩, x2.trans (Ext.drewN _ _)⟩
set_option maxRecDepth 20000 in
theorem rdecode23_s (ss : Txts) (hl : ss.length ≤ 140737488355328) (A : Option Addr) (c B : Nat) (w : World) (hs : Sl w B A (txtsV ss)) :
    Ret Tryz.prog 13 [.slice A ss.length c] w fun v w' => (∃ u, v = .tuple #[.int .i64 (decC ss).1, u, .int .i64 (((decC ss).2.2 : Nat) : Int)] ∧ Own w' w.heap.size 70 5 u (decC ss).2.1.length (memsV (decC ss).2.1)) ∧ Ext w w' := by
  have bad : ¬ OkD ss → ∀ w', Ext w w' → (∃ u, (Value.tuple #[.int .i64 0, .slice none 0 0, .int .i64 230]) = .tuple #[.int .i64 (decC ss).1, u, .int .i64 (((decC ss).2.2 : Nat) : Int)] ∧ Own w' w.heap.size 70 5 u (decC ss).2.1.length (memsV (decC ss).2.1)) ∧ Ext w w' := fun h w' hx => by
    rw [decC_no h]
    exact ⟨⟨_, rfl, Own.nil _ _ _ _⟩, hx⟩
  refine Ret.enter Tryz.func13 rfl Tryz.ntmps13 (by kernel_rfl) rfl ?_
  refine KW.seq (KW.region ?_)
  refine OW.val rfl rfl (EX.assign rfl) ?_
  refine OW.val rfl rfl (EX.assign rfl) ?_
  refine OW.val rfl rfl (EX.assign rfl) ?_
  refine OW.nil ?_
  refine KW.seq (KW.seq (KW.region ?_))
  refine OW.val rfl rfl (EX.move rfl) ?_
  refine OW.val rfl rfl (EX.lenA Tryz.underlying24 rfl) ?_
  refine OW.val rfl rfl (by first | exact EX.neqN (b := 5) rfl rfl | exact EX.neqZ rfl rfl) ?_
  refine OW.nil ?_
  refine KW.condD rfl (fun hn5 => ?_) (fun hn5 => ?_)
  · refine KW.seq (KW.region ?_)
    refine OW.val rfl rfl (EX.assign rfl) ?_
    refine OW.val rfl rfl (EX.assign rfl) ?_
    refine OW.val rfl rfl (EX.assign rfl) ?_
    refine OW.nil ?_
    refine KW.ret (ret3 rfl rfl rfl rfl ?_)
    exact bad (fun h => hn5 (by have := okD_len h; omega)) w (Ext.refl _)
  · have h5 : ss.length = 5 := by omega
    have hdm := datas_most ss
    refine KW.skip (KW.seq (KW.region ?_))
    refine OW.val rfl rfl (EX.assign rfl) ?_
    refine OW.nil ?_
    refine KW.seq (KW.region ?_)
    refine OW.val rfl rfl (EX.assign rfl) ?_
    refine OW.nil ?_
    refine KW.seq (KW.seq (KW.region ?_))
    refine OW.val rfl rfl (EX.assign rfl) ?_
    refine OW.nil ?_
    refine KW.block ?_
    refine KW.loop3 (fun (i : Nat) (g : Int) (wr : World) => i ≤ 5 ∧ (∀ h : i - 1 < ss.length, 0 < i → g = (decodeR ss[i - 1]).1.gen) ∧ Ext w wr) (fun (i : Nat) (g : Int) (wr : World) => [(0, .slice A ss.length c), (5, str ((datas (ss.take i)))), (6, .int .i64 g), (7, .int .i64 ((i : Nat) : Int))]) (fun (i : Nat) (g : Int) (wr : World) => wr) (fun (i : Nat) (g : Int) (wr : World) => 5 - i) (0) (0) (w) ⟨rfl, rfl, rfl, rfl, trivial⟩ rfl ?_ ?_
    · exact ⟨Nat.zero_le _, fun _ h => by omega, Ext.refl _⟩
    · rintro i g wr ⟨hi, hg, hx⟩
      refine KW.seq (KW.seq (KW.region ?_))
      refine OW.val rfl rfl (EX.move rfl) ?_
      refine OW.val rfl rfl (by first | exact EX.lssN (b := 5) rfl rfl | exact EX.lssZ rfl rfl) ?_
      refine OW.nil ?_
      refine KW.condD rfl (fun hlt5 => ?_) (fun hlt5 => ?_)
      · have hlt : i < ss.length := by omega
        obtain ⟨b, o, rfl, _, hcell⟩ := txts_cellC (hs.ext hx) hlt
        have hsn : ss.take (i + 1) = ss.take i ++ [ss[i]] := (List.take_append_getElem hlt).symm
        have hat := fun h : OkD ss => okD_at h hlt
        generalize hsd : ss[i] = s at hcell hsn hat
        have hd1 := data_most s
        have hd2 := datas_most (ss.take i)
        rw [List.length_take] at hd2
        have cd := fun w => rdecode_s s w
        have hds : datas (ss.take (i + 1)) = datas (ss.take i) ++ (decodeR s).1.data := by rw [hsn, datas_snoc]
        generalize hxd : (decodeR s).1 = x at cd hat hd1 hds
        generalize (decodeR s).2 = e at cd hat
        refine KW.skip (KW.seq (KW.block (KW.seq (KW.region ?_))))
        refine OW.val rfl rfl (EX.move rfl) ?_
        refine OW.val rfl rfl (EX.move rfl) ?_
        refine OW.val rfl rfl (by first | exact EX.indexAddrS0 Tryz.underlying24 ti9 rfl rfl (by omega) | exact EX.indexAddrS1 Tryz.underlying24 ti9 rfl rfl (by omega)) ?_
        refine OW.val rfl rfl (EX.load Tryz.underlying9 rfl rfl (hcell)) ?_
        refine OW.call rfl rfl rfl (cd wr) ?_
        rintro _ w1 ⟨rfl, hx1⟩
        refine OW.val rfl rfl (EX.move rfl) ?_
        refine OW.val rfl rfl (EX.extract rfl rfl) ?_
        refine OW.val rfl rfl (EX.extract rfl rfl) ?_
        refine OW.allocB (l := [.int .u8 0, .int .i64 0, .int .i64 0, str []]) rfl rfl ti100 rfl ?_
        rintro xb w2 hge2 hb2 hx2
        refine OW.storeS rfl ti100 rfl rfl rfl (by first | rfl | (simp only [List.all_cons, List.all_nil, Bool.and_true, Bool.true_and, Bool.and_eq_true, Value.oneCell']; repeat (first | assumption | exact Own.one (by assumption) | constructor))) (hb2) (Nat.le_refl _) ?_
        rintro w3 hb3 hm3
        refine OW.val rfl rfl (EX.assign rfl) ?_
        refine OW.nil ?_
        refine KW.seq (KW.seq (KW.region ?_))
        refine OW.val rfl rfl (EX.move rfl) ?_
        refine OW.val rfl rfl (by first | exact EX.neqN (b := 0) rfl rfl | exact EX.neqZ rfl rfl) ?_
        refine OW.nil ?_
        replace hb3 : Bk w3 xb 100 x.cells := hb3
        have x3 : Ext wr w3 := below_mo (hx1.trans hx2) hm3 (hx1.trans hx2).size (fun k hk => by simp at hk; have := hx1.size; omega)
        refine KW.condD rfl (fun he => ?_) (fun he => ?_)
        · refine KW.seq (KW.region ?_)
          refine OW.val rfl rfl (EX.assign rfl) ?_
          refine OW.val rfl rfl (EX.assign rfl) ?_
          refine OW.val rfl rfl (EX.assign rfl) ?_
          refine OW.nil ?_
          refine KW.ret (ret3 rfl rfl rfl rfl ?_)
          exact bad (fun h => he (hat h).2.1) w3 (hx.trans x3)
        · refine KW.skip (KW.seq (KW.region ?_))
          refine OW.val rfl rfl (EX.move rfl) ?_
          refine OW.val rfl rfl (EX.fieldAddr (off := 3) Tryz.underlying100 rfl rfl ti9 rfl rfl) ?_
          refine OW.val rfl rfl (EX.load Tryz.underlying9 rfl rfl (hb3.cell_of rfl)) ?_
          refine OW.val rfl rfl (EX.addS rfl rfl (by first | omega | (simp only [List.length_append, List.length_cons, List.length_nil, List.length_take, List.length_drop, List.length_replicate]; omega))) ?_
          refine OW.val rfl rfl (EX.assign rfl) ?_
          refine OW.nil ?_
          refine KW.region ?_
          refine OW.val rfl rfl (EX.fieldAddr (off := 1) Tryz.underlying100 rfl rfl ti3 rfl rfl) ?_
          refine OW.val rfl rfl (EX.load Tryz.underlying3 rfl rfl (hb3.cell_of rfl)) ?_
          refine OW.val rfl rfl (EX.assign rfl) ?_
          refine OW.nil ?_
          refine KW.leave (KW.region ?_)
          refine OW.val rfl rfl (EX.move rfl) ?_
          refine OW.val rfl rfl (by first | exact EX.addN (b := 1) (m := 9223372036854775807) rfl rfl rfl (by omega) | exact EX.addZ (m := 9223372036854775807) rfl rfl rfl rfl (by omega)) ?_
          refine OW.val rfl rfl (EX.assign rfl) ?_
          refine OW.nil ?_
          refine KW.as 5 (str ((datas (ss.take (i + 1))))) rfl (congrArg str hds.symm) ?_
          refine KW.back3 (i + 1) (x.gen) (w3) ⟨rfl, rfl, rfl, rfl, trivial⟩ rfl ?_ (by omega)
          exact ⟨by omega, fun h _ => by rw [← hxd, ← hsd]; rfl, hx.trans x3⟩
      · obtain rfl : i = 5 := by omega
        have hg5 := hg (by omega) (by omega)
        have cm := rmembers_s (datas ss) (by omega) wr
        have hmo := memsOf_ok ss
        have hml := memL_lenC ((datas ss).length + 1) (datas ss) []
        have hmd : memL ((datas ss).length + 1) (datas ss) [] = memsOf ss := rfl
        rw [hmd] at cm hml
        simp only [List.length_nil, Nat.zero_add] at hml
        rw [List.take_of_length_le (by omega)]
        refine KW.exit rfl (KW.seq (KW.region ?_))
        refine OW.val rfl rfl (EX.move rfl) ?_
        refine OW.call rfl rfl rfl (cm) ?_
        rintro _ w1 ⟨u, rfl, hown1, hx1⟩
        refine OW.val rfl rfl (EX.move rfl) ?_
        refine OW.val rfl rfl (EX.extract rfl rfl) ?_
        refine OW.val rfl rfl (EX.extract rfl rfl) ?_
        refine OW.val rfl rfl (EX.assign rfl) ?_
        refine OW.val rfl rfl (EX.assign rfl) ?_
        refine OW.nil ?_
        refine KW.seq (KW.region ?_)
        refine OW.val rfl rfl (EX.move rfl) ?_
        refine OW.val rfl rfl (EX.move rfl) ?_
        obtain ⟨A1, c1, rfl, _, hsl1⟩ := hown1.slice
        have ce := rencode23_s g (memsOf ss).1 hmo (by omega) A1 c1 _ w1 hsl1
        refine OW.call rfl rfl rfl (ce) ?_
        rintro _ w2 ⟨⟨u2, rfl, hown2⟩, hx2⟩
        refine OW.val rfl rfl (EX.move rfl) ?_
        refine OW.val rfl rfl (EX.extract rfl rfl) ?_
        refine OW.val rfl rfl (EX.extract rfl rfl) ?_
        refine OW.val rfl rfl (EX.assign rfl) ?_
        refine OW.val rfl rfl (EX.assign rfl) ?_
        refine OW.nil ?_
        refine KW.seq (KW.seq ?_)
        have x2 := (hx.trans hx1).trans hx2
        obtain ⟨A2, c2, rfl, _, hsl2⟩ := hown2.slice
        have hlast : 5 - 1 < ss.length := by omega
        have hyes0 : (memsOf ss).2 = 0 → encC g (memsOf ss).1 = (ss, 0) → OkD ss ∧ g = genOf ss := fun h1 h2 => by
          rw [hg5] at h2
          exact ⟨okD_any hlast h1 h2, by rw [hg5]; exact (enc_gen h2).symm⟩
        have hno0 : OkD ss → (memsOf ss).2 = 0 ∧ encC g (memsOf ss).1 = (ss, 0) := fun h => by
          have h1 := (okD_at h hlast).2.2.2.1
          rw [← hg5] at h1
          exact ⟨h.mem, by rw [h1]; exact h.enc⟩
        refine KW.region ?_
        refine OW.val rfl rfl (EX.move rfl) ?_
        refine OW.val rfl rfl (by first | exact EX.neqN (b := 0) rfl rfl | exact EX.neqZ rfl rfl) ?_
        refine OW.val rfl rfl (EX.move rfl) ?_
        refine OW.splitD 51 rfl (fun hme => ?_) (fun hme => ?_)
        · refine OW.pass rfl rfl ?_
          refine OW.pass rfl rfl ?_
          refine OW.val rfl rfl (EX.pickT rfl rfl) ?_
          refine OW.nil ?_
          refine KW.condT rfl (KW.seq (KW.region ?_))
          refine OW.val rfl rfl (EX.assign rfl) ?_
          refine OW.val rfl rfl (EX.assign rfl) ?_
          refine OW.val rfl rfl (EX.assign rfl) ?_
          refine OW.nil ?_
          refine KW.ret (ret3 rfl rfl rfl rfl ?_)
          exact bad (fun h => hme (hno0 h).1) w2 x2
        · refine OW.val rfl rfl (EX.move rfl) ?_
          refine OW.val rfl rfl (by first | exact EX.neqN (b := 0) rfl rfl | exact EX.neqZ rfl rfl) ?_
          refine OW.val rfl rfl (EX.pickF rfl rfl) ?_
          refine OW.nil ?_
          refine KW.condD rfl (fun hee => ?_) (fun hee => ?_)
          · refine KW.seq (KW.region ?_)
            refine OW.val rfl rfl (EX.assign rfl) ?_
            refine OW.val rfl rfl (EX.assign rfl) ?_
            refine OW.val rfl rfl (EX.assign rfl) ?_
            refine OW.nil ?_
            refine KW.ret (ret3 rfl rfl rfl rfl ?_)
            exact bad (fun h => hee (by rw [(hno0 h).2])) w2 x2
          · have hE : encC g (memsOf ss).1 = ((encC g (memsOf ss).1).1, 0) := by
              rcases encC_or g (memsOf ss).1 with ⟨_, q⟩ | q
              · rw [q]
              · rw [q] at hee; exact absurd (show (230 : Nat) ≠ 0 by decide) (fun z => hee (by simp))
            have ho5 := enc_len hE
            have hyes : (encC g (memsOf ss).1).1 = ss → OkD ss ∧ g = genOf ss := fun q => hyes0 (by omega) (by rw [hE, q])
            have hno : (encC g (memsOf ss).1).1 ≠ ss → ¬ OkD ss := fun q h => q (by rw [(hno0 h).2])
            generalize (encC g (memsOf ss).1).1 = os at ho5 hyes hno hsl2
            generalize (encC g (memsOf ss).1).2 = oe at hee
            have hm2 := (hown1.ext hx2)
            refine KW.skip (KW.seq (KW.seq (KW.region ?_)))
            refine OW.val rfl rfl (EX.assign rfl) ?_
            refine OW.nil ?_
            refine KW.block ?_
            refine KW.loop2 (fun (i : Nat) (wq : World) => i ≤ 5 ∧ (∀ j, j < i → os[j]? = ss[j]?) ∧ Ext w2 wq) (fun (i : Nat) (wq : World) => [(0, .slice A ss.length c), (6, .int .i64 g), (10, .slice A1 (memsOf ss).1.length c1), (12, .slice A2 os.length c2), (14, .int .i64 ((i : Nat) : Int))]) (fun (i : Nat) (wq : World) => wq) (fun (i : Nat) (wq : World) => 5 - i) (0) (w2) ⟨rfl, rfl, rfl, rfl, rfl, trivial⟩ rfl ?_ ?_
            · exact ⟨Nat.zero_le _, fun j hj => by omega, Ext.refl _⟩
            · rintro i wq ⟨hi, heq, hxq⟩
              refine KW.seq (KW.seq (KW.region ?_))
              refine OW.val rfl rfl (EX.move rfl) ?_
              refine OW.val rfl rfl (by first | exact EX.lssN (b := 5) rfl rfl | exact EX.lssZ rfl rfl) ?_
              refine OW.nil ?_
              refine KW.condD rfl (fun hlt2 => ?_) (fun hlt2 => ?_)
              · have h1 : i < os.length := by omega
                have h2 : i < ss.length := by omega
                obtain ⟨b2, o2, rfl, _, hc2⟩ := txts_cellC (hsl2.ext hxq) h1
                obtain ⟨b3, o3, rfl, _, hc3⟩ := txts_cellC (hs.ext (x2.trans hxq)) h2
                refine KW.skip (KW.seq (KW.block (KW.seq ?_)))
                refine KW.regionQ (by kernel_rfl) (by kernel_rfl) ?_
                refine QW.val rfl rfl (fun _ => EX.move rfl) ?_
                refine QW.val rfl rfl (fun _ => EX.move rfl) ?_
                refine QW.val rfl rfl (fun _ => by first | exact EX.indexAddrS0 Tryz.underlying24 ti9 rfl rfl (by omega) | exact EX.indexAddrS1 Tryz.underlying24 ti9 rfl rfl (by omega)) ?_
                refine QW.val rfl rfl (fun _ => EX.load Tryz.underlying9 rfl rfl (hc2)) ?_
                refine QW.val rfl rfl (fun _ => EX.move rfl) ?_
                refine QW.val rfl rfl (fun _ => EX.move rfl) ?_
                refine QW.val rfl rfl (fun _ => by first | exact EX.indexAddrS0 Tryz.underlying24 ti9 rfl rfl (by omega) | exact EX.indexAddrS1 Tryz.underlying24 ti9 rfl rfl (by omega)) ?_
                refine QW.val rfl rfl (fun _ => EX.load Tryz.underlying9 rfl rfl (hc3)) ?_
                refine QW.val rfl rfl (fun _ => EX.neqS rfl rfl) ?_
                refine QW.nil (fun nq => ?_)
                refine KW.condD rfl (fun hne => ?_) (fun hne => ?_)
                · refine KW.seq (KW.region ?_)
                  refine OW.val rfl rfl (EX.assign rfl) ?_
                  refine OW.val rfl rfl (EX.assign rfl) ?_
                  refine OW.val rfl rfl (EX.assign rfl) ?_
                  refine OW.nil ?_
                  refine KW.ret (ret3 rfl rfl rfl rfl ?_)
                  exact bad (hno (fun q => hne (by subst q; rfl))) _ ((x2.trans hxq).trans (Ext.drewN _ _))
                · refine KW.skip (KW.leave (KW.region ?_))
                  refine OW.val rfl rfl (EX.move rfl) ?_
                  refine OW.val rfl rfl (by first | exact EX.addN (b := 1) (m := 9223372036854775807) rfl rfl rfl (by omega) | exact EX.addZ (m := 9223372036854775807) rfl rfl rfl rfl (by omega)) ?_
                  refine OW.val rfl rfl (EX.assign rfl) ?_
                  refine OW.nil ?_
                  refine KW.back2 (i + 1) (wq.drewN nq) ⟨rfl, rfl, rfl, rfl, rfl, trivial⟩ rfl ?_ (by omega)
                  refine ⟨by omega, fun j hj => ?_, hxq.trans (Ext.drewN _ _)⟩
                  by_cases ej : j = i
                  · subst ej
                    rw [List.getElem?_eq_getElem h1, List.getElem?_eq_getElem h2]
                    exact congrArg some (by simpa using hne)
                  · exact heq j (by omega)
              · have hsame : os = ss := by
                  apply List.ext_getElem?
                  intro j
                  by_cases hj : j < 5
                  · exact heq j (by omega)
                  · rw [List.getElem?_eq_none (by omega), List.getElem?_eq_none (by omega)]
                obtain ⟨hok, rfl⟩ := hyes hsame
                refine KW.exit rfl (KW.seq (KW.region ?_))
                refine OW.val rfl rfl (EX.move rfl) ?_
                refine OW.val rfl rfl (EX.move rfl) ?_
                refine OW.val rfl rfl (EX.assign rfl) ?_
                refine OW.val rfl rfl (EX.assign rfl) ?_
                refine OW.val rfl rfl (EX.assign rfl) ?_
                refine OW.nil ?_
                refine KW.ret (ret3 rfl rfl rfl rfl ?_)
                rw [decC_ok hok]
                exact ⟨⟨_, rfl, (hm2.ext hxq).more hx.size⟩, x2.trans hxq⟩
end Go.Proofs.YthgfdpcpbghkpaaGreatDoor
namespace Go.Proofs.YthgfdpcpbghkpaaGreatDoor.Dsk
open Go.Proofs.YthgfdpcpbghkpaaGreatDoor
inductive Ch where
  | write (i : Nat) (s : List UInt8)
  | cut (n : Nat)
def zeros (n : Nat) : List UInt8 := List.replicate n 0
def Ch.ap : Ch → List UInt8 → List UInt8
  | .write i s, all =>
    (all ++ zeros ((i + 1) * 512 - all.length)).take (i * 512) ++ s ++ (all ++ zeros ((i + 1) * 512 - all.length)).drop (i * 512 + s.length)
  | .cut n, all => all.take (min all.length (n * 512))
def Ch.ok (cap : Nat) : Ch → Prop
  | .write i s => i < cap ∧ s.length = 512
  | .cut n => n ≤ cap
theorem zeros_length (n : Nat) : (zeros n).length = n := by simp [zeros]
theorem ap_length {cap : Nat} {c : Ch} (h : c.ok cap) {all : List UInt8} (ha : all.length ≤ 512 * cap) : (c.ap all).length ≤ 512 * cap := by
  cases c with
  | write i s =>
    obtain ⟨h1, h2⟩ := h
    simp only [Ch.ap, List.length_append, List.length_take, List.length_drop, zeros_length]
    omega
  | cut n => simp only [Ch.ap, List.length_take]; omega
theorem ap_mod {cap : Nat} {c : Ch} (h : c.ok cap) {all : List UInt8} (ha : all.length % 512 = 0) : (c.ap all).length % 512 = 0 := by
  cases c with
  | write i s =>
    obtain ⟨h1, h2⟩ := h
    simp only [Ch.ap, List.length_append, List.length_take, List.length_drop, zeros_length]
    omega
  | cut n => simp only [Ch.ap, List.length_take]; omega
structure Dv where
  cap : Nat
  kept : List UInt8
  now : List UInt8
  pend : List Ch
  at_ : Nat
  keep : List Bool
  dead : Bool
  calls : Nat
structure Dv.Ok (D : Dv) : Prop where
  cap : 1 ≤ D.cap ∧ D.cap ≤ 4096
  kept : D.kept.length ≤ 512 * D.cap
  now : D.now.length ≤ 512 * D.cap
  keptM : D.kept.length % 512 = 0
  nowM : D.now.length % 512 = 0
  pend : ∀ c ∈ D.pend, c.ok D.cap
def fallen : List Ch → List Bool → List UInt8 → List UInt8
  | [], _, all => all
  | c :: cs, [], all => all
  | c :: cs, b :: bs, all => fallen cs bs (if b then c.ap all else all)
def Dv.pushed (D : Dv) (c : Option Ch) : Dv := match c with
  | some c => { D with pend := D.pend ++ [c] }
  | none => D
def Dv.done (D : Dv) (c : Option Ch) : Dv := match c with
  | some c => { D with now := c.ap D.now, calls := D.calls + 1 }
  | none => { D with kept := D.now, pend := [], calls := D.calls + 1 }
def Dv.does (D : Dv) (c : Option Ch) : Dv × Nat :=
  let E := D.pushed c
  if E.at_ = 0 then (E.done c, 0)
  else if E.at_ = 1 then ({ E with kept := fallen E.pend E.keep E.kept, now := fallen E.pend E.keep E.kept, pend := [], at_ := 0, keep := [], dead := true }, 190)
  else (Dv.done { E with at_ := E.at_ - 1 } c, 0)
theorem fallen_length {cap : Nat} : ∀ (cs : List Ch) (bs : List Bool) (all : List UInt8), (∀ c ∈ cs, c.ok cap) → all.length ≤ 512 * cap → all.length % 512 = 0 → (fallen cs bs all).length ≤ 512 * cap ∧ (fallen cs bs all).length % 512 = 0
  | [], _, all, _, h1, h2 => ⟨h1, h2⟩
  | c :: cs, [], all, _, h1, h2 => ⟨h1, h2⟩
  | c :: cs, b :: bs, all, h, h1, h2 => by
    simp only [fallen]
    refine fallen_length cs bs _ (fun c' hc => h c' (by simp [hc])) ?_ ?_
    · split
      · exact ap_length (h c (by simp)) h1
      · exact h1
    · split
      · exact ap_mod (h c (by simp)) h2
      · exact h2
theorem fallen_snoc : ∀ (cs : List Ch) (c : Ch) (bs : List Bool) (all : List UInt8), fallen (cs ++ [c]) bs all = if bs.getD cs.length false then c.ap (fallen cs bs all) else fallen cs bs all
  | [], c, [], all => by simp [fallen]
  | [], c, b :: bs, all => by simp [fallen]
  | d :: cs, c, [], all => by simp [fallen]
  | d :: cs, c, b :: bs, all => by
    simp only [List.cons_append, fallen, fallen_snoc cs c bs _, List.length_cons, List.getD_cons_succ]
theorem pushed_ok {D : Dv} (h : D.Ok) {c : Option Ch} (hc : ∀ d, c = some d → d.ok D.cap) : (D.pushed c).Ok := by
  cases c with
  | none => exact h
  | some c =>
    refine ⟨h.cap, h.kept, h.now, h.keptM, h.nowM, fun d hd => ?_⟩
    simp only [Dv.pushed, List.mem_append, List.mem_singleton] at hd
    rcases hd with hd | rfl
    · exact h.pend d hd
    · exact hc _ rfl
theorem done_ok {D : Dv} (h : D.Ok) {c : Option Ch} (hc : ∀ d, c = some d → d.ok D.cap) : (D.done c).Ok := by
  cases c with
  | none => exact ⟨h.cap, h.now, h.now, h.nowM, h.nowM, fun d hd => by simp [Dv.done] at hd⟩
  | some c => exact ⟨h.cap, h.kept, ap_length (hc c rfl) h.now, h.keptM, ap_mod (hc c rfl) h.nowM, h.pend⟩
theorem pushed_cap (D : Dv) (c : Option Ch) : (D.pushed c).cap = D.cap := by cases c <;> rfl
theorem does_ok {D : Dv} (h : D.Ok) {c : Option Ch} (hc : ∀ d, c = some d → d.ok D.cap) : (D.does c).1.Ok := by
  have h1 := pushed_ok h hc
  have hc1 : ∀ d, c = some d → d.ok (D.pushed c).cap := fun d hd => by rw [pushed_cap]; exact hc d hd
  unfold Dv.does
  simp only
  split
  · exact done_ok h1 hc1
  · split
    · obtain ⟨q1, q2⟩ := fallen_length (cap := (D.pushed c).cap) (D.pushed c).pend (D.pushed c).keep (D.pushed c).kept h1.pend h1.kept h1.keptM
      exact ⟨h1.cap, q1, q1, q2, q2, fun d hd => by simp at hd⟩
    · exact done_ok (D := { D.pushed c with at_ := (D.pushed c).at_ - 1 }) ⟨h1.cap, h1.kept, h1.now, h1.keptM, h1.nowM, h1.pend⟩ hc1
def sector (b : Nat) (odd : Bool) : List UInt8 := List.replicate (if odd then 511 else 512) (UInt8.ofNat b)
end Go.Proofs.YthgfdpcpbghkpaaGreatDoor.Dsk
