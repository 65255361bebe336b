/-
  The engine's laws for appending, with what stays told in one word.
-/
import Derived.Test.YtieojdkblakchaaDoorKo
import Derived.Lib.AppendZerosOnto
namespace Go.Proofs.YtieojdkblakchaaDoor
open Go.RowKit
set_option linter.unusedSimpArgs false
set_option linter.unusedVariables false
section
variable {P : Program} {R : Act → World → Prop} {ops : Array Oper} {rest : List Oper} {k : List KI} {n : Nat} {σ : Sig} {w w0 : World} {x y : Operand} {t t' e ty ty1 : TypeId} {pos pos1 : String} {after after1 : Array Edge} {gd gd1 : Option (Nat × Bool)} {d d1 : Nat}
theorem Ext.grown {row : Option Nat} {w' : World} (h : Ext w0 w) (hg : w.grownBy w' row) (hr : ∀ g, row = some g → w0.heap.size ≤ g) : Ext w0 w' := Below.grown h hg h.size hr
/-- append onto what the call made -/
theorem OW.appendX {z : Value} {s bs : Nat} (hg : wantS ops σ gd = some true) (hd : Nat.blt d n = true) (ht : P.underlying t = some (.slice e)) (hi : TI P e z s bs) (hzs : z.cells.size = s) (hs0 : 0 < s)
    {v xv : Value} {m l : Nat} {xs news : List Value} (hx : ev σ x = some v) (hy : ev σ y = some xv) (hext : Ext w0 w) (hown : Own w w0.heap.size e s v l xs) (hsrc : Src P s t' xv m news w)
    (h63 : l + m ≤ maxLen) (hbytes : (l + m) * bs ≤ 140737488355328)
    (h : ∀ v' w', Own w' w0.heap.size e s v' (l + m) (xs ++ news) → Ext w0 w' → w.grownBy w' v.ownBlock → (v'.ownBlock = v.ownBlock ∨ v'.ownBlock = some w.heap.size) → OW P R ops rest k n ((d, v') :: σ) w') :
    OW P R ops (⟨some d, .call { callee := .builtin .append, args := #[x, y], argTypes := #[t, t'] }, ty, pos, after, gd⟩ :: rest) k n σ w :=
  OW.append w0.heap.size hg hd ht hi hzs hs0 hx hy hown hsrc h63 hbytes hext.size fun v' w' h1 h2 h3 => h v' w' h1 (hext.grown h2 fun g hg => (hown.lt g hg).1) h2 h3
/-- append of one element of one cell -/
theorem OW.push {z : Value} {bs : Nat} (hg1 : wantS ops σ gd1 = some true) (hd1 : Nat.blt d1 n = true) (hg : ∀ u, wantS ops ((d1, u) :: σ) gd = some true) (hd : Nat.blt d n = true) (ht : P.underlying t = some (.slice e)) (hi : TI P e z 1 bs) (hz1 : z.oneCell' = true)
    {v u : Value} {l : Nat} {xs : List Value} (hy : ev σ y = some u) (hx : ∀ q, ev ((d1, q) :: σ) x = some v) (hu : u.oneCell' = true) (hext : Ext w0 w) (hown : Own w w0.heap.size e 1 v l xs)
    (h63 : l + 1 ≤ maxLen) (hbytes : (l + 1) * bs ≤ 140737488355328)
    (h : ∀ q v' w', Own w' w0.heap.size e 1 v' (l + 1) (xs ++ [u]) → Ext w0 w' → w.grownBy w' v.ownBlock → (v'.ownBlock = v.ownBlock ∨ ∃ g, v'.ownBlock = some g ∧ w.heap.size ≤ g) → OW P R ops rest k n ((d, v') :: (d1, q) :: σ) w') :
    OW P R ops (⟨some d1, .buildSlice t 1 #[(0, y)], ty1, pos1, after1, gd1⟩ :: ⟨some d, .call { callee := .builtin .append, args := #[x, .tmp d1], argTypes := #[t, t] }, ty, pos, after, gd⟩ :: rest) k n σ w := by
  refine OW.val hg1 hd1 (EX.buildSlice (vs := [u]) 1 ht hi hz1 (by simp [evs, hy]) rfl rfl (by simp [hu]) (by decide)) ?_
  have hx1 : Ext w0 (w.alloc (.cells [u].toArray e)) := hext.trans (Ext.alloc w _)
  have hb := Bk.new w e [u]
  refine OW.appendX (hg _) hd ht hi (by rw [oneCell_cells hz1]; rfl) (by decide) (hx _) (lk_cons_same _ _ _) hx1 (hown.alloc _) (Src.of_sl ht (Sl.of_bk hb hb.lt) rfl (by simpa using hu) (by decide)) h63 hbytes ?_
  intro v' w' h1 h2 h3 h4
  refine h _ v' w' h1 h2 ⟨h3.os, h3.tape, h3.output, by have := h3.size; simp at this; omega, fun j hj hne => ?_⟩ ?_
  · rw [h3.block j (by simp; omega) hne]
    exact Below.heap_alloc w _ j hj
  · rcases h4 with h4 | h4
    · exact .inl h4
    · exact .inr ⟨_, h4, by simp⟩
theorem zeroCells_one {z : Value} (hz1 : z.oneCell' = true) (m : Nat) : (Builtin.zeroCells z.cells m).toList = List.replicate m z := by
  rw [oneCell_cells hz1]
  apply List.ext_getElem?
  intro j
  by_cases hj : j < m
  · simp [Builtin.zeroCells, hj, Nat.mod_one]
  · simp [Builtin.zeroCells, hj]
/-- append(x, make([]T, m)...) -/
theorem run_append_zeros (B : Nat) (tx : TypeId) {kx : IntKind} (hk : P.underlying tx = some (.int kx)) {z : Value} {bs : Nat} (ht : P.underlying t = some (.slice e)) (hi : TI P e z 1 bs) (hz1 : z.oneCell' = true)
    {v : Value} {l : Nat} {xs : List Value} (hown : Own w B e 1 v l xs) {m : Nat} {ki : IntKind} (h63 : l + m ≤ maxLen) (hbytes : (l + m) * bs ≤ 140737488355328) (hB : B ≤ w.heap.size) (hm : 0 < m) :
    ∃ v' w', (Builtin.append_ #[t, tx] ty #[v, .int ki (m : Int)]).run P w = .ok v' w' ∧ Own w' B e 1 v' (l + m) (xs ++ List.replicate m z) ∧ w.grownBy w' v.ownBlock ∧ (v'.ownBlock = v.ownBlock ∨ v'.ownBlock = some w.heap.size) := by
  obtain ⟨i, hq, hz, hs, rfl⟩ := hi.at
  have hzc := zeroCells_one hz1
  have hw : IntKind.i64.wrap (m : Int) = m := by rw [IntKind.wrap_i64]; simp only [maxLen] at h63; omega
  have hn0 : ¬ ((m : Int) < 0) := by omega
  have hnb : ¬ ((m : Int) * (i.bytes : Int) > 2 ^ 48) := by
    have h1 : m * i.bytes ≤ (l + m) * i.bytes := Nat.mul_le_mul_right _ (by omega)
    have h2 : ((m * i.bytes : Nat) : Int) ≤ 140737488355328 := by omega
    rw [Int.natCast_mul] at h2
    omega
  have hm0 : ¬ (m * 1 = 0) := by omega
  have hlen : (xs ++ List.replicate m z).length = (l + m) * 1 := by rw [List.length_append, hown.1, List.length_replicate, Nat.add_mul, Nat.mul_one m]
  have grow : ∀ (A : Option Addr) (cap : Nat), v = .slice A l cap → cap < l + m → (∀ w1 : World, (∀ a, w1.cell? a = w.cell? a) → (Builtin.firstCells 1 l (.slice A l cap)).run P w1 = .ok xs.toArray w1) →
      ∃ v' w', (Builtin.append_ #[t, tx] ty #[v, .int ki (m : Int)]).run P w = .ok v' w' ∧ Own w' B e 1 v' (l + m) (xs ++ List.replicate m z) ∧ w.grownBy w' v.ownBlock ∧ (v'.ownBlock = v.ownBlock ∨ v'.ownBlock = some w.heap.size) := by
    intro A cap hv hc hold
    subst hv
    have hge := grownCap_ge w (l + m) cap e
    have hcm : grownCap w (l + m) cap e ≤ maxLen := grownCap_le_maxLen w (l + m) cap e h63
    have hfits := growslice_fits (bytes := i.bytes) (need := l + m) (old := cap) (by omega) hbytes
    have hmb : m * i.bytes ≤ (l + m) * i.bytes := Nat.mul_le_mul_right _ (by omega)
    have hr := Lib.run_append_grow_zeros (P := P) w t tx ty e i z ki kx ht hk hq hz A l cap xs (by rw [hs]; exact hold w.drew fun _ => rfl) m hm (by omega) hc (by simp only [maxLen] at h63; omega) (by omega) hfits
    refine ⟨_, _, hr, ⟨hlen, .inr ⟨w.heap.size, _, (Builtin.zeroCells z.cells (grownCap w (l + m) cap e - (l + m))).toList, rfl, hB, ?_, ?_, hge, hcm⟩⟩, ⟨rfl, rfl, rfl, by simp, fun k hk _ => Below.heap_alloc w.drew _ k hk⟩, .inr rfl⟩
    · have := Bk.new w.drew e ((xs ++ List.replicate m z) ++ (Builtin.zeroCells z.cells (grownCap w (l + m) cap e - (l + m))).toList)
      rw [show ((xs ++ List.replicate m z) ++ (Builtin.zeroCells z.cells (grownCap w (l + m) cap e - (l + m))).toList).toArray = xs.toArray ++ Builtin.zeroCells z.cells m ++ Builtin.zeroCells z.cells (grownCap w (l + m) cap e - (l + m)) by
        apply Array.ext'; simp [← hzc]] at this
      exact this
    · rw [hlen, hzc, List.length_replicate]
      omega
  rcases hown.2 with ⟨rfl, rfl⟩ | ⟨g, cap, rest, rfl, hb, hg, hl, hn, hcm⟩
  · have hx : xs = [] := List.eq_nil_of_length_eq_zero (by simpa using hown.1)
    subst hx
    exact grow none 0 rfl (by omega) (fun w1 _ => by simp [Builtin.firstCells])
  · by_cases hroom : l + m ≤ cap
    · have hfit : l + (List.replicate m z).length ≤ (xs ++ rest).length := by
        rw [List.length_append, hl, List.length_replicate]; omega
      obtain ⟨w', hst, hb', hg'⟩ := run_storeCells_bk P w g l e (List.replicate m z) 0 (xs ++ rest) w hg (by simpa using hfit) (fun v hv => by rw [(List.mem_replicate.1 hv).2]; exact hz1)
      refine ⟨.slice (some ⟨g, 0, none⟩) (l + m) cap, w', ?_, ⟨hlen, .inr ⟨g, cap, rest.drop m, rfl, hb, ?_, ?_, hroom, hcm⟩⟩, by simpa [Value.ownBlock] using hg', .inl rfl⟩
      · rw [← hzc] at hst
        have h63' : (m : Int) ≤ 9223372036854775807 := by simp only [maxLen] at h63; omega
        have hne : m ≠ 0 := by omega
        simp [Builtin.append_, run_underlying ht, run_underlying hk, sizeOf, typeInfo, zeroValue, hq, hz, hs, asInt, asIntOf, hw, hn0, hne, hroom, Addr.add_lit, hst, show ¬ (281474976710656 < (m : Int) * (i.bytes : Int)) by omega]
      · have hxl : xs.length = l := by have := hown.1; omega
        have e1 : (xs ++ rest).take (l + 0) = xs := by rw [Nat.add_zero, ← hxl]; exact List.take_left
        have e2 : (xs ++ rest).drop (l + 0 + (List.replicate m z).length) = rest.drop m := by
          rw [Nat.add_zero, List.length_replicate, ← hxl, ← List.drop_drop, List.drop_left]
        rw [e1, e2] at hb'
        exact hb'
      · rw [List.length_drop, hlen]
        have := hown.1
        omega
    · refine grow _ cap rfl (by omega) (fun w1 hw1 => ?_)
      have : (loadCells ⟨g, 0, none⟩ (l * 1)).run P w1 = .ok xs.toArray w1 := by
        have := run_loadCells_list (P := P) w1 ⟨g, 0, none⟩ xs (fun j u hj => by
          have hadd : (⟨g, 0, none⟩ : Addr).add j = ⟨g, j, none⟩ := by unfold Addr.add; split <;> simp_all
          rw [hadd, hw1]
          refine hg.cell_of ?_
          rw [List.getElem?_append_left]
          · exact hj
          · rcases Nat.lt_or_ge j xs.length with h' | h'
            · exact h'
            · simp [List.getElem?_eq_none h'] at hj)
        rwa [hown.1] at this
      simpa [Builtin.firstCells] using this
theorem OW.appendZ {z : Value} {bs : Nat} {kx ki : IntKind} (hg : wantS ops σ gd = some true) (hd : Nat.blt d n = true) (ht : P.underlying t = some (.slice e)) (hk : P.underlying t' = some (.int kx)) (hi : TI P e z 1 bs) (hz1 : z.oneCell' = true)
    {v : Value} {m l : Nat} {xs : List Value} (hx : ev σ x = some v) (hy : ev σ y = some (.int ki (m : Int))) (hext : Ext w0 w) (hown : Own w w0.heap.size e 1 v l xs) (hm : 0 < m)
    (h63 : l + m ≤ maxLen) (hbytes : (l + m) * bs ≤ 140737488355328)
    (h : ∀ v' w', Own w' w0.heap.size e 1 v' (l + m) (xs ++ List.replicate m z) → Ext w0 w' → w.grownBy w' v.ownBlock → (v'.ownBlock = v.ownBlock ∨ v'.ownBlock = some w.heap.size) → OW P R ops rest k n ((d, v') :: σ) w') :
    OW P R ops (⟨some d, .call { callee := .builtin .append, args := #[x, y], argTypes := #[t, t'] }, ty, pos, after, gd⟩ :: rest) k n σ w := by
  obtain ⟨v', w', hr, h2, h3, h4⟩ := run_append_zeros (P := P) (ty := ty) w0.heap.size t' hk ht hi hz1 hown (ki := ki) h63 hbytes hext.size hm
  refine OW.val hg hd (v := v') (w' := w') ?_ (h v' w' h2 (hext.grown h3 fun g hg => (hown.lt g hg).1) h3 h4)
  intro A ha dst pos after g
  simp only [execOp, resolve, invoke, builtin, Sem.run_bind, Sem.run_pure, Result.andThen_ok, List.map_toArray, List.map_cons, List.map_nil, ha.ev hx, ha.ev hy, hr]
theorem OW.storeA {z : Value} {s bs b o : Nat} {vs l : List Value} {T : TypeId} (hg : wantS ops σ gd = some true) (h : TI P t z s bs) (hx : ev σ x = some (.pointer (some ⟨b, o, none⟩))) (hy : ev σ y = some (.agg vs.toArray)) (hs : vs.length = s) (h1 : vs.all (·.oneCell') = true) (hb : Bk w b T l) (hl : o + vs.length ≤ l.length)
    (hn : ∀ w', Bk w' b T (l.take o ++ vs ++ l.drop (o + vs.length)) → w.grownBy w' (some b) → OW P R ops rest k n σ w') : OW P R ops (⟨none, .store t x y, ty, pos, after, gd⟩ :: rest) k n σ w := by
  obtain ⟨w', he, h2, h3⟩ := EU.storeA (P := P) (n := n) (ty := ty) h hx hy hs h1 hb hl
  exact OW.eff hg he (hn w' h2 h3)
/-- the whole block is stored anew -/
theorem OW.storeW {z : Value} {s bs b : Nat} {vs l : List Value} {T : TypeId} (hg : wantS ops σ gd = some true) (h : TI P t z s bs) (hx : ev σ x = some (.pointer (some ⟨b, 0, none⟩))) (hy : ev σ y = some (.agg vs.toArray)) (hs : vs.length = s) (h1 : vs.all (·.oneCell') = true) (hb : Bk w b T l) (hl : l.length = s)
    (hn : ∀ w', Bk w' b T vs → w.grownBy w' (some b) → OW P R ops rest k n σ w') : OW P R ops (⟨none, .store t x y, ty, pos, after, gd⟩ :: rest) k n σ w :=
  OW.storeA hg h hx hy hs h1 hb (by omega) fun w' h2 h3 => hn w' (by
    have e : l.take 0 ++ vs ++ l.drop (0 + vs.length) = vs := by rw [List.drop_of_length_le (by omega)]; simp
    rwa [e] at h2) h3
theorem retA {fn : Func} {Q : Value → World → Prop} {p : Nat} {z : Value} {s bs g : Nat} {l : List Value} {T : TypeId} {dd : TypeDesc} (hs : fn.results = #[.cell p t]) (hp : lk σ p = some (.pointer (some ⟨g, 0, none⟩))) (hu : P.underlying t = some dd) (hd : flat dd = false) (h : TI P t z s bs) (hb : Bk w g T l) (hl : l.length = s) (hq : Q (.agg l.toArray) w) :
    ∀ a, Fr n σ a → bodyPost P fn (fun e w' => ∃ v, e = .returned v ∧ Q v w') .ret a w :=
  ret_of (fun a ha => by
    have hp' := ha.val p _ hp
    have hld := run_loadCells_list (P := P) w ⟨g, 0, none⟩ l (fun j u hj => by
      have hadd : (⟨g, 0, none⟩ : Addr).add j = ⟨g, j, none⟩ := by unfold Addr.add; split <;> simp_all
      rw [hadd]; exact hb.cell_of hj)
    rw [hl] at hld
    simp [results, hs, hp', asAddr, loadVar, run_isAgg hu, hd, run_sizeOf h, hld, Sem.run_bind]) hq
theorem run_sliceBoundI {kk : IntKind} {i : Nat} (y : Nat) (c : BoundsCode) (h : i ≤ y) : (Instr.sliceBound (.int kk (i : Int)) y c).run P w = .ok i w := run_sliceBound y c h
/-- a slice of a slice of one-cell elements -/
theorem Sl.cut {B : Nat} {A : Option Addr} {xs : List Value} (h : Sl w B A xs) {i c : Nat} (hc : xs.length ≤ c) : Sl w B (if c = i then A else A.map (·.add (i * 1))) (xs.drop i) := by
  rcases h with h | ⟨b, o, rfl, hb, hcell⟩
  · subst h; left; simp
  · by_cases hi : xs.length ≤ i
    · left; exact List.drop_of_length_le hi
    · rw [if_neg (by omega)]
      refine .inr ⟨b, o + i, by simp [Addr.add_lit, Nat.mul_one], hb, fun j u hu => ?_⟩
      rw [List.getElem?_drop] at hu
      rw [Nat.add_assoc]
      exact hcell (i + j) u hu
theorem EX.sliceALE {z : Value} {bs : Nat} {A : Option Addr} {B len cap i : Nat} {kk : IntKind} {lo : Operand} {xs : List Value} (ht : P.underlying t = some (.slice e)) (hi : TI P e z 1 bs) (hx : ev σ x = some (.slice A len cap)) (hl : ev σ lo = some (.int kk (i : Int))) (h : i ≤ len) (hc : len ≤ cap) (hs : Sl w B A xs) (hln : xs.length = len) :
    ∃ A', EX P n σ (.slice t x (some lo) none none) ty w (.slice A' (len - i) (cap - i)) w ∧ Sl w B A' (xs.drop i) :=
  ⟨if cap = i then A else A.map (·.add (i * 1)), fun Ac ha dst pos after g => by
    simp only [execOp, ha.ev hx, ha.ev hl, Option.map_some, Option.map_none]
    simp [Instr.sliceAt, run_underlying ht, Instr.slice, Instr.sliceBounds, Sem.run_bind, run_sliceBoundI _ _ h, run_sizeOf hi], hs.cut (by omega)⟩
theorem EX.sliceAFH {z : Value} {bs : Nat} {A : Option Addr} {B len cap j : Nat} {kk : IntKind} {hi' : Operand} {xs : List Value} (ht : P.underlying t = some (.slice e)) (hi : TI P e z 1 bs) (hx : ev σ x = some (.slice A len cap)) (hl : ev σ hi' = some (.int kk (j : Int))) (h : j ≤ len) (hc : len ≤ cap) (hs : Sl w B A xs) (hln : xs.length = len) :
    ∃ A', EX P n σ (.slice t x none (some hi') none) ty w (.slice A' j cap) w ∧ Sl w B A' (xs.take j) :=
  ⟨if cap = 0 then A else A.map (·.add (0 * 1)), fun Ac ha dst pos after g => by
    simp only [execOp, ha.ev hx, ha.ev hl, Option.map_some, Option.map_none]
    simp [Instr.sliceAt, run_underlying ht, Instr.slice, Instr.sliceBounds, Sem.run_bind, run_sliceBoundI cap _ (Nat.le_trans h hc), run_sizeOf hi], by
    have h1 := hs.cut (i := 0) (c := cap) (by omega)
    rw [List.drop_zero] at h1
    exact h1.pre j⟩
theorem OW.sliceALE {z : Value} {bs : Nat} {A : Option Addr} {B len cap i : Nat} {kk : IntKind} {lo : Operand} {xs : List Value} (hg : wantS ops σ gd = some true) (hd : Nat.blt d n = true) (ht : P.underlying t = some (.slice e)) (hi : TI P e z 1 bs) (hx : ev σ x = some (.slice A len cap)) (hl : ev σ lo = some (.int kk (i : Int))) (h : i ≤ len) (hc : len ≤ cap) (hs : Sl w B A xs) (hln : xs.length = len)
    (hn : ∀ A', Sl w B A' (xs.drop i) → OW P R ops rest k n ((d, .slice A' (len - i) (cap - i)) :: σ) w) : OW P R ops (⟨some d, .slice t x (some lo) none none, ty, pos, after, gd⟩ :: rest) k n σ w := by
  obtain ⟨A', h1, h2⟩ := EX.sliceALE (P := P) (n := n) (ty := ty) ht hi hx hl h hc hs hln
  exact OW.val hg hd h1 (hn A' h2)
theorem OW.sliceAFH {z : Value} {bs : Nat} {A : Option Addr} {B len cap j : Nat} {kk : IntKind} {hi' : Operand} {xs : List Value} (hg : wantS ops σ gd = some true) (hd : Nat.blt d n = true) (ht : P.underlying t = some (.slice e)) (hi : TI P e z 1 bs) (hx : ev σ x = some (.slice A len cap)) (hl : ev σ hi' = some (.int kk (j : Int))) (h : j ≤ len) (hc : len ≤ cap) (hs : Sl w B A xs) (hln : xs.length = len)
    (hn : ∀ A', Sl w B A' (xs.take j) → OW P R ops rest k n ((d, .slice A' j cap) :: σ) w) : OW P R ops (⟨some d, .slice t x none (some hi') none, ty, pos, after, gd⟩ :: rest) k n σ w := by
  obtain ⟨A', h1, h2⟩ := EX.sliceAFH (P := P) (n := n) (ty := ty) ht hi hx hl h hc hs hln
  exact OW.val hg hd h1 (hn A' h2)
/-- a text's bytes in new memory, as a step -/
theorem OW.bytesOf {s : List UInt8} (hg : wantS ops σ gd = some true) (hd : Nat.blt d n = true) (ht : P.underlying t = some .string) (ht' : P.underlying t' = some (.slice e)) (he : P.underlying e = some (.int .u8)) (hx : ev σ x = some (str s)) (hs : s.length ≤ 9223372036854775807)
    (hn : ∀ cap rs w', Bk w' w.heap.size e (bytesV s ++ rs) → s.length ≤ cap → cap ≤ maxLen → s.length + rs.length = cap → Ext w w' → OW P R ops rest k n ((d, .slice (some ⟨w.heap.size, 0, none⟩) s.length cap) :: σ) w') :
    OW P R ops (⟨some d, .convert t t' x, ty, pos, after, gd⟩ :: rest) k n σ w := by
  obtain ⟨v, w', h1, h2, h3, h4⟩ := EX.bytesOf (P := P) (n := n) (ty := ty) (w := w) ht ht' he hx hs
  rcases h2.2 with ⟨rfl, _⟩ | ⟨g, cap, rs, rfl, _, hb, hl, hc, hm⟩
  · simp [Value.ownBlock] at h3
  · simp [Value.ownBlock] at h3
    subst h3
    exact OW.val hg hd h1 (hn cap rs w' hb hc hm (by rw [bytesV_length] at hl; omega) h4)
theorem EX.min3N {y' : Operand} {kk : IntKind} {a b c : Nat} {ats : Array TypeId} (hx : ev σ x = some (.int kk (a : Int))) (hy : ev σ y = some (.int kk (b : Int))) (hz : ev σ y' = some (.int kk (c : Int))) : EX P n σ (.call { callee := .builtin .min, args := #[x, y, y'], argTypes := ats }) ty w (.int kk ((min (min a b) c : Nat) : Int)) w := fun A ha dst pos after g => by
  simp only [execOp, resolve, invoke, builtin, Sem.run_bind, Sem.run_pure, Result.andThen_ok, List.map_toArray, List.map_cons, List.map_nil, ha.ev hx, ha.ev hy, ha.ev hz]
  have e1 : (if (b : Int) < a then (b : Int) else a) = ((min a b : Nat) : Int) := by split <;> omega
  have e2 : (if (c : Int) < ((min a b : Nat) : Int) then (c : Int) else ((min a b : Nat) : Int)) = ((min (min a b) c : Nat) : Int) := by split <;> omega
  simp only [Builtin.min_, Builtin.min2, List.foldlM, Sem.run_bind, Sem.run_pure, Result.andThen_ok, e1, e2]
end
end Go.Proofs.YtieojdkblakchaaDoor
