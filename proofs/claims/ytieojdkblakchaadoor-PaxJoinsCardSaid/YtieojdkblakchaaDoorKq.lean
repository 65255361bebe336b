/-
  The engine's laws for slices that a call may write: parts of them, copies, clones. No program is spoken of.
-/
import Derived.Test.YtieojdkblakchaaDoorKs
namespace Go.Proofs.YtieojdkblakchaaDoor
open Go.RowKit
set_option linter.unusedSimpArgs false
set_option linter.unusedVariables false
section
variable {P : Program} {n : Nat} {σ : Sig} {w : World} {x y lo hi' : Operand} {t t' e ty T : TypeId} {B len cap i j g : Nat} {kk : IntKind} {z v : Value} {bs : Nat} {xs : List Value}
theorem sb0 (y : Nat) (c : BoundsCode) : (Instr.sliceBound (.int kk 0) y c).run P w = .ok 0 w := run_sliceBoundI (kk := kk) (i := 0) y c (Nat.zero_le _)
/-- the first part of an owned slice -/
theorem EX.ownFH (ht : P.underlying t = some (.slice e)) (hi : TI P e z 1 bs) (hx : ev σ x = some v) (hl : ev σ hi' = some (.int kk (j : Int))) (hown : Own w B e 1 v len xs) (h : j ≤ len) :
    ∃ v', EX P n σ (.slice t x none (some hi') none) ty w v' w ∧ Own w B e 1 v' j (xs.take j) ∧ v'.ownBlock = v.ownBlock := by
  have hlen := hown.1
  rcases hown.2 with ⟨rfl, rfl⟩ | ⟨g, cap, rest, rfl, hb, hg, hc, hn, hm⟩
  · obtain rfl : j = 0 := by omega
    have hxs : xs = [] := List.eq_nil_of_length_eq_zero (by simpa using hlen)
    subst hxs
    refine ⟨.slice none 0 0, fun Ac ha dst pos after g => ?_, Own.nil _ _ _ _, rfl⟩
    simp only [execOp, ha.ev hx, ha.ev hl, Option.map_some, Option.map_none]
    simp [Instr.sliceAt, run_underlying ht, Instr.slice, Instr.sliceBounds, Sem.run_bind, sb0, run_sizeOf hi]
  · refine ⟨.slice (some ⟨g, 0, none⟩) j cap, fun Ac ha dst pos after gd => ?_, ⟨by simp; omega, .inr ⟨g, cap, xs.drop j ++ rest, rfl, hb, ?_, ?_, by omega, hm⟩⟩, rfl⟩
    · simp only [execOp, ha.ev hx, ha.ev hl, Option.map_some, Option.map_none]
      have hadd : (⟨g, 0, none⟩ : Addr).add (0 * 1) = ⟨g, 0, none⟩ := by unfold Addr.add; simp
      by_cases hc0 : cap = 0
      · subst hc0
        obtain rfl : j = 0 := by omega
        simp [Instr.sliceAt, run_underlying ht, Instr.slice, Instr.sliceBounds, Sem.run_bind, sb0, run_sizeOf hi]
      · simp [Instr.sliceAt, run_underlying ht, Instr.slice, Instr.sliceBounds, Sem.run_bind, run_sliceBoundI cap _ (Nat.le_trans h hn), run_sizeOf hi, hc0, hadd]
    · rw [← List.append_assoc, List.take_append_drop]; exact hg
    · simp only [List.length_take, List.length_append, List.length_drop]
      omega
/-- the last part of it, to be written -/
theorem EX.ownLE (ht : P.underlying t = some (.slice e)) (hi : TI P e z 1 bs) (hx : ev σ x = some (.slice (some ⟨g, 0, none⟩) len cap)) (hl : ev σ lo = some (.int kk (i : Int))) (h : i ≤ len ∧ len ≤ cap ∧ i < cap) :
    EX P n σ (.slice t x (some lo) none none) ty w (.slice (some ⟨g, i, none⟩) (len - i) (cap - i)) w := fun Ac ha dst pos after gd => by
  simp only [execOp, ha.ev hx, ha.ev hl, Option.map_some, Option.map_none]
  have hadd : (⟨g, 0, none⟩ : Addr).add i = ⟨g, i, none⟩ := by unfold Addr.add; split <;> simp_all
  have hne : ¬ cap = i := by omega
  simp [Instr.sliceAt, run_underlying ht, Instr.slice, Instr.sliceBounds, Sem.run_bind, run_sliceBoundI _ _ h.1, run_sizeOf hi, hne, hadd]
/-- a piece that is read -/
theorem EX.sliceALH {A : Option Addr} {k2 : IntKind} (ht : P.underlying t = some (.slice e)) (hi : TI P e z 1 bs) (hx : ev σ x = some (.slice A len cap)) (hl : ev σ lo = some (.int kk (i : Int))) (hh : ev σ hi' = some (.int k2 (j : Int))) (h : i ≤ j ∧ j ≤ len ∧ len ≤ cap) (hs : Sl w B A xs) (hln : xs.length = len) :
    ∃ A', EX P n σ (.slice t x (some lo) (some hi') none) ty w (.slice A' (j - i) (cap - i)) w ∧ Sl w B A' ((xs.drop i).take (j - i)) :=
  ⟨if cap = i then A else A.map (·.add (i * 1)), fun Ac ha dst pos after gd => by
    simp only [execOp, ha.ev hx, ha.ev hl, ha.ev hh, Option.map_some, Option.map_none]
    simp [Instr.sliceAt, run_underlying ht, Instr.slice, Instr.sliceBounds, Sem.run_bind, run_sliceBoundI j _ h.1, run_sliceBoundI cap _ (Nat.le_trans h.2.1 h.2.2), run_sizeOf hi], (hs.cut (by omega)).pre _⟩
/-- nil or not -/
theorem EX.eqlA0 {l c : Nat} (hu : P.underlying t = some (.slice e)) (hx : ev σ x = some (.slice none l c)) (hy : ev σ y = some (.slice none 0 0)) : EX P n σ (.binOp .eql t x y T) ty w (.bool true) w :=
  EX.bin hx hy (by unfold eqGuard; rfl) (run_eq rfl (fun d => by simp [Op.equalIn, run_underlying hu, Sem.run_bind]))
theorem EX.eqlA1 {a : Addr} {l c : Nat} (hu : P.underlying t = some (.slice e)) (hx : ev σ x = some (.slice (some a) l c)) (hy : ev σ y = some (.slice none 0 0)) : EX P n σ (.binOp .eql t x y T) ty w (.bool false) w :=
  EX.bin hx hy (by unfold eqGuard; rfl) (run_eq rfl (fun d => by simp [Op.equalIn, run_underlying hu, Sem.run_bind]))
end
theorem Own.ne {w : World} {B T T' s n b : Nat} {v : Value} {xs l : List Value} (h : Own w B T s v n xs) (hb : Bk w b T' l) (hne : T ≠ T') : ∀ k, v.ownBlock = some k → b ≠ k := by
  intro k hk
  rcases h.2 with ⟨rfl, _⟩ | ⟨g, cap, rest, rfl, _, hg, _⟩
  · simp [Value.ownBlock] at hk
  · simp [Value.ownBlock] at hk
    subst hk
    exact hb.ne hg (Ne.symm hne)
theorem Own.one {w : World} {B T s n : Nat} {v : Value} {xs : List Value} (h : Own w B T s v n xs) : v.oneCell' = true := by
  rcases h.2 with ⟨rfl, _⟩ | ⟨g, cap, rest, rfl, _⟩ <;> rfl
theorem Own.blkT {w : World} {B T s n : Nat} {v : Value} {xs : List Value} (h : Own w B T s v n xs) : ∀ k, v.ownBlock = some k → B ≤ k ∧ ∃ l, Bk w k T l := by
  intro k hk
  rcases h.2 with ⟨rfl, _⟩ | ⟨g, cap, rest, rfl, hB, hg, _⟩
  · simp [Value.ownBlock] at hk
  · simp [Value.ownBlock] at hk
    subst hk
    exact ⟨hB, _, hg⟩
section
variable {P : Program} {R : Act → World → Prop} {ops : Array Oper} {rest : List Oper} {k : List KI} {n : Nat} {σ : Sig} {w : World} {x y lo hi' : Operand} {t t' e ty T : TypeId} {pos : String} {after : Array Edge} {gd : Option (Nat × Bool)} {d : Nat} {v z : Value} {bs B len cap i j g : Nat} {l xs : List Value} {kk k2 : IntKind} {s : List UInt8}
theorem OW.ownFH (hg : wantS ops σ gd = some true) (hd : Nat.blt d n = true) (ht : P.underlying t = some (.slice e)) (hi : TI P e z 1 bs) (hx : ev σ x = some v) (hl : ev σ hi' = some (.int kk (j : Int))) (hown : Own w B e 1 v len xs) (h : j ≤ len)
    (hn : ∀ v', Own w B e 1 v' j (xs.take j) → v'.ownBlock = v.ownBlock → OW P R ops rest k n ((d, v') :: σ) w) : OW P R ops (⟨some d, .slice t x none (some hi') none, ty, pos, after, gd⟩ :: rest) k n σ w := by
  obtain ⟨v', h1, h2, h3⟩ := EX.ownFH (P := P) (n := n) (ty := ty) ht hi hx hl hown h
  exact OW.val hg hd h1 (hn v' h2 h3)
theorem OW.sliceALH {A : Option Addr} (hg : wantS ops σ gd = some true) (hd : Nat.blt d n = true) (ht : P.underlying t = some (.slice e)) (hi : TI P e z 1 bs) (hx : ev σ x = some (.slice A len cap)) (hl : ev σ lo = some (.int kk (i : Int))) (hh : ev σ hi' = some (.int k2 (j : Int))) (h : i ≤ j ∧ j ≤ len ∧ len ≤ cap) (hs : Sl w B A xs) (hln : xs.length = len)
    (hn : ∀ A', Sl w B A' ((xs.drop i).take (j - i)) → OW P R ops rest k n ((d, .slice A' (j - i) (cap - i)) :: σ) w) : OW P R ops (⟨some d, .slice t x (some lo) (some hi') none, ty, pos, after, gd⟩ :: rest) k n σ w := by
  obtain ⟨A', h1, h2⟩ := EX.sliceALH (P := P) (n := n) (ty := ty) ht hi hx hl hh h hs hln
  exact OW.val hg hd h1 (hn A' h2)
/-- zeros are appended onto a slice whose block may be written -/
theorem OW.appendZB {kx ki : IntKind} {m l' : Nat} (hg : wantS ops σ gd = some true) (hd : Nat.blt d n = true) (ht : P.underlying t = some (.slice e)) (hk : P.underlying t' = some (.int kx)) (hi : TI P e z 1 bs) (hz1 : z.oneCell' = true)
    (hx : ev σ x = some v) (hy : ev σ y = some (.int ki (m : Int))) (hown : Own w 0 e 1 v l' xs) (hm : 0 < m)
    (h63 : l' + m ≤ maxLen) (hbytes : (l' + m) * bs ≤ 140737488355328)
    (h : ∀ v' w', Own w' 0 e 1 v' (l' + m) (xs ++ List.replicate m z) → w.grownBy w' v.ownBlock → (v'.ownBlock = v.ownBlock ∨ v'.ownBlock = some w.heap.size) → OW P R ops rest k n ((d, v') :: σ) w') :
    OW P R ops (⟨some d, .call { callee := .builtin .append, args := #[x, y], argTypes := #[t, t'] }, ty, pos, after, gd⟩ :: rest) k n σ w := by
  obtain ⟨v', w', hr, h2, h3, h4⟩ := run_append_zeros (P := P) (w := w) (ty := ty) (ki := ki) 0 t' hk ht hi hz1 hown h63 hbytes (Nat.zero_le _) hm
  refine OW.val hg hd (v := v') (w' := w') ?_ (h v' w' h2 h3 h4)
  intro A ha dst pos after gd
  simp only [execOp, resolve, invoke, builtin, Sem.run_bind, Sem.run_pure, Result.andThen_ok, List.map_toArray, List.map_cons, List.map_nil, ha.ev hx, ha.ev hy, hr]
/-- a text is copied over bytes -/
theorem OW.copyS (hg : wantS ops σ gd = some true) (hd : Nat.blt d n = true) (ht : P.underlying t = some (.slice e)) (ht' : P.underlying t' = some .string) (hi : TI P e z 1 bs) (hx : ev σ x = some (.slice (some ⟨g, i, none⟩) len cap)) (hy : ev σ y = some (str s)) (hs : s.length ≤ len) (hb : Bk w g T l) (hl : i + s.length ≤ l.length)
    (hn : ∀ w', Bk w' g T (l.take i ++ bytesV s ++ l.drop (i + s.length)) → Mo w w' [g] → OW P R ops rest k n ((d, .int .i64 (s.length : Int)) :: σ) w') :
    OW P R ops (⟨some d, .call { callee := .builtin .copy, args := #[x, y], argTypes := #[t, t'] }, ty, pos, after, gd⟩ :: rest) k n σ w := by
  obtain ⟨w', hr, hb', hg'⟩ := run_storeCells_bk P w g i T (bytesV s) 0 l w hb (by simpa [bytesV] using hl) bytesV_one
  have hsrc := (Src.of_str (w := w) ht' s).cells
  have hlen := (Src.of_str (w := w) ht' s).len
  refine OW.val hg hd (v := .int .i64 (s.length : Int)) (w' := w') ?_ (hn w' (by simpa [bytesV] using hb') (Mo.grown hg' (fun k e => by simp at e; simp [e])))
  intro A ha dst pos after gd
  have hmin : Nat.min s.length len = s.length := Nat.min_eq_left hs
  have hsz := run_sizeOf (w := w) hi
  simp only [execOp, resolve, invoke, builtin, Sem.run_bind, Sem.run_pure, Result.andThen_ok, List.map_toArray, List.map_cons, List.map_nil, ha.ev hx, ha.ev hy]
  simp [Builtin.copy_, run_underlying ht, Sem.run_bind, hlen, hsz, hmin, hsrc, hr, goInt]
end
/-! ### What is changed, by types -/
/-- of the blocks that were there only some from B on, of types that p names, are changed -/
def Tm (w w' : World) (B : Nat) (p : TypeId → Bool) : Prop := ∃ S, Mo w w' S ∧ ∀ k ∈ S, B ≤ k ∧ ∃ T l, Bk w k T l ∧ p T = true
section
variable {w w' w'' : World} {B C : Nat} {p q : TypeId → Bool} {b : Nat} {T : TypeId} {l : List Value}
theorem Tm.refl (w : World) (B : Nat) (p : TypeId → Bool) : Tm w w B p := ⟨[], Mo.refl _ _, by simp⟩
theorem Tm.of_ext (h : Ext w w') (B : Nat) (p : TypeId → Bool) : Tm w w' B p := ⟨[], Mo.of_ext h _, by simp⟩
theorem Tm.mono (h : Tm w w' B p) (hp : ∀ T, p T = true → q T = true) : Tm w w' B q := by
  obtain ⟨S, hm, hS⟩ := h
  exact ⟨S, hm, fun k hk => let ⟨h1, T, l, h2, h3⟩ := hS k hk; ⟨h1, T, l, h2, hp T h3⟩⟩
theorem Tm.any (h : Tm w w' B p) : Tm w w' B (fun _ => true) := h.mono fun _ _ => rfl
theorem Tm.size (h : Tm w w' B p) : w.heap.size ≤ w'.heap.size := by obtain ⟨_, hm, _⟩ := h; exact hm.size
theorem Tm.trans (h : Tm w w' B p) (k : Tm w' w'' B p) : Tm w w'' B p := by
  obtain ⟨S, hm, hS⟩ := h
  obtain ⟨S', hm', hS'⟩ := k
  refine ⟨S ++ S'.filter (fun k => decide (k < w.heap.size)), ?_, fun k hk => ?_⟩
  · refine ((hm.mono (S' := S ++ S') (fun k hk => List.mem_append_left _ hk)).trans (hm'.mono (fun k hk => List.mem_append_right _ hk))).fresh fun k hk hlt => ?_
    rcases List.mem_append.1 hk with hk | hk
    · exact List.mem_append_left _ hk
    · exact List.mem_append_right _ (List.mem_filter.2 ⟨hk, by simpa using hlt⟩)
  · by_cases h1 : k ∈ S
    · exact hS k h1
    · rcases List.mem_append.1 hk with hk | hk
      · exact hS k hk
      · obtain ⟨hk, hlt⟩ := List.mem_filter.1 hk
        obtain ⟨h2, T, l, h3, h4⟩ := hS' k hk
        exact ⟨h2, T, l, h3.of_block (hm.block k (by simpa using hlt) h1).symm, h4⟩
theorem Tm.bk (h : Tm w w' B p) (hb : Bk w b T l) (hp : p T = false) : Bk w' b T l := by
  obtain ⟨S, hm, hS⟩ := h
  refine hb.mo hm fun hk => ?_
  obtain ⟨_, T', l', h2, h3⟩ := hS b hk
  obtain ⟨rfl, _⟩ := hb.det h2
  rw [hp] at h3
  cases h3
theorem Tm.own {s n : Nat} {v : Value} {xs : List Value} (h : Tm w w' B p) (ho : Own w C T s v n xs) (hp : p T = false) : Own w' C T s v n xs := by
  obtain ⟨S, hm, hS⟩ := h
  refine ho.mo hm fun k hk hkS => ?_
  obtain ⟨_, T', l', h2, h3⟩ := hS k hkS
  obtain ⟨_, l2, h4⟩ := ho.blkT k hk
  obtain ⟨rfl, _⟩ := h4.det h2
  rw [hp] at h3
  cases h3
/-- what lies below is as it was -/
theorem Tm.below {a : World} (hb : Below C a w) (h : Tm w w' B p) (hC : C ≤ w.heap.size) (hB : C ≤ B) : Below C a w' := by
  obtain ⟨S, hm, hS⟩ := h
  exact below_mo hb hm hC fun k hk => Nat.le_trans hB (hS k hk).1
theorem Tm.set (hb : Bk w b T l) (hm : Mo w w' [b]) (hB : B ≤ b) : Tm w w' B (fun U => U == T) := ⟨[b], hm, fun k hk => by
  simp only [List.mem_singleton] at hk
  subst hk
  exact ⟨hB, T, l, hb, by simp⟩⟩
theorem Tm.grown {s n : Nat} {v : Value} {xs : List Value} (ho : Own w B T s v n xs) (hg : w.grownBy w' v.ownBlock) : Tm w w' B (fun U => U == T) := ⟨v.ownBlock.toList, Mo.grown hg (fun k e => by rw [e]; simp), fun k hk => by
  obtain ⟨h1, l, h2⟩ := ho.blkT k (Option.mem_toList.1 hk)
  exact ⟨h1, T, l, h2, by simp⟩⟩
theorem Tm.ownMo {s n : Nat} {v : Value} {xs : List Value} (ho : Own w B T s v n xs) (hm : Mo w w' v.ownBlock.toList) : Tm w w' B (fun U => U == T) := ⟨v.ownBlock.toList, hm, fun k hk => by
  obtain ⟨h1, l, h2⟩ := ho.blkT k (Option.mem_toList.1 hk)
  exact ⟨h1, T, l, h2, by simp⟩⟩
/-- an owned slice's block lies from B on -/
theorem Own.base {s n : Nat} {v : Value} {xs : List Value} (h : Own w C T s v n xs) (hB : ∀ k, v.ownBlock = some k → B ≤ k) : Own w B T s v n xs := by
  refine ⟨h.1, ?_⟩
  rcases h.2 with hn | ⟨g, cap, rest, rfl, _, r⟩
  · exact .inl hn
  · exact .inr ⟨g, cap, rest, rfl, hB g rfl, r⟩
end
end Go.Proofs.YtieojdkblakchaaDoor
